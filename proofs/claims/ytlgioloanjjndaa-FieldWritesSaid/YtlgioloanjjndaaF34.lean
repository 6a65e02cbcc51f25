import Derived.Test.YtlgioloanjjndaaF33
namespace Go.Proofs.Ytlgioloanjjndaa
open Go.RowKit Hp
attribute [local irreducible] Go.Calls
set_option maxRecDepth 100000
set_option maxHeartbeats 4000000
theorem vF_new {w0 w : World} {g : Nat} {bv : Value} {s : WR} {L : List HA} (h : St w0 [] w L) (hs : ∀ x ∈ vP g bv s, x ∈ L) : ∀ k ∈ vF g bv s, w0.heap.size ≤ k := by
  intro k hk
  obtain ⟨x, hx, hf⟩ := List.mem_filterMap.1 hk
  rcases h.own x (hs x hx) k hf with h1 | h1
  · exact h1
  · cases h1
theorem writes_law (ao : Option Addr) (N c : Nat) (xs : List AV) (w : World) (hv : Rd w (.slice ao N c) 5 N (xs.flatMap AV.cells)) (hN : xs.length = N) (hx0 : ∀ x ∈ xs, x.Ok0 w) :
    Calls Try.prog 3 #[.slice ao N c] w fun e w' => e = .returned (.bool true) ∧ St w [] w' [] := by
  have hst := St.refl w
  have HN := hid hN
  have HX0 := hid hx0
  have hb1 := hv.bd.1
  have hb2 := hv.bd.2.1
  clear hN hx0
  by_cases hsh : shortA xs N
  · go_enter Try.func3, Try.ntmps3
    go_wp2_with (first | go_big_skip | go_big_guard | (go_at_call 10; refine (new_any _).mono ?_; rintro _ w1 ⟨g, rfl, hst1⟩; clear hst) | (refine wl_build0 rfl rfl ?_) | (refine wl_boxA hst1 rfl rfl rfl ?_; intro q w2 hst2; clear hst1) | (go_at_call 11; refine (long_no ao N c xs _ (Rd.old hst2 hv) HN.out (fun x hx => (HX0.out x hx).old hst2) hsh).mono ?_; rintro _ w3 ⟨rfl, h4⟩; have hst3 := St.call0 hst2 h4; clear h4 hst2))
    have hN1 := hsh.1
    have HXX := hid (fun x hx => (HX0.out x hx).ok (hsh.2 x hx).1 (hsh.2 x hx).2)
    clear HX0 hsh
    have hst4 : St w [] w3 (wP g (.slice none 0 0) (foldS (0, []) xs 0) ++ vP q (.slice none 0 0) (foldS (0, []) xs 0)) := by
      rw [foldS_zero]
      have h1 := St.nilPQ isB 5 1 hst3
      exact St.perm h1 (by unfold wP vP; exact (List.perm_append_comm (l₁ := [_, _]) (l₂ := [_, _])).trans (List.Perm.append_left _ (List.Perm.swap _ _ _)))
    clear hst3
    go_loopw [5] (fun i wr => ∃ (k : Nat) (bv1 bv2 : Value), k ≤ N ∧ i = .int .i64 k ∧ St w [] wr (wP g bv1 (foldS (0, []) xs k) ++ vP q bv2 (foldS (0, []) xs k))) (fun i _ => N - (intOf i).toNat)
    case atStart => exact ⟨0, _, _, Nat.zero_le _, rfl, hst4⟩
    case round =>
      clear hst4
      obtain ⟨k, bv1, bv2, hk, rfl, hst⟩ := hrel
      have hB := foldS_len (s0 := (0, [])) (by decide) xs k
      by_cases hkN : k < N
      · obtain ⟨x, hxk⟩ : ∃ x, xs[k]? = some x := ⟨_, List.getElem?_eq_getElem (by rw [HN.out]; exact hkN)⟩
        obtain ⟨b, off, rfl, _⟩ := hv.at hkN
        have hok := HXX.out x (List.mem_of_getElem? hxk)
        have hra := hid (acts_range hv hxk)
        have hTL := foldS_len (s0 := (0, [])) (by decide) xs (k + 1)
        have HS := hid (foldS_succ (s0 := (0, [])) hxk)
        obtain ⟨S, hS⟩ : ∃ S, S = foldS (0, []) xs k := ⟨_, rfl⟩
        obtain ⟨T, hT⟩ : ∃ T, T = foldS (0, []) xs (k + 1) := ⟨_, rfl⟩
        rw [← hS] at hst hB
        rw [← hT] at hTL
        rw [← hS, ← hT] at HS
        have HT := hid hT
        have HTL := hid hTL
        have ho : Off (.slice x.au x.m x.cu) (wF g bv1 S) := Off.old hok.rd (by decide) (wF_new hst)
        have ho2 : Off (.slice x.au x.m x.cu) (vF q bv2 S) := Off.old hok.rd (by decide) (vF_new hst (fun y hy => List.mem_append_right _ hy))
        have hkk : (k : Int) < (N : Int) := by omega
        have d1 : decide ((k : Int) < (N : Int)) = true := decide_eq_true hkk
        have d2 : (T.1 != T.1) = false := bne_self_eq_false _
        clear hS hxk hT hTL
        go_wp2_with (first | go_big_skip | go_big_guard | (refine wl_loadE rfl rfl rfl ?_; first | refine ⟨_, Loads.oldA (cs := x.cells) (n := 5) hst rfl hra.out, ?_⟩ | refine ⟨_, Loads.oldA (cs := x.cells) (n := 5) hst9 rfl hra.out, ?_⟩) | (go_at_call 13; have hSS := (St.sub (L' := wP g bv1 S) hst (List.sublist_append_left _ _)).selfF; refine (lwrite_any g bv1 S x _ hSS hB (hok.old hst) ho).mono ?_; rw [← HS.out]; clear hSS; rintro _ w9 ⟨rfl, bv3, h4⟩; have hst8 := St.callF (wP g bv1 S) hst h4; have hst9 := St.perm hst8 List.perm_append_comm; clear h4 hst hst8) | (go_at_call 14; have hSS := (St.sub (L' := vP q bv2 S) hst9 (List.sublist_append_left _ _)).selfF; refine (lsay_any q bv2 S x _ hSS hB (hok.old hst9) ho2).mono ?_; rw [← HS.out]; clear hSS; rintro _ w10 ⟨rfl, bv4, h4⟩; have hst10 := St.callF (vP q bv2 S) hst9 h4; clear h4 hst9) | (go_at_call 15; refine (wout_any g bv3 T _ (St.sub hst10 (List.sublist_append_right _ _)) HTL.out).mono ?_; rintro _ w9 ⟨u1, rfl, h4⟩; have hst11 := St.call hst10 h4; clear h4 hst10) | (go_at_call 16; refine (vout_any q bv4 T _ (St.sub hst11 (.cons _ (List.sublist_append_left _ _))) HTL.out).mono ?_; rintro _ w9 ⟨u2, rfl, h4⟩; have hst12 := St.call hst11 h4; clear h4 hst11) | (go_at_call 17; refine (sameBytes_any u1 u2 _ _ _ _ _ (Rd.rowP hst12 (.tail _ (.head _))) (Rd.rowP hst12 (.head _))).mono ?_; rw [beq_self_eq_true]; rintro _ _ ⟨rfl, h4⟩; have hst13 := St.call0 hst12 h4; clear h4 hst12) | (go_at_call 18; refine (over_rowP u1 _ _ _ (hst13.ownsP (.tail _ (.head _))).1 (hst13.ownsP (.tail _ (.head _))).2).mono ?_; rintro _ w8 ⟨rfl, h4⟩; have hst14 := St.callRowP (St.front [_] hst13) h4; clear h4 hst13))
        go_roundw
        case rel => exact ⟨k + 1, bv3, bv4, by omega, by go_num, by rw [← HT.out]; exact St.perm (St.sub (L' := vP q bv4 T ++ wP g bv3 T) hst14 (.cons _ (List.Sublist.refl _))) List.perm_append_comm⟩
        case measure => simp [intOf]; omega
      · have e : k = N := by omega
        subst e
        have d1 : decide ((k : Int) < (k : Int)) = false := by simp
        obtain ⟨T, hT⟩ : ∃ S, S = foldS (0, []) xs k := ⟨_, rfl⟩
        rw [← hT] at hst hB
        have HTL := hid hB
        have d2 : (T.1 == T.1) = true := beq_self_eq_true _
        clear hT hB
        go_wp2_with (first | go_big_skip | go_big_guard | (go_at_call 15; refine (wout_any g bv1 T _ (St.sub hst (List.sublist_append_left _ _)) HTL.out).mono ?_; rintro _ w9 ⟨u1, rfl, h4⟩; have hst11 := St.call hst h4; clear h4 hst) | (go_at_call 16; refine (vout_any q bv2 T _ (St.sub hst11 (.cons _ (List.sublist_append_right _ _))) HTL.out).mono ?_; rintro _ w9 ⟨u2, rfl, h4⟩; have hst12 := St.call hst11 h4; clear h4 hst11) | (go_at_call 17; refine (sameBytes_any u1 u2 _ _ _ _ _ (Rd.rowP hst12 (.tail _ (.head _))) (Rd.rowP hst12 (.head _))).mono ?_; rw [beq_self_eq_true]; rintro _ _ ⟨rfl, h4⟩; have hst13 := St.call0 hst12 h4; clear h4 hst12) | (go_at_call 12; refine (awake_any _).mono ?_; rintro _ _ ⟨rfl, h4⟩; have hfin := (St.call0 hst13 h4).nil; clear h4 hst13))
        go_ret
        exact ⟨by simp, hfin⟩
  · go_enter Try.func3, Try.ntmps3
    go_wp2_with (first | go_big_skip | go_big_guard | (go_at_call 10; refine (new_any _).mono ?_; rintro _ w1 ⟨g, rfl, hst1⟩; clear hst) | (refine wl_build0 rfl rfl ?_) | (refine wl_boxA hst1 rfl rfl rfl ?_; intro q w2 hst2; clear hst1) | (go_at_call 11; refine (long_yes ao N c xs _ (Rd.old hst2 hv) HN.out (fun x hx => (HX0.out x hx).old hst2) hsh).mono ?_; rintro _ w3 ⟨rfl, h4⟩; have hst3 := St.call0 hst2 h4; clear h4 hst2) | (go_at_call 12; refine (awake_any _).mono ?_; rintro _ _ ⟨rfl, h4⟩; have hfin := (St.call0 hst3 h4).nil; clear h4 hst3))
    go_ret
    exact ⟨rfl, hfin⟩
end Go.Proofs.Ytlgioloanjjndaa
