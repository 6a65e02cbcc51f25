import Derived.Test.YtlgioloanjjndaaF37
import Derived.Test.YtlgioloanjjndaaF24
import Derived.Test.YtlgioloanjjndaaFF
namespace Go.Proofs.Ytlgioloanjjndaa
set_option linter.unusedVariables false
set_option linter.unusedSimpArgs false
open Go.RowKit Hp
attribute [local irreducible] Go.Calls
set_option maxRecDepth 100000
set_option maxHeartbeats 4000000
theorem outs_split {xs : List AV} {k : Nat} {x : AV} (h : xs[k]? = some x) : ∃ C, outs xs xs.length = outs xs k ++ (x.right.out ++ C) := by
  have hk : k < xs.length := (List.getElem?_eq_some_iff.1 h).1
  refine ⟨(xs.drop (k + 1)).flatMap fun x => x.right.out, ?_⟩
  unfold outs
  rw [List.take_length]
  conv => lhs; rw [← List.take_append_drop k xs]
  rw [List.flatMap_append, List.drop_eq_getElem_cons hk, List.flatMap_cons]
  have : xs[k] = x := (List.getElem?_eq_some_iff.1 h).2
  rw [this]
instance fBFt : TyB Try.prog 50 [.int .i64 0, .int .i64 0] := ⟨by kernel_rfl⟩
theorem rF0_new {w0 w : World} {g : Nat} {bv : Value} {B : List UInt8} {s : RS} {L : List HA} (h : St w0 [] w L) (hs : ∀ x ∈ rP g bv B s, x ∈ L) : ∀ k ∈ rF0 g bv B s, w0.heap.size ≤ k := by
  intro k hk
  obtain ⟨x, hx, hf⟩ := List.mem_filterMap.1 hk
  rcases h.own x (hs x hx) k hf with h1 | h1
  · exact h1
  · cases h1
theorem fback_long (ao : Option Addr) (N c : Nat) (xs : List AV) (z : Int) (w : World) (hv : Rd w (.slice ao N c) 5 N (xs.flatMap AV.cells)) (hN : xs.length = N) (hx0 : ∀ x ∈ xs, x.Ok0 w) (hz : -9223372036854775808 ≤ z ∧ z ≤ 9223372036854775807) (hsx : ¬ shortA xs N) :
    Calls Try.prog 8 #[.slice ao N c, .int .i64 z] w fun e w' => e = .returned (.bool true) ∧ St w [] w' [] := by
  have hst := St.refl w
  have HN := hid hN
  have HX0 := hid hx0
  clear hN hx0
  go_enter Try.func8, Try.ntmps8
  go_wp2_with (first | go_big_skip | go_big_guard | (go_at_call 5; refine (known_any _).mono ?_; rintro _ _ ⟨rfl, h4⟩; have hst1 := St.call0 hst h4; clear h4 hst) | (go_at_call 11; refine (long_yes ao N c xs _ (Rd.old hst1 hv) HN.out (fun x hx => (HX0.out x hx).old hst1) hsx).mono ?_; rintro _ w3 ⟨rfl, h4⟩; have hst2 := St.call0 hst1 h4; clear h4 hst1))
  go_ret
  exact ⟨rfl, hst2.nil⟩
theorem fback_short (ao : Option Addr) (N c : Nat) (xs : List AV) (z : Int) (w : World) (hv : Rd w (.slice ao N c) 5 N (xs.flatMap AV.cells)) (hN : xs.length = N) (hx0 : ∀ x ∈ xs, x.Ok0 w) (hz : -9223372036854775808 ≤ z ∧ z ≤ 9223372036854775807) (hsx : shortA xs N) :
    Calls Try.prog 8 #[.slice ao N c, .int .i64 z] w fun e w' => e = .returned (.bool true) ∧ St w [] w' [] := by
  have hst := St.refl w
  have HN := hid hN
  have HX0 := hid hx0
  clear hN hx0
  have hN1 := hsx.1
  have HXX := hid (fun x hx => (HX0.out x hx).ok (hsx.2 x hx).1 (hsx.2 x hx).2)
  go_enter Try.func8, Try.ntmps8
  go_wp2_with (first | go_big_skip | go_big_guard | (go_at_call 5; refine (known_any _).mono ?_; rintro _ _ ⟨rfl, h4⟩; have hst1 := St.call0 hst h4; clear h4 hst) | (go_at_call 11; refine (long_no ao N c xs _ (Rd.old hst1 hv) HN.out (fun x hx => (HX0.out x hx).old hst1) hsx).mono ?_; rintro _ w3 ⟨rfl, h4⟩; have hst2 := St.call0 hst1 h4; clear h4 hst1) | (go_at_call 10; refine (new_any _).mono ?_; rintro _ w1 ⟨g, rfl, h4⟩; have hst4 := (St.call hst2 h4).sub (List.sublist_append_left _ _); clear h4 hst2))
  have hst5 : St w [] w1 (wP g (.slice none 0 0) (0, outs xs 0)) := by rw [outs_zero]; exact hst4
  clear hst4 hsx HX0
  go_loopw [7, 8] (fun s q wr => ∃ (k : Nat) (bv : Value), k ≤ N ∧ q = .int .i64 k ∧ s = .int .i64 ((outs xs k).length : Int) ∧ St w [] wr (wP g bv (0, outs xs k))) (fun _ q _ => N - (intOf q).toNat)
  case atStart => exact ⟨0, _, by omega, rfl, by rw [outs_zero]; rfl, hst5⟩
  case round =>
    clear hst5
    obtain ⟨k, bv, hk, rfl, rfl, hst⟩ := hrel
    have hB := outs_len HXX.out k (by rw [HN.out]; exact hk)
    by_cases hkN : k < N
    · obtain ⟨x, hxk⟩ : ∃ x, xs[k]? = some x := ⟨_, List.getElem?_eq_getElem (by rw [HN.out]; exact hkN)⟩
      obtain ⟨b, off, rfl, _⟩ := hv.at hkN
      have hok := HXX.out x (List.mem_of_getElem? hxk)
      have hra := hid (acts_range hv hxk)
      have hB2 := outs_len HXX.out (k + 1) (by rw [HN.out]; omega)
      have hS := outs_succ hxk
      obtain ⟨C, hC⟩ := outs_split hxk
      rw [HN.out] at hC
      obtain ⟨y, hy⟩ : ∃ y, y = x.right := ⟨_, rfl⟩
      have hyo := hok.right
      have hyf := x.right_fit
      obtain ⟨e1, e2, e3, _⟩ := x.right_m
      rw [← hy] at hyo hyf hS hC e1 e2 e3
      have hyr := hyf.room hyo
      obtain ⟨S, hS0⟩ : ∃ S, S = outs xs k := ⟨_, rfl⟩
      obtain ⟨T, hT0⟩ : ∃ T, T = outs xs (k + 1) := ⟨_, rfl⟩
      rw [← hS0] at hst hB hC
      rw [← hT0] at hB2
      rw [← hS0, ← hT0] at hS
      obtain ⟨l, hl⟩ : ∃ l, l = (S).length := ⟨_, rfl⟩
      obtain ⟨t, ht⟩ : ∃ t, t = (T).length := ⟨_, rfl⟩
      have htl : t = l + y.out.length := by rw [ht, hl, hS, List.length_append]
      rw [← hl] at hB
      rw [← ht] at hB2
      have z1 : IntKind.i64.wrap ((l : Int) + y.room) = (t : Int) := by
        rw [show (l : Int) + y.room = (t : Int) by rw [← hyr.1, htl]; push_cast; rfl]
        exact IntWalk.i64_in _ (by omega)
      have hstep := hyf.step (B := S) (by omega)
      rw [← hS] at hstep
      have HS := hid hstep
      have HT := hid hT0
      have HTL := hid ht
      have HL := hid hl
      have HY := hid hy
      have hst' : St w [] wr (wP g bv (0, S) ++ []) := by simpa using hst
      have ho : Off (.slice y.au y.m y.cu) (wF g bv (0, S)) := by
        rw [e1, e2, e3]
        exact Off.old hok.rd (by decide) (wF_new hst')
      have hkk : (k : Int) < (N : Int) := by omega
      have d1 : decide ((k : Int) < (N : Int)) = true := decide_eq_true hkk
      rw [← hS0, ← hl]
      clear hS0 hxk hst' hT0 hS hstep hC hy ht hl e1 e2 e3 hyr htl
      go_wp2_with (first | go_big_skip | go_big_guard | (refine wl_loadE rfl rfl rfl ?_; first | refine ⟨_, Loads.oldA (cs := x.cells) (n := 5) hst rfl hra.out, ?_⟩ | refine ⟨_, Loads.atA (y.cells) [] hst10 rfl rfl, ?_⟩ | refine ⟨_, Loads.atA (y.cells) [] hst13 rfl rfl, ?_⟩) | (go_at_call 19; refine (right_any x _ hok.n hok.size (by have := hok.s; omega)).mono ?_; rw [← HY.out]; rintro _ _ ⟨rfl, h4⟩; have hst8 := St.call0 hst h4; clear h4 hst) | (refine wl_alloc hst8 rfl rfl ?_; intro gx _ hst9; clear hst8) | (refine wl_storeA [] hst9 rfl rfl rfl rfl rfl rfl rfl ?_; intro _ hst10; clear hst9) | (go_at_call 13; have hst11 := St.perm (L := [.blk gx 34 y.cells] ++ wP g bv (0, S)) hst10 List.perm_append_comm; refine (lwrite_any g bv (0, S) y _ (St.sub (L' := wP g bv (0, S)) hst11 (List.sublist_append_left _ _)).selfF (by show S.length ≤ 65536; rw [← HL.out]; omega) (hyo.old hst11) ho).mono ?_; rw [HS.out]; rintro _ w9 ⟨rfl, bv', h4⟩; have hst12 := St.callF (wP g bv (0, S)) hst11 h4; have hst13 := St.perm (L' := [.blk gx 34 y.cells] ++ wP g bv' (0, T)) hst12 List.perm_append_comm; clear h4 hst10 hst11 hst12) | (go_at_call 37; refine (room_any y hyf _).mono ?_; rintro _ _ ⟨rfl, h4⟩; have hst14 := St.call0 hst13 h4; clear h4 hst13))
      go_roundw
      case rel => exact ⟨k + 1, bv', by omega, by go_num, by rw [← HT.out, ← HTL.out], by rw [← HT.out]; exact St.sub hst14 (List.sublist_append_right [_] _)⟩
      case measure => simp [intOf]; omega
    · have e : k = N := by omega
      subst e
      have d1 : decide ((k : Int) < (k : Int)) = false := by simp
      obtain ⟨S, hS0⟩ : ∃ S, S = outs xs k := ⟨_, rfl⟩
      obtain ⟨l, hl⟩ : ∃ l, l = S.length := ⟨_, rfl⟩
      rw [← hS0] at hst hB
      rw [← hl] at hB
      rw [← hS0, ← hl]
      obtain ⟨j, hj, hpk⟩ := pickI_nat (x := z) (n := 1000) (by decide)
      have HPK := hid (show pickI z 1000 = (j : Int) from hpk)
      obtain ⟨BB, hBB⟩ : ∃ BB, BB = S ++ List.replicate j 0 := ⟨_, rfl⟩
      have hpad := pad_step (S := S) (j := j) (by omega)
      rw [← hBB, ← hl] at hpad
      have HPAD := hid (show putW ((0, S) : WR) (padR ((l : Int) + (j : Int)) ((0, S) : WR).2.length) = (0, BB) by rw [← hpad, hl])
      obtain ⟨m, hm⟩ : ∃ m, m = BB.length := ⟨_, rfl⟩
      have hml : m = l + j := by rw [hm, hBB, List.length_append, List.length_replicate, hl]
      have HM := hid hm
      have HBB := hid hBB
      have HSS := hid hS0
      have HL := hid hl
      have z2 : IntKind.i64.wrap ((l : Int) + (j : Int)) = (l : Int) + (j : Int) := IntWalk.i64_in _ (by omega)
      have d2 : ((m : Int) != (l : Int) + (j : Int)) = false := by rw [hml]; push_cast; exact bne_self_eq_false _
      have HOW := hid (show outW ((0, BB) : WR) = BB from rfl)
      have HRZ := hid (show (stepR (⟨l, 0, 0⟩ : RS) (restRR BB l) ()).1 = ⟨m, 0, 0⟩ by rw [hm, hBB, hl, rest_zeros]; rfl)
      have HEZ := hid (show endR BB ⟨m, 0, 0⟩ = (0, 0) by unfold endR; rw [if_neg (fun h9 => by have := h9.2; dsimp only at this; omega)])
      have HMB := hid (show BB.length ≤ 65536 by omega)
      have HML := hid hml
      have hmb : m ≤ 65536 := by omega
      have hlm : l ≤ m := by omega
      clear hS0 hpk hpad hBB hl hm hml
      go_wp2_with (first | go_big_skip | go_big_guard | (go_at_call 20; refine (pick_spec z 1000 _ hz (by decide)).mono ?_; rw [HPK.out]; rintro _ _ ⟨rfl, h4⟩; first | (have hst20 := St.call0 hst h4; clear h4 hst) | (have hst23 := St.call0 hst22 h4; clear h4 hst22)) | (go_at_call 38; refine (wpad_any g bv (0, S) ((l : Int) + (j : Int)) _ hst20.selfF (by show S.length ≤ 65536; rw [← HL.out]; omega) (by omega)).mono ?_; rintro _ w9 ⟨rfl, bv', h4⟩; rw [HPAD.out] at h4; have hst21 := St.thenF hst20 h4; clear h4 hst20) | (go_at_call 15; refine (wout_any g bv' (0, BB) _ hst21 (by show BB.length ≤ 65536; rw [← HM.out]; omega)).mono ?_; rintro _ w9 ⟨u, rfl, h4⟩; rw [HOW.out, ← HM.out] at h4; have hst22 := (St.call hst21 h4).sub (.cons_cons _ (List.nil_sublist _)); clear h4 hst21; obtain ⟨au, cu, rfl⟩ := St.rowPSliceF [] hst22) | (go_at_call 22; refine (open_any au m cu BB _ (Rd.rowP hst23 (.head _)) HM.out.symm (by omega)).mono ?_; rintro _ w4 ⟨r, bv2, rfl, h4⟩; have hst24 := (St.call hst23 h4).sub (L' := rP r bv2 BB ⟨0, 0, 0⟩) (List.sublist_append_left _ _); clear h4 hst23))
      go_loopw [13, 14] (fun s q wr => ∃ (i : Nat), i ≤ k ∧ q = .int .i64 i ∧ s = .int .i64 ((outs xs i).length : Int) ∧ St w [] wr (rP r bv2 BB ⟨(outs xs i).length, 0, 0⟩)) (fun _ q _ => k - (intOf q).toNat)
      case atStart => exact ⟨0, by omega, rfl, by rw [outs_zero]; rfl, by rw [outs_zero]; exact hst24⟩
      case round =>
        clear hst24
        obtain ⟨i, hi, rfl, rfl, hst⟩ := hrel
        by_cases hik : i < k
        · clear hB
          have hB := outs_len HXX.out i (by rw [HN.out]; omega)
          obtain ⟨x, hxk⟩ : ∃ x, xs[i]? = some x := ⟨_, List.getElem?_eq_getElem (by rw [HN.out]; exact (by omega : i < k))⟩
          obtain ⟨b, off, rfl, _⟩ := hv.at (by omega : i < k)
          have hok := HXX.out x (List.mem_of_getElem? hxk)
          have hra := hid (acts_range hv hxk)
          have hB2 := outs_len HXX.out (i + 1) (by rw [HN.out]; omega)
          have hS := outs_succ hxk
          obtain ⟨C, hC⟩ := outs_split hxk
          rw [HN.out] at hC
          obtain ⟨y, hy⟩ : ∃ y, y = x.right := ⟨_, rfl⟩
          have hyo := hok.right
          have hyf := x.right_fit
          obtain ⟨e1, e2, e3, _⟩ := x.right_m
          rw [← hy] at hyo hyf hS hC e1 e2 e3
          have hyr := hyf.room hyo
          obtain ⟨P, hS0⟩ : ∃ S, S = outs xs i := ⟨_, rfl⟩
          obtain ⟨T, hT0⟩ : ∃ T, T = outs xs (i + 1) := ⟨_, rfl⟩
          rw [← hS0] at hst hB hC
          rw [← hT0] at hB2
          rw [← hS0, ← hT0] at hS
          obtain ⟨o, hl⟩ : ∃ l, l = (P).length := ⟨_, rfl⟩
          obtain ⟨t, ht⟩ : ∃ t, t = (T).length := ⟨_, rfl⟩
          have htl : t = o + y.out.length := by rw [ht, hl, hS, List.length_append]
          rw [← hl] at hB
          rw [← ht] at hB2
          have z1 : IntKind.i64.wrap ((o : Int) + y.room) = (t : Int) := by
            rw [show (o : Int) + y.room = (t : Int) by rw [← hyr.1, htl]; push_cast; rfl]
            exact IntWalk.i64_in _ (by omega)
          rw [← hl] at hst
          have hlt := outs_len HXX.out k (by rw [HN.out]; exact Nat.le_refl _)
          have htm : t ≤ m := by
            have h8 := congrArg List.length HSS.out
            rw [hC, List.length_append, List.length_append, ← HL.out, ← hl] at h8
            have := HML.out
            omega
          have HCD := hid (show BB = P ++ (y.out ++ (C ++ List.replicate j 0)) by rw [HBB.out, HSS.out, hC, List.append_assoc, List.append_assoc])
          obtain ⟨D, hD⟩ : ∃ D, D = C ++ List.replicate j 0 := ⟨_, rfl⟩
          rw [← hD] at HCD
          have HT := hid hT0
          have HTL := hid ht
          have HTL2 := hid htl
          have HL2 := hid hl
          have HY := hid hy
          have ho : Off (.slice y.au y.m y.cu) (rF0 r bv2 BB ⟨o, 0, 0⟩) := by
            rw [e1, e2, e3]
            exact Off.old hok.rd (by decide) (rF0_new (bv := bv2) (g := r) (B := BB) (s := ⟨o, 0, 0⟩) hst (fun _ h => h))
          have hii : (i : Int) < (k : Int) := by omega
          have d1 : decide ((i : Int) < (k : Int)) = true := decide_eq_true hii
          have z3 : IntKind.i64.wrap ((m : Int) - (t : Int)) = (m : Int) - (t : Int) := IntWalk.i64_in _ (by omega)
          have d5 : ((t : Int) != (t : Int)) = false := bne_self_eq_false _
          have d6 : (((m : Int) - (t : Int)) != ((m : Int) - (t : Int))) = false := bne_self_eq_false _
          rw [← hS0, ← hl]
          clear hS0 hxk hT0 hS hC hy ht hl e1 e2 e3 hyr hlt hD htl
          go_wp2_with (first | go_big_skip | go_big_guard | (refine wl_loadE rfl rfl rfl ?_; first | refine ⟨_, Loads.oldA (cs := x.cells) (n := 5) hst rfl hra.out, ?_⟩ | refine ⟨_, Loads.atA (y.cells) [] hst10 rfl rfl, ?_⟩ | refine ⟨_, Loads.atA (y.cells) [] hst11 rfl rfl, ?_⟩) | (go_at_call 19; refine (right_any x _ hok.n hok.size (by have := hok.s; omega)).mono ?_; rw [← HY.out]; rintro _ _ ⟨rfl, h4⟩; have hst8 := St.call0 hst h4; clear h4 hst) | (refine wl_alloc hst8 rfl rfl ?_; intro gx _ hst9; clear hst8) | (refine wl_storeA [] hst9 rfl rfl rfl rfl rfl rfl rfl ?_; intro _ hst10; clear hst9) | (go_at_call 37; refine (room_any y hyf _).mono ?_; rintro _ _ ⟨rfl, h4⟩; have hst11 := St.call0 hst10 h4; clear h4 hst10) | (go_at_call 39; have hst12 := St.perm (L := [.blk gx 34 y.cells] ++ rP r bv2 BB ⟨o, 0, 0⟩) hst11 List.perm_append_comm; have hS9 := (St.sub (L' := rP r bv2 BB ⟨o, 0, 0⟩) hst12 (List.sublist_append_left _ _)).selfF; have hbk := hid (back_any r bv2 BB P D y _ (by rw [← HL2.out]; exact hS9) (hyo.old hst12) (by rw [← HL2.out]; exact ho) hyf HCD.out (by have := HMB.out; omega)); have hbk2 := hbk.out; rw [← HL2.out, ← HTL2.out] at hbk2; refine hbk2.mono ?_; clear hbk hbk2; rintro _ w5 ⟨rfl, h4⟩; have hst13 := (St.callF (rP r bv2 BB ⟨o, 0, 0⟩) hst12 h4).sub (L' := rP r bv2 BB ⟨t, 0, 0⟩) (List.sublist_append_left _ _); clear h4 hS9 hst11 hst12) | (go_at_call 31; refine (at_any r bv2 BB ⟨t, 0, 0⟩ _ hst13).mono ?_; rintro _ _ ⟨rfl, h4⟩; have hst14 := St.call0 hst13 h4; clear h4 hst13) | (go_at_call 32; refine (left_any r bv2 BB ⟨t, 0, 0⟩ _ hst14 (by show t ≤ BB.length; rw [← HM.out]; omega) (by have := HMB.out; omega)).mono ?_; rw [← HM.out]; rintro _ _ ⟨rfl, h4⟩; have hst15 := St.call0 hst14 h4; clear h4 hst14) | (go_at_call 26; refine (fault_any r bv2 BB ⟨t, 0, 0⟩ _ hst15).mono ?_; rintro _ _ ⟨rfl, h4⟩; have hst16 := St.call0 hst15 h4; clear h4 hst15))
          go_roundw
          case rel => exact ⟨i + 1, by omega, by go_num, by rw [← HT.out, ← HTL.out], by rw [← HT.out, ← HTL.out]; exact hst16⟩
          case measure => simp [intOf]; omega
        · have e : i = k := by omega
          subst e
          have d3 : decide ((i : Int) < (i : Int)) = false := by simp
          rw [← HSS.out, ← HL.out] at hst
          rw [← HSS.out, ← HL.out]
          go_wp2_with (first | go_big_skip | go_big_guard | (go_at_call 25; refine (rRest_any r bv2 BB ⟨l, 0, 0⟩ _ hst.selfF (by show l ≤ BB.length; rw [← HM.out]; omega) (by have := HMB.out; omega)).mono ?_; (try dsimp only); rw [HRZ.out]; rintro _ w5 ⟨rfl, h4⟩; have hst30 := St.thenF hst h4; clear h4 hst) | (go_at_call 27; refine (end_any r bv2 BB ⟨m, 0, 0⟩ _ hst30 (by show m ≤ BB.length; rw [← HM.out]; exact Nat.le_refl _) (by have := HMB.out; omega)).mono ?_; rw [HEZ.out]; rintro _ _ ⟨rfl, h4⟩; have hst31 := St.call0 hst30 h4; clear h4 hst30) | (refine wl_build0 rfl rfl ?_))
          go_ret
          exact ⟨by simp, hst31.nil⟩
theorem fback_law (ao : Option Addr) (N c : Nat) (xs : List AV) (z : Int) (w : World) (hv : Rd w (.slice ao N c) 5 N (xs.flatMap AV.cells)) (hN : xs.length = N) (hx0 : ∀ x ∈ xs, x.Ok0 w) (hz : -9223372036854775808 ≤ z ∧ z ≤ 9223372036854775807) :
    Calls Try.prog 8 #[.slice ao N c, .int .i64 z] w fun e w' => e = .returned (.bool true) ∧ St w [] w' [] := by
  by_cases hsx : shortA xs N
  · exact fback_short ao N c xs z w hv hN hx0 hz hsx
  · exact fback_long ao N c xs z w hv hN hx0 hz hsx
end Go.Proofs.Ytlgioloanjjndaa
