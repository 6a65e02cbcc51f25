import Derived.Test.YtlgioloanjjndaaF35
namespace Go.Proofs.Ytlgioloanjjndaa
set_option linter.unusedVariables false
set_option linter.unusedSimpArgs false
open Go.RowKit Hp
attribute [local irreducible] Go.Calls
set_option maxRecDepth 100000
set_option maxHeartbeats 4000000
instance fSlE : TySl Try.prog 41 27 := ⟨by kernel_rfl⟩
instance fEE : TyE Try.prog 27 1 8 := ⟨by kernel_rfl⟩
def bad0 : AV := ⟨0, 0, 0, [], none, 0, 0, []⟩
def bad1 : AV := ⟨0, (-1), 1, [], none, 0, 0, []⟩
def bad2 : AV := ⟨1, 0, 256, [], none, 0, 0, []⟩
def bad3 : AV := ⟨1, 0, 0, [97], none, 0, 0, []⟩
def bad4 : AV := ⟨3, 0, (-1), [], none, 0, 0, []⟩
def bad5 : AV := ⟨3, 0, 65537, [], none, 0, 0, []⟩
def bads : List AV := [bad0, bad1, bad2, bad3, bad4, bad5]
def badE : List Value := [.int .i64 2, .int .i64 5, .int .i64 2, .int .i64 3, .int .i64 2, .int .i64 2]
theorem BADS : bads.flatMap AV.cells = [.int .i64 0, .int .i64 0, .int .i64 0, .string ⟨#[]⟩, .slice none 0 0, .int .i64 0, .int .i64 (-1), .int .i64 1, .string ⟨#[]⟩, .slice none 0 0, .int .i64 1, .int .i64 0, .int .i64 256, .string ⟨#[]⟩, .slice none 0 0, .int .i64 1, .int .i64 0, .int .i64 0, .string ⟨#[97]⟩, .slice none 0 0, .int .i64 3, .int .i64 0, .int .i64 (-1), .string ⟨#[]⟩, .slice none 0 0, .int .i64 3, .int .i64 0, .int .i64 65537, .string ⟨#[]⟩, .slice none 0 0] := rfl
theorem bad_at {k : Nat} (hk : k < 6) : ∃ y E, bads[k]? = some y ∧ badE[k]? = some (.int .i64 E) ∧ E ≠ 0 ∧ (∀ w, y.Ok w) ∧ y.au = none ∧ ∀ B : List UInt8, y.step (0, B) = (E, B) := by
  obtain rfl | rfl | rfl | rfl | rfl | rfl : k = 0 ∨ k = 1 ∨ k = 2 ∨ k = 3 ∨ k = 4 ∨ k = 5 := by omega
  · refine ⟨bad0, 2, rfl, rfl, by decide, fun w => ⟨Rd.nil _ _, rfl, by decide, by decide, by decide, by decide⟩, rfl, fun B => ?_⟩
    simp [AV.step, bad0, numR, putW]
  · refine ⟨bad1, 5, rfl, rfl, by decide, fun w => ⟨Rd.nil _ _, rfl, by decide, by decide, by decide, by decide⟩, rfl, fun B => ?_⟩
    simp [AV.step, bad1, numR, putW]
  · refine ⟨bad2, 2, rfl, rfl, by decide, fun w => ⟨Rd.nil _ _, rfl, by decide, by decide, by decide, by decide⟩, rfl, fun B => ?_⟩
    simp [AV.step, bad2, textR, putW]
  · refine ⟨bad3, 3, rfl, rfl, by decide, fun w => ⟨Rd.nil _ _, rfl, by decide, by decide, by decide, by decide⟩, rfl, fun B => ?_⟩
    simp [AV.step, bad3, textR, putW]
  · refine ⟨bad4, 2, rfl, rfl, by decide, fun w => ⟨Rd.nil _ _, rfl, by decide, by decide, by decide, by decide⟩, rfl, fun B => ?_⟩
    show putW (0, B) (padR (-1) B.length) = (2, B)
    have : padR (-1) B.length = (2, []) := by unfold padR; rw [if_pos (by omega)]
    rw [this]
    simp [putW]
  · refine ⟨bad5, 2, rfl, rfl, by decide, fun w => ⟨Rd.nil _ _, rfl, by decide, by decide, by decide, by decide⟩, rfl, fun B => ?_⟩
    simp [AV.step, bad5, padR, putW]
theorem first_long (ao : Option Addr) (N c : Nat) (xs : List AV) (z : Int) (ap : Option Addr) (M d : Nat) (ys : List AV) (w : World) (hv : Rd w (.slice ao N c) 5 N (xs.flatMap AV.cells)) (hN : xs.length = N) (hx0 : ∀ x ∈ xs, x.Ok0 w) (hz : -9223372036854775808 ≤ z ∧ z ≤ 9223372036854775807) (hu : Rd w (.slice ap M d) 5 M (ys.flatMap AV.cells)) (hM : ys.length = M) (hy0 : ∀ x ∈ ys, x.Ok0 w) (h : ¬ shortA xs N ∨ ¬ shortA ys M) :
    Calls Try.prog 4 #[.slice ao N c, .int .i64 z, .slice ap M d] w fun e w' => e = .returned (.bool true) ∧ St w [] w' [] := by
  have hst := St.refl w
  have HN := hid hN
  have HX0 := hid hx0
  have HM := hid hM
  have HY0 := hid hy0
  clear hN hx0 hM hy0
  by_cases hsx : shortA xs N
  · have hsy := h.resolve_left (fun h => h hsx)
    go_enter Try.func4, Try.ntmps4
    go_wp2_with (first | go_big_skip | go_big_guard | (go_at_call 12; refine (awake_any _).mono ?_; rintro _ _ ⟨rfl, h4⟩; have hst1 := St.call0 hst h4; clear h4 hst) | (go_at_call 11; refine (long_no ao N c xs _ (Rd.old hst1 hv) HN.out (fun x hx => (HX0.out x hx).old hst1) hsx).mono ?_; rintro _ w3 ⟨rfl, h4⟩; have hst2 := St.call0 hst1 h4; clear h4 hst1) | (go_at_call 11; refine (long_yes ap M d ys _ (Rd.old hst2 hu) HM.out (fun x hx => (HY0.out x hx).old hst2) hsy).mono ?_; rintro _ w3 ⟨rfl, h4⟩; have hst3 := St.call0 hst2 h4; clear h4 hst2))
    go_ret
    exact ⟨rfl, hst3.nil⟩
  · go_enter Try.func4, Try.ntmps4
    go_wp2_with (first | go_big_skip | go_big_guard | (go_at_call 12; refine (awake_any _).mono ?_; rintro _ _ ⟨rfl, h4⟩; have hst1 := St.call0 hst h4; clear h4 hst) | (go_at_call 11; refine (long_yes ao N c xs _ (Rd.old hst1 hv) HN.out (fun x hx => (HX0.out x hx).old hst1) hsx).mono ?_; rintro _ w3 ⟨rfl, h4⟩; have hst2 := St.call0 hst1 h4; clear h4 hst1))
    go_ret
    exact ⟨rfl, hst2.nil⟩
theorem first_short (ao : Option Addr) (N c : Nat) (xs : List AV) (z : Int) (ap : Option Addr) (M d : Nat) (ys : List AV) (w : World) (hv : Rd w (.slice ao N c) 5 N (xs.flatMap AV.cells)) (hN : xs.length = N) (hx0 : ∀ x ∈ xs, x.Ok0 w) (hz : -9223372036854775808 ≤ z ∧ z ≤ 9223372036854775807) (hu : Rd w (.slice ap M d) 5 M (ys.flatMap AV.cells)) (hM : ys.length = M) (hy0 : ∀ x ∈ ys, x.Ok0 w) (hsx : shortA xs N) (hsy : shortA ys M) :
    Calls Try.prog 4 #[.slice ao N c, .int .i64 z, .slice ap M d] w fun e w' => e = .returned (.bool true) ∧ St w [] w' [] := by
  have hst := St.refl w
  have HN := hid hN
  have HX0 := hid hx0
  have HM := hid hM
  have HY0 := hid hy0
  clear hN hx0 hM hy0
  have hN1 := hsx.1
  have hM1 := hsy.1
  have HXX := hid (fun x hx => (HX0.out x hx).ok (hsx.2 x hx).1 (hsx.2 x hx).2)
  have HYY := hid (fun x hx => (HY0.out x hx).ok (hsy.2 x hx).1 (hsy.2 x hx).2)
  go_enter Try.func4, Try.ntmps4
  go_wp2_with (first | go_big_skip | go_big_guard | (go_at_call 12; refine (awake_any _).mono ?_; rintro _ _ ⟨rfl, h4⟩; have hst1 := St.call0 hst h4; clear h4 hst) | (go_at_call 11; refine (long_no ao N c xs _ (Rd.old hst1 hv) HN.out (fun x hx => (HX0.out x hx).old hst1) hsx).mono ?_; rintro _ w3 ⟨rfl, h4⟩; have hst2 := St.call0 hst1 h4; clear h4 hst1) | (go_at_call 11; refine (long_no ap M d ys _ (Rd.old hst2 hu) HM.out (fun x hx => (HY0.out x hx).old hst2) hsy).mono ?_; rintro _ w3 ⟨rfl, h4⟩; have hst3 := St.call0 hst2 h4; clear h4 hst2) | (go_at_call 10; refine (new_any _).mono ?_; rintro _ w1 ⟨g, rfl, h4⟩; have hst4 := (St.call hst3 h4).sub (List.sublist_append_left _ _); clear h4 hst3))
  have hst5 : St w [] w1 (wP g (.slice none 0 0) (0, outs xs 0)) := by rw [outs_zero]; exact hst4
  clear hst4 hsx hsy HX0 HY0
  go_loopw [9] (fun q wr => ∃ (k : Nat) (bv : Value), k ≤ N ∧ q = .int .i64 k ∧ St w [] wr (wP g bv (0, outs xs k))) (fun q _ => N - (intOf q).toNat)
  case atStart => exact ⟨0, _, by omega, rfl, hst5⟩
  case round =>
    clear hst5
    obtain ⟨k, bv, hk, rfl, hst⟩ := hrel
    have hB := outs_len HXX.out k (by rw [HN.out]; exact hk)
    by_cases hkN : k < N
    · obtain ⟨x, hxk⟩ : ∃ x, xs[k]? = some x := ⟨_, List.getElem?_eq_getElem (by rw [HN.out]; exact hkN)⟩
      obtain ⟨b, off, rfl, _⟩ := hv.at hkN
      have hok := HXX.out x (List.mem_of_getElem? hxk)
      have hra := hid (acts_range hv hxk)
      have hB2 := outs_len HXX.out (k + 1) (by rw [HN.out]; omega)
      have hS := outs_succ hxk
      obtain ⟨S, hS0⟩ : ∃ S, S = outs xs k := ⟨_, rfl⟩
      obtain ⟨T, hT0⟩ : ∃ T, T = outs xs (k + 1) := ⟨_, rfl⟩
      rw [← hS0] at hst hB
      rw [← hT0] at hB2
      rw [← hS0, ← hT0] at hS
      have hstep := (AV.right_fit x).step (B := S) (by rw [hS, List.length_append] at hB2; omega)
      rw [← hS] at hstep
      have HS := hid hstep
      have HT := hid hT0
      have hst' : St w [] wr (wP g bv (0, S) ++ []) := by simpa using hst
      have ho : Off (.slice x.right.au x.right.m x.right.cu) (wF g bv (0, S)) := by
        obtain ⟨e1, e2, e3, _⟩ := x.right_m
        rw [e1, e2, e3]
        exact Off.old hok.rd (by decide) (wF_new hst')
      have hkk : (k : Int) < (N : Int) := by omega
      have d1 : decide ((k : Int) < (N : Int)) = true := decide_eq_true hkk
      clear hS0 hxk hst' hT0 hS hstep
      go_wp2_with (first | go_big_skip | go_big_guard | (refine wl_loadE rfl rfl rfl ?_; refine ⟨_, Loads.oldA (cs := x.cells) (n := 5) hst rfl hra.out, ?_⟩) | (go_at_call 19; refine (right_any x _ hok.n hok.size (by have := hok.s; omega)).mono ?_; rintro _ _ ⟨rfl, h4⟩; have hst8 := St.call0 hst h4; clear h4 hst) | (go_at_call 13; refine (lwrite_any g bv (0, S) x.right _ hst8.selfF (by show S.length ≤ 65536; omega) (hok.right.old hst8) ho).mono ?_; rw [HS.out]; rintro _ w9 ⟨rfl, bv', h4⟩; have hst9 := St.thenF hst8 h4; clear h4 hst8))
      go_roundw
      case rel => exact ⟨k + 1, bv', by omega, by go_num, by rw [← HT.out]; exact hst9⟩
      case measure => simp [intOf]; omega
    · have e : k = N := by omega
      subst e
      have d1 : decide ((k : Int) < (k : Int)) = false := by simp
      obtain ⟨S, hS0⟩ : ∃ S, S = outs xs k := ⟨_, rfl⟩
      rw [← hS0] at hst hB
      have hB3 : S.length ≤ 65536 := by omega
      obtain ⟨kk, hkk6, hpk⟩ := pickI_nat (x := z) (n := 6) (by decide)
      obtain ⟨y, E, hyk, hek, hE0, hyo, hyn, hys⟩ := bad_at hkk6
      have HPK := hid (show pickI z 6 = (kk : Int) from hpk)
      have HYK := hid hyk
      have HEK := hid hek
      have HYS := hid (hys S)
      have HYO := hid hyo
      have HYN := hid hyn
      have HE0 := hid hE0
      clear hS0 hpk hyk hek hys hyo hyn hB hE0

      go_wp2_with (first | go_big_skip | go_big_guard | (go_at_call 15; refine (wout_any g bv (0, S) _ hst hB3).mono ?_; rintro _ w9 ⟨u1, rfl, h4⟩; have hst10 := (St.call hst h4).sub (L' := wP g bv (0, S)) (.cons _ (List.Sublist.refl _)); clear h4 hst) | (refine wl_buildX (cs := [.int .i64 0, .int .i64 0, .int .i64 0, .string ⟨#[]⟩, .slice none 0 0]) (parts := #[(0, .const (.int .i64 0)), (2, .const (.int .i64 0))]) [(0, .int .i64 0), (2, .int .i64 0)] rfl rfl (by exact rfl) (by kernel_rfl) ?_) | (refine wl_buildX (cs := [.int .i64 0, .int .i64 (-1), .int .i64 1, .string ⟨#[]⟩, .slice none 0 0]) (parts := #[(0, .const (.int .i64 0)), (1, .const (.int .i64 (-1))), (2, .const (.int .i64 1))]) [(0, .int .i64 0), (1, .int .i64 (-1)), (2, .int .i64 1)] rfl rfl (by exact rfl) (by kernel_rfl) ?_) | (refine wl_buildX (cs := [.int .i64 1, .int .i64 0, .int .i64 256, .string ⟨#[]⟩, .slice none 0 0]) (parts := #[(0, .const (.int .i64 1)), (2, .const (.int .i64 256))]) [(0, .int .i64 1), (2, .int .i64 256)] rfl rfl (by exact rfl) (by kernel_rfl) ?_) | (refine wl_buildX (cs := [.int .i64 1, .int .i64 0, .int .i64 0, .string ⟨#[97]⟩, .slice none 0 0]) (parts := #[(0, .const (.int .i64 1)), (3, .const (.string ⟨#[97]⟩))]) [(0, .int .i64 1), (3, .string ⟨#[97]⟩)] rfl rfl (by exact rfl) (by kernel_rfl) ?_) | (refine wl_buildX (cs := [.int .i64 3, .int .i64 0, .int .i64 (-1), .string ⟨#[]⟩, .slice none 0 0]) (parts := #[(0, .const (.int .i64 3)), (2, .const (.int .i64 (-1)))]) [(0, .int .i64 3), (2, .int .i64 (-1))] rfl rfl (by exact rfl) (by kernel_rfl) ?_) | (refine wl_buildX (cs := [.int .i64 3, .int .i64 0, .int .i64 65537, .string ⟨#[]⟩, .slice none 0 0]) (parts := #[(0, .const (.int .i64 3)), (2, .const (.int .i64 65537))]) [(0, .int .i64 3), (2, .int .i64 65537)] rfl rfl (by exact rfl) (by kernel_rfl) ?_) | (apply wl_bsX [.agg (List.toArray [.int .i64 0, .int .i64 0, .int .i64 0, .string ⟨#[]⟩, .slice none 0 0]), .agg (List.toArray [.int .i64 0, .int .i64 (-1), .int .i64 1, .string ⟨#[]⟩, .slice none 0 0]), .agg (List.toArray [.int .i64 1, .int .i64 0, .int .i64 256, .string ⟨#[]⟩, .slice none 0 0]), .agg (List.toArray [.int .i64 1, .int .i64 0, .int .i64 0, .string ⟨#[97]⟩, .slice none 0 0]), .agg (List.toArray [.int .i64 3, .int .i64 0, .int .i64 (-1), .string ⟨#[]⟩, .slice none 0 0]), .agg (List.toArray [.int .i64 3, .int .i64 0, .int .i64 65537, .string ⟨#[]⟩, .slice none 0 0])] ([.int .i64 0, .int .i64 0, .int .i64 0, .string ⟨#[]⟩, .slice none 0 0, .int .i64 0, .int .i64 (-1), .int .i64 1, .string ⟨#[]⟩, .slice none 0 0, .int .i64 1, .int .i64 0, .int .i64 256, .string ⟨#[]⟩, .slice none 0 0, .int .i64 1, .int .i64 0, .int .i64 0, .string ⟨#[97]⟩, .slice none 0 0, .int .i64 3, .int .i64 0, .int .i64 (-1), .string ⟨#[]⟩, .slice none 0 0, .int .i64 3, .int .i64 0, .int .i64 65537, .string ⟨#[]⟩, .slice none 0 0]) hst10; rfl; rfl; (kernel_rfl); (kernel_rfl); infer_instance; infer_instance; rfl; rfl; rfl; intro gb w10 hst11; rw [← BADS] at hst11; clear hst10) | (apply wl_bsX badE badE hst11; rfl; rfl; (kernel_rfl); (kernel_rfl); infer_instance; infer_instance; rfl; rfl; rfl; intro ge w11 hst12; clear hst11) | (go_at_call 20; refine (pick_spec z 6 _ hz (by decide)).mono ?_; rw [HPK.out]; rintro _ _ ⟨rfl, h4⟩; have hst13 := St.call0 hst12 h4; clear h4 hst12) | (refine wl_loadE rfl rfl rfl ?_; refine ⟨_, Loads.range (cs := y.cells) (show tyA Try.prog 34 y.cells.length = true from fAA.out) (by have h9 := acts_range (Rd.blk (off := 0) (c := 6) (n := 6) hst13 (.tail _ (.head _)) (Nat.le_refl _) (by decide) rfl rfl) HYK.out; simpa using h9), ?_⟩) | (go_at_call 13; have hst14 := St.perm (St.sub (L' := [_] ++ wP g bv (0, S)) hst13 (.cons_cons _ (.cons _ (List.Sublist.refl _)))) List.perm_append_comm; have hSS := (St.sub (L' := wP g bv (0, S)) hst14 (List.sublist_append_left _ _)).selfF; refine (lwrite_any g bv (0, S) y _ hSS hB3 (HYO.out _) (by rw [HYN.out]; exact Off.nil _ _ _)).mono ?_; rw [HYS.out]; rintro _ w15 ⟨rfl, bv5, h4⟩; have hst15 := St.callF (wP g bv (0, S)) hst14 h4; clear h4 hst13 hst14 hSS))
      go_loopw [15] (fun q wr => ∃ (j : Nat) (bv : Value), j ≤ M ∧ q = .int .i64 j ∧ St w [] wr (wP g bv (E, S) ++ [.blk ge 27 badE])) (fun q _ => M - (intOf q).toNat)
      case atStart => exact ⟨0, _, by omega, rfl, hst15⟩
      case round =>
        clear hst15
        obtain ⟨j, bv6, hj, rfl, hst⟩ := hrel
        by_cases hjM : j < M
        · obtain ⟨x, hxk⟩ : ∃ x, ys[j]? = some x := ⟨_, List.getElem?_eq_getElem (by rw [HM.out]; exact hjM)⟩
          obtain ⟨b, off, rfl, _⟩ := hu.at hjM
          have hok := HYY.out x (List.mem_of_getElem? hxk)
          have hra := hid (acts_range hu hxk)
          have HS := hid (show x.step (E, S) = (E, S) from by unfold AV.step; (repeat' split) <;> first | rfl | exact putW_bad HE0.out)
          have ho : Off (.slice x.au x.m x.cu) (wF g bv6 (E, S)) := Off.old hok.rd (by decide) (wF_new hst)
          have hjj : (j : Int) < (M : Int) := by omega
          have d3 : decide ((j : Int) < (M : Int)) = true := decide_eq_true hjj
          clear hxk
          go_wp2_with (first | go_big_skip | go_big_guard | (refine wl_loadE rfl rfl rfl ?_; refine ⟨_, Loads.oldA (cs := x.cells) (n := 5) hst rfl hra.out, ?_⟩) | (go_at_call 13; have hSS := (St.sub (L' := wP g bv6 (E, S)) hst (List.sublist_append_left _ _)).selfF; refine (lwrite_any g bv6 (E, S) x _ hSS hB3 (hok.old hst) ho).mono ?_; rw [HS.out]; rintro _ w16 ⟨rfl, bv7, h4⟩; have hst16 := St.callF (wP g bv6 (E, S)) hst h4; clear h4 hst hSS))
          go_roundw
          case rel => exact ⟨j + 1, bv7, by omega, by go_num, hst16⟩
          case measure => simp [intOf]; omega
        · have e : j = M := by omega
          subst e
          have d3 : decide ((j : Int) < (j : Int)) = false := by simp
          have d4 : (E == E) = true := beq_self_eq_true _
          have HO := hid (show outW (E, S) = [] by unfold outW; rw [if_neg HE0.out])
          go_wp2_with (first | go_big_skip | go_big_guard | (go_at_call 15; refine (wout_any g bv6 (E, S) _ (St.sub hst (List.sublist_append_left _ _)) hB3).mono ?_; rintro _ w9 ⟨u, rfl, h4⟩; rw [HO.out] at h4; have hst17 := St.call hst h4; clear h4 hst; obtain ⟨au, cu, rfl⟩ := St.rowPSliceF [] hst17) | (refine wl_loadE rfl rfl rfl ?_; first | refine ⟨_, Loads.at [_, _, _] hst17 (by simpa using HEK.out), ?_⟩))
          go_ret
          exact ⟨by simp, hst17.nil⟩
theorem first_law (ao : Option Addr) (N c : Nat) (xs : List AV) (z : Int) (ap : Option Addr) (M d : Nat) (ys : List AV) (w : World) (hv : Rd w (.slice ao N c) 5 N (xs.flatMap AV.cells)) (hN : xs.length = N) (hx0 : ∀ x ∈ xs, x.Ok0 w) (hz : -9223372036854775808 ≤ z ∧ z ≤ 9223372036854775807) (hu : Rd w (.slice ap M d) 5 M (ys.flatMap AV.cells)) (hM : ys.length = M) (hy0 : ∀ x ∈ ys, x.Ok0 w) :
    Calls Try.prog 4 #[.slice ao N c, .int .i64 z, .slice ap M d] w fun e w' => e = .returned (.bool true) ∧ St w [] w' [] := by
  by_cases hsx : shortA xs N
  · by_cases hsy : shortA ys M
    · exact first_short ao N c xs z ap M d ys w hv hN hx0 hz hu hM hy0 hsx hsy
    · exact first_long ao N c xs z ap M d ys w hv hN hx0 hz hu hM hy0 (.inr hsy)
  · exact first_long ao N c xs z ap M d ys w hv hN hx0 hz hu hM hy0 (.inl hsx)
end Go.Proofs.Ytlgioloanjjndaa
