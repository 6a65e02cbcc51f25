/- A record is taken out. -/
import Derived.Test.YtifajcblbedcoaaGreatJDirKeepsd
import Derived.Test.YtifajcblbedcoaaGreatJDirKeepse
import Derived.Test.YtifajcblbedcoaaGreatJDirKeepsc
import Derived.Test.YtifajcblbedcoaaGreatT8
import Derived.Test.YtifajcblbedcoaaGreatSepP
import Derived.Test.YtifajcblbedcoaaGreatJDirKeepsb
import Derived.Deep.DeepCutAuto
namespace Go.Proofs.YtifajcblbedcoaaGreat
set_option linter.unusedVariables false
set_option linter.unusedSimpArgs false
open Go.RowKit Hp
attribute [local irreducible] Go.Calls Go.wpList
set_option maxRecDepth 100000
set_option maxHeartbeats 8000000
attribute [local go_sem ↓] heldInt heldInts heldRecs heldRec heldStr
theorem rowS {w0 w : World} {M : List Nat} (L1 : List HA) {L2 : List HA} {v : Value} {T : TypeId} {sz n : Nat} {xs : List Value} (h : St w0 M w (L1 ++ .row v T sz n xs :: L2)) : ∃ ao c, v = .slice ao n c ∧ n ≤ c ∧ c ≤ 9223372036854775807 := by
  obtain ⟨ao, c, e, h1, h2, _⟩ := row_form h (by simp : HA.row v T sz n xs ∈ L1 ++ .row v T sz n xs :: L2)
  exact ⟨ao, c, e, h1, h2⟩
def rootH (x : Value × RC) : HA := .row x.1 102 2 x.2.l.length (addrsV x.2.l)
/-- A record's addresses are among the pieces. -/
def OwnR (L : List HA) (x : Value × RC) : Prop := rootH x ∈ L ∧ L32 x.2.S ∧ x.2.name.length ≤ 1000000
def OwnX (L : List HA) (xs : List (Value × RC)) : Prop := ∀ x ∈ xs, OwnR L x
theorem OwnR.cons {L : List HA} {x : Value × RC} (h : OwnR L x) (y : HA) : OwnR (y :: L) x := ⟨.tail _ h.1, h.2⟩
theorem OwnX.cons {L : List HA} {xs : List (Value × RC)} (h : OwnX L xs) (y : HA) : OwnX (y :: L) xs := fun x hx => (h x hx).cons y
theorem OwnR.sub {L L' : List HA} {x : Value × RC} (h : OwnR L x) (hs : ∀ y ∈ L, y ∈ L') : OwnR L' x := ⟨hs _ h.1, h.2⟩
theorem OwnX.sub {L L' : List HA} {xs : List (Value × RC)} (h : OwnX L xs) (hs : ∀ y ∈ L, y ∈ L') : OwnX L' xs := fun x hx => (h x hx).sub hs
theorem OwnR.In {w0 w : World} {M : List Nat} {L : List HA} {x : Value × RC} (h : OwnR L x) (hst : St w0 M w L) : RC.In w x := root_in hst h.1 h.2.1 (by have := h.2.2; omega)
theorem OwnR.L {L : List HA} {x : Value × RC} (h : OwnR L x) : (cellsR x).length = 44 := cellsR_len h.2.1
theorem recs_inL {w0 w : World} {M : List Nat} {L : List HA} {rv : Value} {n : Nat} {xs : List (Value × RC)} (hst : St w0 M w L) (hr : HA.row rv 53 44 n (recsV xs) ∈ L) (hn : xs.length = n) (ho : OwnX L xs) : RecsIn w rv n xs := ⟨Rd.row hst hr, hn, fun x hx => (ho x hx).In hst⟩
theorem recsV_len {L : List HA} {xs : List (Value × RC)} (h : OwnX L xs) : (recsV xs).length = xs.length * 44 := by
  induction xs with
  | nil => rfl
  | cons x xs ih =>
    show (cellsR x ++ recsV xs).length = _
    rw [List.length_append, (h x (.head _)).L, ih (fun y hy => h y (.tail _ hy)), List.length_cons]
    omega
theorem recsV_take {L : List HA} {xs : List (Value × RC)} (h : OwnX L xs) {k : Nat} (hk : k ≤ xs.length) : (recsV xs).take (k * 44) = recsV (xs.take k) ∧ (recsV xs).drop (k * 44) = recsV (xs.drop k) := by
  have e : recsV xs = recsV (xs.take k) ++ recsV (xs.drop k) := by rw [← recsV_append, List.take_append_drop]
  have hl : (recsV (xs.take k)).length = k * 44 := by
    rw [recsV_len (L := L) (fun x hx => h x (List.mem_of_mem_take hx)), List.length_take, Nat.min_eq_left hk]
  rw [e, ← hl, List.take_left, List.drop_left]
  exact ⟨rfl, rfl⟩
theorem recsV_ones {w0 w : World} {M : List Nat} {L : List HA} {xs : List (Value × RC)} (hst : St w0 M w L) (h : OwnX L xs) : (recsV xs).all (·.oneCell') = true := by
  induction xs with
  | nil => rfl
  | cons x xs ih =>
    show (cellsR x ++ recsV xs).all (·.oneCell') = true
    rw [List.all_append, cellsR_ones ((h x (.head _)).In hst), ih (fun y hy => h y (.tail _ hy))]
    rfl
theorem insert_any {w0 w : World} {M : List Nat} {R : List HA} (ao : Option Addr) (c i n g : Nat) (C X : List Value) (hS : St w0 M w (.blk g 53 X :: .row (.slice ao n c) 53 44 n C :: R)) (hl : C.length = n * 44) (hx : X.length = 44) (hC : C.all (·.oneCell') = true) (hX : X.all (·.oneCell') = true) (hn : n ≤ 100000) (hi : i ≤ n) :
    Calls Tryz.prog 118 #[.slice ao n c, .int .i64 i, .slice (some ⟨g, 0, none⟩) 1 1] w fun e w' => ∃ v', e = .returned v' ∧ St w0 M w' (.row v' 53 44 (n + 1) (C.take (i * 44) ++ (X ++ C.drop (i * 44))) :: R) := by
  by_cases he : i = n
  · exact insEnd ao c i n g C X hS hl hx hC hX hn he
  · obtain ⟨b, c', rest, e, h1, h2, h3, h4, h5⟩ := row_openV (L1 := [_]) hS (by omega)
    cases e
    by_cases hr : n + 1 ≤ c
    · exact insRoom i n g b c rest C X h5 hl hx hC hX hn (by omega) hr h2 h3
    · exact insGrow i n g b c rest C X h5 hl hx hC hX hn (by omega) h1 (by omega) h2
theorem lay_any {w0 w : World} {M : List Nat} {R : List HA} (gt : Nat) (t : TC) (ao : Option Addr) (n c : Nat) (lv : Value) (xs : List (Value × RC)) (x : Value × RC) (hS : St w0 M w (.blk gt 27 (tabC t (.slice ao n c) lv) :: .row (.slice ao n c) 53 44 n (recsV xs) :: R)) (ho : OwnX R xs) (hx : OwnR R x) (hn : xs.length = n) (hs : Sorted (xs.map (·.2))) (hb : n ≤ 1000) :
    Calls Tryz.prog 78 #[.pointer (some ⟨gt, 0, none⟩), .agg (cellsR x).toArray] w fun e w' => ∃ rv', e = .returned (.tuple #[]) ∧ St w0 M w' (.blk gt 27 (tabC t rv' lv) :: .row rv' 53 44 (n + 1) (recsV (xs.take (nLess x.2 (xs.map (·.2))) ++ x :: xs.drop (nLess x.2 (xs.map (·.2))))) :: R) := by
  have hst0 := hS
  have HO := hid ho
  have HOX := hid hx
  have HN := hid hn
  have HS := hid hs
  have HLX := hid hx.L
  have H1 := hid (cellsR_ones ((hx.cons _ |>.cons _).In hst0))
  obtain ⟨k, hk⟩ : ∃ k, k = nLess x.2 (xs.map (·.2)) := ⟨_, rfl⟩
  have hkn : k ≤ n := by rw [hk, ← hn]; have := nLess_le x.2 (xs.map (·.2)); rwa [List.length_map] at this
  rw [← hk]
  have HK := hid hk
  clear ho hx hn hs hk hS
  go_enter Tryz.func78, Tryz.ntmps78
  go_wp2_with (first | go_big_skip | go_big_guard | (refine wl_boxA hst0 rfl rfl rfl ?_; intro g3 w1 hst; clear hst0))
  have hX := hst.drew
  clear hst
  refine wp_region_held_drew (S := (fun w' => (loadVarH 22 ⟨gt, 1, none⟩).run Tryz.prog w' = .ok (.slice ao n c) w' ∧ (loadVarH 53 ⟨g3, 0, none⟩).run Tryz.prog w' = .ok (.agg (List.toArray (cellsR x))) w')) (by kernel_rfl) (by exact ⟨ldS [_] hX rfl, ldA (cellsR x) [] hX (HLX.out) (cellsR_all x)⟩) (fun hHeld => ?_)
  refine tq 0 7 ?_
  refine tq 4 11 ?_
  refine tq 1 8 ?_
  refine tq 2 9 ?_
  refine tq 3 10 ?_
  refine wpAnyH_ready (rs := [5]) (by kernel_rfl) (by simp) ?_
  refine (AllReadyH.cons (o := ⟨some 12, _, _, _, _, _⟩) rfl (fun K hK => ?_) AllReadyH.nil)
  rw [if_pos (by rfl)]
  go_simp
  go_at_call 116
  refine (search_any ao n c xs x _ (recs_inL hX (.tail _ (.tail _ (.head _))) HN.out ((HO.out.cons _).cons _ |>.cons _)) (((HOX.out.cons _).cons _ |>.cons _).In hX) HS.out (by omega)).mono ?_
  rw [← HK.out]
  rintro _ w9 ⟨q9, rfl, h4⟩
  have hA1 := St.call0 hX h4
  clear h4
  refine hK.out _ _ ?_ (fun hHeld => ?_)
  · exact ⟨ldS [_] hA1 rfl, ldA (cellsR x) [] hA1 (HLX.out) (cellsR_all x)⟩
  clear hK K
  (try simp only [Act.put, List.setIfInBounds_toArray, List.set_cons_zero, List.set_cons_succ])
  refine tq 6 6 ?_
  refine tq 7 13 ?_
  refine tq 8 14 ?_
  refine tq 9 4 ?_
  refine tq 10 5 ?_
  refine wpAnyH_done (by kernel_rfl) ?_ _
  clear hHeld
  go_wp2_with (first | go_big_skip | go_big_guard | fail)
  have hY := hA1.drew
  clear hA1
  refine wp_region_held_drew (S := (fun w' => True)) (by kernel_rfl) (by exact trivial) (fun hHeld => ?_)
  refine tq 0 15 ?_
  refine tq 1 16 ?_
  refine tq 5 20 ?_
  refine tq 2 17 ?_
  refine tq 3 18 ?_
  refine wpAnyH_ready (rs := [4, 6]) (by kernel_rfl) (by simp) ?_
  refine (AllReadyH.cons (o := ⟨some 19, _, _, _, _, _⟩) rfl (fun K hK => ?_) (AllReadyH.cons (o := ⟨some 21, _, _, _, _, _⟩) rfl (fun K hK => ?_) AllReadyH.nil))
  · rw [if_pos (by rfl)]
    refine ow_of_wl (ops := #[]) (by rfl) ?_
    refine wl_loadE rfl rfl rfl ?_
    refine ⟨_, Loads.at [_] hY rfl, ?_⟩
    refine q0_nil ?_
    refine hK.out _ _ ?_ (fun hHeld => ?_)
    · exact trivial
    clear hK K
    (try simp only [Act.put, List.setIfInBounds_toArray, List.set_cons_zero, List.set_cons_succ])
    refine wpAnyH_ready (rs := [6]) (by kernel_rfl) (by simp) ?_
    refine (AllReadyH.cons (o := ⟨some 21, _, _, _, _, _⟩) rfl (fun K hK => ?_) AllReadyH.nil)
    rw [if_pos (by rfl)]
    refine ow_of_wl (ops := #[]) (by rfl) ?_
    refine wl_loadE rfl rfl rfl ?_
    refine ⟨_, Loads.atA (cellsR x) [] hY HLX.out (cellsR_all x), ?_⟩
    refine q0_nil ?_
    refine hK.out _ _ ?_ (fun hHeld => ?_)
    · exact trivial
    clear hK K
    (try simp only [Act.put, List.setIfInBounds_toArray, List.set_cons_zero, List.set_cons_succ])
    refine wpAnyH_ready (rs := [7]) (by kernel_rfl) (by simp) ?_
    refine (AllReadyH.cons (o := ⟨some 22, _, _, _, _, _⟩) rfl (fun K hK => ?_) AllReadyH.nil)
    rw [if_pos (by rfl)]
    refine ow_of_wl (ops := #[]) (by rfl) ?_
    apply wl_bsX [.agg (List.toArray (cellsR x))] (cellsR x) hY
    · rfl
    · rfl
    · exact rfl
    · exact (List.append_nil _)
    · infer_instance
    · infer_instance
    · (show (((List.toArray (cellsR x)).size == 44) && true) = true; rw [List.size_toArray, HLX.out]; rfl)
    · rfl
    · rfl
    intro gb w5 hP1
    refine q0_nil ?_
    refine hK.out _ _ ?_ (fun hHeld => ?_)
    · exact trivial
    clear hK K
    (try simp only [Act.put, List.setIfInBounds_toArray, List.set_cons_zero, List.set_cons_succ])
    refine wpAnyH_ready (rs := [8]) (by kernel_rfl) (by simp) ?_
    refine (AllReadyH.cons (o := ⟨some 23, _, _, _, _, _⟩) rfl (fun K hK => ?_) AllReadyH.nil)
    rw [if_pos (by rfl)]
    go_simp
    go_at_call 118
    refine (insert_any ao c k n gb (recsV xs) (cellsR x) ((St.front (L1 := [_]) (St.front (L1 := [_, _, _]) hP1))) (by rw [recsV_len HO.out, HN.out]) HLX.out (recsV_ones hP1 (HO.out.sub (fun y hy => (by simp [hy])))) (cellsR_ones ((HOX.out.sub (fun y hy => (by simp [hy]))).In hP1)) (by omega) (by omega)).mono ?_
    rintro _ w6 ⟨v6, rfl, h4⟩
    have hI1 := h4
    clear h4
    refine hK.out _ _ ?_ (fun hHeld => ?_)
    · exact trivial
    clear hK K
    (try simp only [Act.put, List.setIfInBounds_toArray, List.set_cons_zero, List.set_cons_succ])
    refine tq 9 24 ?_
    refine tq 10 25 ?_
    refine wpAnyH_ready (rs := [11]) (by kernel_rfl) (by simp) ?_
    refine (AllReadyH.cons (o := ⟨none, _, _, _, _, _⟩) rfl (fun K hK => ?_) AllReadyH.nil)
    rw [if_pos (by rfl)]
    refine ow_of_wl (ops := #[]) (by rfl) ?_
    obtain ⟨a6, c6, rfl, _, _⟩ := rowS [] hI1
    refine wl_store [_, _] hI1 rfl rfl rfl (off := 1) (v := .slice _ _ _) rfl rfl rfl (by show (1 : Nat) + 1 ≤ 7; decide) ?_
    intro w7 hI2
    refine q0_nil ?_
    refine hK.out _ _ ?_ (fun hHeld => ?_)
    · exact trivial
    clear hK K
    (try simp only [Act.put, List.setIfInBounds_toArray, List.set_cons_zero, List.set_cons_succ])
    refine wpAnyH_done (by kernel_rfl) ?_ _
    clear hHeld
    go_wp2_with (first | go_big_skip | go_big_guard | fail)
    go_end0
    refine ⟨.slice a6 (n + 1) c6, rfl, ?_⟩
    have hk := recsV_take HO.out (k := k) (by rw [HN.out]; omega)
    have e1 := (St.front (L1 := [_, _]) hI2)
    rw [hk.1, hk.2] at e1
    have e2 : recsV (xs.take k) ++ (cellsR x ++ recsV (xs.drop k)) = recsV (xs.take k ++ x :: xs.drop k) := by
      rw [recsV_append]
      rfl
    rw [e2] at e1
    exact St.sub e1 (.cons_cons _ (.cons_cons _ (.cons _ (List.Sublist.refl _))))
  · rw [if_pos (by rfl)]
    refine ow_of_wl (ops := #[]) (by rfl) ?_
    refine wl_loadE rfl rfl rfl ?_
    refine ⟨_, Loads.atA (cellsR x) [] hY HLX.out (cellsR_all x), ?_⟩
    refine q0_nil ?_
    refine hK.out _ _ ?_ (fun hHeld => ?_)
    · exact trivial
    clear hK K
    (try simp only [Act.put, List.setIfInBounds_toArray, List.set_cons_zero, List.set_cons_succ])
    refine wpAnyH_ready (rs := [4, 7]) (by kernel_rfl) (by simp) ?_
    refine (AllReadyH.cons (o := ⟨some 19, _, _, _, _, _⟩) rfl (fun K hK => ?_) (AllReadyH.cons (o := ⟨some 22, _, _, _, _, _⟩) rfl (fun K hK => ?_) AllReadyH.nil))
    · rw [if_pos (by rfl)]
      refine ow_of_wl (ops := #[]) (by rfl) ?_
      refine wl_loadE rfl rfl rfl ?_
      refine ⟨_, Loads.at [_] hY rfl, ?_⟩
      refine q0_nil ?_
      refine hK.out _ _ ?_ (fun hHeld => ?_)
      · exact trivial
      clear hK K
      (try simp only [Act.put, List.setIfInBounds_toArray, List.set_cons_zero, List.set_cons_succ])
      refine wpAnyH_ready (rs := [7]) (by kernel_rfl) (by simp) ?_
      refine (AllReadyH.cons (o := ⟨some 22, _, _, _, _, _⟩) rfl (fun K hK => ?_) AllReadyH.nil)
      rw [if_pos (by rfl)]
      refine ow_of_wl (ops := #[]) (by rfl) ?_
      apply wl_bsX [.agg (List.toArray (cellsR x))] (cellsR x) hY
      · rfl
      · rfl
      · exact rfl
      · exact (List.append_nil _)
      · infer_instance
      · infer_instance
      · (show (((List.toArray (cellsR x)).size == 44) && true) = true; rw [List.size_toArray, HLX.out]; rfl)
      · rfl
      · rfl
      intro gb w5 hP2
      refine q0_nil ?_
      refine hK.out _ _ ?_ (fun hHeld => ?_)
      · exact trivial
      clear hK K
      (try simp only [Act.put, List.setIfInBounds_toArray, List.set_cons_zero, List.set_cons_succ])
      refine wpAnyH_ready (rs := [8]) (by kernel_rfl) (by simp) ?_
      refine (AllReadyH.cons (o := ⟨some 23, _, _, _, _, _⟩) rfl (fun K hK => ?_) AllReadyH.nil)
      rw [if_pos (by rfl)]
      go_simp
      go_at_call 118
      refine (insert_any ao c k n gb (recsV xs) (cellsR x) ((St.front (L1 := [_]) (St.front (L1 := [_, _, _]) hP2))) (by rw [recsV_len HO.out, HN.out]) HLX.out (recsV_ones hP2 (HO.out.sub (fun y hy => (by simp [hy])))) (cellsR_ones ((HOX.out.sub (fun y hy => (by simp [hy]))).In hP2)) (by omega) (by omega)).mono ?_
      rintro _ w6 ⟨v6, rfl, h4⟩
      have hI1 := h4
      clear h4
      refine hK.out _ _ ?_ (fun hHeld => ?_)
      · exact trivial
      clear hK K
      (try simp only [Act.put, List.setIfInBounds_toArray, List.set_cons_zero, List.set_cons_succ])
      refine tq 9 24 ?_
      refine tq 10 25 ?_
      refine wpAnyH_ready (rs := [11]) (by kernel_rfl) (by simp) ?_
      refine (AllReadyH.cons (o := ⟨none, _, _, _, _, _⟩) rfl (fun K hK => ?_) AllReadyH.nil)
      rw [if_pos (by rfl)]
      refine ow_of_wl (ops := #[]) (by rfl) ?_
      obtain ⟨a6, c6, rfl, _, _⟩ := rowS [] hI1
      refine wl_store [_, _] hI1 rfl rfl rfl (off := 1) (v := .slice _ _ _) rfl rfl rfl (by show (1 : Nat) + 1 ≤ 7; decide) ?_
      intro w7 hI2
      refine q0_nil ?_
      refine hK.out _ _ ?_ (fun hHeld => ?_)
      · exact trivial
      clear hK K
      (try simp only [Act.put, List.setIfInBounds_toArray, List.set_cons_zero, List.set_cons_succ])
      refine wpAnyH_done (by kernel_rfl) ?_ _
      clear hHeld
      go_wp2_with (first | go_big_skip | go_big_guard | fail)
      go_end0
      refine ⟨.slice a6 (n + 1) c6, rfl, ?_⟩
      have hk := recsV_take HO.out (k := k) (by rw [HN.out]; omega)
      have e1 := (St.front (L1 := [_, _]) hI2)
      rw [hk.1, hk.2] at e1
      have e2 : recsV (xs.take k) ++ (cellsR x ++ recsV (xs.drop k)) = recsV (xs.take k ++ x :: xs.drop k) := by
        rw [recsV_append]
        rfl
      rw [e2] at e1
      exact St.sub e1 (.cons_cons _ (.cons_cons _ (.cons _ (List.Sublist.refl _))))
    · rw [if_pos (by rfl)]
      refine ow_of_wl (ops := #[]) (by rfl) ?_
      apply wl_bsX [.agg (List.toArray (cellsR x))] (cellsR x) hY
      · rfl
      · rfl
      · exact rfl
      · exact (List.append_nil _)
      · infer_instance
      · infer_instance
      · (show (((List.toArray (cellsR x)).size == 44) && true) = true; rw [List.size_toArray, HLX.out]; rfl)
      · rfl
      · rfl
      intro gb w5 hP3
      refine q0_nil ?_
      refine hK.out _ _ ?_ (fun hHeld => ?_)
      · exact trivial
      clear hK K
      (try simp only [Act.put, List.setIfInBounds_toArray, List.set_cons_zero, List.set_cons_succ])
      refine wpAnyH_ready (rs := [4]) (by kernel_rfl) (by simp) ?_
      refine (AllReadyH.cons (o := ⟨some 19, _, _, _, _, _⟩) rfl (fun K hK => ?_) AllReadyH.nil)
      rw [if_pos (by rfl)]
      refine ow_of_wl (ops := #[]) (by rfl) ?_
      refine wl_loadE rfl rfl rfl ?_
      refine ⟨_, Loads.at [_, _] hP3 rfl, ?_⟩
      refine q0_nil ?_
      refine hK.out _ _ ?_ (fun hHeld => ?_)
      · exact trivial
      clear hK K
      (try simp only [Act.put, List.setIfInBounds_toArray, List.set_cons_zero, List.set_cons_succ])
      refine wpAnyH_ready (rs := [8]) (by kernel_rfl) (by simp) ?_
      refine (AllReadyH.cons (o := ⟨some 23, _, _, _, _, _⟩) rfl (fun K hK => ?_) AllReadyH.nil)
      rw [if_pos (by rfl)]
      go_simp
      go_at_call 118
      refine (insert_any ao c k n gb (recsV xs) (cellsR x) ((St.front (L1 := [_]) (St.front (L1 := [_, _, _]) hP3))) (by rw [recsV_len HO.out, HN.out]) HLX.out (recsV_ones hP3 (HO.out.sub (fun y hy => (by simp [hy])))) (cellsR_ones ((HOX.out.sub (fun y hy => (by simp [hy]))).In hP3)) (by omega) (by omega)).mono ?_
      rintro _ w6 ⟨v6, rfl, h4⟩
      have hI1 := h4
      clear h4
      refine hK.out _ _ ?_ (fun hHeld => ?_)
      · exact trivial
      clear hK K
      (try simp only [Act.put, List.setIfInBounds_toArray, List.set_cons_zero, List.set_cons_succ])
      refine tq 9 24 ?_
      refine tq 10 25 ?_
      refine wpAnyH_ready (rs := [11]) (by kernel_rfl) (by simp) ?_
      refine (AllReadyH.cons (o := ⟨none, _, _, _, _, _⟩) rfl (fun K hK => ?_) AllReadyH.nil)
      rw [if_pos (by rfl)]
      refine ow_of_wl (ops := #[]) (by rfl) ?_
      obtain ⟨a6, c6, rfl, _, _⟩ := rowS [] hI1
      refine wl_store [_, _] hI1 rfl rfl rfl (off := 1) (v := .slice _ _ _) rfl rfl rfl (by show (1 : Nat) + 1 ≤ 7; decide) ?_
      intro w7 hI2
      refine q0_nil ?_
      refine hK.out _ _ ?_ (fun hHeld => ?_)
      · exact trivial
      clear hK K
      (try simp only [Act.put, List.setIfInBounds_toArray, List.set_cons_zero, List.set_cons_succ])
      refine wpAnyH_done (by kernel_rfl) ?_ _
      clear hHeld
      go_wp2_with (first | go_big_skip | go_big_guard | fail)
      go_end0
      refine ⟨.slice a6 (n + 1) c6, rfl, ?_⟩
      have hk := recsV_take HO.out (k := k) (by rw [HN.out]; omega)
      have e1 := (St.front (L1 := [_, _]) hI2)
      rw [hk.1, hk.2] at e1
      have e2 : recsV (xs.take k) ++ (cellsR x ++ recsV (xs.drop k)) = recsV (xs.take k ++ x :: xs.drop k) := by
        rw [recsV_append]
        rfl
      rw [e2] at e1
      exact St.sub e1 (.cons_cons _ (.cons_cons _ (.cons _ (List.Sublist.refl _))))
end Go.Proofs.YtifajcblbedcoaaGreat
namespace Go.Proofs.YtifajcblbedcoaaGreat
set_option linter.unusedVariables false
set_option linter.unusedSimpArgs false
open Go.RowKit Hp
attribute [local irreducible] Go.Calls Go.wpList
set_option maxRecDepth 100000
set_option maxHeartbeats 8000000
attribute [local go_sem ↓] heldInt heldInts heldRecs heldRec heldStr heldTab
def idR (x : Value × RC) (z : Int) : Value × RC := (x.1, { x.2 with id := z })
theorem idR_own {L : List HA} {x : Value × RC} (h : OwnR L x) (z : Int) : OwnR L (idR x z) := ⟨h.1, h.2⟩
theorem idR_cells (x : Value × RC) (z : Int) : putAt (cellsR x) 0 [.int .i64 z] = cellsR (idR x z) := rfl
def nextT (t : TC) : TC := { t with next := t.next + 1 }
theorem next_cells (t : TC) (rv lv : Value) : putAt (tabC t rv lv) 0 [.int .i64 (t.next + 1)] = tabC (nextT t) rv lv := rfl
theorem lay_map (x : Value × RC) (xs : List (Value × RC)) : (xs.take (nLess x.2 (xs.map (·.2))) ++ x :: xs.drop (nLess x.2 (xs.map (·.2)))).map (·.2) = layL x.2 (xs.map (·.2)) := by
  rw [layL_at, List.map_append, List.map_cons, List.map_take, List.map_drop]
theorem lay_own {L : List HA} {x : Value × RC} {xs : List (Value × RC)} (h : OwnX L xs) (hx : OwnR L x) (k : Nat) : OwnX L (xs.take k ++ x :: xs.drop k) := fun y hy => by
  rcases List.mem_append.1 hy with hy | hy
  · exact h y (List.mem_of_mem_take hy)
  · rcases List.mem_cons.1 hy with rfl | hy
    · exact hx
    · exact h y (List.mem_of_mem_drop hy)
theorem lay_roots {α : Type} (f : Value × RC → α) (x : Value × RC) (xs : List (Value × RC)) (k : Nat) : ((xs.take k ++ x :: xs.drop k).map f).Perm (f x :: xs.map f) := by
  have h : (xs.take k ++ x :: xs.drop k).Perm (x :: xs) := by
    have := List.perm_middle (a := x) (l₁ := xs.take k) (l₂ := xs.drop k)
    rwa [List.take_append_drop] at this
  exact h.map f
theorem putRec_any {w0 w : World} {M : List Nat} {R : List HA} (gt : Nat) (t : TC) (ao : Option Addr) (n c : Nat) (lv : Value) (xs : List (Value × RC)) (x : Value × RC) (hS : St w0 M w (.blk gt 27 (tabC t (.slice ao n c) lv) :: .row (.slice ao n c) 53 44 n (recsV xs) :: R)) (ho : OwnX R xs) (hx : OwnR R x) (hn : xs.length = n) (hs : Sorted (xs.map (·.2))) (hb : n ≤ 1000) (ht : 0 ≤ t.next ∧ t.next ≤ 2147483648) :
    Calls Tryz.prog 66 #[.pointer (some ⟨gt, 0, none⟩), .agg (cellsR x).toArray] w fun e w' => ∃ rv' xs', e = .returned (.int .i64 0) ∧ xs'.map (·.2) = layL { x.2 with id := t.next } (xs.map (·.2)) ∧ OwnX R xs' ∧ (xs'.map rootH).Perm (rootH x :: xs.map rootH) ∧ St w0 M w' (.blk gt 27 (tabC (nextT t) rv' lv) :: .row rv' 53 44 (n + 1) (recsV xs') :: R) := by
  have hst0 := hS
  have HO := hid ho
  have HOX := hid hx
  have HN := hid hn
  have HS := hid hs
  have HLX := hid hx.L
  have HLY := hid (idR_own hx t.next).L
  have H1 := hid (cellsR_ones ((hx.cons _ |>.cons _).In hst0))
  have z1 : IntKind.i64.wrap (t.next + 1) = t.next + 1 := IntWalk.i64_in _ (by omega)
  clear ho hx hn hs hS
  go_enter Tryz.func66, Tryz.ntmps66
  go_wp2_with (first | go_big_skip | go_big_guard | (refine wl_boxA hst0 rfl rfl rfl ?_; intro g3 w1 hst; clear hst0) | (refine wl_loadE rfl rfl rfl ?_; first | refine ⟨_, Loads.at [_] hst rfl, ?_⟩ | refine ⟨_, Loads.at [_] hst2 rfl, ?_⟩ | refine ⟨_, Loads.atA (cellsR (idR x t.next)) [] hst3 HLY.out (cellsR_all _), ?_⟩) | (refine wl_store [] hst rfl rfl rfl (off := 0) (v := .int .i64 t.next) rfl rfl rfl (by rw [HLX.out]; show (0 : Nat) + 1 ≤ 44; decide) ?_; intro w2 h4; have hst2 : St w0 M w2 (.blk g3 53 (cellsR (idR x t.next)) :: .blk gt 27 (tabC t (.slice ao n c) lv) :: .row (.slice ao n c) 53 44 n (recsV xs) :: R) := h4; clear h4 hst) | (refine wl_store [_] hst2 rfl rfl rfl (off := 0) (v := .int .i64 (t.next + 1)) rfl rfl rfl (by show (0 : Nat) + 1 ≤ 7; decide) ?_; intro w3 h4; have hst3 : St w0 M w3 (.blk g3 53 (cellsR (idR x t.next)) :: .blk gt 27 (tabC (nextT t) (.slice ao n c) lv) :: .row (.slice ao n c) 53 44 n (recsV xs) :: R) := h4; clear h4 hst2) | (go_at_call 78; refine (lay_any (R := R) gt (nextT t) ao n c lv xs (idR x t.next) (St.sub hst3 (.cons _ (List.Sublist.refl _))) HO.out (idR_own HOX.out _) HN.out HS.out hb).mono ?_; rintro _ w9 ⟨rv9, rfl, h4⟩; have hst4 := h4; clear h4 hst3))
  go_ret
  exact ⟨rv9, _, rfl, lay_map _ _, lay_own HO.out (idR_own HOX.out _) _, lay_roots rootH (idR x t.next) xs _, hst4⟩
theorem room_any {w0 w : World} {M : List Nat} {R : List HA} (gt : Nat) (t : TC) (ao : Option Addr) (n c : Nat) (lv : Value) (xs : List (Value × RC)) (nm : List UInt8) (hS : St w0 M w (.blk gt 27 (tabC t (.slice ao n c) lv) :: .row (.slice ao n c) 53 44 n (recsV xs) :: R)) (ho : OwnX R xs) (hn : xs.length = n) (he : xs.map (·.2) = t.recs) (hb : n ≤ 1000) :
    Calls Tryz.prog 65 #[.pointer (some ⟨gt, 0, none⟩), str nm] w fun e w' => e = .returned (.int .i64 (roomE t nm)) ∧ St w0 M w' (.blk gt 27 (tabC t (.slice ao n c) lv) :: .row (.slice ao n c) 53 44 n (recsV xs) :: R) := by
  have hst0 := hS
  have HO := hid ho
  have HN := hid hn
  obtain ⟨E, hE⟩ : ∃ E, E = roomE t nm := ⟨_, rfl⟩
  rw [← hE]
  have HEE := hid hE
  obtain ⟨⟨z, is⟩, hf⟩ : ∃ p, findP nm (xs.map (·.2)) = p := ⟨_, rfl⟩
  have HF := hid hf
  have hi : isAt nm t.recs = is := by rw [← findP_is, ← he, hf]
  have hl : (t.recs.length : Int) = n := by rw [← he, List.length_map, hn]
  have HL := hid hl
  have HI := hid hi
  clear ho hn hS hE hf hi he hl
  cases is
  · by_cases h1 : 16 ≤ n
    · have d1 : decide ((n : Int) ≥ 16) = true := decide_eq_true (by omega)
      have d2 : decide ((16 : Int) ≤ (n : Int)) = true := d1
      have HE := hid (show E = 8 by rw [HEE.out]; unfold roomE fullB; rw [HI.out, HL.out, d1]; rfl)
      go_enter Tryz.func65, Tryz.ntmps65
      go_wp2_with (first | go_big_skip | go_big_guard | (refine wl_loadE rfl rfl rfl ?_; first | refine ⟨_, Loads.atA (tabC t (.slice ao n c) lv) [] hst0 rfl rfl, ?_⟩ | refine ⟨_, Loads.at [] hst rfl, ?_⟩) | (go_at_call 57; refine (find_any t lv nm ao n c xs _ (recs_inL hst0 (.tail _ (.head _)) HN.out (HO.out.cons _ |>.cons _)) (by omega)).mono ?_; rw [HF.out]; rintro _ w9 ⟨rfl, h4⟩; have hst := St.call0 hst0 h4; clear h4 hst0))
      go_ret
      exact ⟨by rw [HE.out]; rfl, hst⟩
    · have d1 : decide ((n : Int) ≥ 16) = false := decide_eq_false (by omega)
      have d2 : decide ((16 : Int) ≤ (n : Int)) = false := d1
      by_cases h2 : t.next ≥ 2147483648
      · have d3 : decide (t.next ≥ 2147483648) = true := decide_eq_true h2
        have HE := hid (show E = 8 by rw [HEE.out]; unfold roomE fullB; rw [HI.out, HL.out, d1, d3]; rfl)
        have d4 : decide (2147483648 ≤ t.next) = true := d3
        go_enter Tryz.func65, Tryz.ntmps65
        go_wp2_with (first | go_big_skip | go_big_guard | (refine wl_loadE rfl rfl rfl ?_; first | refine ⟨_, Loads.atA (tabC t (.slice ao n c) lv) [] hst0 rfl rfl, ?_⟩ | refine ⟨_, Loads.at [] hst rfl, ?_⟩) | (go_at_call 57; refine (find_any t lv nm ao n c xs _ (recs_inL hst0 (.tail _ (.head _)) HN.out (HO.out.cons _ |>.cons _)) (by omega)).mono ?_; rw [HF.out]; rintro _ w9 ⟨rfl, h4⟩; have hst := St.call0 hst0 h4; clear h4 hst0))
        go_ret
        exact ⟨by rw [HE.out]; rfl, hst⟩
      · have d3 : decide (t.next ≥ 2147483648) = false := decide_eq_false h2
        have HE := hid (show E = 0 by rw [HEE.out]; unfold roomE fullB; rw [HI.out, HL.out, d1, d3]; rfl)
        have d4 : decide (2147483648 ≤ t.next) = false := d3
        go_enter Tryz.func65, Tryz.ntmps65
        go_wp2_with (first | go_big_skip | go_big_guard | (refine wl_loadE rfl rfl rfl ?_; first | refine ⟨_, Loads.atA (tabC t (.slice ao n c) lv) [] hst0 rfl rfl, ?_⟩ | refine ⟨_, Loads.at [] hst rfl, ?_⟩) | (go_at_call 57; refine (find_any t lv nm ao n c xs _ (recs_inL hst0 (.tail _ (.head _)) HN.out (HO.out.cons _ |>.cons _)) (by omega)).mono ?_; rw [HF.out]; rintro _ w9 ⟨rfl, h4⟩; have hst := St.call0 hst0 h4; clear h4 hst0))
        go_ret
        exact ⟨by rw [HE.out]; rfl, hst⟩
  · have HE := hid (show E = 7 by rw [HEE.out]; unfold roomE; rw [HI.out]; rfl)
    go_enter Tryz.func65, Tryz.ntmps65
    go_wp2_with (first | go_big_skip | go_big_guard | (refine wl_loadE rfl rfl rfl ?_; first | refine ⟨_, Loads.atA (tabC t (.slice ao n c) lv) [] hst0 rfl rfl, ?_⟩ | refine ⟨_, Loads.at [] hst rfl, ?_⟩) | (go_at_call 57; refine (find_any t lv nm ao n c xs _ (recs_inL hst0 (.tail _ (.head _)) HN.out (HO.out.cons _ |>.cons _)) (by omega)).mono ?_; rw [HF.out]; rintro _ w9 ⟨rfl, h4⟩; have hst := St.call0 hst0 h4; clear h4 hst0))
    go_ret
    exact ⟨by rw [HE.out]; rfl, hst⟩
end Go.Proofs.YtifajcblbedcoaaGreat
namespace Go.Proofs.YtifajcblbedcoaaGreat
set_option linter.unusedVariables false
set_option linter.unusedSimpArgs false
open Go.RowKit Hp
attribute [local irreducible] Go.Calls
set_option maxHeartbeats 4000000
theorem results_cellTmp {fn : Func} {p q : Tmp} {ty : TypeId} {tmps : Array Value} {P : Program} {w : World} {A : Addr} {v : Value} (h : fn.results = #[.cell p ty, .tmp q]) (hp : tmps.getD p undef = .pointer (some A)) (hl : Loads P w ty A v) :
    (results fn tmps).run P w = .ok (.tuple #[v, tmps.getD q undef]) w := by
  have hl' : (loadVar ty A).run P w = .ok v w := hl
  have hp' : tmps[p]?.getD undef = .pointer (some A) := by simpa using hp
  simp [results, h, hp', asAddr, hl', Sem.run_bind]
theorem zN_ln (lv : Int) : (zN lv).Ln := (zN_in lv default).ln
theorem zN_ones (lv : Int) : (zN lv).cells.all (·.oneCell') = true := by
  have : (zN lv).cells = .int .i64 lv :: (zN 0).cells.tail := rfl
  rw [this, List.all_cons]
  rfl
theorem zN_get (lv : Int) : ∀ j, (zN lv).get j = zP
  | 0 => rfl
  | 1 => rfl
  | 2 => rfl
  | _ + 3 => rfl
end Go.Proofs.YtifajcblbedcoaaGreat
namespace Go.Proofs.YtifajcblbedcoaaGreat
set_option linter.unusedVariables false
set_option linter.unusedSimpArgs false
open Go.RowKit Hp
attribute [local irreducible] Go.Calls
set_option maxHeartbeats 4000000
/-- y is x with address lists of its own (rows of R) for the first k pointers. -/
def NV.isO (E : TypeId) (y x : NV) (R : List HA) (k : Nat) : Prop := ∀ j, j < k → (y.get j).eqd (x.get j) ∧ ∃ ao n c, (y.get j).sv = .slice ao n c ∧ HA.row (.slice ao n c) E 2 n (addrsV (y.get j).l) ∈ R ∧ (y.get j).l.length = n
def ownOut (x : NV) (w : World) (E : TypeId) (e : Ending) (w' : World) : Prop :=
  ∃ (y : NV) (R : List HA), e = .returned (.agg y.cells.toArray) ∧ St w [] w' R ∧ y.lv = x.lv ∧ y.isO E x R 4
theorem put_sv {x : NV} (h : x.Ln) {k : Nat} (hk : k < 4) (v : Value) : putAt x.cells (1 + k * 35) [v] = (x.set k { x.get k with sv := v }).cells := by
  have h0 : x.p0.cells.length = 35 := PV.len (h 0)
  have h1 : x.p1.cells.length = 35 := PV.len (h 1)
  have h2 : x.p2.cells.length = 35 := PV.len (h 2)
  have go : ∀ (a c : List Value) (s : Value) (n : Nat) (X Y : List Value), X = a ++ ([s] ++ c) → Y = a ++ ([v] ++ c) → n = a.length → putAt X n [v] = Y := by
    intro a c s n X Y e1 e2 e3
    rw [e1, e2]
    exact put_at a [s] c [v] rfl e3
  obtain rfl | rfl | rfl | rfl : k = 0 ∨ k = 1 ∨ k = 2 ∨ k = 3 := by omega
  · exact go [.int .i64 x.lv] (x.p0.cells.tail ++ (x.p1.cells ++ (x.p2.cells ++ x.p3.cells))) x.p0.sv _ _ _ rfl rfl rfl
  · exact go (.int .i64 x.lv :: x.p0.cells) (x.p1.cells.tail ++ (x.p2.cells ++ x.p3.cells)) x.p1.sv _ _ _ rfl rfl (by simp [h0])
  · refine go (.int .i64 x.lv :: (x.p0.cells ++ x.p1.cells)) (x.p2.cells.tail ++ x.p3.cells) x.p2.sv _ _ _ ?_ ?_ (by simp [h0, h1])
    · rw [List.cons_append, List.append_assoc]; rfl
    · rw [List.cons_append, List.append_assoc]; rfl
  · refine go (.int .i64 x.lv :: (x.p0.cells ++ (x.p1.cells ++ x.p2.cells))) x.p3.cells.tail x.p3.sv _ _ _ ?_ ?_ (by simp [h0, h1, h2])
    · rw [List.cons_append, List.append_assoc, List.append_assoc]; rfl
    · rw [List.cons_append, List.append_assoc, List.append_assoc]; rfl
theorem set_ln {y : NV} (h : y.Ln) {k : Nat} (hk : k < 4) {p : PV} (hp : L32 p.S) : ∀ j, L32 ((y.set k p).get j).S := by
  have main : ∀ j, j < 4 → L32 ((y.set k p).get j).S := by
    intro j hj
    by_cases e : j = k
    · subst e; rw [NV.get_set_same y hk]; exact hp
    · rw [NV.get_set_other y hk hj e]; exact h j
  intro j
  match j with
  | 0 => exact main 0 (by omega)
  | 1 => exact main 1 (by omega)
  | 2 => exact main 2 (by omega)
  | _ + 3 => exact main 3 (by omega)
theorem PV.ones_of {p : PV} {ao : Option Addr} {n c : Nat} (h : p.sv = .slice ao n c) : p.cells.all (·.oneCell') = true := by
  rw [PV.cells, h]
  exact ptr_ones _ _ _ _ _ _
theorem NV.isO.ones {E : TypeId} {y x : NV} {R : List HA} (h : y.isO E x R 4) (_hl : y.lv = x.lv) : y.cells.all (·.oneCell') = true := by
  have g : ∀ j, j < 4 → (y.get j).cells.all (·.oneCell') = true := fun j hj => by
    obtain ⟨_, ao, n, c, h2, _⟩ := h j hj
    exact PV.ones_of h2
  have h0 : y.p0.cells.all (·.oneCell') = true := g 0 (by omega)
  have h1 : y.p1.cells.all (·.oneCell') = true := g 1 (by omega)
  have h2 : y.p2.cells.all (·.oneCell') = true := g 2 (by omega)
  have h3 : y.p3.cells.all (·.oneCell') = true := g 3 (by omega)
  rw [NV.cells, List.all_cons, List.all_append, List.all_append, List.all_append, h0, h1, h2, h3]
  rfl
theorem addrs_ones (l : List (Int × Int)) : (addrsV l).all (·.oneCell') = true := by
  induction l with
  | nil => rfl
  | cons a l ih =>
    rw [addrsV, List.all_cons, List.all_cons, ih]
    rfl
end Go.Proofs.YtifajcblbedcoaaGreat
namespace Go.Proofs.YtifajcblbedcoaaGreat
set_option linter.unusedVariables false
set_option linter.unusedSimpArgs false
open Go.RowKit Hp
attribute [local irreducible] Go.Calls
set_option maxHeartbeats 4000000
set_option maxRecDepth 100000
theorem xor_u8 (x y : UInt8) : bits .xor .u8 (x.toNat : Int) (y.toNat : Int) = ((x ^^^ y).toNat : Int) := by
  have hx := x.toNat_lt
  have hy := y.toNat_lt
  have h : x.toNat ^^^ y.toNat < 2 ^ 8 := Nat.xor_lt_two_pow hx hy
  have e : (BitVec.ofInt 8 (x.toNat : Int) ^^^ BitVec.ofInt 8 (y.toNat : Int)).toNat = x.toNat ^^^ y.toNat := by
    rw [BitVec.toNat_xor, BitVec.ofInt_natCast, BitVec.ofInt_natCast, BitVec.toNat_ofNat, BitVec.toNat_ofNat, Nat.mod_eq_of_lt (by omega), Nat.mod_eq_of_lt (by omega)]
  show IntKind.u8.wrap ((BitVec.ofInt 8 (x.toNat : Int) ^^^ BitVec.ofInt 8 (y.toNat : Int)).toNat : Int) = _
  rw [e, UInt8.toNat_xor]
  show ((x.toNat ^^^ y.toNat : Nat) : Int) % 256 = _
  omega
/-- p with other addresses' slice. -/
abbrev PV.re (p : PV) (s : Value) : PV := ⟨s, p.l, p.b, p.v, p.S⟩
theorem copyPtr_any (p : PV) (w : World) (hp : p.In w) (hl : p.l.length ≤ 100000) : Calls Tryz.prog 10 #[.agg p.cells.toArray] w fun e w' =>
    ∃ ao n c, e = .returned (.agg (PV.cells (p.re (.slice ao n c))).toArray) ∧ St w [] w' [.row (.slice ao n c) 102 2 n (addrsV p.l)] ∧ p.l.length = n := by
  have hst := St.refl w
  have hS := hp.1
  obtain ⟨_, ao, n, c, h2, h3, h4⟩ := hp
  have hPL := hid (PV.len (p := p) hS)
  have H2 := hid h2
  have hn : n ≤ 100000 := by rw [← h4]; exact hl
  have H4 := hid h4
  have hRd := hid h3
  have hat := hid (show p.cells[0]? = some (.slice ao n c) by rw [PV.cells, h2]; rfl)
  clear h2 h3 h4 hl
  go_enter Tryz.func10, Tryz.ntmps10
  go_wp2_with (first | go_big_skip | go_big_guard | (refine wl_boxA hst rfl rfl rfl ?_; intro g w1 hst1; clear hst) | (refine wl_alloc hst1 rfl rfl ?_; intro g2 w2 hst2; clear hst1) | (apply wl_bsX [] [] hst2; rfl; rfl; exact rfl; exact rfl; infer_instance; infer_instance; rfl; rfl; rfl; intro g3 w3 hst3; clear hst2; have hst4 := St.toRow (n := 0) (cap := 0) (sz := 2) hst3 rfl (by decide) (by decide); clear hst3) | (refine wl_loadE rfl rfl rfl ?_; refine ⟨_, Loads.at (off := 0) [_, _] hst4 hat.out, ?_⟩) | (apply wl_appX [] hst4; rfl; rfl; exact rfl; exact rfl; infer_instance; infer_instance; infer_instance; exact Rd.old hst4 hRd.out; exact addrs_ones _; (unfold maxLen; omega); intro v9 w9 hst9 _; clear hst4; obtain ⟨ao9, c9, rfl⟩ := St.rowSliceAt [] hst9; rw [Nat.zero_add] at hst9) | (refine wl_store [_, _] hst9 rfl rfl rfl (v := .slice _ _ _) rfl rfl rfl (by show _ + 1 ≤ _; rw [hPL.out]; omega) ?_; intro w10 hst10; clear hst9; have hst11 : St w [] w10 [.row (.slice ao9 n c9) 102 2 n (addrsV p.l), .blk g2 32 (ptrCells (.slice none 0 0) 0 0 nones), .blk g 32 (PV.cells (p.re (.slice ao9 n c9)))] := hst10; clear hst10) | (refine wl_loadE rfl rfl rfl ?_; first | refine ⟨_, Loads.atA (PV.cells (p.re (.slice ao9 n c9))) [_, _] hst11 (PV.len (p := p.re (.slice ao9 n c9)) hS) (by simp), ?_⟩) | (refine wl_storeA [_] hst11 rfl rfl rfl rfl (PV.len (p := p.re (.slice ao9 n c9)) hS) (PV.ones_of (p := p.re (.slice ao9 n c9)) rfl) rfl ?_; intro w12 hst12; clear hst11))
  have hl := Loads.atA (P := Tryz.prog) (off := 0) (T := 32) (PV.cells (p.re (.slice ao9 n c9))) [_] hst12 (PV.len (p := p.re (.slice ao9 n c9)) hS) (by simp)
  refine bodyPost_ret (results_cellL rfl rfl hl) rfl ?_
  exact ⟨ao9, n, c9, rfl, hst12.sub (.cons_cons _ (List.nil_sublist _)), H4.out⟩
def overB (l : List UInt8) : List UInt8 := l.map (· ^^^ 90)
theorem over_step (bs : List UInt8) {k : Nat} (hk : k < bs.length) (x : UInt8) (hx : x = bs.getD k 0) : putAt (bytesV (overB (bs.take k) ++ bs.drop k)) k [.int .u8 ((x ^^^ 90).toNat : Int)] = bytesV (overB (bs.take (k + 1)) ++ bs.drop (k + 1)) := by
  have e : bs.drop k = bs.getD k 0 :: bs.drop (k + 1) := by rw [List.drop_eq_getElem_cons hk]; simp [List.getD, hk]
  have e2 : bs.take (k + 1) = bs.take k ++ [bs.getD k 0] := by rw [List.take_succ_eq_append_getElem hk]; simp [List.getD, hk]
  have hl : (bytesV (overB (bs.take k))).length = k := by simp [overB]; omega
  rw [e2, bytesV_append]
  have := put_at (bytesV (overB (bs.take k))) (bytesV [bs.getD k 0]) (bytesV (bs.drop (k + 1))) [.int .u8 ((x ^^^ 90).toNat : Int)] rfl hl.symm
  rw [e]
  have h3 : bytesV (bs.getD k 0 :: bs.drop (k + 1)) = bytesV [bs.getD k 0] ++ bytesV (bs.drop (k + 1)) := by simp [bytesV]
  rw [h3, this]
  simp [overB, bytesV, hx]
theorem over_get (bs : List UInt8) {k : Nat} (hk : k < bs.length) : (bytesV (overB (bs.take k) ++ bs.drop k))[k]? = some (.int .u8 ((bs.getD k 0).toNat : Int)) := by
  have hl : (overB (bs.take k)).length = k := by simp [overB]; omega
  rw [bytesV, List.getElem?_map, List.getElem?_append_right (by omega), hl, Nat.sub_self, List.getElem?_drop]
  simp [List.getD, hk]
theorem over_addrs (ao : Option Addr) (n c : Nat) (xs : List Value) (w : World) (hv : w.ownsRow 0 102 2 (.slice ao n c) n xs) :
    Calls Tryz.prog 45 #[.slice ao n c] w fun e w' => ∃ ys, e = .returned (.tuple #[]) ∧ St w (Value.slice ao n c).ownBlock.toList w' [.row (.slice ao n c) 102 2 n ys] := by
  have hst := St.ofRow w hv
  obtain ⟨hl, ho⟩ := hv
  rcases ho with ⟨he, rfl⟩ | ⟨g, cap, cur, he, hg0, hg, hnc, hcm, hcs, htake⟩
  · cases he
    go_enter Tryz.func45, Tryz.ntmps45
    go_wp2_with (first | go_big_skip | go_big_guard | fail)
    go_loopw [2] (fun i wr => i = .int .i64 0 ∧ St w (Value.slice none 0 0).ownBlock.toList wr [.row (.slice none 0 0) 102 2 0 xs]) (fun i _ => 0)
    case atStart => exact ⟨rfl, hst⟩
    case round =>
      clear hst
      obtain ⟨rfl, hst⟩ := hrel
      go_wp2_with (first | go_big_skip | go_big_guard | fail)
      go_end0
      exact ⟨xs, rfl, hst⟩
  · cases he
    have hst2 := St.one w g 102 cur.toList hg
    have hc2 : cur.toList.length = c * 2 := by simpa using hcs
    have hcb : c ≤ 9223372036854775807 := hcm
    clear hg hl htake hst hcs hcm
    have Hc2 := hid hc2; clear hc2
    go_enter Tryz.func45, Tryz.ntmps45
    go_wp2_with (first | go_big_skip | go_big_guard | fail)
    go_loopw [2] (fun i wr => ∃ k : Nat, k ≤ n ∧ i = .int .i64 k ∧ ∃ cs : List Value, Hid (cs.length = c * 2) ∧ St w [g] wr [.blk g 102 cs]) (fun i _ => n - (intOf i).toNat)
    case atStart => exact ⟨0, by omega, rfl, _, Hc2, hst2⟩
    case round =>
      clear hst2 Hc2
      obtain ⟨k, hk, rfl, cs, hcl, hst⟩ := hrel
      by_cases hlt : k < n
      · go_wp2_with (first | go_big_skip | go_big_guard | (refine wl_buildS (cs := [.int .i64 (-7), .int .i64 (-7)]) rfl rfl (by kernel_rfl) ?_) | (refine wl_index rfl rfl rfl rfl hlt ?_) | (refine wl_store [] hst rfl rfl rfl (v := .agg (List.toArray _)) rfl rfl rfl (by rw [hcl.out]; simp [Value.cells]; omega) ?_; intro w5 hst4; clear hst))
        have hl4 := hid (show (putAt cs (0 + k * 2) [.int .i64 (-7), .int .i64 (-7)]).length = c * 2 by
          have := hcl.out
          simp [putAt]; omega)
        have hst5 : St w [g] w5 [.blk g 102 (putAt cs (0 + k * 2) [.int .i64 (-7), .int .i64 (-7)])] := hst4
        clear hst4
        go_roundw
        case rel => exact ⟨k + 1, by omega, by go_num, _, hl4, hst5⟩
        case measure => simp [intOf]; omega
      · have e : k = n := by omega
        subst e
        go_wp2_with (first | go_big_skip | go_big_guard | fail)
        go_end0
        exact ⟨_, rfl, hst.toRow hcl.out hnc hcb⟩
end Go.Proofs.YtifajcblbedcoaaGreat
namespace Go.Proofs.YtifajcblbedcoaaGreat
set_option linter.unusedVariables false
set_option linter.unusedSimpArgs false
open Go.RowKit Hp
attribute [local irreducible] Go.Calls Go.wpList Hp.gvV Hp.gB Hp.gA Hp.bOr Hp.bAnd Hp.bNot
set_option maxRecDepth 100000
set_option maxHeartbeats 8000000
theorem sized_any (n : Int) (w : World) : Calls Tryz.prog 63 #[.int .i64 n] w fun e w' => e = .returned (.bool (inB n 1 64)) ∧ St w [] w' [] := by
  have hst := St.refl w
  unfold inB
  by_cases h1 : 1 ≤ n
  · have d1 : decide (n ≥ 1) = true := decide_eq_true h1
    have d2 : decide (1 ≤ n) = true := d1
    rw [d2]
    clear h1
    go_enter Tryz.func63, Tryz.ntmps63
    go_wp2_with (first | go_big_skip | go_big_guard | fail)
    go_ret
    exact ⟨rfl, hst⟩
  · have d1 : decide (n ≥ 1) = false := decide_eq_false h1
    have d2 : decide (1 ≤ n) = false := d1
    rw [d2]
    clear h1
    go_enter Tryz.func63, Tryz.ntmps63
    go_wp2_with (first | go_big_skip | go_big_guard | fail)
    go_ret
    exact ⟨rfl, hst⟩
theorem commit_any (n : Int) (w : World) : Calls Tryz.prog 64 #[.int .i64 n] w fun e w' => e = .returned (.bool (txgB n)) ∧ St w [] w' [] := by
  have hst := St.refl w
  unfold txgB inB
  by_cases h1 : 1 ≤ n
  · have d1 : decide (n ≥ 1) = true := decide_eq_true h1
    have d2 : decide (1 ≤ n) = true := d1
    rw [d2]
    clear h1
    go_enter Tryz.func64, Tryz.ntmps64
    go_wp2_with (first | go_big_skip | go_big_guard | fail)
    go_ret
    exact ⟨rfl, hst⟩
  · have d1 : decide (n ≥ 1) = false := decide_eq_false h1
    have d2 : decide (1 ≤ n) = false := d1
    rw [d2]
    clear h1
    go_enter Tryz.func64, Tryz.ntmps64
    go_wp2_with (first | go_big_skip | go_big_guard | fail)
    go_ret
    exact ⟨rfl, hst⟩
theorem limit13_any (n : Int) (w : World) : Calls Tryz.prog 81 #[.int .i64 n] w fun e w' => e = .returned (.bool (limB n)) ∧ St w [] w' [] := by
  have hst := St.refl w
  unfold limB inB
  by_cases h1 : 0 ≤ n
  · have d1 : decide (n ≥ 0) = true := decide_eq_true h1
    have d2 : decide (0 ≤ n) = true := d1
    rw [d2]
    clear h1
    go_enter Tryz.func81, Tryz.ntmps81
    go_wp2_with (first | go_big_skip | go_big_guard | fail)
    go_ret
    exact ⟨rfl, hst⟩
  · have d1 : decide (n ≥ 0) = false := decide_eq_false h1
    have d2 : decide (0 ≤ n) = false := d1
    rw [d2]
    clear h1
    go_enter Tryz.func81, Tryz.ntmps81
    go_wp2_with (first | go_big_skip | go_big_guard | fail)
    go_ret
    exact ⟨rfl, hst⟩
theorem named_any (nm : List UInt8) (w : World) (hl : nm.length ≤ 9223372036854775807) : Calls Tryz.prog 56 #[str nm] w fun e w' => e = .returned (.bool (namedB nm)) ∧ St w [] w' [] := by
  have hst := St.refl w
  have HL := hid hl
  unfold namedB
  obtain ⟨a, ha⟩ : ∃ a, a = partB nm := ⟨_, rfl⟩
  obtain ⟨b, hb⟩ : ∃ b, b = snapB nm := ⟨_, rfl⟩
  rw [← ha, ← hb]
  have HA := hid ha
  have HB := hid hb
  clear ha hb hl
  cases a
  all_goals
    go_enter Tryz.func56, Tryz.ntmps56
    go_wp2_with (first | go_big_skip | go_big_guard | (go_at_call 62; refine (volume_any nm _ HL.out).mono ?_; rw [← HA.out]; rintro _ w9 ⟨rfl, h4⟩; replace hst := St.call0 hst h4; clear h4) | (go_at_call 71; refine (snap_any nm _ HL.out).mono ?_; rw [← HB.out]; rintro _ w9 ⟨rfl, h4⟩; replace hst := St.call0 hst h4; clear h4))
    go_ret
    exact ⟨rfl, hst⟩
theorem ownP_any (p : PV) (w : World) (hp : p.In w) (hl : p.l.length ≤ 100000) : Calls Tryz.prog 69 #[.agg p.cells.toArray] w fun e w' =>
    ∃ ao n c, e = .returned (.agg (PV.cells (p.re (.slice ao n c))).toArray) ∧ St w [] w' [.row (.slice ao n c) 102 2 n (addrsV p.l)] ∧ p.l.length = n := by
  have hst := St.refl w
  have hS := hp.1
  obtain ⟨_, ao, n, c, h2, h3, h4⟩ := hp
  have hPL := hid (PV.len (p := p) hS)
  have H2 := hid h2
  have hn : n ≤ 100000 := by rw [← h4]; exact hl
  have H4 := hid h4
  have hRd := hid h3
  have hat := hid (show p.cells[0]? = some (.slice ao n c) by rw [PV.cells, h2]; rfl)
  clear h2 h3 h4 hl
  go_enter Tryz.func69, Tryz.ntmps69
  go_wp2_with (first | go_big_skip | go_big_guard | (refine wl_boxA hst rfl rfl rfl ?_; intro g w1 hst1; clear hst) | (refine wl_alloc hst1 rfl rfl ?_; intro g2 w2 hst2; clear hst1) | (refine wl_loadE rfl rfl rfl ?_; first | refine ⟨_, Loads.at (off := 0) [_] hst2 hat.out, ?_⟩ | refine ⟨_, Loads.atA (PV.cells (p.re (.slice ao9 n c9))) [_, _] hst11 (PV.len (p := p.re (.slice ao9 n c9)) hS) (by simp), ?_⟩) | (go_at_call 113; refine (cloneA_any ao n c _ _ (Rd.old hst2 hRd.out) (addrs_ones _) hn).mono ?_; rintro _ w9 ⟨v9, rfl, h4⟩; have hst9 := St.call hst2 h4; clear h4 hst2; obtain ⟨ao9, c9, rfl, _, _⟩ := rowS [] hst9) | (refine wl_store [_, _] hst9 rfl rfl rfl (v := .slice _ _ _) rfl rfl rfl (by show _ + 1 ≤ _; rw [hPL.out]; omega) ?_; intro w10 hst10; clear hst9; have hst11 : St w [] w10 [.row (.slice ao9 n c9) 102 2 n (addrsV p.l), .blk g2 32 (ptrCells (.slice none 0 0) 0 0 nones), .blk g 32 (PV.cells (p.re (.slice ao9 n c9)))] := hst10; clear hst10) | (refine wl_storeA [_] hst11 rfl rfl rfl rfl (PV.len (p := p.re (.slice ao9 n c9)) hS) (PV.ones_of (p := p.re (.slice ao9 n c9)) rfl) rfl ?_; intro w12 hst12; clear hst11))
  have hl := Loads.atA (P := Tryz.prog) (off := 0) (T := 32) (PV.cells (p.re (.slice ao9 n c9))) [_] hst12 (PV.len (p := p.re (.slice ao9 n c9)) hS) (by simp)
  refine bodyPost_ret (results_cellL rfl rfl hl) rfl ?_
  exact ⟨ao9, n, c9, rfl, hst12.sub (.cons_cons _ (List.nil_sublist _)), H4.out⟩
theorem split_lenG (l : List UInt8) : (splitL l).1.length ≤ l.length ∧ (splitL l).2.1.length ≤ l.length := by
  unfold splitL
  split
  · exact cutL_len l
  · simp
theorem alike13_any (a b : List UInt8) (w : World) (ha : a.length ≤ 9223372036854775807) (hb : b.length ≤ 9223372036854775807) : Calls Tryz.prog 76 #[str a, str b] w fun e w' => e = .returned (.bool (alikeB a b)) ∧ St w [] w' [] := by
  have hst := St.refl w
  have HLA := hid ha
  have HLB := hid hb
  clear ha hb
  obtain ⟨E, hE⟩ : ∃ E, E = alikeB a b := ⟨_, rfl⟩
  rw [← hE]
  obtain ⟨p, hp⟩ : ∃ p, partB a = p := ⟨_, rfl⟩
  obtain ⟨q, hq⟩ : ∃ q, partB b = q := ⟨_, rfl⟩
  obtain ⟨⟨v, u, f⟩, hx⟩ : ∃ p, splitL a = p := ⟨_, rfl⟩
  obtain ⟨⟨v', u', f'⟩, hy⟩ : ∃ p, splitL b = p := ⟨_, rfl⟩
  obtain ⟨s, hs⟩ : ∃ s, (v == v') = s := ⟨_, rfl⟩
  have hE2 : E = ((p && q) || ((f && f') && s)) := by rw [hE]; unfold alikeB; rw [hp, hq, hx, hy, ← hs]
  rw [hE2]
  have HP := hid hp
  have HQ := hid hq
  have HX := hid hx
  have HY := hid hy
  have HS := hid hs
  clear hE hE2 hp hq hx hy hs
  cases p <;> cases q <;> cases f <;> cases f'
  all_goals
    go_enter Tryz.func76, Tryz.ntmps76
    go_wp2_with (first | go_big_skip | go_big_guard | (go_at_call 68; first | (refine (split_any a _ HLA.out).mono ?_; rw [HX.out]; rintro _ w9 ⟨rfl, h4⟩; replace hst := St.call0 hst h4; clear h4) | (refine (split_any b _ HLB.out).mono ?_; rw [HY.out]; rintro _ w9 ⟨rfl, h4⟩; replace hst := St.call0 hst h4; clear h4)) | (go_at_call 62; first | (refine (volume_any a _ HLA.out).mono ?_; rw [HP.out]; rintro _ w9 ⟨rfl, h4⟩; replace hst := St.call0 hst h4; clear h4) | (refine (volume_any b _ HLB.out).mono ?_; rw [HQ.out]; rintro _ w9 ⟨rfl, h4⟩; replace hst := St.call0 hst h4; clear h4)) | (refine wl_eqS rfl rfl rfl rfl ?_; rw [HS.out]))
    go_ret
    exact ⟨by first | rfl | (rw [← HS.out]; rfl) | (cases s <;> rfl), hst⟩
theorem containsR_any (fn g : Nat) (p : RC → Bool) (ao : Option Addr) (n c : Nat) (xs : List (Value × RC)) (w : World) (hfn : ∀ (a : Array Value) (w : World), (callFunc fn a).run Tryz.prog w = .ok (.enter fn a) w)
    (hcl : ∀ (x : Value × RC) (w' : World), x ∈ xs → St w [] w' [] → Calls Tryz.prog fn #[.agg (cellsR x).toArray, .pointer (some ⟨g, 0, none⟩)] w' fun e w2 => e = .returned (.bool (p x.2)) ∧ St w' [] w2 []) (hl : RecsIn w (.slice ao n c) n xs) (hb : n ≤ 1000000) :
    Calls Tryz.prog 58 #[.slice ao n c, capV fn g] w fun e w' => e = .returned (.bool ((xs.map (·.2)).any p)) ∧ St w [] w' [] := by
  have hst := St.refl w
  have HC := hid (indexR_any fn g p ao n c xs w hfn hcl hl hb)
  rw [← idxI_any]
  obtain ⟨i, hi⟩ : ∃ i, i = idxI p (xs.map (·.2)) := ⟨_, rfl⟩
  rw [← hi] at HC ⊢
  clear hi hcl hl
  unfold capV at HC ⊢
  go_enter Tryz.func58, Tryz.ntmps58
  go_wp2_with (first | go_big_skip | go_big_guard | (go_at_call 107; refine HC.out.mono ?_; rintro _ w9 ⟨rfl, h4⟩; replace hst := St.call0 hst h4; clear h4))
  go_ret
  exact ⟨rfl, hst⟩
end Go.Proofs.YtifajcblbedcoaaGreat
namespace Go.Proofs.YtifajcblbedcoaaGreat
set_option linter.unusedVariables false
set_option linter.unusedSimpArgs false
open Go.RowKit Hp
attribute [local irreducible] Go.Calls Go.wpList
set_option maxRecDepth 100000
set_option maxHeartbeats 8000000
attribute [local go_sem ↓] heldInt heldInts heldRecs heldRec heldStr heldTab
theorem cells_slot (x : Value × RC) : (cellsR x)[4]? = some x.1 := rfl
def LX (xs : List (Value × RC)) : Prop := ∀ x ∈ xs, L32 x.2.S
theorem OwnX.LX {L : List HA} {xs : List (Value × RC)} (h : OwnX L xs) : LX xs := fun x hx => (h x hx).2.1
theorem recsV_lenL {xs : List (Value × RC)} (h : LX xs) : (recsV xs).length = xs.length * 44 := by
  induction xs with
  | nil => rfl
  | cons x xs ih =>
    show (cellsR x ++ recsV xs).length = _
    rw [List.length_append, cellsR_len (h x (.head _)), ih (fun y hy => h y (.tail _ hy)), List.length_cons]
    omega
theorem recsV_takeL {xs : List (Value × RC)} (h : LX xs) {k : Nat} (hk : k ≤ xs.length) : (recsV xs).take (k * 44) = recsV (xs.take k) ∧ (recsV xs).drop (k * 44) = recsV (xs.drop k) := by
  have e : recsV xs = recsV (xs.take k) ++ recsV (xs.drop k) := by rw [← recsV_append, List.take_append_drop]
  have hl : (recsV (xs.take k)).length = k * 44 := by
    rw [recsV_lenL (fun x hx => h x (List.mem_of_mem_take hx)), List.length_take, Nat.min_eq_left hk]
  rw [e, ← hl, List.take_left, List.drop_left]
  exact ⟨rfl, rfl⟩
theorem recsV_at {xs : List (Value × RC)} (h : LX xs) {k : Nat} {x : Value × RC} (hx : xs[k]? = some x) {d : Nat} {v : Value} (hd : (cellsR x)[d]? = some v) : (recsV xs)[k * 44 + d]? = some v := by
  have hlt := (List.getElem?_eq_some_iff.1 hx).1
  obtain ⟨h1, h2⟩ := recsV_takeL h (k := k) (by omega)
  have h3 : (recsV xs).drop (k * 44) = cellsR x ++ recsV (xs.drop (k + 1)) := by
    rw [h2, List.drop_eq_getElem_cons hlt]
    have : xs[k] = x := (List.getElem?_eq_some_iff.1 hx).2
    rw [this]
    rfl
  have h4 : ((recsV xs).drop (k * 44))[d]? = some v := by
    rw [h3, List.getElem?_append_left (List.getElem?_eq_some_iff.1 hd).1]
    exact hd
  rwa [List.getElem?_drop] at h4
/-- A cell of an element is written. -/
theorem recsV_put {xs : List (Value × RC)} (h : LX xs) {k : Nat} {x y : Value × RC} (hx : xs[k]? = some x) {d : Nat} {vs : List Value} (hd : d + vs.length ≤ 44) (hy : putAt (cellsR x) d vs = cellsR y) : putAt (recsV xs) (k * 44 + d) vs = recsV (xs.set k y) := by
  have hlt := (List.getElem?_eq_some_iff.1 hx).1
  have hxk : xs[k] = x := (List.getElem?_eq_some_iff.1 hx).2
  have hX := cellsR_len (h x (List.mem_of_getElem? hx))
  obtain ⟨h1, h2⟩ := recsV_takeL h (k := k) (by omega)
  have e1 : recsV xs = recsV (xs.take k) ++ (cellsR x ++ recsV (xs.drop (k + 1))) := by
    have : recsV (xs.drop k) = cellsR x ++ recsV (xs.drop (k + 1)) := by rw [List.drop_eq_getElem_cons hlt, hxk]; rfl
    rw [← this, ← recsV_append, List.take_append_drop]
  have hl : (recsV (xs.take k)).length = k * 44 := by rw [← h1, List.length_take, recsV_lenL h]; omega
  have e2 : xs.set k y = xs.take k ++ y :: xs.drop (k + 1) := by rw [List.set_eq_take_append_cons_drop, if_pos hlt]
  rw [e2, recsV_append, e1]
  have e3 : recsV (y :: xs.drop (k + 1)) = cellsR y ++ recsV (xs.drop (k + 1)) := rfl
  rw [e3, ← hy]
  unfold putAt
  rw [← hl, List.take_length_add_append, List.append_assoc, Nat.add_assoc, List.drop_length_add_append, List.take_append_of_le_length (by rw [hX]; omega), List.drop_append_of_le_length (by rw [hX]; omega)]
  simp only [List.append_assoc]
theorem ownC_any {w0 w : World} {M : List Nat} {R : List HA} (g n c k m cc : Nat) (ao : Option Addr) (C ads : List Value) (hS : St w0 M w (.row (.slice (some ⟨g, 0, none⟩) n c) 53 44 n C :: R)) (hk : k < n) (hv : C[k * 44 + 4]? = some (.slice ao m cc)) (hR : Rd w (.slice ao m cc) 2 m ads) (h1 : ads.all (·.oneCell') = true) (hb : m ≤ 100000) :
    Calls Tryz.prog 112 #[.pointer (some ⟨g, k * 44, none⟩)] w fun e w' => ∃ (a6 : Option Addr) (c6 : Nat), e = .returned (.tuple #[]) ∧ St w0 M w' (.row (.slice (some ⟨g, 0, none⟩) n c) 53 44 n (putAt C (k * 44 + 4) [.slice a6 m c6]) :: .row (.slice a6 m c6) 102 2 m ads :: R) := by
  have hst0 := hS
  have HV := hid hv
  have HR := hid hR
  have H1 := hid h1
  clear hS hv hR h1
  go_enter Tryz.func112, Tryz.ntmps112
  go_wp2_with (first | go_big_skip | go_big_guard | (refine wl_loadE rfl rfl rfl ?_; refine ⟨_, Loads.inRow hst0 (.head _) HV.out, ?_⟩) | (go_at_call 113; refine (cloneA_any ao m cc _ _ HR.out H1.out hb).mono ?_; rintro _ w9 ⟨v9, rfl, h4⟩; have hst := St.call hst0 h4; clear h4 hst0; obtain ⟨a6, c6, rfl, _, _⟩ := rowS [] hst) | (refine wl_storeRow1 [_] hst rfl rfl rfl rfl (v := .slice a6 m c6) rfl rfl (by omega) (by omega) ?_; intro w7 hst2; clear hst))
  go_end0
  exact ⟨rfl, a6, c6, St.perm hst2 (.swap _ _ _)⟩
theorem each_any (ao : Option Addr) (n c : Nat) (xs : List (Value × RC)) (w : World) (hl : RecsIn w (.slice ao n c) n xs) (hn : n ≤ 1000) (ha : ∀ x ∈ xs, x.2.l.length ≤ 100000 ∧ x.2.name.length ≤ 1000000) :
    Calls Tryz.prog 111 #[.slice ao n c, .func (.func 112) #[] #[]] w fun e w' => ∃ (rv : Value) (ys : List (Value × RC)), e = .returned rv ∧ ys.map (·.2) = xs.map (·.2) ∧ (∀ y ∈ ys, L32 y.2.S ∧ y.2.name.length ≤ 1000000) ∧ St w [] w' (.row rv 53 44 n (recsV ys) :: rootRows 102 ys) := by
  have hst0 := St.refl w
  have HL := hid hl
  have HA := hid ha
  have HLX : Hid (LX xs) := hid (fun x hx => (hl.each x hx).L)
  have HN := hid hl.len
  have H1 : Hid ((recsV xs).all (·.oneCell') = true) := hid (by
    rw [recsV, List.all_flatMap, List.all_eq_true]
    exact fun x hx => cellsR_ones (hl.each x hx))
  clear hl ha
  go_enter Tryz.func111, Tryz.ntmps111
  go_wp2_with (first | go_big_skip | go_big_guard | (go_at_call 131; refine (cloneR_any ao n c _ _ (Rd.old hst0 HL.out.rd) H1.out (by omega)).mono ?_; rintro _ w9 ⟨v9, rfl, h4⟩; have hst := St.call hst0 h4; clear h4 hst0; obtain ⟨ar, cr, rfl, _, _⟩ := rowS [] hst))
  go_loopw [11] (fun i wr => ∃ (j : Nat) (ys : List (Value × RC)), j ≤ n ∧ i = .int .i64 (j : Int) ∧ ys.map (·.2) = (xs.take j).map (·.2) ∧ St w [] wr (.row (.slice ar n cr) 53 44 n (recsV (ys ++ xs.drop j)) :: rootRows 102 ys)) (fun i _ => n - (intOf i).toNat)
  case atStart => exact ⟨0, [], Nat.zero_le _, rfl, rfl, hst⟩
  case round =>
    clear hst
    obtain ⟨j, ys, hj, rfl, hy, hst⟩ := hrel
    have HY := hid hy
    have hyl : ys.length = j := by
      have := congrArg List.length hy
      rw [List.length_map, List.length_map, List.length_take, HN.out] at this
      omega
    have HYL := hid hyl
    clear hy hyl
    by_cases hlt : j < n
    · have e1 : decide ((j : Int) < (n : Int)) = true := decide_eq_true (by omega)
      have z1 : IntKind.i64.wrap ((j : Int) + 1) = (j : Int) + 1 := IntWalk.i64_in _ (by omega)
      obtain ⟨x, hx⟩ : ∃ x, xs[j]? = some x := ⟨_, List.getElem?_eq_getElem (by rw [HN.out]; exact hlt)⟩
      have hxm := List.mem_of_getElem? hx
      have hz : (ys ++ xs.drop j)[j]? = some x := by
        rw [List.getElem?_append_right (by rw [HYL.out]; exact Nat.le_refl _), HYL.out, Nat.sub_self, List.getElem?_drop, Nat.add_zero]
        exact hx
      have hzl : LX (ys ++ xs.drop j) := fun y hy => by
        rcases List.mem_append.1 hy with hy | hy
        · have h2 : y.2 ∈ (xs.take j).map (·.2) := by rw [← HY.out]; exact List.mem_map_of_mem hy
          obtain ⟨u, hu, he⟩ := List.mem_map.1 h2
          rw [← he]
          exact HLX.out u (List.mem_of_mem_take hu)
        · exact HLX.out y (List.mem_of_mem_drop hy)
      obtain ⟨hLX2, ao2, m, cc, hsv, hrd, hm⟩ := (HL.out.each x hxm).1
      have hslot := recsV_at hzl hz (d := 4) (v := .slice ao2 m cc) (by rw [cells_slot, ← hsv]; rfl)
      have HX := hid hx
      have HZ := hid hz
      have HZL := hid hzl
      have HS := hid hslot
      have HRD := hid hrd
      have HM : Hid (x.2.l.length = m) := hid hm
      have HB := hid (HA.out x hxm).1
      obtain ⟨g, c9, he, _⟩ := row_spot hst (.head _) (by omega)
      cases he
      clear hx hxm hz hzl hLX2 hsv hrd hm hslot
      go_wp2_with (first | go_big_skip | go_big_guard | (refine wl_index rfl rfl rfl rfl hlt ?_) | (go_at_call 112; refine (ownC_any (k := j) g n cr m cc ao2 _ _ hst hlt HS.out (Rd.old hst HRD.out) (addrs_ones _) (by rw [← HM.out]; exact HB.out)).mono ?_; rintro _ w9 ⟨a6, c6, rfl, h4⟩; have hst2 := h4; clear h4 hst))
      go_roundw
      case rel =>
        refine ⟨j + 1, ys ++ [(.slice a6 m c6, x.2)], by omega, rfl, ?_, ?_⟩
        · rw [List.map_append, HY.out, List.take_add_one, HX.out, List.map_append]
          rfl
        · have e2 : putAt (cellsR x) 4 [.slice a6 m c6] = cellsR ((.slice a6 m c6 : Value), x.2) := rfl
          rw [recsV_put HZL.out HZ.out (d := 4) (by show 4 + 1 ≤ 44; decide) e2] at hst2
          have e3 : (ys ++ xs.drop j).set j ((.slice a6 m c6 : Value), x.2) = (ys ++ [((.slice a6 m c6 : Value), x.2)]) ++ xs.drop (j + 1) := by
            have hlt2 : j < xs.length := by rw [HN.out]; exact hlt
            rw [List.drop_eq_getElem_cons hlt2, List.set_append_right _ _ (by rw [HYL.out]; exact Nat.le_refl _), HYL.out, Nat.sub_self, List.set_cons_zero, List.append_assoc]
            rfl
          rw [e3] at hst2
          rw [rootRows_add]
          have hm2 := HM.out
          subst hm2
          exact hst2
      case measure => simp [intOf]; omega
    · have e1 : decide ((j : Int) < (n : Int)) = false := decide_eq_false (by omega)
      obtain rfl : j = n := by omega
      go_wp2_with (first | go_big_skip | go_big_guard | fail)
      go_ret
      have hd : xs.drop j = [] := List.drop_eq_nil_of_le (by rw [HN.out]; exact Nat.le_refl _)
      have ht : xs.take j = xs := List.take_of_length_le (by rw [HN.out]; exact Nat.le_refl _)
      have hy := HY.out
      rw [hd, List.append_nil] at hst
      rw [ht] at hy
      refine ⟨_, rfl, ys, hy, fun a b hym => ?_, hst⟩
      have h2 : b ∈ xs.map (·.2) := by rw [← hy]; exact List.mem_map_of_mem (f := (·.2)) hym
      obtain ⟨u, hu, he⟩ := List.mem_map.1 h2
      rw [← he]
      exact ⟨HLX.out u hu, (HA.out u hu).2⟩
end Go.Proofs.YtifajcblbedcoaaGreat
namespace Go.Proofs.YtifajcblbedcoaaGreat
set_option linter.unusedVariables false
set_option linter.unusedSimpArgs false
open Go.RowKit Hp
attribute [local irreducible] Go.Calls Go.wpList
set_option maxRecDepth 100000
set_option maxHeartbeats 8000000
attribute [local go_sem ↓] heldInt heldInts heldCur
theorem bldT3 (z a b c d : Int) (ao : Option Addr) (n k : Nat) : Tryz.prog.built 27 [(0, .int .i64 z), (2, .agg #[.int .i64 a, .int .i64 b, .int .i64 c, .int .i64 d]), (3, .slice ao n k)] = some #[.int .i64 z, .slice none 0 0, .int .i64 a, .int .i64 b, .int .i64 c, .int .i64 d, .slice ao n k] := by kernel_rfl
theorem put_root (x : Value × RC) (hL : L32 x.2.S) (v : Value) : putAt (cellsR x) 4 (PV.cells ((x.2.pv x.1).re v)) = cellsR (v, x.2) :=
  xC_put4 (p := x.2.pv x.1) (q := (x.2.pv x.1).re v) hL hL
theorem row_sliceC {w0 w : World} {M : List Nat} (L1 : List HA) {L2 : List HA} {v : Value} {T : TypeId} {sz n : Nat} {xs : List Value} (h : St w0 M w (L1 ++ .row v T sz n xs :: L2)) : ∃ ao c, v = .slice ao n c ∧ n ≤ c ∧ c ≤ 9223372036854775807 := by
  obtain ⟨ao, c, e, h1, h2, _⟩ := row_form h (List.mem_append.2 (.inr (.head _)))
  exact ⟨ao, c, e, h1, h2⟩
theorem results_cellC {fn : Func} {p : Tmp} {ty : TypeId} {tmps : Array Value} {P : Program} {w : World} {A : Addr} {v : Value} (h : fn.results = #[.cell p ty]) (hp : tmps.getD p undef = .pointer (some A)) (hl : Loads P w ty A v) :
    (results fn tmps).run P w = .ok v w := by
  have hl' : (loadVar ty A).run P w = .ok v w := hl
  have hp' : tmps[p]?.getD undef = .pointer (some A) := by simpa using hp
  simp [results, h, hp', asAddr, hl', Sem.run_bind]
theorem copyTable_any (t : TC) (ar al : Option Addr) (nr cr nl cl : Nat) (xs : List (Value × RC)) (w : World) (ht : TabIn w t ar nr cr al nl cl xs) (hn : nr ≤ 100) (hl : nl ≤ 100) (ha : ∀ r ∈ t.recs, r.l.length ≤ 100000) :
    Calls Tryz.prog 9 #[.agg (tabC t (.slice ar nr cr) (.slice al nl cl)).toArray] w fun e w' => ∃ ro rc lo lc ys, e = .returned (.agg (tabC t (.slice ro nr rc) (.slice lo nl lc)).toArray) ∧ ys.map (·.2) = t.recs ∧ St w [] w' (.row (.slice ro nr rc) 53 44 nr (recsV ys) :: .row (.slice lo nl lc) 3 1 nl (numsV t.lives) :: rootRows 102 ys) := by
  have hst0 := St.refl w
  have HT := hid ht
  clear ht
  go_enter Tryz.func9, Tryz.ntmps9
  go_upto_region 1 with (first | go_big_skip | go_big_guard | (refine wl_boxA hst0 rfl rfl rfl ?_; intro g1 w1 hst1; clear hst0) | (refine wl_alloc hst1 rfl rfl ?_; intro g2 w2 hst; clear hst1))
  (try simp only [Act.put, List.setIfInBounds_toArray, List.set_cons_zero, List.set_cons_succ])
  go_cut [3, 10, 13, 14] (fun a b c d wx => ∃ g3 lo lc, a = .pointer (some ⟨g3, 0, none⟩) ∧ St w [] wx (.blk g3 27 [.int .i64 t.next, .slice none 0 0, .int .i64 t.kind, .int .i64 t.dev, .int .i64 t.at_, .int .i64 t.txg, .slice lo nl lc] :: .row (.slice none 0 0) 53 44 0 (recsV []) :: .row (.slice lo nl lc) 3 1 nl (numsV t.lives) :: .blk g1 27 (tabC t (.slice ar nr cr) (.slice al nl cl)) :: .blk g2 27 tab0 :: rootRows 102 []))
  case first =>
    have hX := hst.drew
    clear hst
    refine wp_region_held_drew (S := (fun w' => (loadVarH 3 ⟨g1, 0, none⟩).run Tryz.prog w' = .ok (.int .i64 t.next) w' ∧ (loadVarH 24 ⟨g1, 2, none⟩).run Tryz.prog w' = .ok (.agg (List.toArray ([.int .i64 t.kind, .int .i64 t.dev, .int .i64 t.at_, .int .i64 t.txg]))) w' ∧ (loadVarH 25 ⟨g1, 6, none⟩).run Tryz.prog w' = .ok (.slice al nl cl) w')) (by kernel_rfl) (by exact ⟨ldS [_] hX rfl, ldA ([.int .i64 t.kind, .int .i64 t.dev, .int .i64 t.at_, .int .i64 t.txg]) [_] hX (rfl) (rfl), ldS [_] hX rfl⟩) (fun hHeld => ?_)
    refine tq 0 6 ?_
    refine tq 2 8 ?_
    refine tq 5 11 ?_
    refine tq 1 7 ?_
    refine tq 3 9 ?_
    refine tq 6 12 ?_
    refine wpAnyH_ready (rs := [4, 9]) (by kernel_rfl) (by simp) ?_
    refine (AllReadyH.cons (o := ⟨some 10, _, _, _, _, _⟩) rfl (fun K hK => ?_) (AllReadyH.cons (o := ⟨some 3, _, _, _, _, _⟩) rfl (fun K hK => ?_) AllReadyH.nil))
    · rw [if_pos (by rfl)]
      refine ow_of_wl (ops := #[]) (by rfl) ?_
      apply wl_bsX [] [] hX
      · rfl
      · rfl
      · exact rfl
      · exact rfl
      · infer_instance
      · infer_instance
      · rfl
      · rfl
      · rfl
      intro g7 w8 h8
      have hP1 := St.toRow (n := 0) (cap := 0) (sz := 1) h8 rfl (by decide) (by decide)
      clear h8
      refine q0_nil ?_
      refine hK.out _ _ ?_ (fun hHeld => ?_)
      · exact ⟨ldS [_, _] hP1 rfl, ldA ([.int .i64 t.kind, .int .i64 t.dev, .int .i64 t.at_, .int .i64 t.txg]) [_, _] hP1 (rfl) (rfl), ldS [_, _] hP1 rfl⟩
      clear hK K
      (try simp only [Act.put, List.setIfInBounds_toArray, List.set_cons_zero, List.set_cons_succ])
      refine wpAnyH_ready (rs := [7, 9]) (by kernel_rfl) (by simp) ?_
      refine (AllReadyH.cons (o := ⟨some 13, _, _, _, _, _⟩) rfl (fun K hK => ?_) (AllReadyH.cons (o := ⟨some 3, _, _, _, _, _⟩) rfl (fun K hK => ?_) AllReadyH.nil))
      · rw [if_pos (by rfl)]
        refine ow_of_wl (ops := #[]) (by rfl) ?_
        apply wl_appX (m := nl) (ys := numsV t.lives) [] hP1
        · rfl
        · rfl
        · exact rfl
        · exact rfl
        · infer_instance
        · infer_instance
        · infer_instance
        · exact Rd.old hP1 HT.out.L
        · exact ones_numsV _
        · exact ⟨by decide, by unfold maxLen; omega, by omega⟩
        intro lv2 w6 hP2 _
        obtain ⟨lo, lc, rfl, _, _⟩ := row_sliceC [] hP2
        refine q0_nil ?_
        refine hK.out _ _ ?_ (fun hHeld => ?_)
        · exact ⟨ldS [_, _] hP2 rfl, ldA ([.int .i64 t.kind, .int .i64 t.dev, .int .i64 t.at_, .int .i64 t.txg]) [_, _] hP2 (rfl) (rfl), ldS [_, _] hP2 rfl⟩
        clear hK K
        (try simp only [Act.put, List.setIfInBounds_toArray, List.set_cons_zero, List.set_cons_succ])
        refine wpAnyH_ready (rs := [8, 9]) (by kernel_rfl) (by simp) ?_
        refine (AllReadyH.cons (o := ⟨some 14, _, _, _, _, _⟩) rfl (fun K hK => ?_) (AllReadyH.cons (o := ⟨some 3, _, _, _, _, _⟩) rfl (fun K hK => ?_) AllReadyH.nil))
        · rw [if_pos (by rfl)]
          refine ow_of_wl (ops := #[]) (by rfl) ?_
          refine wl_buildX (cs := [.int .i64 t.next, .slice none 0 0, .int .i64 t.kind, .int .i64 t.dev, .int .i64 t.at_, .int .i64 t.txg, .slice lo (0 + nl) lc]) [(0, .int .i64 t.next), (2, .agg #[.int .i64 t.kind, .int .i64 t.dev, .int .i64 t.at_, .int .i64 t.txg]), (3, .slice lo (0 + nl) lc)] rfl rfl (by exact rfl) (bldT3 _ _ _ _ _ _ _ _) ?_
          refine q0_nil ?_
          refine hK.out _ _ ?_ (fun hHeld => ?_)
          · exact ⟨ldS [_, _] hP2 rfl, ldA ([.int .i64 t.kind, .int .i64 t.dev, .int .i64 t.at_, .int .i64 t.txg]) [_, _] hP2 (rfl) (rfl), ldS [_, _] hP2 rfl⟩
          clear hK K
          (try simp only [Act.put, List.setIfInBounds_toArray, List.set_cons_zero, List.set_cons_succ])
          refine wpAnyH_ready (rs := [9]) (by kernel_rfl) (by simp) ?_
          refine (AllReadyH.cons (o := ⟨some 3, _, _, _, _, _⟩) rfl (fun K hK => ?_) AllReadyH.nil)
          rw [if_pos (by rfl)]
          refine ow_of_wl (ops := #[]) (by rfl) ?_
          refine wl_alloc hP2 rfl rfl ?_
          intro g3 w7 hP3
          refine q0_nil ?_
          refine hK.out _ _ ?_ (fun hHeld => ?_)
          · exact ⟨ldS [_, _, _] hP3 rfl, ldA ([.int .i64 t.kind, .int .i64 t.dev, .int .i64 t.at_, .int .i64 t.txg]) [_, _, _] hP3 (rfl) (rfl), ldS [_, _, _] hP3 rfl⟩
          clear hK K
          (try simp only [Act.put, List.setIfInBounds_toArray, List.set_cons_zero, List.set_cons_succ])
          refine wpAnyH_ready (rs := [10]) (by kernel_rfl) (by simp) ?_
          refine (AllReadyH.cons (o := ⟨none, _, _, _, _, _⟩) rfl (fun K hK => ?_) AllReadyH.nil)
          rw [if_pos (by rfl)]
          refine ow_of_wl (ops := #[]) (by rfl) ?_
          refine wl_storeA [] hP3 rfl rfl rfl rfl rfl rfl rfl ?_
          intro w7 hP4
          refine q0_nil ?_
          refine hK.out _ _ ?_ (fun hHeld => ?_)
          · exact ⟨ldS [_, _, _] hP4 rfl, ldA ([.int .i64 t.kind, .int .i64 t.dev, .int .i64 t.at_, .int .i64 t.txg]) [_, _, _] hP4 (rfl) (rfl), ldS [_, _, _] hP4 rfl⟩
          clear hK K
          (try simp only [Act.put, List.setIfInBounds_toArray, List.set_cons_zero, List.set_cons_succ])
          refine wpAnyH_done (by kernel_rfl) ?_ _
          clear hHeld
          have hQ0 := St.nilRow 53 44 hP4
          have hQ1 : St w [] w7 (.blk g3 27 [.int .i64 t.next, .slice none 0 0, .int .i64 t.kind, .int .i64 t.dev, .int .i64 t.at_, .int .i64 t.txg, .slice lo nl lc] :: .row (.slice none 0 0) 53 44 0 (recsV []) :: .row (.slice lo nl lc) 3 1 nl (numsV t.lives) :: .blk g1 27 (tabC t (.slice ar nr cr) (.slice al nl cl)) :: .blk g2 27 tab0 :: rootRows 102 []) := by
            have h := (St.front (L1 := [_, _, _, _]) (St.front (L1 := [_, _, _]) (St.front (L1 := [_, _, _, _]) (St.front (L1 := [_, _, _, _]) (St.front (L1 := [_, _, _]) hQ0)))))
            rw [Nat.zero_add, List.take_zero, List.nil_append] at h
            exact h
          clear hQ0 hP4
          rw [Nat.zero_add]
          go_wp2_with (first | go_big_skip | go_big_guard | fail)
          go_meet
          exact ⟨g3, lo, lc, rfl, hQ1⟩
        · rw [if_pos (by rfl)]
          refine ow_of_wl (ops := #[]) (by rfl) ?_
          refine wl_alloc hP2 rfl rfl ?_
          intro g3 w7 hP5
          refine q0_nil ?_
          refine hK.out _ _ ?_ (fun hHeld => ?_)
          · exact ⟨ldS [_, _, _] hP5 rfl, ldA ([.int .i64 t.kind, .int .i64 t.dev, .int .i64 t.at_, .int .i64 t.txg]) [_, _, _] hP5 (rfl) (rfl), ldS [_, _, _] hP5 rfl⟩
          clear hK K
          (try simp only [Act.put, List.setIfInBounds_toArray, List.set_cons_zero, List.set_cons_succ])
          refine wpAnyH_ready (rs := [8]) (by kernel_rfl) (by simp) ?_
          refine (AllReadyH.cons (o := ⟨some 14, _, _, _, _, _⟩) rfl (fun K hK => ?_) AllReadyH.nil)
          rw [if_pos (by rfl)]
          refine ow_of_wl (ops := #[]) (by rfl) ?_
          refine wl_buildX (cs := [.int .i64 t.next, .slice none 0 0, .int .i64 t.kind, .int .i64 t.dev, .int .i64 t.at_, .int .i64 t.txg, .slice lo (0 + nl) lc]) [(0, .int .i64 t.next), (2, .agg #[.int .i64 t.kind, .int .i64 t.dev, .int .i64 t.at_, .int .i64 t.txg]), (3, .slice lo (0 + nl) lc)] rfl rfl (by exact rfl) (bldT3 _ _ _ _ _ _ _ _) ?_
          refine q0_nil ?_
          refine hK.out _ _ ?_ (fun hHeld => ?_)
          · exact ⟨ldS [_, _, _] hP5 rfl, ldA ([.int .i64 t.kind, .int .i64 t.dev, .int .i64 t.at_, .int .i64 t.txg]) [_, _, _] hP5 (rfl) (rfl), ldS [_, _, _] hP5 rfl⟩
          clear hK K
          (try simp only [Act.put, List.setIfInBounds_toArray, List.set_cons_zero, List.set_cons_succ])
          refine wpAnyH_ready (rs := [10]) (by kernel_rfl) (by simp) ?_
          refine (AllReadyH.cons (o := ⟨none, _, _, _, _, _⟩) rfl (fun K hK => ?_) AllReadyH.nil)
          rw [if_pos (by rfl)]
          refine ow_of_wl (ops := #[]) (by rfl) ?_
          refine wl_storeA [] hP5 rfl rfl rfl rfl rfl rfl rfl ?_
          intro w7 hP6
          refine q0_nil ?_
          refine hK.out _ _ ?_ (fun hHeld => ?_)
          · exact ⟨ldS [_, _, _] hP6 rfl, ldA ([.int .i64 t.kind, .int .i64 t.dev, .int .i64 t.at_, .int .i64 t.txg]) [_, _, _] hP6 (rfl) (rfl), ldS [_, _, _] hP6 rfl⟩
          clear hK K
          (try simp only [Act.put, List.setIfInBounds_toArray, List.set_cons_zero, List.set_cons_succ])
          refine wpAnyH_done (by kernel_rfl) ?_ _
          clear hHeld
          have hQ0 := St.nilRow 53 44 hP6
          have hQ1 : St w [] w7 (.blk g3 27 [.int .i64 t.next, .slice none 0 0, .int .i64 t.kind, .int .i64 t.dev, .int .i64 t.at_, .int .i64 t.txg, .slice lo nl lc] :: .row (.slice none 0 0) 53 44 0 (recsV []) :: .row (.slice lo nl lc) 3 1 nl (numsV t.lives) :: .blk g1 27 (tabC t (.slice ar nr cr) (.slice al nl cl)) :: .blk g2 27 tab0 :: rootRows 102 []) := by
            have h := (St.front (L1 := [_, _, _, _]) (St.front (L1 := [_, _, _]) (St.front (L1 := [_, _, _, _]) (St.front (L1 := [_, _, _, _]) (St.front (L1 := [_, _, _]) hQ0)))))
            rw [Nat.zero_add, List.take_zero, List.nil_append] at h
            exact h
          clear hQ0 hP6
          rw [Nat.zero_add]
          go_wp2_with (first | go_big_skip | go_big_guard | fail)
          go_meet
          exact ⟨g3, lo, lc, rfl, hQ1⟩
      · rw [if_pos (by rfl)]
        refine ow_of_wl (ops := #[]) (by rfl) ?_
        refine wl_alloc hP1 rfl rfl ?_
        intro g3 w7 hP7
        refine q0_nil ?_
        refine hK.out _ _ ?_ (fun hHeld => ?_)
        · exact ⟨ldS [_, _, _] hP7 rfl, ldA ([.int .i64 t.kind, .int .i64 t.dev, .int .i64 t.at_, .int .i64 t.txg]) [_, _, _] hP7 (rfl) (rfl), ldS [_, _, _] hP7 rfl⟩
        clear hK K
        (try simp only [Act.put, List.setIfInBounds_toArray, List.set_cons_zero, List.set_cons_succ])
        refine wpAnyH_ready (rs := [7]) (by kernel_rfl) (by simp) ?_
        refine (AllReadyH.cons (o := ⟨some 13, _, _, _, _, _⟩) rfl (fun K hK => ?_) AllReadyH.nil)
        rw [if_pos (by rfl)]
        refine ow_of_wl (ops := #[]) (by rfl) ?_
        apply wl_appX (m := nl) (ys := numsV t.lives) [_] hP7
        · rfl
        · rfl
        · exact rfl
        · exact rfl
        · infer_instance
        · infer_instance
        · infer_instance
        · exact Rd.old hP7 HT.out.L
        · exact ones_numsV _
        · exact ⟨by decide, by unfold maxLen; omega, by omega⟩
        intro lv2 w6 hP8 _
        obtain ⟨lo, lc, rfl, _, _⟩ := row_sliceC [_] hP8
        refine q0_nil ?_
        refine hK.out _ _ ?_ (fun hHeld => ?_)
        · exact ⟨ldS [_, _, _] hP8 rfl, ldA ([.int .i64 t.kind, .int .i64 t.dev, .int .i64 t.at_, .int .i64 t.txg]) [_, _, _] hP8 (rfl) (rfl), ldS [_, _, _] hP8 rfl⟩
        clear hK K
        (try simp only [Act.put, List.setIfInBounds_toArray, List.set_cons_zero, List.set_cons_succ])
        refine wpAnyH_ready (rs := [8]) (by kernel_rfl) (by simp) ?_
        refine (AllReadyH.cons (o := ⟨some 14, _, _, _, _, _⟩) rfl (fun K hK => ?_) AllReadyH.nil)
        rw [if_pos (by rfl)]
        refine ow_of_wl (ops := #[]) (by rfl) ?_
        refine wl_buildX (cs := [.int .i64 t.next, .slice none 0 0, .int .i64 t.kind, .int .i64 t.dev, .int .i64 t.at_, .int .i64 t.txg, .slice lo (0 + nl) lc]) [(0, .int .i64 t.next), (2, .agg #[.int .i64 t.kind, .int .i64 t.dev, .int .i64 t.at_, .int .i64 t.txg]), (3, .slice lo (0 + nl) lc)] rfl rfl (by exact rfl) (bldT3 _ _ _ _ _ _ _ _) ?_
        refine q0_nil ?_
        refine hK.out _ _ ?_ (fun hHeld => ?_)
        · exact ⟨ldS [_, _, _] hP8 rfl, ldA ([.int .i64 t.kind, .int .i64 t.dev, .int .i64 t.at_, .int .i64 t.txg]) [_, _, _] hP8 (rfl) (rfl), ldS [_, _, _] hP8 rfl⟩
        clear hK K
        (try simp only [Act.put, List.setIfInBounds_toArray, List.set_cons_zero, List.set_cons_succ])
        refine wpAnyH_ready (rs := [10]) (by kernel_rfl) (by simp) ?_
        refine (AllReadyH.cons (o := ⟨none, _, _, _, _, _⟩) rfl (fun K hK => ?_) AllReadyH.nil)
        rw [if_pos (by rfl)]
        refine ow_of_wl (ops := #[]) (by rfl) ?_
        refine wl_storeA [] hP8 rfl rfl rfl rfl rfl rfl rfl ?_
        intro w7 hP9
        refine q0_nil ?_
        refine hK.out _ _ ?_ (fun hHeld => ?_)
        · exact ⟨ldS [_, _, _] hP9 rfl, ldA ([.int .i64 t.kind, .int .i64 t.dev, .int .i64 t.at_, .int .i64 t.txg]) [_, _, _] hP9 (rfl) (rfl), ldS [_, _, _] hP9 rfl⟩
        clear hK K
        (try simp only [Act.put, List.setIfInBounds_toArray, List.set_cons_zero, List.set_cons_succ])
        refine wpAnyH_done (by kernel_rfl) ?_ _
        clear hHeld
        have hQ0 := St.nilRow 53 44 hP9
        have hQ1 : St w [] w7 (.blk g3 27 [.int .i64 t.next, .slice none 0 0, .int .i64 t.kind, .int .i64 t.dev, .int .i64 t.at_, .int .i64 t.txg, .slice lo nl lc] :: .row (.slice none 0 0) 53 44 0 (recsV []) :: .row (.slice lo nl lc) 3 1 nl (numsV t.lives) :: .blk g1 27 (tabC t (.slice ar nr cr) (.slice al nl cl)) :: .blk g2 27 tab0 :: rootRows 102 []) := by
          have h := (St.front (L1 := [_, _, _, _]) (St.front (L1 := [_, _, _]) (St.front (L1 := [_, _, _, _]) (St.front (L1 := [_, _, _, _]) (St.front (L1 := [_, _, _]) hQ0)))))
          rw [Nat.zero_add, List.take_zero, List.nil_append] at h
          exact h
        clear hQ0 hP9
        rw [Nat.zero_add]
        go_wp2_with (first | go_big_skip | go_big_guard | fail)
        go_meet
        exact ⟨g3, lo, lc, rfl, hQ1⟩
    · rw [if_pos (by rfl)]
      refine ow_of_wl (ops := #[]) (by rfl) ?_
      refine wl_alloc hX rfl rfl ?_
      intro g3 w7 hP10
      refine q0_nil ?_
      refine hK.out _ _ ?_ (fun hHeld => ?_)
      · exact ⟨ldS [_, _] hP10 rfl, ldA ([.int .i64 t.kind, .int .i64 t.dev, .int .i64 t.at_, .int .i64 t.txg]) [_, _] hP10 (rfl) (rfl), ldS [_, _] hP10 rfl⟩
      clear hK K
      (try simp only [Act.put, List.setIfInBounds_toArray, List.set_cons_zero, List.set_cons_succ])
      refine wpAnyH_ready (rs := [4]) (by kernel_rfl) (by simp) ?_
      refine (AllReadyH.cons (o := ⟨some 10, _, _, _, _, _⟩) rfl (fun K hK => ?_) AllReadyH.nil)
      rw [if_pos (by rfl)]
      refine ow_of_wl (ops := #[]) (by rfl) ?_
      apply wl_bsX [] [] hP10
      · rfl
      · rfl
      · exact rfl
      · exact rfl
      · infer_instance
      · infer_instance
      · rfl
      · rfl
      · rfl
      intro g7 w8 h8
      have hP11 := St.toRow (n := 0) (cap := 0) (sz := 1) h8 rfl (by decide) (by decide)
      clear h8
      refine q0_nil ?_
      refine hK.out _ _ ?_ (fun hHeld => ?_)
      · exact ⟨ldS [_, _, _] hP11 rfl, ldA ([.int .i64 t.kind, .int .i64 t.dev, .int .i64 t.at_, .int .i64 t.txg]) [_, _, _] hP11 (rfl) (rfl), ldS [_, _, _] hP11 rfl⟩
      clear hK K
      (try simp only [Act.put, List.setIfInBounds_toArray, List.set_cons_zero, List.set_cons_succ])
      refine wpAnyH_ready (rs := [7]) (by kernel_rfl) (by simp) ?_
      refine (AllReadyH.cons (o := ⟨some 13, _, _, _, _, _⟩) rfl (fun K hK => ?_) AllReadyH.nil)
      rw [if_pos (by rfl)]
      refine ow_of_wl (ops := #[]) (by rfl) ?_
      apply wl_appX (m := nl) (ys := numsV t.lives) [] hP11
      · rfl
      · rfl
      · exact rfl
      · exact rfl
      · infer_instance
      · infer_instance
      · infer_instance
      · exact Rd.old hP11 HT.out.L
      · exact ones_numsV _
      · exact ⟨by decide, by unfold maxLen; omega, by omega⟩
      intro lv2 w6 hP12 _
      obtain ⟨lo, lc, rfl, _, _⟩ := row_sliceC [] hP12
      refine q0_nil ?_
      refine hK.out _ _ ?_ (fun hHeld => ?_)
      · exact ⟨ldS [_, _, _] hP12 rfl, ldA ([.int .i64 t.kind, .int .i64 t.dev, .int .i64 t.at_, .int .i64 t.txg]) [_, _, _] hP12 (rfl) (rfl), ldS [_, _, _] hP12 rfl⟩
      clear hK K
      (try simp only [Act.put, List.setIfInBounds_toArray, List.set_cons_zero, List.set_cons_succ])
      refine wpAnyH_ready (rs := [8]) (by kernel_rfl) (by simp) ?_
      refine (AllReadyH.cons (o := ⟨some 14, _, _, _, _, _⟩) rfl (fun K hK => ?_) AllReadyH.nil)
      rw [if_pos (by rfl)]
      refine ow_of_wl (ops := #[]) (by rfl) ?_
      refine wl_buildX (cs := [.int .i64 t.next, .slice none 0 0, .int .i64 t.kind, .int .i64 t.dev, .int .i64 t.at_, .int .i64 t.txg, .slice lo (0 + nl) lc]) [(0, .int .i64 t.next), (2, .agg #[.int .i64 t.kind, .int .i64 t.dev, .int .i64 t.at_, .int .i64 t.txg]), (3, .slice lo (0 + nl) lc)] rfl rfl (by exact rfl) (bldT3 _ _ _ _ _ _ _ _) ?_
      refine q0_nil ?_
      refine hK.out _ _ ?_ (fun hHeld => ?_)
      · exact ⟨ldS [_, _, _] hP12 rfl, ldA ([.int .i64 t.kind, .int .i64 t.dev, .int .i64 t.at_, .int .i64 t.txg]) [_, _, _] hP12 (rfl) (rfl), ldS [_, _, _] hP12 rfl⟩
      clear hK K
      (try simp only [Act.put, List.setIfInBounds_toArray, List.set_cons_zero, List.set_cons_succ])
      refine wpAnyH_ready (rs := [10]) (by kernel_rfl) (by simp) ?_
      refine (AllReadyH.cons (o := ⟨none, _, _, _, _, _⟩) rfl (fun K hK => ?_) AllReadyH.nil)
      rw [if_pos (by rfl)]
      refine ow_of_wl (ops := #[]) (by rfl) ?_
      refine wl_storeA [_] hP12 rfl rfl rfl rfl rfl rfl rfl ?_
      intro w7 hP13
      refine q0_nil ?_
      refine hK.out _ _ ?_ (fun hHeld => ?_)
      · exact ⟨ldS [_, _, _] hP13 rfl, ldA ([.int .i64 t.kind, .int .i64 t.dev, .int .i64 t.at_, .int .i64 t.txg]) [_, _, _] hP13 (rfl) (rfl), ldS [_, _, _] hP13 rfl⟩
      clear hK K
      (try simp only [Act.put, List.setIfInBounds_toArray, List.set_cons_zero, List.set_cons_succ])
      refine wpAnyH_done (by kernel_rfl) ?_ _
      clear hHeld
      have hQ0 := St.nilRow 53 44 hP13
      have hQ1 : St w [] w7 (.blk g3 27 [.int .i64 t.next, .slice none 0 0, .int .i64 t.kind, .int .i64 t.dev, .int .i64 t.at_, .int .i64 t.txg, .slice lo nl lc] :: .row (.slice none 0 0) 53 44 0 (recsV []) :: .row (.slice lo nl lc) 3 1 nl (numsV t.lives) :: .blk g1 27 (tabC t (.slice ar nr cr) (.slice al nl cl)) :: .blk g2 27 tab0 :: rootRows 102 []) := by
        have h := (St.front (L1 := [_, _, _, _]) (St.front (L1 := [_, _, _]) (St.front (L1 := [_, _, _]) (St.front (L1 := [_, _, _, _]) (St.front (L1 := [_, _, _]) hQ0)))))
        rw [Nat.zero_add, List.take_zero, List.nil_append] at h
        exact h
      clear hQ0 hP13
      rw [Nat.zero_add]
      go_wp2_with (first | go_big_skip | go_big_guard | fail)
      go_meet
      exact ⟨g3, lo, lc, rfl, hQ1⟩
  case rest =>
    clear hst
    obtain ⟨g3, lo, lc, rfl, hQ1⟩ := hcut
    go_wp2_with (first | go_big_skip | go_big_guard | fail)
    go_loopw [4] (fun i wr => ∃ (j : Nat) (rv : Value) (ys : List (Value × RC)), j ≤ nr ∧ i = .int .i64 (j : Int) ∧ ys.map (·.2) = t.recs.take j ∧ St w [] wr (.blk g3 27 [.int .i64 t.next, rv, .int .i64 t.kind, .int .i64 t.dev, .int .i64 t.at_, .int .i64 t.txg, .slice lo nl lc] :: .row rv 53 44 j (recsV ys) :: .row (.slice lo nl lc) 3 1 nl (numsV t.lives) :: .blk g1 27 (tabC t (.slice ar nr cr) (.slice al nl cl)) :: .blk g2 27 tab0 :: rootRows 102 ys)) (fun i _ => nr - (intOf i).toNat)
    case atStart => exact ⟨0, _, [], Nat.zero_le _, rfl, rfl, hQ1⟩
    case round =>
      clear hQ1
      obtain ⟨j, rv, ys, hj, rfl, hy, hst⟩ := hrel
      have HY := hid hy
      clear hy
      by_cases hlt : j < nr
      · have e1 : decide ((j : Int) < (nr : Int)) = true := decide_eq_true (by omega)
        have z1 : IntKind.i64.wrap ((j : Int) + 1) = (j : Int) + 1 := IntWalk.i64_in _ (by omega)
        obtain ⟨x, lb, lo3, hx, har, hin, hr⟩ := RecsIn.at HT.out.R hlt
        subst har
        have HXJ := hid (recs_at HT.out hx)
        have HIN := hid hin
        have HL := hid hin.L
        have HL44 := hid (cellsR_len hin.L)
        have H35 := hid (PV.len (p := x.2.pv x.1) hin.L)
        have HRX := hid hr
        have HLQ := hid (show ∀ v : Value, (cellsR (v, x.2)).length = 44 from fun _ => cellsR_len hin.L)
        have HAD := hid (ha x.2 (List.mem_of_getElem? HXJ.out))
        clear hx hr hin
        go_wp2_with (first | go_big_skip | go_big_guard | (refine wl_loadE rfl rfl rfl ?_; first | refine ⟨_, Loads.at [_, _, _] hst rfl, ?_⟩ | refine ⟨_, Loads.oldA (cs := cellsR x) hst HL44.out HRX.out, ?_⟩ | refine ⟨_, Loads.atA ((x.2.pv x.1).cells) [] hst3 H35.out (cellsR_root HL.out), ?_⟩ | refine ⟨_, Loads.at [_, _] hst5 rfl, ?_⟩ | refine ⟨_, Loads.atA (cellsR (.slice ao9 (x.2.pv x.1).l.length c9, x.2)) [_] hst5 (HLQ.out _) (cellsR_all _), ?_⟩) | (refine wl_index rfl rfl rfl rfl hlt ?_) | (refine wl_alloc hst rfl rfl ?_; intro g5 w2 hst2; clear hst) | (refine wl_storeA [] hst2 rfl rfl rfl rfl (by exact HL44.out) (cellsR_ones HIN.out) rfl ?_; intro w3 hst3; clear hst2) | (go_at_call 10; refine (copyPtr_any (x.2.pv x.1) _ (PV.In.old hst3.nil HIN.out.1) HAD.out).mono ?_; rintro _ w9 ⟨ao9, n9, c9, rfl, h4, hl4⟩; subst hl4; have hst4 := St.call hst3 h4; clear h4 hst3) | (refine wl_storeO [_] hst4 rfl rfl rfl rfl (off := 4) (vs := PV.cells ((x.2.pv x.1).re (.slice ao9 (x.2.pv x.1).l.length c9))) (by exact H35.out) (PV.ones_of rfl) (by rw [HL44.out]; decide) (put_root x HL.out _) ?_; intro w5 hst5; clear hst4) | (apply wl_bsX [.agg (List.toArray (cellsR (.slice ao9 (x.2.pv x.1).l.length c9, x.2)))] (cellsR (.slice ao9 (x.2.pv x.1).l.length c9, x.2)) hst5; rfl; rfl; exact rfl; exact (List.append_nil _); infer_instance; infer_instance; (show (((List.toArray (cellsR (.slice ao9 (x.2.pv x.1).l.length c9, x.2))).size == 44) && true) = true; rw [List.size_toArray, HLQ.out _]; rfl); rfl; rfl; intro gb w5 hst6; have HINR := hid (root_in (x := (.slice ao9 (x.2.pv x.1).l.length c9, x.2)) hst6 (.tail _ (.head _)) HL.out HIN.out.2); clear hst5) | (apply wl_appX (m := 1) (ys := cellsR (.slice ao9 (x.2.pv x.1).l.length c9, x.2)) [_, _, _, _] hst6; rfl; rfl; exact rfl; exact rfl; infer_instance; infer_instance; infer_instance; exact Rd.blk (n := 1) hst6 (.head _) (Nat.le_refl _) (by decide) (by rw [HLQ.out _]) (by rw [List.drop_zero, List.take_length]); exact cellsR_ones HINR.out; exact ⟨by decide, by unfold maxLen; omega, by omega⟩; intro rv2 w6 hst7 _; obtain ⟨ro, rc, rfl, _, _⟩ := row_sliceC [_, _, _, _] hst7; clear hst6) | (refine wl_store [_, _, _] hst7 rfl rfl rfl (off := 1) (v := .slice _ _ _) rfl rfl rfl (by show (1 : Nat) + 1 ≤ 7; decide) ?_; intro w7 hst8; clear hst7))
        have hst9 := Hp.St.root (A := [_, _, _, _]) (sv := .slice ao9 (x.2.pv x.1).l.length c9) (x := x.2) (St.perm (St.sub hst8 (.cons _ (.cons_cons _ (.cons _ (List.Sublist.refl _))))) (.swap _ _ _))
        clear hst8
        go_roundw
        case rel =>
          have hD7 : St w [] w7 (.blk g3 27 [.int .i64 t.next, .slice ro (j + 1) rc, .int .i64 t.kind, .int .i64 t.dev, .int .i64 t.at_, .int .i64 t.txg, .slice lo nl lc] :: .row (.slice ro (j + 1) rc) 53 44 (j + 1) (recsV (ys ++ [(.slice ao9 (x.2.pv x.1).l.length c9, x.2)])) :: .row (.slice lo nl lc) 3 1 nl (numsV t.lives) :: .blk g1 27 (tabC t (.slice (some ⟨lb, lo3, none⟩) nr cr) (.slice al nl cl)) :: .blk g2 27 tab0 :: rootRows 102 (ys ++ [(.slice ao9 (x.2.pv x.1).l.length c9, x.2)])) := by
            rw [recsV_append, show recsV [((.slice ao9 (x.2.pv x.1).l.length c9 : Value), x.2)] = cellsR (.slice ao9 (x.2.pv x.1).l.length c9, x.2) from List.append_nil _]
            exact hst9
          refine ⟨j + 1, .slice ro (j + 1) rc, ys ++ [(.slice ao9 (x.2.pv x.1).l.length c9, x.2)], by omega, rfl, ?_, hD7⟩
          rw [List.map_append, HY.out, List.take_add_one, HXJ.out]; rfl
        case measure => simp [intOf]; omega
      · have e1 : decide ((j : Int) < (nr : Int)) = false := decide_eq_false (by omega)
        obtain rfl : j = nr := by omega
        obtain ⟨ro, rc, rfl, _, _⟩ := row_sliceC [_] hst
        have HYT := hid (show ys.map (·.2) = t.recs by rw [HY.out, List.take_of_length_le (by have := HT.out.len; omega)])
        go_wp2_with (first | go_big_skip | go_big_guard | (refine wl_loadE rfl rfl rfl ?_; first | refine ⟨_, Loads.at [_, _, _] hst rfl, ?_⟩ | refine ⟨_, Loads.atA (tabC t (.slice ro j rc) (.slice lo nl lc)) [] hst rfl rfl, ?_⟩) | (refine wl_storeA [_, _, _, _] hst rfl rfl rfl rfl (vs := tabC t (.slice ro j rc) (.slice lo nl lc)) rfl rfl rfl ?_; intro w7 hst8; clear hst))
        have hl := Loads.atA (P := Tryz.prog) (off := 0) (T := 27) (tabC t (.slice ro j rc) (.slice lo nl lc)) [_, _, _, _] hst8 rfl rfl
        refine bodyPost_ret (results_cellC rfl rfl hl) rfl ?_
        refine ⟨ro, rc, lo, lc, ys, rfl, HYT.out, ?_⟩
        exact St.sub hst8 (.cons _ (.cons_cons _ (.cons_cons _ (.cons _ (.cons _ (List.Sublist.refl _))))))
end Go.Proofs.YtifajcblbedcoaaGreat
namespace Go.Proofs.YtifajcblbedcoaaGreat
set_option linter.unusedVariables false
set_option linter.unusedSimpArgs false
open Go.RowKit Hp
attribute [local irreducible] Go.Calls Go.wpList
set_option maxRecDepth 100000
set_option maxHeartbeats 8000000
def overR : List Value := xC (-7) [111, 118, 101, 114] 0 0 zP 0 0 0 0 0
theorem bldOver : Tryz.prog.built 53 [(0, .int .i64 (-7)), (1, .string ⟨#[111, 118, 101, 114]⟩)] = some overR.toArray := by kernel_rfl
theorem overR_len : overR.length = 44 := rfl
theorem overR_ones : overR.all (·.oneCell') = true := rfl
def rowOf (E : TypeId) (x : Value × RC) : HA := .row x.1 E 2 x.2.l.length (addrsV x.2.l)
theorem rootRows_perm (E : TypeId) (xs : List (Value × RC)) : (rootRows E xs).Perm (xs.map (rowOf E)) := by
  unfold rootRows
  exact (List.reverse_perm xs).map _
theorem drop_recs {xs : List (Value × RC)} {zs : List Value} {j : Nat} {x : Value × RC} (hx : xs[j]? = some x) (hL : (cellsR x).length = 44) (h : zs.drop (j * 44) = recsV (xs.drop j)) : zs[j * 44 + 4]? = some x.1 ∧ zs.drop ((j + 1) * 44) = recsV (xs.drop (j + 1)) ∧ xs.drop j = x :: xs.drop (j + 1) := by
  have hd : xs.drop j = x :: xs.drop (j + 1) := by
    obtain ⟨hlt, hg⟩ := List.getElem?_eq_some_iff.1 hx
    rw [List.drop_eq_getElem_cons hlt, hg]
  have hr : recsV (xs.drop j) = cellsR x ++ recsV (xs.drop (j + 1)) := by rw [hd]; rfl
  refine ⟨?_, ?_, hd⟩
  · rw [← List.getElem?_drop, h, hr, List.getElem?_append_left (by omega)]
    rfl
  · rw [show (j + 1) * 44 = j * 44 + 44 by omega, ← List.drop_drop, h, hr, List.drop_left' hL]
theorem overTable_any {w0 w : World} {M : List Nat} {R : List HA} (t : TC) (ro lo : Option Addr) (nr rc nl lc : Nat) (xs : List (Value × RC)) (zs : List Value) (hS : St w0 M w (.row (.slice ro nr rc) 53 44 nr (recsV xs) :: .row (.slice lo nl lc) 3 1 nl zs :: (rootRows 102 xs ++ R))) (hx : ∀ x ∈ xs, L32 x.2.S) (hlen : xs.length = nr) (hnr : nr ≤ 100000) (hnl : nl ≤ 100000) :
    Calls Tryz.prog 16 #[.agg (tabC t (.slice ro nr rc) (.slice lo nl lc)).toArray] w fun e w' => e = .returned (.tuple #[]) ∧ St w0 M w' R := by
  have hst0 : St w0 M w (.row (.slice ro nr rc) 53 44 nr (recsV xs) :: .row (.slice lo nl lc) 3 1 nl zs :: (xs.map (rowOf 102) ++ R)) := St.perm hS (.cons _ (.cons _ ((rootRows_perm _ xs).append_right R)))
  have HLN := hid hlen
  have HXL := hid hx
  clear hS hx hlen
  go_enter Tryz.func16, Tryz.ntmps16
  go_wp2_with (first | go_big_skip | go_big_guard | (refine wl_boxA hst0 rfl rfl rfl ?_; intro g1 w1 hst; clear hst0))
  go_loopw [2] (fun i wr => ∃ (j : Nat) (ys : List Value), j ≤ nr ∧ i = .int .i64 (j : Int) ∧ Hid (ys.drop (j * 44) = recsV (xs.drop j)) ∧ St w0 M wr (.blk g1 27 (tabC t (.slice ro nr rc) (.slice lo nl lc)) :: .row (.slice ro nr rc) 53 44 nr ys :: .row (.slice lo nl lc) 3 1 nl zs :: ((xs.drop j).map (rowOf 102) ++ R))) (fun i _ => nr - (intOf i).toNat)
  case atStart => exact ⟨0, _, Nat.zero_le _, rfl, hid (by rw [Nat.zero_mul, List.drop_zero, List.drop_zero]), hst⟩
  case round =>
    clear hst
    obtain ⟨j, ys, hj, rfl, HY, hst⟩ := hrel
    by_cases hlt : j < nr
    · have e1 : decide ((j : Int) < (nr : Int)) = true := decide_eq_true (by omega)
      have z1 : IntKind.i64.wrap ((j : Int) + 1) = (j : Int) + 1 := IntWalk.i64_in _ (by omega)
      obtain ⟨⟨xv, xr⟩, hxj⟩ : ∃ x, xs[j]? = some x := ⟨_, List.getElem?_eq_getElem (by rw [HLN.out]; exact hlt)⟩
      obtain ⟨q1, q2, q3⟩ := drop_recs hxj (cellsR_len (HXL.out _ (List.mem_of_getElem? hxj))) HY.out
      rw [q3, List.map_cons, List.cons_append] at hst
      obtain ⟨g, c, he, _⟩ := row_spot hst (.tail _ (.head _)) (by omega)
      cases he
      obtain ⟨xo, xc, hxe, _, _, _⟩ := row_form hst (.tail _ (.tail _ (.tail _ (.head _))))
      have hxe' : xv = .slice xo xr.l.length xc := hxe
      subst hxe'
      have HC := hid q1
      obtain ⟨_, _, _, _, _, hyl⟩ := row_form hst (.tail _ (.head _))
      have HYL := hid hyl
      clear hyl
      have HD := hid q2
      clear q1 q2 q3 hxe hxj
      go_wp2_with (first | go_big_skip | go_big_guard | (refine wl_loadE rfl rfl rfl ?_; first | refine ⟨_, Loads.at [] hst rfl, ?_⟩ | refine ⟨_, Loads.inRow (k := j * 44 + 4) hst (.tail _ (.head _)) HC.out, ?_⟩ | refine ⟨_, (by rw [Nat.zero_add]; exact Loads.inRow (k := j * 44 + 4) hst (.tail _ (.head _)) HC.out), ?_⟩ | refine ⟨_, Loads.at [_] hst2 rfl, ?_⟩) | (refine wl_index rfl rfl rfl rfl hlt ?_) | (go_at_call 45; refine (over_addrs xo xr.l.length xc (addrsV xr.l) _ (hst.owns (.tail _ (.tail _ (.tail _ (.head _)))))).mono ?_; rintro _ w9 ⟨ys9, rfl, h4⟩; have hst2 := St.callRow (St.front (L1 := [_, _, _]) hst) h4; clear h4 hst) | (refine wl_buildX (cs := overR) [(0, .int .i64 (-7)), (1, .string ⟨#[111, 118, 101, 114]⟩)] rfl rfl (by exact rfl) bldOver ?_) | (refine wl_storeRow [_, _] hst2 rfl rfl rfl rfl (vs := overR) overR_len overR_ones (by omega) (by omega) ?_; intro w7 hst3; clear hst2))
      have HD2 := hid (show (putAt ys (0 + j * 44) overR).drop ((j + 1) * 44) = recsV (xs.drop (j + 1)) by
        rw [drop_putAt (by rw [overR_len, HYL.out]; omega) (by rw [overR_len]; omega), HD.out])
      go_roundw
      case rel => exact ⟨j + 1, _, by omega, rfl, HD2, St.drop (L1 := []) hst3⟩
      case measure => simp [intOf]; omega
    · have e1 : decide ((j : Int) < (nr : Int)) = false := decide_eq_false (by omega)
      have hst5 : St w0 M wr (.blk g1 27 (tabC t (.slice ro nr rc) (.slice lo nl lc)) :: .row (.slice lo nl lc) 3 1 nl zs :: R) := by
        have h0 : xs.drop j = [] := List.drop_eq_nil_of_le (by rw [HLN.out]; omega)
        rw [h0] at hst
        exact St.sub hst (.cons_cons _ (.cons _ (.cons_cons _ (List.Sublist.refl _))))
      clear hst
      go_wp2_with (first | go_big_skip | go_big_guard | (refine wl_loadE rfl rfl rfl ?_; refine ⟨_, Loads.at [] hst5 rfl, ?_⟩))
      go_loopw [3] (fun i wr => ∃ (k : Nat) (ys : List Value), k ≤ nl ∧ i = .int .i64 (k : Int) ∧ St w0 M wr (.blk g1 27 (tabC t (.slice ro nr rc) (.slice lo nl lc)) :: .row (.slice lo nl lc) 3 1 nl ys :: R)) (fun i _ => nl - (intOf i).toNat)
      case atStart => exact ⟨0, _, Nat.zero_le _, rfl, hst5⟩
      case round =>
        clear hst5
        obtain ⟨k, ys, hk, rfl, hst⟩ := hrel
        by_cases hltk : k < nl
        · have e2 : decide ((k : Int) < (nl : Int)) = true := decide_eq_true (by omega)
          have z1 : IntKind.i64.wrap ((k : Int) + 1) = (k : Int) + 1 := IntWalk.i64_in _ (by omega)
          obtain ⟨g, c, he, _⟩ := row_spot hst (.tail _ (.head _)) (by omega)
          cases he
          go_wp2_with (first | go_big_skip | go_big_guard | (refine wl_loadE rfl rfl rfl ?_; refine ⟨_, Loads.at [] hst rfl, ?_⟩) | (refine wl_index rfl rfl rfl rfl hltk ?_) | (refine wl_storeRow1 [_] hst rfl rfl rfl rfl (v := .int .i64 (-7)) rfl rfl (by omega) (by omega) ?_; intro w7 hst3; clear hst))
          go_roundw
          case rel => exact ⟨k + 1, _, by omega, rfl, hst3⟩
          case measure => simp [intOf]; omega
        · have e2 : decide ((k : Int) < (nl : Int)) = false := decide_eq_false (by omega)
          go_wp2_with (first | go_big_skip | go_big_guard | (refine wl_loadE rfl rfl rfl ?_; refine ⟨_, Loads.at [] hst rfl, ?_⟩))
          go_end0
          exact ⟨rfl, St.sub hst (.cons _ (.cons _ (List.Sublist.refl _)))⟩
end Go.Proofs.YtifajcblbedcoaaGreat
namespace Go.Proofs.YtifajcblbedcoaaGreat
set_option linter.unusedVariables false
set_option linter.unusedSimpArgs false
open Go.RowKit Hp
attribute [local irreducible] Go.Calls Go.wpList
set_option maxRecDepth 100000
set_option maxHeartbeats 8000000
attribute [local go_sem ↓] heldInt heldInts heldRecs heldRec heldStr heldTab
/-- A table of one's own: its cells at g, its records, its lives, each record's addresses. -/
def TP (g : Nat) (t : TC) (rv lv : Value) (xs : List (Value × RC)) (R : List HA) : List HA := .blk g 27 (tabC t rv lv) :: .row rv 53 44 xs.length (recsV xs) :: .row lv 3 1 t.lives.length (numsV t.lives) :: (xs.map rootH ++ R)
structure Okx (xs : List (Value × RC)) (t : TC) : Prop where
  eq : xs.map (·.2) = t.recs
  ok : ∀ x ∈ xs, L32 x.2.S ∧ x.2.name.length ≤ 1000000
theorem Okx.own {xs : List (Value × RC)} {t : TC} (h : Okx xs t) (y : HA) (R : List HA) : OwnX (y :: (xs.map rootH ++ R)) xs := fun x hx => ⟨.tail _ (List.mem_append_left _ (List.mem_map_of_mem hx)), h.ok x hx⟩
theorem Okx.len {xs : List (Value × RC)} {t : TC} (h : Okx xs t) : xs.length = t.recs.length := by rw [← h.eq, List.length_map]
theorem RC.Bd.rootLen {r : RC} (h : r.Bd) : r.l.length ≤ 3 := (check_bd h.root).1
/-- What a function value tells, and leaves. -/
def DoesPost (g : Nat) (al : Option Addr) (cl : Nat) (w : World) (t : TC) (r : TR) (R : List HA) (e : Ending) (w' : World) : Prop :=
  e = .returned (.int .i64 r.1) ∧ ((r.1 == 0) = true → ∃ rv xs', Okx xs' r.2 ∧ St w [] w' (TP g r.2 rv (.slice al t.lives.length cl) xs' R) ∧ r.2.lives = t.lives) ∧ ((r.1 == 0) = false → St w [] w' R)
/-- What a function value does to a table of one's own. -/
def Does (F : FuncId) (caps : Array Value) (w : World) (t : TC) (r : TR) : Prop :=
  ∀ (g : Nat) (ao : Option Addr) (c : Nat) (al : Option Addr) (cl : Nat) (xs : List (Value × RC)) (R : List HA) (w1 : World), Okx xs t → St w [] w1 (TP g t (.slice ao xs.length c) (.slice al t.lives.length cl) xs R) →
    Calls Tryz.prog F (#[.pointer (some ⟨g, 0, none⟩)] ++ caps) w1 (DoesPost g al cl w t r R)
/-- What a call tells. -/
def TabRet (r : TR) (w : World) (e : Ending) (w' : World) : Prop :=
  ∃ rv lv xs, e = .returned (.tuple #[.agg (tabC r.2 rv lv).toArray, .int .i64 r.1]) ∧ Okx xs r.2 ∧ St w [] w' (.row rv 53 44 xs.length (recsV xs) :: .row lv 3 1 r.2.lives.length (numsV r.2.lives) :: xs.map rootH)
theorem tabRet_bad {w w' : World} {L : List HA} (h : St w [] w' L) (z : Int) : TabRet (badR z) w (.returned (.tuple #[.agg tab0.toArray, .int .i64 z])) w' :=
  ⟨.slice none 0 0, .slice none 0 0, [], rfl, ⟨rfl, fun _ h => by cases h⟩, St.nilR _ 44 (St.nilR _ 1 h.nil)⟩
theorem perm_owned {a b c d : HA} {R R' : List HA} (h : R.Perm R') : ((a :: R) ++ [b, c, d]).Perm (d :: a :: b :: (R' ++ [c])) := by
  have h1 : (R ++ [b, c, d]).Perm (b :: (R' ++ [c, d])) := (h.append_right _).trans List.perm_middle
  have h2 : (R' ++ [c, d]).Perm (d :: (R' ++ [c])) := by
    have e : R' ++ [c, d] = (R' ++ [c]) ++ [d] := by simp
    rw [e]
    exact List.perm_append_singleton _ _
  have h3 : (a :: (R ++ [b, c, d])).Perm (a :: b :: d :: (R' ++ [c])) := .cons _ (h1.trans (.cons _ h2))
  exact h3.trans ((List.Perm.cons _ (.swap _ _ _)).trans (.swap _ _ _))
theorem results_cellR {fn : Func} {p q : Tmp} {ty : TypeId} {tmps : Array Value} {P : Program} {w : World} {A : Addr} {v u : Value} (h : fn.results = #[.cell p ty, .tmp q]) (hp : tmps.getD p undef = .pointer (some A)) (hq : tmps.getD q undef = u) (hl : Loads P w ty A v) :
    (results fn tmps).run P w = .ok (.tuple #[v, u]) w := by
  have hl' : (loadVar ty A).run P w = .ok v w := hl
  have hp' : tmps[p]?.getD undef = .pointer (some A) := by simpa using hp
  have hq' : tmps[q]?.getD undef = u := by simpa using hq
  simp [results, h, hp', hq', asAddr, hl', Sem.run_bind]
theorem owned_any (F : FuncId) (caps : Array Value) (hF : ∀ (a : Array Value) (w : World), (callFunc F a).run Tryz.prog w = .ok (.enter F a) w) (t : TC) (ar al : Option Addr) (nr cr nl cl : Nat) (xs : List (Value × RC)) (w : World) (ht : TabIn w t ar nr cr al nl cl xs) (r : TR) (hd : t.ok = true → Does F caps w t r) :
    Calls Tryz.prog 54 #[.agg (tabC t (.slice ar nr cr) (.slice al nl cl)).toArray, .func (.func F) #[] caps] w (TabRet (opR t r) w) := by
  have hst0 := St.refl w
  have HT := hid ht
  have HD := hid hd
  have b1 := ht.br
  have b2 := ht.bl
  have b3 := ht.len
  have b4 := ht.ln
  obtain ⟨Q, hQ⟩ : ∃ Q, Q = opR t r := ⟨_, rfl⟩
  rw [← hQ]
  have HQ := hid hQ
  clear ht hd hQ
  cases hok : t.ok with
  | false =>
    have HE := hid (err_no hok)
    have HR := hid (show Q = badR 2 by rw [HQ.out]; unfold opR; rw [hok]; rfl)
    clear hok
    go_enter Tryz.func54, Tryz.ntmps54
    go_wp2_with (first | go_big_skip | go_big_guard | (refine wl_boxA hst0 rfl rfl rfl ?_; intro g w1 hst1; clear hst0) | (refine wl_alloc hst1 rfl rfl ?_; intro g4 w2 hst; clear hst1) | (refine wl_loadE rfl rfl rfl ?_; first | refine ⟨_, Loads.atA (tabC t (.slice ar nr cr) (.slice al nl cl)) [_] hst rfl rfl, ?_⟩ | refine ⟨_, Loads.at [_] hst rfl, ?_⟩ | refine ⟨_, Loads.at [_, _] hA2 rfl, ?_⟩ | refine ⟨_, Loads.atA (tabC u (.slice a9 xs9.length c9) (.slice a2 nl c2)) [] hB1 rfl rfl, ?_⟩) | (go_at_call 20; refine (check12_any t ar al nr cr nl cl xs _ (HT.out.R.old hst.nil) HT.out.eq (by omega) (Rd.old hst.nil HT.out.L) HT.out.ln (by omega)).mono ?_; rw [HE.out]; rintro _ w9 ⟨rfl, h4⟩; replace hst := St.call0 hst h4; clear h4) | (refine wl_build0 rfl rfl ?_) | (refine wl_storeA [] hst rfl rfl rfl rfl rfl rfl rfl ?_; intro w7 hst2; clear hst))
    have hl := Loads.atA (P := Tryz.prog) (off := 0) (T := 27) tab0 [] hst2 rfl rfl
    refine bodyPost_ret (results_cellR rfl rfl rfl hl) rfl ?_
    rw [HR.out]
    exact tabRet_bad hst2 2
  | true =>
    have HE := hid (err_yes hok)
    have hbd := ok_bd hok
    have HDD := hid (HD.out hok)
    have b5 := hbd.many
    have b6 := hbd.lives
    have HR := hid (show Q = if r.1 == 0 then r else badR r.1 by rw [HQ.out]; unfold opR; rw [hok]; rfl)
    have HRL := hid (show ∀ x ∈ xs, x.2.l.length ≤ 100000 ∧ x.2.name.length ≤ 1000000 from fun x hx => by
      have hx2 : x.2 ∈ t.recs := by rw [← HT.out.eq]; exact List.mem_map_of_mem hx
      have q1 := (hbd.recs x.2 hx2).rootLen
      have q2 := (hbd.recs x.2 hx2).name
      omega)
    clear hok hbd HD HQ
    obtain ⟨⟨z, u⟩, hru⟩ : ∃ q, q = r := ⟨_, rfl⟩
    subst hru
    have HRR := HR
    cases hz : (z == 0)
    · have d1 : (z != 0) = !(z == 0) := rfl
      rw [hz] at d1
      have HZ := hid hz
      clear hz
      go_enter Tryz.func54, Tryz.ntmps54
      go_wp2_with (first | go_big_skip | go_big_guard | (refine wl_boxA hst0 rfl rfl rfl ?_; intro g w1 hst1; clear hst0) | (refine wl_alloc hst1 rfl rfl ?_; intro g4 w2 hst; clear hst1) | (refine wl_loadE rfl rfl rfl ?_; first | refine ⟨_, Loads.atA (tabC t (.slice ar nr cr) (.slice al nl cl)) [_] hst rfl rfl, ?_⟩ | refine ⟨_, Loads.at [_] hst rfl, ?_⟩ | refine ⟨_, Loads.at [_, _] hA2 rfl, ?_⟩ | refine ⟨_, Loads.atA (tabC u (.slice a9 xs9.length c9) (.slice a2 nl c2)) [] hB1 rfl rfl, ?_⟩) | (go_at_call 20; refine (check12_any t ar al nr cr nl cl xs _ (HT.out.R.old hst.nil) HT.out.eq (by omega) (Rd.old hst.nil HT.out.L) HT.out.ln (by omega)).mono ?_; rw [HE.out]; rintro _ w9 ⟨rfl, h4⟩; replace hst := St.call0 hst h4; clear h4) | (go_at_call 110; refine (cloneI_any al nl cl _ _ (Rd.old hst HT.out.L) (ones_numsV _) (by omega)).mono ?_; rintro _ w9 ⟨v9, rfl, h4⟩; have hA1 := St.call hst h4; clear h4 hst; obtain ⟨a2, c2, rfl, _, _⟩ := rowS [] hA1) | (refine wl_store [_, _] hA1 rfl rfl rfl (off := 6) (v := .slice a2 nl c2) rfl rfl rfl (by show (6 : Nat) + 1 ≤ 7; decide) ?_; intro w6 h4; have hA2 : St w [] w6 (.row (.slice a2 nl c2) 3 1 nl (numsV t.lives) :: .blk g4 27 tab0 :: .blk g 27 (tabC t (.slice ar nr cr) (.slice a2 nl c2)) :: []) := h4; clear h4 hA1) | (go_at_call 111; refine (each_any ar nr cr xs _ (HT.out.R.old hA2.nil) (by omega) HRL.out).mono ?_; rintro _ w9 ⟨rv9, ys, rfl, hy9, ho9, h4⟩; have hA3 := St.call hA2 h4; clear h4 hA2; obtain ⟨a3, c3, rfl, _, _⟩ := rowS [] hA3; have HYE : Hid (ys.map (·.2) = t.recs) := hid (by rw [hy9]; exact HT.out.eq); have HYO := hid ho9; clear hy9 ho9; have hA4 : St w [] w9 (.blk g 27 (tabC t (.slice ar nr cr) (.slice a2 nl c2)) :: .row (.slice a3 nr c3) 53 44 nr (recsV ys) :: .row (.slice a2 nl c2) 3 1 nl (numsV t.lives) :: (ys.map rootH ++ [.blk g4 27 tab0])) := St.perm hA3 (perm_owned (rootRows_perm _ ys)); clear hA3) | (refine wl_store [] hA4 rfl rfl rfl (off := 1) (v := .slice a3 nr c3) rfl rfl rfl (by show (1 : Nat) + 1 ≤ 7; decide) ?_; intro w7 h4; have hB0 : St w [] w7 (TP g t (.slice a3 ys.length c3) (.slice a2 t.lives.length c2) ys [.blk g4 27 tab0]) := (by have q1 : ys.length = nr := (by rw [← List.length_map (f := fun x : Value × RC => x.2), HYE.out]; exact b3); unfold TP; rw [q1, b4]; exact h4); clear h4 hA4) | (refine (HDD.out g a3 c3 a2 c2 ys [.blk g4 27 tab0] _ ⟨HYE.out, HYO.out⟩ hB0).mono ?_; rintro _ w8 ⟨rfl, hgood, hbad⟩; have hC1 := hbad HZ.out; clear hgood hbad hB0) | (refine wl_build0 rfl rfl ?_) | (refine wl_storeA [] hC1 rfl rfl rfl rfl rfl rfl rfl ?_; intro w7 hC2; clear hC1))
      have hl := Loads.atA (P := Tryz.prog) (off := 0) (T := 27) tab0 [] hC2 rfl rfl
      refine bodyPost_ret (results_cellR rfl rfl rfl hl) rfl ?_
      have hq := HR.out
      rw [HZ.out] at hq
      rw [hq]
      exact tabRet_bad hC2 z
    · have d1 : (z != 0) = !(z == 0) := rfl
      rw [hz] at d1
      have HZ := hid hz
      clear hz
      go_enter Tryz.func54, Tryz.ntmps54
      go_wp2_with (first | go_big_skip | go_big_guard | (refine wl_boxA hst0 rfl rfl rfl ?_; intro g w1 hst1; clear hst0) | (refine wl_alloc hst1 rfl rfl ?_; intro g4 w2 hst; clear hst1) | (refine wl_loadE rfl rfl rfl ?_; first | refine ⟨_, Loads.atA (tabC t (.slice ar nr cr) (.slice al nl cl)) [_] hst rfl rfl, ?_⟩ | refine ⟨_, Loads.at [_] hst rfl, ?_⟩ | refine ⟨_, Loads.at [_, _] hA2 rfl, ?_⟩ | refine ⟨_, Loads.atA (tabC u (.slice a9 xs9.length c9) (.slice a2 nl c2)) [] hB1 rfl rfl, ?_⟩) | (go_at_call 20; refine (check12_any t ar al nr cr nl cl xs _ (HT.out.R.old hst.nil) HT.out.eq (by omega) (Rd.old hst.nil HT.out.L) HT.out.ln (by omega)).mono ?_; rw [HE.out]; rintro _ w9 ⟨rfl, h4⟩; replace hst := St.call0 hst h4; clear h4) | (go_at_call 110; refine (cloneI_any al nl cl _ _ (Rd.old hst HT.out.L) (ones_numsV _) (by omega)).mono ?_; rintro _ w9 ⟨v9, rfl, h4⟩; have hA1 := St.call hst h4; clear h4 hst; obtain ⟨a2, c2, rfl, _, _⟩ := rowS [] hA1) | (refine wl_store [_, _] hA1 rfl rfl rfl (off := 6) (v := .slice a2 nl c2) rfl rfl rfl (by show (6 : Nat) + 1 ≤ 7; decide) ?_; intro w6 h4; have hA2 : St w [] w6 (.row (.slice a2 nl c2) 3 1 nl (numsV t.lives) :: .blk g4 27 tab0 :: .blk g 27 (tabC t (.slice ar nr cr) (.slice a2 nl c2)) :: []) := h4; clear h4 hA1) | (go_at_call 111; refine (each_any ar nr cr xs _ (HT.out.R.old hA2.nil) (by omega) HRL.out).mono ?_; rintro _ w9 ⟨rv9, ys, rfl, hy9, ho9, h4⟩; have hA3 := St.call hA2 h4; clear h4 hA2; obtain ⟨a3, c3, rfl, _, _⟩ := rowS [] hA3; have HYE : Hid (ys.map (·.2) = t.recs) := hid (by rw [hy9]; exact HT.out.eq); have HYO := hid ho9; clear hy9 ho9; have hA4 : St w [] w9 (.blk g 27 (tabC t (.slice ar nr cr) (.slice a2 nl c2)) :: .row (.slice a3 nr c3) 53 44 nr (recsV ys) :: .row (.slice a2 nl c2) 3 1 nl (numsV t.lives) :: (ys.map rootH ++ [.blk g4 27 tab0])) := St.perm hA3 (perm_owned (rootRows_perm _ ys)); clear hA3) | (refine wl_store [] hA4 rfl rfl rfl (off := 1) (v := .slice a3 nr c3) rfl rfl rfl (by show (1 : Nat) + 1 ≤ 7; decide) ?_; intro w7 h4; have hB0 : St w [] w7 (TP g t (.slice a3 ys.length c3) (.slice a2 t.lives.length c2) ys [.blk g4 27 tab0]) := (by have q1 : ys.length = nr := (by rw [← List.length_map (f := fun x : Value × RC => x.2), HYE.out]; exact b3); unfold TP; rw [q1, b4]; exact h4); clear h4 hA4) | (refine (HDD.out g a3 c3 a2 c2 ys [.blk g4 27 tab0] _ ⟨HYE.out, HYO.out⟩ hB0).mono ?_; rintro _ w8 ⟨rfl, hgood, hbad⟩; obtain ⟨rv9, xs9, hok9, hB1, hlv9⟩ := hgood HZ.out; clear hgood hbad hB0; rw [b4] at hB1; obtain ⟨a9, c9, rfl, _, _⟩ := rowS [_] hB1; have HOK := hid hok9; have HLV := hid hlv9; clear hok9 hlv9) | (refine wl_build0 rfl rfl ?_) | (refine wl_storeA (_ :: _ :: _ :: List.map rootH xs9) hB1 rfl rfl rfl rfl (vs := tabC u (.slice a9 xs9.length c9) (.slice a2 nl c2)) rfl rfl rfl ?_; intro w7 hB2; clear hB1))
      have hl := Loads.atA (P := Tryz.prog) (off := 0) (T := 27) (tabC u (.slice a9 xs9.length c9) (.slice a2 nl c2)) (_ :: _ :: _ :: List.map rootH xs9) hB2 rfl rfl
      refine bodyPost_ret (results_cellR rfl rfl rfl hl) rfl ?_
      have hq := HR.out
      rw [HZ.out] at hq
      have hz0 : z = 0 := by simpa using HZ.out
      subst hz0
      rw [hq]
      exact ⟨_, _, xs9, rfl, HOK.out, St.sub hB2 (.cons _ (.cons_cons _ (.cons_cons _ (List.sublist_append_left _ _))))⟩
end Go.Proofs.YtifajcblbedcoaaGreat
namespace Go.Proofs.YtifajcblbedcoaaGreat
set_option linter.unusedVariables false
set_option linter.unusedSimpArgs false
open Go.RowKit Hp
attribute [local irreducible] Go.Calls Go.wpList
set_option maxRecDepth 100000
set_option maxHeartbeats 8000000
attribute [local go_sem ↓] heldInt heldInts heldRecs heldRec heldStr heldTab
theorem tp_rest {L : List HA} {g : Nat} {t : TC} {rv lv : Value} {xs : List (Value × RC)} {R : List HA} {w w' : World} (h : St w [] w' (L ++ TP g t rv lv xs R)) : St w [] w' R :=
  St.sub h (by
    refine (List.Sublist.trans ?_ (List.sublist_append_right _ _))
    exact .cons _ (.cons _ (.cons _ (List.sublist_append_right _ _))))
theorem does_bad {L : List HA} {g : Nat} {al : Option Addr} {cl : Nat} {w w' : World} {t : TC} {rv lv : Value} {xs : List (Value × RC)} {R : List HA} {r : TR} {z : Int} (hr : r = badR z) (hz : (z == 0) = false) (h : St w [] w' (L ++ TP g t rv lv xs R)) : DoesPost g al cl w t r R (.returned (.int .i64 z)) w' := by
  subst hr
  refine ⟨rfl, fun h0 => ?_, fun _ => tp_rest h⟩
  have : (z == 0) = true := h0
  rw [hz] at this
  cases this
/-- A record, its addresses ahead, is ready to be put in. -/
theorem put_ready {E : List HA} {g : Nat} {t : TC} {rv lv : Value} {xs : List (Value × RC)} {R : List HA} {w w' : World} {x : Value × RC} (h : St w [] w' (rootH x :: (E ++ TP g t rv lv xs R))) :
    St w [] w' (.blk g 27 (tabC t rv lv) :: .row rv 53 44 xs.length (recsV xs) :: (.row lv 3 1 t.lives.length (numsV t.lives) :: (xs.map rootH ++ (rootH x :: (E ++ R))))) := by
  refine St.perm h ?_
  unfold TP
  generalize HA.blk g _ _ = a
  generalize HA.row rv _ _ _ _ = b
  generalize HA.row lv _ _ _ _ = c
  generalize List.map rootH xs = m
  generalize rootH x = y
  have h1 : (E ++ (a :: b :: c :: (m ++ R))).Perm (a :: b :: c :: (m ++ (E ++ R))) := by
    have : (E ++ ((a :: b :: c :: m) ++ R)).Perm ((a :: b :: c :: m) ++ (E ++ R)) := by
      rw [← List.append_assoc, ← List.append_assoc]
      exact List.perm_append_comm.append_right R
    exact this
  have h2 : (y :: (a :: b :: c :: (m ++ (E ++ R)))).Perm (a :: b :: c :: (m ++ (y :: (E ++ R)))) := by
    have : (y :: ((a :: b :: c :: m) ++ (E ++ R))).Perm ((a :: b :: c :: m) ++ (y :: (E ++ R))) := List.perm_middle.symm
    exact this
  exact (List.Perm.cons y h1).trans h2
theorem ready_own {x : Value × RC} {xs : List (Value × RC)} {t : TC} {c : HA} {E : List HA} (h : Okx xs t) (hx : L32 x.2.S ∧ x.2.name.length ≤ 1000000) : OwnX (c :: (xs.map rootH ++ (rootH x :: E))) xs ∧ OwnR (c :: (xs.map rootH ++ (rootH x :: E))) x :=
  ⟨fun y hy => ⟨.tail _ (List.mem_append_left _ (List.mem_map_of_mem hy)), h.ok y hy⟩, ⟨.tail _ (List.mem_append_right _ (.head _)), hx⟩⟩
/-- A record was put in. -/
theorem put_done {E : List HA} {g : Nat} {al : Option Addr} {cl : Nat} {w w' : World} {t : TC} {rv : Value} {xs xs' : List (Value × RC)} {R : List HA} {x : Value × RC} {r : TR} (hr : r = (0, putT t x.2)) (hok : Okx xs t) (he : xs'.map (·.2) = layL { x.2 with id := t.next } (xs.map (·.2)))
    (ho : ∀ y ∈ xs', L32 y.2.S ∧ y.2.name.length ≤ 1000000) (hp : (xs'.map rootH).Perm (rootH x :: xs.map rootH))
    (h : St w [] w' (.blk g 27 (tabC (nextT t) rv (.slice al t.lives.length cl)) :: .row rv 53 44 (xs.length + 1) (recsV xs') :: (.row (.slice al t.lives.length cl) 3 1 t.lives.length (numsV t.lives) :: (xs.map rootH ++ (rootH x :: (E ++ R)))))) :
    DoesPost g al cl w t r R (.returned (.int .i64 0)) w' := by
  subst hr
  refine ⟨rfl, fun _ => ⟨rv, xs', ⟨?_, ho⟩, ?_, rfl⟩, fun h0 => by cases h0⟩
  · rw [he, hok.eq]
    rfl
  · have hl : xs'.length = xs.length + 1 := by
      have := congrArg List.length he
      rw [List.length_map, layL_length, List.length_map] at this
      exact this
    unfold TP
    rw [hl]
    have h1 : (xs.map rootH ++ (rootH x :: (E ++ R))).Perm (xs'.map rootH ++ (E ++ R)) := List.perm_middle.trans (hp.symm.append_right _)
    have h2 := St.perm h (.cons _ (.cons _ (.cons _ h1)))
    exact St.sub h2 (.cons_cons _ (.cons_cons _ (.cons_cons _ ((List.Sublist.refl _).append (List.sublist_append_right _ _)))))
theorem put_front {w w' : World} {e a b c y : HA} {m R : List HA} (h : St w [] w' (a :: b :: c :: (m ++ (y :: ([e] ++ R))))) : St w [] w' (e :: a :: b :: c :: (m ++ (y :: ([] ++ R)))) := by
  refine St.perm h ?_
  have h1 : (m ++ (y :: (e :: R))).Perm (e :: (m ++ (y :: R))) := by
    have := List.perm_middle (a := e) (l₁ := m ++ [y]) (l₂ := R)
    simpa using this
  have h2 : (a :: b :: c :: (m ++ (y :: (e :: R)))).Perm (a :: b :: c :: (e :: (m ++ (y :: R)))) := .cons _ (.cons _ (.cons _ h1))
  exact h2.trans (List.perm_middle (a := e) (l₁ := [a, b, c]) (l₂ := m ++ (y :: R)))
theorem bldV (nm : List UInt8) (size txg : Int) : Tryz.prog.built 53 [(1, .string ⟨nm.toArray⟩), (2, .int .i64 1), (3, .int .i64 size), (5, .int .i64 txg)] = some (cellsR ((.slice none 0 0 : Value), volR nm size txg)).toArray := by kernel_rfl
/-- A bound of a table that may be. -/
theorem ok_next {t : TC} (h : t.ok = true) : 0 ≤ t.next ∧ t.next ≤ 2147483648 := (ok_bd h).next
theorem ok_many {t : TC} (h : t.ok = true) : t.recs.length ≤ 16 := (ok_bd h).many
theorem ok_sorted {t : TC} (h : t.ok = true) : Sorted t.recs := by
  have h4 : allAt (eachB t.recs) t.recs = true := by
    unfold TC.ok at h
    simp only [Bool.and_eq_true] at h
    exact h.1.2
  have step : ∀ (i : Nat) (x y : RC), t.recs[i]? = some x → t.recs[i + 1]? = some y → lessL x.name y.name = true := fun i x y hx hy => by
    have := allAt_at h4 hy
    unfold eachB at this
    have h2 := (Bool.and_eq_true_iff.1 this).2
    have e : lessAt t.recs (i + 1) y = lessL x.name y.name := by
      show (match t.recs[i]? with
        | some u => lessL u.name y.name
        | none => true) = _
      rw [hx]
    rwa [e] at h2
  intro i j x y hij hx hy
  obtain ⟨d, rfl⟩ : ∃ d, j = i + 1 + d := ⟨j - (i + 1), by omega⟩
  induction d generalizing y with
  | zero => exact step i x y hx hy
  | succ d ih =>
    have hlt := (List.getElem?_eq_some_iff.1 hy).1
    have hz : t.recs[i + 1 + d]? = some t.recs[i + 1 + d] := List.getElem?_eq_getElem (by omega)
    exact less_trans (ih _ (by omega) hz) (step (i + 1 + d) _ y hz hy)
theorem make_does {w : World} {gn gs gx : Nat} (nm : List UInt8) (size txg : Int) (h1 : w.cell? ⟨gn, 0, none⟩ = some (.string ⟨nm.toArray⟩)) (h2 : w.cell? ⟨gs, 0, none⟩ = some (.int .i64 size)) (h3 : w.cell? ⟨gx, 0, none⟩ = some (.int .i64 txg)) (hl : nm.length ≤ 1000000) (t : TC) (hk : t.ok = true) :
    Does 61 #[.pointer (some ⟨gn, 0, none⟩), .pointer (some ⟨gs, 0, none⟩), .pointer (some ⟨gx, 0, none⟩)] w t (makeR t nm size txg) := by
  intro g ao c al cl xs R w1 hok hst0
  show Calls _ _ #[.pointer (some ⟨g, 0, none⟩), .pointer (some ⟨gn, 0, none⟩), .pointer (some ⟨gs, 0, none⟩), .pointer (some ⟨gx, 0, none⟩)] _ _
  have hst := hst0
  have H1 := hid h1
  have H2 := hid h2
  have H3 := hid h3
  have HOK := hid hok
  have HK := hid hk
  have b2 : xs.length ≤ 16 := by rw [hok.len]; exact ok_many hk
  clear hst0 h1 h2 h3 hok hk
  obtain ⟨r, hr⟩ : ∃ r, r = makeR t nm size txg := ⟨_, rfl⟩
  rw [← hr]
  have HR := hid hr
  clear hr
  obtain ⟨p, hp⟩ : ∃ p, partB nm = p := ⟨_, rfl⟩
  obtain ⟨q, hq⟩ : ∃ q, inB size 1 64 = q := ⟨_, rfl⟩
  obtain ⟨s, hs⟩ : ∃ s, txgB txg = s := ⟨_, rfl⟩
  obtain ⟨z, hz⟩ : ∃ z, roomE t nm = z := ⟨_, rfl⟩
  have HP := hid hp
  have HSZ := hid hq
  have HT := hid hs
  have HRM := hid hz
  have hv : r = if (p && q) && s then (if z == 0 then (0, putT t (volR nm size txg)) else badR z) else badR 2 := by rw [HR.out]; unfold makeR; rw [hp, hq, hs, hz]
  have HV := hid hv
  clear hp hq hs hz hv
  cases hc : ((p && q) && s)
  · have HB := hid (show r = badR 2 by rw [HV.out, hc]; rfl)
    clear HV HR
    cases p <;> cases q <;> cases s <;> first | (cases hc; done) | skip
    all_goals
      clear hc
      go_enter Tryz.func61, Tryz.ntmps61
      go_wp2_with (first | go_big_skip | go_big_guard | (refine wl_loadE rfl rfl rfl ?_; first | refine ⟨_, Loads.old hst H1.out, ?_⟩ | refine ⟨_, Loads.old hst H2.out, ?_⟩ | refine ⟨_, Loads.old hst H3.out, ?_⟩) | (go_at_call 62; refine (volume_any nm _ (by omega)).mono ?_; rw [HP.out]; rintro _ w9 ⟨rfl, h4⟩; replace hst := St.call0 hst h4; clear h4) | (go_at_call 63; refine (sized_any size _).mono ?_; rw [HSZ.out]; rintro _ w9 ⟨rfl, h4⟩; replace hst := St.call0 hst h4; clear h4) | (go_at_call 64; refine (commit_any txg _).mono ?_; rw [HT.out]; rintro _ w9 ⟨rfl, h4⟩; replace hst := St.call0 hst h4; clear h4))
      go_ret
      exact does_bad (L := []) HB.out (by decide) hst
  · have h3 : p = true ∧ q = true ∧ s = true := by revert hc; cases p <;> cases q <;> cases s <;> decide
    obtain ⟨rfl, rfl, rfl⟩ := h3
    cases hz : (z == 0)
    · have HB := hid (show r = badR z by rw [HV.out, hc, hz]; rfl)
      have HZ := hid hz
      have d1 : (z != 0) = true := by rw [bne, hz]; rfl
      clear hc hz HV HR
      go_enter Tryz.func61, Tryz.ntmps61
      go_wp2_with (first | go_big_skip | go_big_guard | (refine wl_loadE rfl rfl rfl ?_; first | refine ⟨_, Loads.old hst H1.out, ?_⟩ | refine ⟨_, Loads.old hst H2.out, ?_⟩ | refine ⟨_, Loads.old hst H3.out, ?_⟩) | (go_at_call 62; refine (volume_any nm _ (by omega)).mono ?_; rw [HP.out]; rintro _ w9 ⟨rfl, h4⟩; replace hst := St.call0 hst h4; clear h4) | (go_at_call 63; refine (sized_any size _).mono ?_; rw [HSZ.out]; rintro _ w9 ⟨rfl, h4⟩; replace hst := St.call0 hst h4; clear h4) | (go_at_call 64; refine (commit_any txg _).mono ?_; rw [HT.out]; rintro _ w9 ⟨rfl, h4⟩; replace hst := St.call0 hst h4; clear h4) | (go_at_call 65; refine (room_any g t ao xs.length c _ xs nm hst (HOK.out.own _ _) rfl HOK.out.eq (by omega)).mono ?_; rw [HRM.out]; rintro _ w9 ⟨rfl, h4⟩; have hst2 := h4; clear h4 hst))
      go_ret
      exact does_bad (L := []) HB.out HZ.out hst2
    · have HB := hid (show r = (0, putT t (volR nm size txg)) by rw [HV.out, hc, hz]; rfl)
      have d1 : (z != 0) = false := by rw [bne, hz]; rfl
      clear hc hz HV HR
      have hz0 := ok_next HK.out
      have HS := hid (ok_sorted HK.out)
      go_enter Tryz.func61, Tryz.ntmps61
      go_wp2_with (first | go_big_skip | go_big_guard | (refine wl_loadE rfl rfl rfl ?_; first | refine ⟨_, Loads.old hst H1.out, ?_⟩ | refine ⟨_, Loads.old hst H2.out, ?_⟩ | refine ⟨_, Loads.old hst H3.out, ?_⟩ | refine ⟨_, Loads.old hst2 H1.out, ?_⟩ | refine ⟨_, Loads.old hst2 H2.out, ?_⟩ | refine ⟨_, Loads.old hst2 H3.out, ?_⟩) | (go_at_call 62; refine (volume_any nm _ (by omega)).mono ?_; rw [HP.out]; rintro _ w9 ⟨rfl, h4⟩; replace hst := St.call0 hst h4; clear h4) | (go_at_call 63; refine (sized_any size _).mono ?_; rw [HSZ.out]; rintro _ w9 ⟨rfl, h4⟩; replace hst := St.call0 hst h4; clear h4) | (go_at_call 64; refine (commit_any txg _).mono ?_; rw [HT.out]; rintro _ w9 ⟨rfl, h4⟩; replace hst := St.call0 hst h4; clear h4) | (go_at_call 65; refine (room_any g t ao xs.length c _ xs nm hst (HOK.out.own _ _) rfl HOK.out.eq (by omega)).mono ?_; rw [HRM.out]; rintro _ w9 ⟨rfl, h4⟩; have hst2 := h4; clear h4 hst) | (refine wl_buildX (cs := cellsR ((.slice none 0 0 : Value), volR nm size txg)) [(1, .string ⟨nm.toArray⟩), (2, .int .i64 1), (3, .int .i64 size), (5, .int .i64 txg)] rfl rfl (by exact rfl) (bldV _ _ _) ?_) | (go_at_call 66; have hrd := put_ready (E := []) (g := g) (t := t) (rv := .slice ao xs.length c) (lv := .slice al t.lives.length cl) (xs := xs) (R := R) (x := ((.slice none 0 0 : Value), volR nm size txg)) (St.nilR 102 2 hst2); have hox := ready_own (x := ((.slice none 0 0 : Value), volR nm size txg)) (c := .row (.slice al t.lives.length cl) 3 1 t.lives.length (numsV t.lives)) (E := [] ++ R) HOK.out ⟨L32.nones, hl⟩; refine (putRec_any g t ao xs.length c _ xs ((.slice none 0 0 : Value), volR nm size txg) hrd hox.1 hox.2 rfl (by rw [HOK.out.eq]; exact HS.out) (by omega) hz0).mono ?_; rintro _ w9 ⟨rv9, xs9, rfl, he9, ho9, hp9, h4⟩; have HE9 := hid he9; have HO9 := hid ho9; have HP9 := hid hp9; have hst3 := h4; clear h4 hst2 he9 ho9 hp9 hrd hox))
      go_ret
      exact put_done (E := []) (g := g) (al := al) (cl := cl) (t := t) (rv := rv9) (xs := xs) (xs' := xs9) (R := R) (x := ((.slice none 0 0 : Value), volR nm size txg)) HB.out HOK.out HE9.out (fun y hy => (HO9.out y hy).2) HP9.out hst3
end Go.Proofs.YtifajcblbedcoaaGreat
namespace Go.Proofs.YtifajcblbedcoaaGreat
set_option linter.unusedVariables false
set_option linter.unusedSimpArgs false
open Go.RowKit Hp
attribute [local irreducible] Go.Calls Go.wpList
set_option maxRecDepth 100000
set_option maxHeartbeats 8000000
theorem del_cells {C rest : List Value} {n i : Nat} (hl : C.length = n * 44) (hi : i < n) : (putAt (C ++ rest) (i * 44) (C.drop ((i + 1) * 44))).take ((n - 1) * 44) = C.take (i * 44) ++ C.drop ((i + 1) * 44) := by
  have h1 : (C.drop ((i + 1) * 44)).length = (n - 1 - i) * 44 := by rw [List.length_drop, hl]; omega
  have h2 : ((C ++ rest).take (i * 44)) = C.take (i * 44) := List.take_append_of_le_length (by rw [hl]; omega)
  have h3 : (C.take (i * 44)).length = i * 44 := by rw [List.length_take, hl]; omega
  unfold putAt
  rw [h2, ← List.append_assoc, List.take_append_of_le_length (by rw [List.length_append, h3, h1]; omega), List.take_of_length_le (by rw [List.length_append, h3, h1]; omega)]
theorem delete_any {w0 w : World} {M : List Nat} {R : List HA} (g n c i : Nat) (C : List Value) (hS : St w0 M w (.row (.slice (some ⟨g, 0, none⟩) n c) 53 44 n C :: R)) (hl : C.length = n * 44) (hC : C.all (·.oneCell') = true) (hi : i < n) (hn : n ≤ 100000) :
    Calls Tryz.prog 60 #[.slice (some ⟨g, 0, none⟩) n c, .int .i64 i, .int .i64 ((i : Int) + 1)] w fun e w' => e = .returned (.slice (some ⟨g, 0, none⟩) (n - 1) c) ∧ St w0 M w' (.row (.slice (some ⟨g, 0, none⟩) (n - 1) c) 53 44 (n - 1) (C.take (i * 44) ++ C.drop ((i + 1) * 44)) :: R) := by
  obtain ⟨g', c', rest, e, hnc, hcm, hcs, _, hst⟩ := row_openV (L1 := []) hS (by omega)
  cases e
  have HC := hid hC
  have HL := hid hl
  have HCS := hid hcs
  obtain ⟨i1, hi1⟩ : ∃ i1, i1 = i + 1 := ⟨_, rfl⟩
  obtain ⟨m, hm1⟩ : ∃ m, m = n - 1 := ⟨_, rfl⟩
  have z1 : ((i : Int) == (i1 : Int)) = false := by rw [beq_eq_false_iff_ne]; omega
  have b1 : i ≤ n := by omega
  have b2 : i1 ≤ n := by omega
  have b3 : i ≤ i1 := by omega
  have b4 : m ≤ n := by omega
  have b5 : i ≤ c := by omega
  have b6 : n - m = 1 := by omega
  have c1 : ¬ (n = i) := by omega
  have c2 : ¬ (c = i) := by omega
  have c3 : ¬ (c = m) := by omega
  have hz : ((i : Int) + 1) = (i1 : Int) := by omega
  rw [hz]
  have HI1 := hid hi1
  have HM1 := hid hm1
  clear hS hC hl hcs hi1 hm1 hz
  by_cases hc : c = i1
  · have hc2 := hc.symm
    subst hc2
    go_enter Tryz.func60, Tryz.ntmps60
    go_wp2_with (first | go_big_skip | go_big_guard | fail)
    have hX := hst.drew
    clear hst
    refine wp_region_held_drew (S := (fun w' => True)) (by kernel_rfl) (by exact trivial) (fun hHeld => ?_)
    refine tq 0 20 ?_
    refine tq 1 21 ?_
    refine tq 3 23 ?_
    refine tq 4 24 ?_
    refine tq 2 22 ?_
    refine tq 5 25 ?_
    refine wpAnyH_ready (rs := [6]) (by kernel_rfl) (by simp) ?_
    refine (AllReadyH.cons (o := ⟨some 26, _, _, _, _, _⟩) rfl (fun K hK => ?_) AllReadyH.nil)
    rw [if_pos (by rfl)]
    refine ow_of_wl (ops := #[]) (by rfl) ?_
    apply wl_appRoomR (n := i) (m := n - i1) (r := m) (sz := 44) (ys := C.drop (i1 * 44)) [] hX rfl
    · rfl
    · rfl
    · exact rfl
    · exact rfl
    · infer_instance
    · infer_instance
    · infer_instance
    · exact (show Rd _ _ 44 (n - i1) (C.drop (i1 * 44)) from (by have e1 : n - i1 = 0 := (by omega); have e2 : C.drop (i1 * 44) = [] := List.drop_eq_nil_of_le (by rw [HL.out]; omega); rw [e1, e2]; exact Rd.empty _ _ _))
    · exact (by have hq := HC.out; rw [List.all_eq_true] at hq ⊢; exact fun x hx => hq x (List.mem_of_mem_drop hx))
    · (have := HI1.out; have := HM1.out; omega)
    · exact HCS.out
    · omega
    · (have := HI1.out; have := HM1.out; omega)
    intro w7 hst2
    refine q0_nil ?_
    refine hK.out _ _ ?_ (fun hHeld => ?_)
    · exact trivial
    clear hK K
    (try simp only [Act.put, List.setIfInBounds_toArray, List.set_cons_zero, List.set_cons_succ])
    refine tq 7 0 ?_
    refine wpAnyH_done (by kernel_rfl) ?_ _
    clear hHeld
    go_wp2_with (first | go_big_skip | go_big_guard | (apply wl_clearM (n := 1) (sz := 44) (zs := rec0) [] hst2; rfl; rfl; exact rfl; infer_instance; infer_instance; infer_instance; rfl; decide; (rw [length_putAt (by rw [HCS.out, List.length_drop, HL.out]; have := HI1.out; have := HM1.out; omega), HCS.out]; have := HI1.out; have := HM1.out; omega); intro w8 cs9 hl9 ht9 hst3; clear hst2))
    go_ret
    have q1 : cs9.length = i1 * 44 := by rw [hl9, length_putAt (by rw [HCS.out, List.length_drop, HL.out]; have := HI1.out; have := HM1.out; omega), HCS.out]
    have e2 := St.toRow (n := m) (cap := i1) (sz := 44) hst3 q1 (by omega) (by omega)
    have e3 : cs9.take (m * 44) = C.take (i * 44) ++ C.drop ((i + 1) * 44) := by
      rw [ht9, HM1.out, HI1.out]
      exact del_cells HL.out hi
    rw [e3, HM1.out] at e2
    rw [HM1.out]
    exact ⟨rfl, e2⟩
  · skip
    go_enter Tryz.func60, Tryz.ntmps60
    go_wp2_with (first | go_big_skip | go_big_guard | fail)
    have hX := hst.drew
    clear hst
    refine wp_region_held_drew (S := (fun w' => True)) (by kernel_rfl) (by exact trivial) (fun hHeld => ?_)
    refine tq 0 20 ?_
    refine tq 1 21 ?_
    refine tq 3 23 ?_
    refine tq 4 24 ?_
    refine tq 2 22 ?_
    refine tq 5 25 ?_
    refine wpAnyH_ready (rs := [6]) (by kernel_rfl) (by simp) ?_
    refine (AllReadyH.cons (o := ⟨some 26, _, _, _, _, _⟩) rfl (fun K hK => ?_) AllReadyH.nil)
    rw [if_pos (by rfl)]
    refine ow_of_wl (ops := #[]) (by rfl) ?_
    apply wl_appRoomR (n := i) (m := n - i1) (r := m) (sz := 44) (ys := C.drop (i1 * 44)) [] hX rfl
    · rfl
    · rfl
    · exact rfl
    · exact rfl
    · infer_instance
    · infer_instance
    · infer_instance
    · exact (Rd.blk hX (.head _) (by omega) (by unfold maxLen; omega) (by rw [List.length_drop, HL.out]; omega) (by rw [List.drop_append_of_le_length (by rw [HL.out]; omega), List.take_left]))
    · exact (by have hq := HC.out; rw [List.all_eq_true] at hq ⊢; exact fun x hx => hq x (List.mem_of_mem_drop hx))
    · (have := HI1.out; have := HM1.out; omega)
    · exact HCS.out
    · omega
    · (have := HI1.out; have := HM1.out; omega)
    intro w7 hst2
    refine q0_nil ?_
    refine hK.out _ _ ?_ (fun hHeld => ?_)
    · exact trivial
    clear hK K
    (try simp only [Act.put, List.setIfInBounds_toArray, List.set_cons_zero, List.set_cons_succ])
    refine tq 7 0 ?_
    refine wpAnyH_done (by kernel_rfl) ?_ _
    clear hHeld
    go_wp2_with (first | go_big_skip | go_big_guard | (apply wl_clearM (n := 1) (sz := 44) (zs := rec0) [] hst2; rfl; rfl; exact rfl; infer_instance; infer_instance; infer_instance; rfl; decide; (rw [length_putAt (by rw [HCS.out, List.length_drop, HL.out]; have := HI1.out; have := HM1.out; omega), HCS.out]; have := HI1.out; have := HM1.out; omega); intro w8 cs9 hl9 ht9 hst3; clear hst2))
    go_ret
    have q1 : cs9.length = c * 44 := by rw [hl9, length_putAt (by rw [HCS.out, List.length_drop, HL.out]; have := HI1.out; have := HM1.out; omega), HCS.out]
    have e2 := St.toRow (n := m) (cap := c) (sz := 44) hst3 q1 (by omega) (by omega)
    have e3 : cs9.take (m * 44) = C.take (i * 44) ++ C.drop ((i + 1) * 44) := by
      rw [ht9, HM1.out, HI1.out]
      exact del_cells HL.out hi
    rw [e3, HM1.out] at e2
    rw [HM1.out]
    exact ⟨rfl, e2⟩
end Go.Proofs.YtifajcblbedcoaaGreat
