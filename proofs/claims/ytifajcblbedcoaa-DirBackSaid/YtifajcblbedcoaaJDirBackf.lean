/- A volume is put in. -/
import Derived.Test.YtifajcblbedcoaaJDirBacke
import Derived.Test.YtifajcblbedcoaaSepQ
import Derived.Test.YtifajcblbedcoaaJDirBackd
import Derived.Test.YtifajcblbedcoaaJDirBackc
import Derived.Test.YtifajcblbedcoaaT8
import Derived.Test.YtifajcblbedcoaaSepP
import Derived.Test.YtifajcblbedcoaaJDirBackb
import Derived.Deep.DeepCutAuto
namespace Go.Proofs.Ytifajcblbedcoaa
set_option linter.unusedVariables false
set_option linter.unusedSimpArgs false
open Go.RowKit Hp
/-- The rows of the records' addresses. -/
def rootRows (E : TypeId) (xs : List (Value × RC)) : List HA := xs.reverse.map fun x => .row x.1 E 2 x.2.l.length (addrsV x.2.l)
theorem rootRows_add (E : TypeId) (xs : List (Value × RC)) (x : Value × RC) : rootRows E (xs ++ [x]) = .row x.1 E 2 x.2.l.length (addrsV x.2.l) :: rootRows E xs := by simp [rootRows]
theorem rootRows_mem {E : TypeId} {xs : List (Value × RC)} {x : Value × RC} (h : x ∈ xs) : HA.row x.1 E 2 x.2.l.length (addrsV x.2.l) ∈ rootRows E xs := by
  unfold rootRows
  rw [List.mem_map]
  exact ⟨x, by simpa using h, rfl⟩
theorem Hp.St.root {w0 w : World} {M : List Nat} {g : HA} {A : List HA} {E : TypeId} {xs : List (Value × RC)} {sv : Value} {x : RC} (h : St w0 M w (g :: .row sv E 2 x.l.length (addrsV x.l) :: (A ++ rootRows E xs))) : St w0 M w (g :: (A ++ rootRows E (xs ++ [(sv, x)]))) := by
  rw [rootRows_add]
  exact St.perm h (.cons _ List.perm_middle.symm)
/-- What a table's bytes come to. -/
def tabOut (rT : TypeId) (aT : TypeId) (iT : TypeId) (B : List UInt8) (w : World) (e : Ending) (w' : World) : Prop :=
  if gOK B then ∃ rv lv xs, e = .returned (.tuple #[.agg (tabC (tabG false B) rv lv).toArray, .agg #[.int .i64 0, .int .i64 0]]) ∧ xs.map (·.2) = (tabG false B).recs ∧ St w [] w' (.row rv rT 44 (tabG false B).recs.length (recsV xs) :: .row lv iT 1 (tabG false B).lives.length (numsV (tabG false B).lives) :: rootRows aT xs)
  else e = .returned (.tuple #[.agg #[.int .i64 0, .slice none 0 0, .int .i64 0, .int .i64 0, .int .i64 0, .int .i64 0, .slice none 0 0], .agg #[.int .i64 (gErr B), .int .i64 (gAt B)]]) ∧ St w [] w' []
theorem gOK_no_short {B : List UInt8} (h : (tS9 B).short = true) : gOK B = false ∧ gErr B = 4 ∧ gAt B = B.length := by
  refine ⟨by unfold gOK; rw [h]; rfl, by unfold gErr; rw [if_pos h], by unfold gAt; rw [if_pos h]⟩
theorem gOK_no_end {B : List UInt8} (h : (tS9 B).short = false) (h2 : (tS9 B).pos < B.length) : gOK B = false ∧ gErr B = 4 ∧ gAt B = (tS9 B).pos := by
  refine ⟨?_, ?_, ?_⟩
  · unfold gOK
    have : ((tS9 B).pos == B.length) = false := by rw [beq_eq_false_iff_ne]; omega
    rw [this]; simp
  · unfold gErr; rw [if_neg (by rw [h]; decide), if_pos h2]
  · unfold gAt; rw [if_neg (by rw [h]; decide), if_pos h2]
theorem gOK_no_fit {B : List UInt8} (h : (tS9 B).short = false) (h2 : ¬ (tS9 B).pos < B.length) (h3 : (rootsG B && (tabG false B).ok) = false) : gOK B = false ∧ gErr B = 2 ∧ gAt B = 0 := by
  refine ⟨?_, ?_, ?_⟩
  · unfold gOK
    rw [Bool.and_assoc, h3]; simp
  · unfold gErr; rw [if_neg (by rw [h]; decide), if_neg h2, h3]; rfl
  · unfold gAt; rw [if_neg (by rw [h]; decide), if_neg h2]
theorem gOK_yes {B : List UInt8} (h : (tS9 B).short = false) (h2 : ¬ (tS9 B).pos < B.length) (h3 : rootsG B = true) (h4 : (tabG false B).ok = true) : gOK B = true ∧ (tabG false B).bytes = B := by
  have hp : (tS9 B).pos = B.length := by have := tS9_le B; omega
  refine ⟨?_, read_write h hp h3⟩
  unfold gOK
  rw [h, hp, h3, h4]
  simp
/-- A record that lies among the pieces is in memory. -/
theorem root_in {w0 w : World} {M : List Nat} {L : List HA} {E : TypeId} {x : Value × RC} (hst : St w0 M w L) (hm : HA.row x.1 E 2 x.2.l.length (addrsV x.2.l) ∈ L) (hS : L32 x.2.S) (hn : x.2.name.length ≤ 9223372036854775807) : RC.In w x := by
  obtain ⟨ao, c, e, h1, h2, h3⟩ := row_form hst hm
  have hr := Rd.row hst hm
  refine ⟨⟨hS, ao, _, c, e, ?_, rfl⟩, hn⟩
  rw [e] at hr
  exact hr
theorem name_le {B : List UInt8} (z : Bool) (s : GS) : (recG z B s).name.length ≤ 255 := by
  show (gotG z B (numG B 1 (rS1 B s)) (rS2 B s)).length ≤ 255
  have := numG1_lt B (rS1 B s)
  unfold gotG
  split
  · cases z
    · simp
    · simp; omega
  · rw [List.length_take]; omega
theorem recs_in {w0 w : World} {M : List Nat} {L : List HA} {rT E : TypeId} {rv : Value} {n : Nat} {B : List UInt8} {z : Bool} {s : GS} {xs : List (Value × RC)} (hst : St w0 M w L) (hr : HA.row rv rT 44 n (recsV xs) ∈ L) (hx : xs.map (·.2) = rcsG z B s n) (hm : ∀ x ∈ xs, HA.row x.1 E 2 x.2.l.length (addrsV x.2.l) ∈ L) : RecsIn w rv n xs := by
  refine ⟨Rd.row hst hr, by rw [← List.length_map (f := (·.2)), hx, length_rcsG], fun x hxm => ?_⟩
  have h2 : x.2 ∈ rcsG z B s n := by rw [← hx]; exact List.mem_map_of_mem hxm
  unfold rcsG at h2
  rw [List.mem_map] at h2
  obtain ⟨i, _, hi⟩ := h2
  refine root_in hst (hm x hxm) ?_ ?_
  · rw [← hi]; exact rec_S _ _ _
  · rw [← hi]; have := name_le z (B := B) (stG B s i); omega
end Go.Proofs.Ytifajcblbedcoaa
namespace Go.Proofs.Ytifajcblbedcoaa
set_option linter.unusedVariables false
set_option linter.unusedSimpArgs false
open Go.RowKit Hp
attribute [local irreducible] Go.Calls Go.wpList
set_option maxRecDepth 100000
set_option maxHeartbeats 8000000
attribute [local go_sem ↓] heldInt heldInts heldRecs heldRec heldStr
theorem rowS {w0 w : World} {M : List Nat} (L1 : List HA) {L2 : List HA} {v : Value} {T : TypeId} {sz n : Nat} {xs : List Value} (h : St w0 M w (L1 ++ .row v T sz n xs :: L2)) : ∃ ao c, v = .slice ao n c ∧ n ≤ c ∧ c ≤ 9223372036854775807 := by
  obtain ⟨ao, c, e, h1, h2, _⟩ := row_form h (by simp : HA.row v T sz n xs ∈ L1 ++ .row v T sz n xs :: L2)
  exact ⟨ao, c, e, h1, h2⟩
def rootH (x : Value × RC) : HA := .row x.1 87 2 x.2.l.length (addrsV x.2.l)
/-- A record's addresses are among the pieces. -/
def OwnR (L : List HA) (x : Value × RC) : Prop := rootH x ∈ L ∧ L32 x.2.S ∧ x.2.name.length ≤ 1000000
def OwnX (L : List HA) (xs : List (Value × RC)) : Prop := ∀ x ∈ xs, OwnR L x
theorem OwnR.cons {L : List HA} {x : Value × RC} (h : OwnR L x) (y : HA) : OwnR (y :: L) x := ⟨.tail _ h.1, h.2⟩
theorem OwnX.cons {L : List HA} {xs : List (Value × RC)} (h : OwnX L xs) (y : HA) : OwnX (y :: L) xs := fun x hx => (h x hx).cons y
theorem OwnR.sub {L L' : List HA} {x : Value × RC} (h : OwnR L x) (hs : ∀ y ∈ L, y ∈ L') : OwnR L' x := ⟨hs _ h.1, h.2⟩
theorem OwnX.sub {L L' : List HA} {xs : List (Value × RC)} (h : OwnX L xs) (hs : ∀ y ∈ L, y ∈ L') : OwnX L' xs := fun x hx => (h x hx).sub hs
theorem OwnR.In {w0 w : World} {M : List Nat} {L : List HA} {x : Value × RC} (h : OwnR L x) (hst : St w0 M w L) : RC.In w x := root_in hst h.1 h.2.1 (by have := h.2.2; omega)
theorem OwnR.L {L : List HA} {x : Value × RC} (h : OwnR L x) : (cellsR x).length = 44 := cellsR_len h.2.1
theorem recs_inL {w0 w : World} {M : List Nat} {L : List HA} {rv : Value} {n : Nat} {xs : List (Value × RC)} (hst : St w0 M w L) (hr : HA.row rv 51 44 n (recsV xs) ∈ L) (hn : xs.length = n) (ho : OwnX L xs) : RecsIn w rv n xs := ⟨Rd.row hst hr, hn, fun x hx => (ho x hx).In hst⟩
theorem recsV_len {L : List HA} {xs : List (Value × RC)} (h : OwnX L xs) : (recsV xs).length = xs.length * 44 := by
  induction xs with
  | nil => rfl
  | cons x xs ih =>
    show (cellsR x ++ recsV xs).length = _
    rw [List.length_append, (h x (.head _)).L, ih (fun y hy => h y (.tail _ hy)), List.length_cons]
    omega
theorem recsV_take {L : List HA} {xs : List (Value × RC)} (h : OwnX L xs) {k : Nat} (hk : k ≤ xs.length) : (recsV xs).take (k * 44) = recsV (xs.take k) ∧ (recsV xs).drop (k * 44) = recsV (xs.drop k) := by
  have e : recsV xs = recsV (xs.take k) ++ recsV (xs.drop k) := by rw [← recsV_append, List.take_append_drop]
  have hl : (recsV (xs.take k)).length = k * 44 := by
    rw [recsV_len (L := L) (fun x hx => h x (List.mem_of_mem_take hx)), List.length_take, Nat.min_eq_left hk]
  rw [e, ← hl, List.take_left, List.drop_left]
  exact ⟨rfl, rfl⟩
theorem recsV_ones {w0 w : World} {M : List Nat} {L : List HA} {xs : List (Value × RC)} (hst : St w0 M w L) (h : OwnX L xs) : (recsV xs).all (·.oneCell') = true := by
  induction xs with
  | nil => rfl
  | cons x xs ih =>
    show (cellsR x ++ recsV xs).all (·.oneCell') = true
    rw [List.all_append, cellsR_ones ((h x (.head _)).In hst), ih (fun y hy => h y (.tail _ hy))]
    rfl
theorem insert_any {w0 w : World} {M : List Nat} {R : List HA} (ao : Option Addr) (c i n g : Nat) (C X : List Value) (hS : St w0 M w (.blk g 51 X :: .row (.slice ao n c) 51 44 n C :: R)) (hl : C.length = n * 44) (hx : X.length = 44) (hC : C.all (·.oneCell') = true) (hX : X.all (·.oneCell') = true) (hn : n ≤ 100000) (hi : i ≤ n) :
    Calls Try.prog 70 #[.slice ao n c, .int .i64 i, .slice (some ⟨g, 0, none⟩) 1 1] w fun e w' => ∃ v', e = .returned v' ∧ St w0 M w' (.row v' 51 44 (n + 1) (C.take (i * 44) ++ (X ++ C.drop (i * 44))) :: R) := by
  by_cases he : i = n
  · exact insEnd ao c i n g C X hS hl hx hC hX hn he
  · obtain ⟨b, c', rest, e, h1, h2, h3, h4, h5⟩ := row_openV (L1 := [_]) hS (by omega)
    cases e
    by_cases hr : n + 1 ≤ c
    · exact insRoom i n g b c rest C X h5 hl hx hC hX hn (by omega) hr h2 h3
    · exact insGrow i n g b c rest C X h5 hl hx hC hX hn (by omega) h1 (by omega) h2
theorem lay_any {w0 w : World} {M : List Nat} {R : List HA} (gt : Nat) (t : TC) (ao : Option Addr) (n c : Nat) (lv : Value) (xs : List (Value × RC)) (x : Value × RC) (hS : St w0 M w (.blk gt 27 (tabC t (.slice ao n c) lv) :: .row (.slice ao n c) 51 44 n (recsV xs) :: R)) (ho : OwnX R xs) (hx : OwnR R x) (hn : xs.length = n) (hs : Sorted (xs.map (·.2))) (hb : n ≤ 1000) :
    Calls Try.prog 41 #[.pointer (some ⟨gt, 0, none⟩), .agg (cellsR x).toArray] w fun e w' => ∃ rv', e = .returned (.tuple #[]) ∧ St w0 M w' (.blk gt 27 (tabC t rv' lv) :: .row rv' 51 44 (n + 1) (recsV (xs.take (nLess x.2 (xs.map (·.2))) ++ x :: xs.drop (nLess x.2 (xs.map (·.2))))) :: R) := by
  have hst0 := hS
  have HO := hid ho
  have HOX := hid hx
  have HN := hid hn
  have HS := hid hs
  have HLX := hid hx.L
  have H1 := hid (cellsR_ones ((hx.cons _ |>.cons _).In hst0))
  obtain ⟨k, hk⟩ : ∃ k, k = nLess x.2 (xs.map (·.2)) := ⟨_, rfl⟩
  have hkn : k ≤ n := by rw [hk, ← hn]; have := nLess_le x.2 (xs.map (·.2)); rwa [List.length_map] at this
  rw [← hk]
  have HK := hid hk
  clear ho hx hn hs hk hS
  go_enter Try.func41, Try.ntmps41
  go_wp2_with (first | go_big_skip | go_big_guard | (refine wl_boxA hst0 rfl rfl rfl ?_; intro g3 w1 hst; clear hst0))
  have hX := hst.drew
  clear hst
  refine wp_region_held_drew (S := (fun w' => (loadVarH 22 ⟨gt, 1, none⟩).run Try.prog w' = .ok (.slice ao n c) w' ∧ (loadVarH 51 ⟨g3, 0, none⟩).run Try.prog w' = .ok (.agg (List.toArray (cellsR x))) w')) (by kernel_rfl) (by exact ⟨ldS [_] hX rfl, ldA (cellsR x) [] hX (HLX.out) (cellsR_all x)⟩) (fun hHeld => ?_)
  refine tq 0 7 ?_
  refine tq 4 11 ?_
  refine tq 1 8 ?_
  refine tq 2 9 ?_
  refine tq 3 10 ?_
  refine wpAnyH_ready (rs := [5]) (by kernel_rfl) (by simp) ?_
  refine (AllReadyH.cons (o := ⟨some 12, _, _, _, _, _⟩) rfl (fun K hK => ?_) AllReadyH.nil)
  rw [if_pos (by rfl)]
  go_simp
  go_at_call 67
  refine (search_any ao n c xs x _ (recs_inL hX (.tail _ (.tail _ (.head _))) HN.out ((HO.out.cons _).cons _ |>.cons _)) (((HOX.out.cons _).cons _ |>.cons _).In hX) HS.out (by omega)).mono ?_
  rw [← HK.out]
  rintro _ w9 ⟨q9, rfl, h4⟩
  have hA1 := St.call0 hX h4
  clear h4
  refine hK.out _ _ ?_ (fun hHeld => ?_)
  · exact ⟨ldS [_] hA1 rfl, ldA (cellsR x) [] hA1 (HLX.out) (cellsR_all x)⟩
  clear hK K
  (try simp only [Act.put, List.setIfInBounds_toArray, List.set_cons_zero, List.set_cons_succ])
  refine tq 6 6 ?_
  refine tq 7 13 ?_
  refine tq 8 14 ?_
  refine tq 9 4 ?_
  refine tq 10 5 ?_
  refine wpAnyH_done (by kernel_rfl) ?_ _
  clear hHeld
  go_wp2_with (first | go_big_skip | go_big_guard | fail)
  have hY := hA1.drew
  clear hA1
  refine wp_region_held_drew (S := (fun w' => True)) (by kernel_rfl) (by exact trivial) (fun hHeld => ?_)
  refine tq 0 15 ?_
  refine tq 1 16 ?_
  refine tq 5 20 ?_
  refine tq 2 17 ?_
  refine tq 3 18 ?_
  refine wpAnyH_ready (rs := [4, 6]) (by kernel_rfl) (by simp) ?_
  refine (AllReadyH.cons (o := ⟨some 19, _, _, _, _, _⟩) rfl (fun K hK => ?_) (AllReadyH.cons (o := ⟨some 21, _, _, _, _, _⟩) rfl (fun K hK => ?_) AllReadyH.nil))
  · rw [if_pos (by rfl)]
    refine ow_of_wl (ops := #[]) (by rfl) ?_
    refine wl_loadE rfl rfl rfl ?_
    refine ⟨_, Loads.at [_] hY rfl, ?_⟩
    refine q0_nil ?_
    refine hK.out _ _ ?_ (fun hHeld => ?_)
    · exact trivial
    clear hK K
    (try simp only [Act.put, List.setIfInBounds_toArray, List.set_cons_zero, List.set_cons_succ])
    refine wpAnyH_ready (rs := [6]) (by kernel_rfl) (by simp) ?_
    refine (AllReadyH.cons (o := ⟨some 21, _, _, _, _, _⟩) rfl (fun K hK => ?_) AllReadyH.nil)
    rw [if_pos (by rfl)]
    refine ow_of_wl (ops := #[]) (by rfl) ?_
    refine wl_loadE rfl rfl rfl ?_
    refine ⟨_, Loads.atA (cellsR x) [] hY HLX.out (cellsR_all x), ?_⟩
    refine q0_nil ?_
    refine hK.out _ _ ?_ (fun hHeld => ?_)
    · exact trivial
    clear hK K
    (try simp only [Act.put, List.setIfInBounds_toArray, List.set_cons_zero, List.set_cons_succ])
    refine wpAnyH_ready (rs := [7]) (by kernel_rfl) (by simp) ?_
    refine (AllReadyH.cons (o := ⟨some 22, _, _, _, _, _⟩) rfl (fun K hK => ?_) AllReadyH.nil)
    rw [if_pos (by rfl)]
    refine ow_of_wl (ops := #[]) (by rfl) ?_
    apply wl_bsX [.agg (List.toArray (cellsR x))] (cellsR x) hY
    · rfl
    · rfl
    · exact rfl
    · exact (List.append_nil _)
    · infer_instance
    · infer_instance
    · (show (((List.toArray (cellsR x)).size == 44) && true) = true; rw [List.size_toArray, HLX.out]; rfl)
    · rfl
    · rfl
    intro gb w5 hP1
    refine q0_nil ?_
    refine hK.out _ _ ?_ (fun hHeld => ?_)
    · exact trivial
    clear hK K
    (try simp only [Act.put, List.setIfInBounds_toArray, List.set_cons_zero, List.set_cons_succ])
    refine wpAnyH_ready (rs := [8]) (by kernel_rfl) (by simp) ?_
    refine (AllReadyH.cons (o := ⟨some 23, _, _, _, _, _⟩) rfl (fun K hK => ?_) AllReadyH.nil)
    rw [if_pos (by rfl)]
    go_simp
    go_at_call 70
    refine (insert_any ao c k n gb (recsV xs) (cellsR x) ((St.front (L1 := [_]) (St.front (L1 := [_, _, _]) hP1))) (by rw [recsV_len HO.out, HN.out]) HLX.out (recsV_ones hP1 (HO.out.sub (fun y hy => (by simp [hy])))) (cellsR_ones ((HOX.out.sub (fun y hy => (by simp [hy]))).In hP1)) (by omega) (by omega)).mono ?_
    rintro _ w6 ⟨v6, rfl, h4⟩
    have hI1 := h4
    clear h4
    refine hK.out _ _ ?_ (fun hHeld => ?_)
    · exact trivial
    clear hK K
    (try simp only [Act.put, List.setIfInBounds_toArray, List.set_cons_zero, List.set_cons_succ])
    refine tq 9 24 ?_
    refine tq 10 25 ?_
    refine wpAnyH_ready (rs := [11]) (by kernel_rfl) (by simp) ?_
    refine (AllReadyH.cons (o := ⟨none, _, _, _, _, _⟩) rfl (fun K hK => ?_) AllReadyH.nil)
    rw [if_pos (by rfl)]
    refine ow_of_wl (ops := #[]) (by rfl) ?_
    obtain ⟨a6, c6, rfl, _, _⟩ := rowS [] hI1
    refine wl_store [_, _] hI1 rfl rfl rfl (off := 1) (v := .slice _ _ _) rfl rfl rfl (by show (1 : Nat) + 1 ≤ 7; decide) ?_
    intro w7 hI2
    refine q0_nil ?_
    refine hK.out _ _ ?_ (fun hHeld => ?_)
    · exact trivial
    clear hK K
    (try simp only [Act.put, List.setIfInBounds_toArray, List.set_cons_zero, List.set_cons_succ])
    refine wpAnyH_done (by kernel_rfl) ?_ _
    clear hHeld
    go_wp2_with (first | go_big_skip | go_big_guard | fail)
    go_end0
    refine ⟨.slice a6 (n + 1) c6, rfl, ?_⟩
    have hk := recsV_take HO.out (k := k) (by rw [HN.out]; omega)
    have e1 := (St.front (L1 := [_, _]) hI2)
    rw [hk.1, hk.2] at e1
    have e2 : recsV (xs.take k) ++ (cellsR x ++ recsV (xs.drop k)) = recsV (xs.take k ++ x :: xs.drop k) := by
      rw [recsV_append]
      rfl
    rw [e2] at e1
    exact St.sub e1 (.cons_cons _ (.cons_cons _ (.cons _ (List.Sublist.refl _))))
  · rw [if_pos (by rfl)]
    refine ow_of_wl (ops := #[]) (by rfl) ?_
    refine wl_loadE rfl rfl rfl ?_
    refine ⟨_, Loads.atA (cellsR x) [] hY HLX.out (cellsR_all x), ?_⟩
    refine q0_nil ?_
    refine hK.out _ _ ?_ (fun hHeld => ?_)
    · exact trivial
    clear hK K
    (try simp only [Act.put, List.setIfInBounds_toArray, List.set_cons_zero, List.set_cons_succ])
    refine wpAnyH_ready (rs := [4, 7]) (by kernel_rfl) (by simp) ?_
    refine (AllReadyH.cons (o := ⟨some 19, _, _, _, _, _⟩) rfl (fun K hK => ?_) (AllReadyH.cons (o := ⟨some 22, _, _, _, _, _⟩) rfl (fun K hK => ?_) AllReadyH.nil))
    · rw [if_pos (by rfl)]
      refine ow_of_wl (ops := #[]) (by rfl) ?_
      refine wl_loadE rfl rfl rfl ?_
      refine ⟨_, Loads.at [_] hY rfl, ?_⟩
      refine q0_nil ?_
      refine hK.out _ _ ?_ (fun hHeld => ?_)
      · exact trivial
      clear hK K
      (try simp only [Act.put, List.setIfInBounds_toArray, List.set_cons_zero, List.set_cons_succ])
      refine wpAnyH_ready (rs := [7]) (by kernel_rfl) (by simp) ?_
      refine (AllReadyH.cons (o := ⟨some 22, _, _, _, _, _⟩) rfl (fun K hK => ?_) AllReadyH.nil)
      rw [if_pos (by rfl)]
      refine ow_of_wl (ops := #[]) (by rfl) ?_
      apply wl_bsX [.agg (List.toArray (cellsR x))] (cellsR x) hY
      · rfl
      · rfl
      · exact rfl
      · exact (List.append_nil _)
      · infer_instance
      · infer_instance
      · (show (((List.toArray (cellsR x)).size == 44) && true) = true; rw [List.size_toArray, HLX.out]; rfl)
      · rfl
      · rfl
      intro gb w5 hP2
      refine q0_nil ?_
      refine hK.out _ _ ?_ (fun hHeld => ?_)
      · exact trivial
      clear hK K
      (try simp only [Act.put, List.setIfInBounds_toArray, List.set_cons_zero, List.set_cons_succ])
      refine wpAnyH_ready (rs := [8]) (by kernel_rfl) (by simp) ?_
      refine (AllReadyH.cons (o := ⟨some 23, _, _, _, _, _⟩) rfl (fun K hK => ?_) AllReadyH.nil)
      rw [if_pos (by rfl)]
      go_simp
      go_at_call 70
      refine (insert_any ao c k n gb (recsV xs) (cellsR x) ((St.front (L1 := [_]) (St.front (L1 := [_, _, _]) hP2))) (by rw [recsV_len HO.out, HN.out]) HLX.out (recsV_ones hP2 (HO.out.sub (fun y hy => (by simp [hy])))) (cellsR_ones ((HOX.out.sub (fun y hy => (by simp [hy]))).In hP2)) (by omega) (by omega)).mono ?_
      rintro _ w6 ⟨v6, rfl, h4⟩
      have hI1 := h4
      clear h4
      refine hK.out _ _ ?_ (fun hHeld => ?_)
      · exact trivial
      clear hK K
      (try simp only [Act.put, List.setIfInBounds_toArray, List.set_cons_zero, List.set_cons_succ])
      refine tq 9 24 ?_
      refine tq 10 25 ?_
      refine wpAnyH_ready (rs := [11]) (by kernel_rfl) (by simp) ?_
      refine (AllReadyH.cons (o := ⟨none, _, _, _, _, _⟩) rfl (fun K hK => ?_) AllReadyH.nil)
      rw [if_pos (by rfl)]
      refine ow_of_wl (ops := #[]) (by rfl) ?_
      obtain ⟨a6, c6, rfl, _, _⟩ := rowS [] hI1
      refine wl_store [_, _] hI1 rfl rfl rfl (off := 1) (v := .slice _ _ _) rfl rfl rfl (by show (1 : Nat) + 1 ≤ 7; decide) ?_
      intro w7 hI2
      refine q0_nil ?_
      refine hK.out _ _ ?_ (fun hHeld => ?_)
      · exact trivial
      clear hK K
      (try simp only [Act.put, List.setIfInBounds_toArray, List.set_cons_zero, List.set_cons_succ])
      refine wpAnyH_done (by kernel_rfl) ?_ _
      clear hHeld
      go_wp2_with (first | go_big_skip | go_big_guard | fail)
      go_end0
      refine ⟨.slice a6 (n + 1) c6, rfl, ?_⟩
      have hk := recsV_take HO.out (k := k) (by rw [HN.out]; omega)
      have e1 := (St.front (L1 := [_, _]) hI2)
      rw [hk.1, hk.2] at e1
      have e2 : recsV (xs.take k) ++ (cellsR x ++ recsV (xs.drop k)) = recsV (xs.take k ++ x :: xs.drop k) := by
        rw [recsV_append]
        rfl
      rw [e2] at e1
      exact St.sub e1 (.cons_cons _ (.cons_cons _ (.cons _ (List.Sublist.refl _))))
    · rw [if_pos (by rfl)]
      refine ow_of_wl (ops := #[]) (by rfl) ?_
      apply wl_bsX [.agg (List.toArray (cellsR x))] (cellsR x) hY
      · rfl
      · rfl
      · exact rfl
      · exact (List.append_nil _)
      · infer_instance
      · infer_instance
      · (show (((List.toArray (cellsR x)).size == 44) && true) = true; rw [List.size_toArray, HLX.out]; rfl)
      · rfl
      · rfl
      intro gb w5 hP3
      refine q0_nil ?_
      refine hK.out _ _ ?_ (fun hHeld => ?_)
      · exact trivial
      clear hK K
      (try simp only [Act.put, List.setIfInBounds_toArray, List.set_cons_zero, List.set_cons_succ])
      refine wpAnyH_ready (rs := [4]) (by kernel_rfl) (by simp) ?_
      refine (AllReadyH.cons (o := ⟨some 19, _, _, _, _, _⟩) rfl (fun K hK => ?_) AllReadyH.nil)
      rw [if_pos (by rfl)]
      refine ow_of_wl (ops := #[]) (by rfl) ?_
      refine wl_loadE rfl rfl rfl ?_
      refine ⟨_, Loads.at [_, _] hP3 rfl, ?_⟩
      refine q0_nil ?_
      refine hK.out _ _ ?_ (fun hHeld => ?_)
      · exact trivial
      clear hK K
      (try simp only [Act.put, List.setIfInBounds_toArray, List.set_cons_zero, List.set_cons_succ])
      refine wpAnyH_ready (rs := [8]) (by kernel_rfl) (by simp) ?_
      refine (AllReadyH.cons (o := ⟨some 23, _, _, _, _, _⟩) rfl (fun K hK => ?_) AllReadyH.nil)
      rw [if_pos (by rfl)]
      go_simp
      go_at_call 70
      refine (insert_any ao c k n gb (recsV xs) (cellsR x) ((St.front (L1 := [_]) (St.front (L1 := [_, _, _]) hP3))) (by rw [recsV_len HO.out, HN.out]) HLX.out (recsV_ones hP3 (HO.out.sub (fun y hy => (by simp [hy])))) (cellsR_ones ((HOX.out.sub (fun y hy => (by simp [hy]))).In hP3)) (by omega) (by omega)).mono ?_
      rintro _ w6 ⟨v6, rfl, h4⟩
      have hI1 := h4
      clear h4
      refine hK.out _ _ ?_ (fun hHeld => ?_)
      · exact trivial
      clear hK K
      (try simp only [Act.put, List.setIfInBounds_toArray, List.set_cons_zero, List.set_cons_succ])
      refine tq 9 24 ?_
      refine tq 10 25 ?_
      refine wpAnyH_ready (rs := [11]) (by kernel_rfl) (by simp) ?_
      refine (AllReadyH.cons (o := ⟨none, _, _, _, _, _⟩) rfl (fun K hK => ?_) AllReadyH.nil)
      rw [if_pos (by rfl)]
      refine ow_of_wl (ops := #[]) (by rfl) ?_
      obtain ⟨a6, c6, rfl, _, _⟩ := rowS [] hI1
      refine wl_store [_, _] hI1 rfl rfl rfl (off := 1) (v := .slice _ _ _) rfl rfl rfl (by show (1 : Nat) + 1 ≤ 7; decide) ?_
      intro w7 hI2
      refine q0_nil ?_
      refine hK.out _ _ ?_ (fun hHeld => ?_)
      · exact trivial
      clear hK K
      (try simp only [Act.put, List.setIfInBounds_toArray, List.set_cons_zero, List.set_cons_succ])
      refine wpAnyH_done (by kernel_rfl) ?_ _
      clear hHeld
      go_wp2_with (first | go_big_skip | go_big_guard | fail)
      go_end0
      refine ⟨.slice a6 (n + 1) c6, rfl, ?_⟩
      have hk := recsV_take HO.out (k := k) (by rw [HN.out]; omega)
      have e1 := (St.front (L1 := [_, _]) hI2)
      rw [hk.1, hk.2] at e1
      have e2 : recsV (xs.take k) ++ (cellsR x ++ recsV (xs.drop k)) = recsV (xs.take k ++ x :: xs.drop k) := by
        rw [recsV_append]
        rfl
      rw [e2] at e1
      exact St.sub e1 (.cons_cons _ (.cons_cons _ (.cons _ (List.Sublist.refl _))))
end Go.Proofs.Ytifajcblbedcoaa
namespace Go.Proofs.Ytifajcblbedcoaa
set_option linter.unusedVariables false
set_option linter.unusedSimpArgs false
open Go.RowKit Hp
attribute [local irreducible] Go.Calls Go.wpList
set_option maxRecDepth 100000
set_option maxHeartbeats 8000000
attribute [local go_sem ↓] heldInt heldInts heldRecs heldRec heldStr heldTab
def idR (x : Value × RC) (z : Int) : Value × RC := (x.1, { x.2 with id := z })
theorem idR_own {L : List HA} {x : Value × RC} (h : OwnR L x) (z : Int) : OwnR L (idR x z) := ⟨h.1, h.2⟩
theorem idR_cells (x : Value × RC) (z : Int) : putAt (cellsR x) 0 [.int .i64 z] = cellsR (idR x z) := rfl
def nextT (t : TC) : TC := { t with next := t.next + 1 }
theorem next_cells (t : TC) (rv lv : Value) : putAt (tabC t rv lv) 0 [.int .i64 (t.next + 1)] = tabC (nextT t) rv lv := rfl
theorem lay_map (x : Value × RC) (xs : List (Value × RC)) : (xs.take (nLess x.2 (xs.map (·.2))) ++ x :: xs.drop (nLess x.2 (xs.map (·.2)))).map (·.2) = layL x.2 (xs.map (·.2)) := by
  rw [layL_at, List.map_append, List.map_cons, List.map_take, List.map_drop]
theorem lay_own {L : List HA} {x : Value × RC} {xs : List (Value × RC)} (h : OwnX L xs) (hx : OwnR L x) (k : Nat) : OwnX L (xs.take k ++ x :: xs.drop k) := fun y hy => by
  rcases List.mem_append.1 hy with hy | hy
  · exact h y (List.mem_of_mem_take hy)
  · rcases List.mem_cons.1 hy with rfl | hy
    · exact hx
    · exact h y (List.mem_of_mem_drop hy)
theorem lay_roots {α : Type} (f : Value × RC → α) (x : Value × RC) (xs : List (Value × RC)) (k : Nat) : ((xs.take k ++ x :: xs.drop k).map f).Perm (f x :: xs.map f) := by
  have h : (xs.take k ++ x :: xs.drop k).Perm (x :: xs) := by
    have := List.perm_middle (a := x) (l₁ := xs.take k) (l₂ := xs.drop k)
    rwa [List.take_append_drop] at this
  exact h.map f
theorem putRec_any {w0 w : World} {M : List Nat} {R : List HA} (gt : Nat) (t : TC) (ao : Option Addr) (n c : Nat) (lv : Value) (xs : List (Value × RC)) (x : Value × RC) (hS : St w0 M w (.blk gt 27 (tabC t (.slice ao n c) lv) :: .row (.slice ao n c) 51 44 n (recsV xs) :: R)) (ho : OwnX R xs) (hx : OwnR R x) (hn : xs.length = n) (hs : Sorted (xs.map (·.2))) (hb : n ≤ 1000) (ht : 0 ≤ t.next ∧ t.next ≤ 2147483648) :
    Calls Try.prog 30 #[.pointer (some ⟨gt, 0, none⟩), .agg (cellsR x).toArray] w fun e w' => ∃ rv' xs', e = .returned (.int .i64 0) ∧ xs'.map (·.2) = layL { x.2 with id := t.next } (xs.map (·.2)) ∧ OwnX R xs' ∧ (xs'.map rootH).Perm (rootH x :: xs.map rootH) ∧ St w0 M w' (.blk gt 27 (tabC (nextT t) rv' lv) :: .row rv' 51 44 (n + 1) (recsV xs') :: R) := by
  have hst0 := hS
  have HO := hid ho
  have HOX := hid hx
  have HN := hid hn
  have HS := hid hs
  have HLX := hid hx.L
  have HLY := hid (idR_own hx t.next).L
  have H1 := hid (cellsR_ones ((hx.cons _ |>.cons _).In hst0))
  have z1 : IntKind.i64.wrap (t.next + 1) = t.next + 1 := IntWalk.i64_in _ (by omega)
  clear ho hx hn hs hS
  go_enter Try.func30, Try.ntmps30
  go_wp2_with (first | go_big_skip | go_big_guard | (refine wl_boxA hst0 rfl rfl rfl ?_; intro g3 w1 hst; clear hst0) | (refine wl_loadE rfl rfl rfl ?_; first | refine ⟨_, Loads.at [_] hst rfl, ?_⟩ | refine ⟨_, Loads.at [_] hst2 rfl, ?_⟩ | refine ⟨_, Loads.atA (cellsR (idR x t.next)) [] hst3 HLY.out (cellsR_all _), ?_⟩) | (refine wl_store [] hst rfl rfl rfl (off := 0) (v := .int .i64 t.next) rfl rfl rfl (by rw [HLX.out]; show (0 : Nat) + 1 ≤ 44; decide) ?_; intro w2 h4; have hst2 : St w0 M w2 (.blk g3 51 (cellsR (idR x t.next)) :: .blk gt 27 (tabC t (.slice ao n c) lv) :: .row (.slice ao n c) 51 44 n (recsV xs) :: R) := h4; clear h4 hst) | (refine wl_store [_] hst2 rfl rfl rfl (off := 0) (v := .int .i64 (t.next + 1)) rfl rfl rfl (by show (0 : Nat) + 1 ≤ 7; decide) ?_; intro w3 h4; have hst3 : St w0 M w3 (.blk g3 51 (cellsR (idR x t.next)) :: .blk gt 27 (tabC (nextT t) (.slice ao n c) lv) :: .row (.slice ao n c) 51 44 n (recsV xs) :: R) := h4; clear h4 hst2) | (go_at_call 41; refine (lay_any (R := R) gt (nextT t) ao n c lv xs (idR x t.next) (St.sub hst3 (.cons _ (List.Sublist.refl _))) HO.out (idR_own HOX.out _) HN.out HS.out hb).mono ?_; rintro _ w9 ⟨rv9, rfl, h4⟩; have hst4 := h4; clear h4 hst3))
  go_ret
  exact ⟨rv9, _, rfl, lay_map _ _, lay_own HO.out (idR_own HOX.out _) _, lay_roots rootH (idR x t.next) xs _, hst4⟩
theorem room_any {w0 w : World} {M : List Nat} {R : List HA} (gt : Nat) (t : TC) (ao : Option Addr) (n c : Nat) (lv : Value) (xs : List (Value × RC)) (nm : List UInt8) (hS : St w0 M w (.blk gt 27 (tabC t (.slice ao n c) lv) :: .row (.slice ao n c) 51 44 n (recsV xs) :: R)) (ho : OwnX R xs) (hn : xs.length = n) (he : xs.map (·.2) = t.recs) (hb : n ≤ 1000) :
    Calls Try.prog 29 #[.pointer (some ⟨gt, 0, none⟩), str nm] w fun e w' => e = .returned (.int .i64 (roomE t nm)) ∧ St w0 M w' (.blk gt 27 (tabC t (.slice ao n c) lv) :: .row (.slice ao n c) 51 44 n (recsV xs) :: R) := by
  have hst0 := hS
  have HO := hid ho
  have HN := hid hn
  obtain ⟨E, hE⟩ : ∃ E, E = roomE t nm := ⟨_, rfl⟩
  rw [← hE]
  have HEE := hid hE
  obtain ⟨⟨z, is⟩, hf⟩ : ∃ p, findP nm (xs.map (·.2)) = p := ⟨_, rfl⟩
  have HF := hid hf
  have hi : isAt nm t.recs = is := by rw [← findP_is, ← he, hf]
  have hl : (t.recs.length : Int) = n := by rw [← he, List.length_map, hn]
  have HL := hid hl
  have HI := hid hi
  clear ho hn hS hE hf hi he hl
  cases is
  · by_cases h1 : 16 ≤ n
    · have d1 : decide ((n : Int) ≥ 16) = true := decide_eq_true (by omega)
      have d2 : decide ((16 : Int) ≤ (n : Int)) = true := d1
      have HE := hid (show E = 8 by rw [HEE.out]; unfold roomE fullB; rw [HI.out, HL.out, d1]; rfl)
      go_enter Try.func29, Try.ntmps29
      go_wp2_with (first | go_big_skip | go_big_guard | (refine wl_loadE rfl rfl rfl ?_; first | refine ⟨_, Loads.atA (tabC t (.slice ao n c) lv) [] hst0 rfl rfl, ?_⟩ | refine ⟨_, Loads.at [] hst rfl, ?_⟩) | (go_at_call 33; refine (find_any t lv nm ao n c xs _ (recs_inL hst0 (.tail _ (.head _)) HN.out (HO.out.cons _ |>.cons _)) (by omega)).mono ?_; rw [HF.out]; rintro _ w9 ⟨rfl, h4⟩; have hst := St.call0 hst0 h4; clear h4 hst0))
      go_ret
      exact ⟨by rw [HE.out]; rfl, hst⟩
    · have d1 : decide ((n : Int) ≥ 16) = false := decide_eq_false (by omega)
      have d2 : decide ((16 : Int) ≤ (n : Int)) = false := d1
      by_cases h2 : t.next ≥ 2147483648
      · have d3 : decide (t.next ≥ 2147483648) = true := decide_eq_true h2
        have HE := hid (show E = 8 by rw [HEE.out]; unfold roomE fullB; rw [HI.out, HL.out, d1, d3]; rfl)
        have d4 : decide (2147483648 ≤ t.next) = true := d3
        go_enter Try.func29, Try.ntmps29
        go_wp2_with (first | go_big_skip | go_big_guard | (refine wl_loadE rfl rfl rfl ?_; first | refine ⟨_, Loads.atA (tabC t (.slice ao n c) lv) [] hst0 rfl rfl, ?_⟩ | refine ⟨_, Loads.at [] hst rfl, ?_⟩) | (go_at_call 33; refine (find_any t lv nm ao n c xs _ (recs_inL hst0 (.tail _ (.head _)) HN.out (HO.out.cons _ |>.cons _)) (by omega)).mono ?_; rw [HF.out]; rintro _ w9 ⟨rfl, h4⟩; have hst := St.call0 hst0 h4; clear h4 hst0))
        go_ret
        exact ⟨by rw [HE.out]; rfl, hst⟩
      · have d3 : decide (t.next ≥ 2147483648) = false := decide_eq_false h2
        have HE := hid (show E = 0 by rw [HEE.out]; unfold roomE fullB; rw [HI.out, HL.out, d1, d3]; rfl)
        have d4 : decide (2147483648 ≤ t.next) = false := d3
        go_enter Try.func29, Try.ntmps29
        go_wp2_with (first | go_big_skip | go_big_guard | (refine wl_loadE rfl rfl rfl ?_; first | refine ⟨_, Loads.atA (tabC t (.slice ao n c) lv) [] hst0 rfl rfl, ?_⟩ | refine ⟨_, Loads.at [] hst rfl, ?_⟩) | (go_at_call 33; refine (find_any t lv nm ao n c xs _ (recs_inL hst0 (.tail _ (.head _)) HN.out (HO.out.cons _ |>.cons _)) (by omega)).mono ?_; rw [HF.out]; rintro _ w9 ⟨rfl, h4⟩; have hst := St.call0 hst0 h4; clear h4 hst0))
        go_ret
        exact ⟨by rw [HE.out]; rfl, hst⟩
  · have HE := hid (show E = 7 by rw [HEE.out]; unfold roomE; rw [HI.out]; rfl)
    go_enter Try.func29, Try.ntmps29
    go_wp2_with (first | go_big_skip | go_big_guard | (refine wl_loadE rfl rfl rfl ?_; first | refine ⟨_, Loads.atA (tabC t (.slice ao n c) lv) [] hst0 rfl rfl, ?_⟩ | refine ⟨_, Loads.at [] hst rfl, ?_⟩) | (go_at_call 33; refine (find_any t lv nm ao n c xs _ (recs_inL hst0 (.tail _ (.head _)) HN.out (HO.out.cons _ |>.cons _)) (by omega)).mono ?_; rw [HF.out]; rintro _ w9 ⟨rfl, h4⟩; have hst := St.call0 hst0 h4; clear h4 hst0))
    go_ret
    exact ⟨by rw [HE.out]; rfl, hst⟩
end Go.Proofs.Ytifajcblbedcoaa
namespace Go.Proofs.Ytifajcblbedcoaa
set_option linter.unusedVariables false
set_option linter.unusedSimpArgs false
open Go.RowKit Hp
attribute [local irreducible] Go.Calls
set_option maxHeartbeats 4000000
theorem results_cellTmp {fn : Func} {p q : Tmp} {ty : TypeId} {tmps : Array Value} {P : Program} {w : World} {A : Addr} {v : Value} (h : fn.results = #[.cell p ty, .tmp q]) (hp : tmps.getD p undef = .pointer (some A)) (hl : Loads P w ty A v) :
    (results fn tmps).run P w = .ok (.tuple #[v, tmps.getD q undef]) w := by
  have hl' : (loadVar ty A).run P w = .ok v w := hl
  have hp' : tmps[p]?.getD undef = .pointer (some A) := by simpa using hp
  simp [results, h, hp', asAddr, hl', Sem.run_bind]
theorem zN_ln (lv : Int) : (zN lv).Ln := (zN_in lv default).ln
theorem zN_ones (lv : Int) : (zN lv).cells.all (·.oneCell') = true := by
  have : (zN lv).cells = .int .i64 lv :: (zN 0).cells.tail := rfl
  rw [this, List.all_cons]
  rfl
theorem zN_get (lv : Int) : ∀ j, (zN lv).get j = zP
  | 0 => rfl
  | 1 => rfl
  | 2 => rfl
  | _ + 3 => rfl
end Go.Proofs.Ytifajcblbedcoaa
namespace Go.Proofs.Ytifajcblbedcoaa
set_option linter.unusedVariables false
set_option linter.unusedSimpArgs false
open Go.RowKit Hp
attribute [local irreducible] Go.Calls
set_option maxHeartbeats 4000000
/-- y is x with address lists of its own (rows of R) for the first k pointers. -/
def NV.isO (E : TypeId) (y x : NV) (R : List HA) (k : Nat) : Prop := ∀ j, j < k → (y.get j).eqd (x.get j) ∧ ∃ ao n c, (y.get j).sv = .slice ao n c ∧ HA.row (.slice ao n c) E 2 n (addrsV (y.get j).l) ∈ R ∧ (y.get j).l.length = n
def ownOut (x : NV) (w : World) (E : TypeId) (e : Ending) (w' : World) : Prop :=
  ∃ (y : NV) (R : List HA), e = .returned (.agg y.cells.toArray) ∧ St w [] w' R ∧ y.lv = x.lv ∧ y.isO E x R 4
theorem put_sv {x : NV} (h : x.Ln) {k : Nat} (hk : k < 4) (v : Value) : putAt x.cells (1 + k * 35) [v] = (x.set k { x.get k with sv := v }).cells := by
  have h0 : x.p0.cells.length = 35 := PV.len (h 0)
  have h1 : x.p1.cells.length = 35 := PV.len (h 1)
  have h2 : x.p2.cells.length = 35 := PV.len (h 2)
  have go : ∀ (a c : List Value) (s : Value) (n : Nat) (X Y : List Value), X = a ++ ([s] ++ c) → Y = a ++ ([v] ++ c) → n = a.length → putAt X n [v] = Y := by
    intro a c s n X Y e1 e2 e3
    rw [e1, e2]
    exact put_at a [s] c [v] rfl e3
  obtain rfl | rfl | rfl | rfl : k = 0 ∨ k = 1 ∨ k = 2 ∨ k = 3 := by omega
  · exact go [.int .i64 x.lv] (x.p0.cells.tail ++ (x.p1.cells ++ (x.p2.cells ++ x.p3.cells))) x.p0.sv _ _ _ rfl rfl rfl
  · exact go (.int .i64 x.lv :: x.p0.cells) (x.p1.cells.tail ++ (x.p2.cells ++ x.p3.cells)) x.p1.sv _ _ _ rfl rfl (by simp [h0])
  · refine go (.int .i64 x.lv :: (x.p0.cells ++ x.p1.cells)) (x.p2.cells.tail ++ x.p3.cells) x.p2.sv _ _ _ ?_ ?_ (by simp [h0, h1])
    · rw [List.cons_append, List.append_assoc]; rfl
    · rw [List.cons_append, List.append_assoc]; rfl
  · refine go (.int .i64 x.lv :: (x.p0.cells ++ (x.p1.cells ++ x.p2.cells))) x.p3.cells.tail x.p3.sv _ _ _ ?_ ?_ (by simp [h0, h1, h2])
    · rw [List.cons_append, List.append_assoc, List.append_assoc]; rfl
    · rw [List.cons_append, List.append_assoc, List.append_assoc]; rfl
theorem set_ln {y : NV} (h : y.Ln) {k : Nat} (hk : k < 4) {p : PV} (hp : L32 p.S) : ∀ j, L32 ((y.set k p).get j).S := by
  have main : ∀ j, j < 4 → L32 ((y.set k p).get j).S := by
    intro j hj
    by_cases e : j = k
    · subst e; rw [NV.get_set_same y hk]; exact hp
    · rw [NV.get_set_other y hk hj e]; exact h j
  intro j
  match j with
  | 0 => exact main 0 (by omega)
  | 1 => exact main 1 (by omega)
  | 2 => exact main 2 (by omega)
  | _ + 3 => exact main 3 (by omega)
theorem PV.ones_of {p : PV} {ao : Option Addr} {n c : Nat} (h : p.sv = .slice ao n c) : p.cells.all (·.oneCell') = true := by
  rw [PV.cells, h]
  exact ptr_ones _ _ _ _ _ _
theorem NV.isO.ones {E : TypeId} {y x : NV} {R : List HA} (h : y.isO E x R 4) (_hl : y.lv = x.lv) : y.cells.all (·.oneCell') = true := by
  have g : ∀ j, j < 4 → (y.get j).cells.all (·.oneCell') = true := fun j hj => by
    obtain ⟨_, ao, n, c, h2, _⟩ := h j hj
    exact PV.ones_of h2
  have h0 : y.p0.cells.all (·.oneCell') = true := g 0 (by omega)
  have h1 : y.p1.cells.all (·.oneCell') = true := g 1 (by omega)
  have h2 : y.p2.cells.all (·.oneCell') = true := g 2 (by omega)
  have h3 : y.p3.cells.all (·.oneCell') = true := g 3 (by omega)
  rw [NV.cells, List.all_cons, List.all_append, List.all_append, List.all_append, h0, h1, h2, h3]
  rfl
theorem addrs_ones (l : List (Int × Int)) : (addrsV l).all (·.oneCell') = true := by
  induction l with
  | nil => rfl
  | cons a l ih =>
    rw [addrsV, List.all_cons, List.all_cons, ih]
    rfl
end Go.Proofs.Ytifajcblbedcoaa
namespace Go.Proofs.Ytifajcblbedcoaa
set_option linter.unusedVariables false
set_option linter.unusedSimpArgs false
open Go.RowKit Hp
attribute [local irreducible] Go.Calls
set_option maxHeartbeats 4000000
set_option maxRecDepth 100000
theorem xor_u8 (x y : UInt8) : bits .xor .u8 (x.toNat : Int) (y.toNat : Int) = ((x ^^^ y).toNat : Int) := by
  have hx := x.toNat_lt
  have hy := y.toNat_lt
  have h : x.toNat ^^^ y.toNat < 2 ^ 8 := Nat.xor_lt_two_pow hx hy
  have e : (BitVec.ofInt 8 (x.toNat : Int) ^^^ BitVec.ofInt 8 (y.toNat : Int)).toNat = x.toNat ^^^ y.toNat := by
    rw [BitVec.toNat_xor, BitVec.ofInt_natCast, BitVec.ofInt_natCast, BitVec.toNat_ofNat, BitVec.toNat_ofNat, Nat.mod_eq_of_lt (by omega), Nat.mod_eq_of_lt (by omega)]
  show IntKind.u8.wrap ((BitVec.ofInt 8 (x.toNat : Int) ^^^ BitVec.ofInt 8 (y.toNat : Int)).toNat : Int) = _
  rw [e, UInt8.toNat_xor]
  show ((x.toNat ^^^ y.toNat : Nat) : Int) % 256 = _
  omega
/-- p with other addresses' slice. -/
abbrev PV.re (p : PV) (s : Value) : PV := ⟨s, p.l, p.b, p.v, p.S⟩
def overB (l : List UInt8) : List UInt8 := l.map (· ^^^ 90)
theorem over_step (bs : List UInt8) {k : Nat} (hk : k < bs.length) (x : UInt8) (hx : x = bs.getD k 0) : putAt (bytesV (overB (bs.take k) ++ bs.drop k)) k [.int .u8 ((x ^^^ 90).toNat : Int)] = bytesV (overB (bs.take (k + 1)) ++ bs.drop (k + 1)) := by
  have e : bs.drop k = bs.getD k 0 :: bs.drop (k + 1) := by rw [List.drop_eq_getElem_cons hk]; simp [List.getD, hk]
  have e2 : bs.take (k + 1) = bs.take k ++ [bs.getD k 0] := by rw [List.take_succ_eq_append_getElem hk]; simp [List.getD, hk]
  have hl : (bytesV (overB (bs.take k))).length = k := by simp [overB]; omega
  rw [e2, bytesV_append]
  have := put_at (bytesV (overB (bs.take k))) (bytesV [bs.getD k 0]) (bytesV (bs.drop (k + 1))) [.int .u8 ((x ^^^ 90).toNat : Int)] rfl hl.symm
  rw [e]
  have h3 : bytesV (bs.getD k 0 :: bs.drop (k + 1)) = bytesV [bs.getD k 0] ++ bytesV (bs.drop (k + 1)) := by simp [bytesV]
  rw [h3, this]
  simp [overB, bytesV, hx]
theorem over_get (bs : List UInt8) {k : Nat} (hk : k < bs.length) : (bytesV (overB (bs.take k) ++ bs.drop k))[k]? = some (.int .u8 ((bs.getD k 0).toNat : Int)) := by
  have hl : (overB (bs.take k)).length = k := by simp [overB]; omega
  rw [bytesV, List.getElem?_map, List.getElem?_append_right (by omega), hl, Nat.sub_self, List.getElem?_drop]
  simp [List.getD, hk]
end Go.Proofs.Ytifajcblbedcoaa
namespace Go.Proofs.Ytifajcblbedcoaa
set_option linter.unusedVariables false
set_option linter.unusedSimpArgs false
open Go.RowKit Hp
attribute [local irreducible] Go.Calls Go.wpList Hp.gvV Hp.gB Hp.gA Hp.bOr Hp.bAnd Hp.bNot
set_option maxRecDepth 100000
set_option maxHeartbeats 8000000
theorem sized_any (n : Int) (w : World) : Calls Try.prog 27 #[.int .i64 n] w fun e w' => e = .returned (.bool (inB n 1 64)) ∧ St w [] w' [] := by
  have hst := St.refl w
  unfold inB
  by_cases h1 : 1 ≤ n
  · have d1 : decide (n ≥ 1) = true := decide_eq_true h1
    have d2 : decide (1 ≤ n) = true := d1
    rw [d2]
    clear h1
    go_enter Try.func27, Try.ntmps27
    go_wp2_with (first | go_big_skip | go_big_guard | fail)
    go_ret
    exact ⟨rfl, hst⟩
  · have d1 : decide (n ≥ 1) = false := decide_eq_false h1
    have d2 : decide (1 ≤ n) = false := d1
    rw [d2]
    clear h1
    go_enter Try.func27, Try.ntmps27
    go_wp2_with (first | go_big_skip | go_big_guard | fail)
    go_ret
    exact ⟨rfl, hst⟩
theorem commit_any (n : Int) (w : World) : Calls Try.prog 28 #[.int .i64 n] w fun e w' => e = .returned (.bool (txgB n)) ∧ St w [] w' [] := by
  have hst := St.refl w
  unfold txgB inB
  by_cases h1 : 1 ≤ n
  · have d1 : decide (n ≥ 1) = true := decide_eq_true h1
    have d2 : decide (1 ≤ n) = true := d1
    rw [d2]
    clear h1
    go_enter Try.func28, Try.ntmps28
    go_wp2_with (first | go_big_skip | go_big_guard | fail)
    go_ret
    exact ⟨rfl, hst⟩
  · have d1 : decide (n ≥ 1) = false := decide_eq_false h1
    have d2 : decide (1 ≤ n) = false := d1
    rw [d2]
    clear h1
    go_enter Try.func28, Try.ntmps28
    go_wp2_with (first | go_big_skip | go_big_guard | fail)
    go_ret
    exact ⟨rfl, hst⟩
theorem limit13_any (n : Int) (w : World) : Calls Try.prog 44 #[.int .i64 n] w fun e w' => e = .returned (.bool (limB n)) ∧ St w [] w' [] := by
  have hst := St.refl w
  unfold limB inB
  by_cases h1 : 0 ≤ n
  · have d1 : decide (n ≥ 0) = true := decide_eq_true h1
    have d2 : decide (0 ≤ n) = true := d1
    rw [d2]
    clear h1
    go_enter Try.func44, Try.ntmps44
    go_wp2_with (first | go_big_skip | go_big_guard | fail)
    go_ret
    exact ⟨rfl, hst⟩
  · have d1 : decide (n ≥ 0) = false := decide_eq_false h1
    have d2 : decide (0 ≤ n) = false := d1
    rw [d2]
    clear h1
    go_enter Try.func44, Try.ntmps44
    go_wp2_with (first | go_big_skip | go_big_guard | fail)
    go_ret
    exact ⟨rfl, hst⟩
theorem named_any (nm : List UInt8) (w : World) (hl : nm.length ≤ 9223372036854775807) : Calls Try.prog 32 #[str nm] w fun e w' => e = .returned (.bool (namedB nm)) ∧ St w [] w' [] := by
  have hst := St.refl w
  have HL := hid hl
  unfold namedB
  obtain ⟨a, ha⟩ : ∃ a, a = partB nm := ⟨_, rfl⟩
  obtain ⟨b, hb⟩ : ∃ b, b = snapB nm := ⟨_, rfl⟩
  rw [← ha, ← hb]
  have HA := hid ha
  have HB := hid hb
  clear ha hb hl
  cases a
  all_goals
    go_enter Try.func32, Try.ntmps32
    go_wp2_with (first | go_big_skip | go_big_guard | (go_at_call 26; refine (volume_any nm _ HL.out).mono ?_; rw [← HA.out]; rintro _ w9 ⟨rfl, h4⟩; replace hst := St.call0 hst h4; clear h4) | (go_at_call 55; refine (snap_any nm _ HL.out).mono ?_; rw [← HB.out]; rintro _ w9 ⟨rfl, h4⟩; replace hst := St.call0 hst h4; clear h4))
    go_ret
    exact ⟨rfl, hst⟩
theorem ownP_any (p : PV) (w : World) (hp : p.In w) (hl : p.l.length ≤ 100000) : Calls Try.prog 47 #[.agg p.cells.toArray] w fun e w' =>
    ∃ ao n c, e = .returned (.agg (PV.cells (p.re (.slice ao n c))).toArray) ∧ St w [] w' [.row (.slice ao n c) 87 2 n (addrsV p.l)] ∧ p.l.length = n := by
  have hst := St.refl w
  have hS := hp.1
  obtain ⟨_, ao, n, c, h2, h3, h4⟩ := hp
  have hPL := hid (PV.len (p := p) hS)
  have H2 := hid h2
  have hn : n ≤ 100000 := by rw [← h4]; exact hl
  have H4 := hid h4
  have hRd := hid h3
  have hat := hid (show p.cells[0]? = some (.slice ao n c) by rw [PV.cells, h2]; rfl)
  clear h2 h3 h4 hl
  go_enter Try.func47, Try.ntmps47
  go_wp2_with (first | go_big_skip | go_big_guard | (refine wl_boxA hst rfl rfl rfl ?_; intro g w1 hst1; clear hst) | (refine wl_alloc hst1 rfl rfl ?_; intro g2 w2 hst2; clear hst1) | (refine wl_loadE rfl rfl rfl ?_; first | refine ⟨_, Loads.at (off := 0) [_] hst2 hat.out, ?_⟩ | refine ⟨_, Loads.atA (PV.cells (p.re (.slice ao9 n c9))) [_, _] hst11 (PV.len (p := p.re (.slice ao9 n c9)) hS) (by simp), ?_⟩) | (go_at_call 62; refine (cloneA_any ao n c _ _ (Rd.old hst2 hRd.out) (addrs_ones _) hn).mono ?_; rintro _ w9 ⟨v9, rfl, h4⟩; have hst9 := St.call hst2 h4; clear h4 hst2; obtain ⟨ao9, c9, rfl, _, _⟩ := rowS [] hst9) | (refine wl_store [_, _] hst9 rfl rfl rfl (v := .slice _ _ _) rfl rfl rfl (by show _ + 1 ≤ _; rw [hPL.out]; omega) ?_; intro w10 hst10; clear hst9; have hst11 : St w [] w10 [.row (.slice ao9 n c9) 87 2 n (addrsV p.l), .blk g2 46 (ptrCells (.slice none 0 0) 0 0 nones), .blk g 46 (PV.cells (p.re (.slice ao9 n c9)))] := hst10; clear hst10) | (refine wl_storeA [_] hst11 rfl rfl rfl rfl (PV.len (p := p.re (.slice ao9 n c9)) hS) (PV.ones_of (p := p.re (.slice ao9 n c9)) rfl) rfl ?_; intro w12 hst12; clear hst11))
  have hl := Loads.atA (P := Try.prog) (off := 0) (T := 46) (PV.cells (p.re (.slice ao9 n c9))) [_] hst12 (PV.len (p := p.re (.slice ao9 n c9)) hS) (by simp)
  refine bodyPost_ret (results_cellL rfl rfl hl) rfl ?_
  exact ⟨ao9, n, c9, rfl, hst12.sub (.cons_cons _ (List.nil_sublist _)), H4.out⟩
theorem split_lenG (l : List UInt8) : (splitL l).1.length ≤ l.length ∧ (splitL l).2.1.length ≤ l.length := by
  unfold splitL
  split
  · exact cutL_len l
  · simp
theorem alike13_any (a b : List UInt8) (w : World) (ha : a.length ≤ 9223372036854775807) (hb : b.length ≤ 9223372036854775807) : Calls Try.prog 38 #[str a, str b] w fun e w' => e = .returned (.bool (alikeB a b)) ∧ St w [] w' [] := by
  have hst := St.refl w
  have HLA := hid ha
  have HLB := hid hb
  clear ha hb
  obtain ⟨E, hE⟩ : ∃ E, E = alikeB a b := ⟨_, rfl⟩
  rw [← hE]
  obtain ⟨p, hp⟩ : ∃ p, partB a = p := ⟨_, rfl⟩
  obtain ⟨q, hq⟩ : ∃ q, partB b = q := ⟨_, rfl⟩
  obtain ⟨⟨v, u, f⟩, hx⟩ : ∃ p, splitL a = p := ⟨_, rfl⟩
  obtain ⟨⟨v', u', f'⟩, hy⟩ : ∃ p, splitL b = p := ⟨_, rfl⟩
  obtain ⟨s, hs⟩ : ∃ s, (v == v') = s := ⟨_, rfl⟩
  have hE2 : E = ((p && q) || ((f && f') && s)) := by rw [hE]; unfold alikeB; rw [hp, hq, hx, hy, ← hs]
  rw [hE2]
  have HP := hid hp
  have HQ := hid hq
  have HX := hid hx
  have HY := hid hy
  have HS := hid hs
  clear hE hE2 hp hq hx hy hs
  cases p <;> cases q <;> cases f <;> cases f'
  all_goals
    go_enter Try.func38, Try.ntmps38
    go_wp2_with (first | go_big_skip | go_big_guard | (go_at_call 39; first | (refine (split_any a _ HLA.out).mono ?_; rw [HX.out]; rintro _ w9 ⟨rfl, h4⟩; replace hst := St.call0 hst h4; clear h4) | (refine (split_any b _ HLB.out).mono ?_; rw [HY.out]; rintro _ w9 ⟨rfl, h4⟩; replace hst := St.call0 hst h4; clear h4)) | (go_at_call 26; first | (refine (volume_any a _ HLA.out).mono ?_; rw [HP.out]; rintro _ w9 ⟨rfl, h4⟩; replace hst := St.call0 hst h4; clear h4) | (refine (volume_any b _ HLB.out).mono ?_; rw [HQ.out]; rintro _ w9 ⟨rfl, h4⟩; replace hst := St.call0 hst h4; clear h4)) | (refine wl_eqS rfl rfl rfl rfl ?_; rw [HS.out]))
    go_ret
    exact ⟨by first | rfl | (rw [← HS.out]; rfl) | (cases s <;> rfl), hst⟩
theorem containsR_any (fn g : Nat) (p : RC → Bool) (ao : Option Addr) (n c : Nat) (xs : List (Value × RC)) (w : World) (hfn : ∀ (a : Array Value) (w : World), (callFunc fn a).run Try.prog w = .ok (.enter fn a) w)
    (hcl : ∀ (x : Value × RC) (w' : World), x ∈ xs → St w [] w' [] → Calls Try.prog fn #[.agg (cellsR x).toArray, .pointer (some ⟨g, 0, none⟩)] w' fun e w2 => e = .returned (.bool (p x.2)) ∧ St w' [] w2 []) (hl : RecsIn w (.slice ao n c) n xs) (hb : n ≤ 1000000) :
    Calls Try.prog 34 #[.slice ao n c, capV fn g] w fun e w' => e = .returned (.bool ((xs.map (·.2)).any p)) ∧ St w [] w' [] := by
  have hst := St.refl w
  have HC := hid (indexR_any fn g p ao n c xs w hfn hcl hl hb)
  rw [← idxI_any]
  obtain ⟨i, hi⟩ : ∃ i, i = idxI p (xs.map (·.2)) := ⟨_, rfl⟩
  rw [← hi] at HC ⊢
  clear hi hcl hl
  unfold capV at HC ⊢
  go_enter Try.func34, Try.ntmps34
  go_wp2_with (first | go_big_skip | go_big_guard | (go_at_call 64; refine HC.out.mono ?_; rintro _ w9 ⟨rfl, h4⟩; replace hst := St.call0 hst h4; clear h4))
  go_ret
  exact ⟨rfl, hst⟩
end Go.Proofs.Ytifajcblbedcoaa
namespace Go.Proofs.Ytifajcblbedcoaa
set_option linter.unusedVariables false
set_option linter.unusedSimpArgs false
open Go.RowKit Hp
attribute [local irreducible] Go.Calls Go.wpList
set_option maxRecDepth 100000
set_option maxHeartbeats 8000000
attribute [local go_sem ↓] heldInt heldInts heldRecs heldRec heldStr heldTab
theorem cells_slot (x : Value × RC) : (cellsR x)[4]? = some x.1 := rfl
def LX (xs : List (Value × RC)) : Prop := ∀ x ∈ xs, L32 x.2.S
theorem OwnX.LX {L : List HA} {xs : List (Value × RC)} (h : OwnX L xs) : LX xs := fun x hx => (h x hx).2.1
theorem recsV_lenL {xs : List (Value × RC)} (h : LX xs) : (recsV xs).length = xs.length * 44 := by
  induction xs with
  | nil => rfl
  | cons x xs ih =>
    show (cellsR x ++ recsV xs).length = _
    rw [List.length_append, cellsR_len (h x (.head _)), ih (fun y hy => h y (.tail _ hy)), List.length_cons]
    omega
theorem recsV_takeL {xs : List (Value × RC)} (h : LX xs) {k : Nat} (hk : k ≤ xs.length) : (recsV xs).take (k * 44) = recsV (xs.take k) ∧ (recsV xs).drop (k * 44) = recsV (xs.drop k) := by
  have e : recsV xs = recsV (xs.take k) ++ recsV (xs.drop k) := by rw [← recsV_append, List.take_append_drop]
  have hl : (recsV (xs.take k)).length = k * 44 := by
    rw [recsV_lenL (fun x hx => h x (List.mem_of_mem_take hx)), List.length_take, Nat.min_eq_left hk]
  rw [e, ← hl, List.take_left, List.drop_left]
  exact ⟨rfl, rfl⟩
theorem recsV_at {xs : List (Value × RC)} (h : LX xs) {k : Nat} {x : Value × RC} (hx : xs[k]? = some x) {d : Nat} {v : Value} (hd : (cellsR x)[d]? = some v) : (recsV xs)[k * 44 + d]? = some v := by
  have hlt := (List.getElem?_eq_some_iff.1 hx).1
  obtain ⟨h1, h2⟩ := recsV_takeL h (k := k) (by omega)
  have h3 : (recsV xs).drop (k * 44) = cellsR x ++ recsV (xs.drop (k + 1)) := by
    rw [h2, List.drop_eq_getElem_cons hlt]
    have : xs[k] = x := (List.getElem?_eq_some_iff.1 hx).2
    rw [this]
    rfl
  have h4 : ((recsV xs).drop (k * 44))[d]? = some v := by
    rw [h3, List.getElem?_append_left (List.getElem?_eq_some_iff.1 hd).1]
    exact hd
  rwa [List.getElem?_drop] at h4
/-- A cell of an element is written. -/
theorem recsV_put {xs : List (Value × RC)} (h : LX xs) {k : Nat} {x y : Value × RC} (hx : xs[k]? = some x) {d : Nat} {vs : List Value} (hd : d + vs.length ≤ 44) (hy : putAt (cellsR x) d vs = cellsR y) : putAt (recsV xs) (k * 44 + d) vs = recsV (xs.set k y) := by
  have hlt := (List.getElem?_eq_some_iff.1 hx).1
  have hxk : xs[k] = x := (List.getElem?_eq_some_iff.1 hx).2
  have hX := cellsR_len (h x (List.mem_of_getElem? hx))
  obtain ⟨h1, h2⟩ := recsV_takeL h (k := k) (by omega)
  have e1 : recsV xs = recsV (xs.take k) ++ (cellsR x ++ recsV (xs.drop (k + 1))) := by
    have : recsV (xs.drop k) = cellsR x ++ recsV (xs.drop (k + 1)) := by rw [List.drop_eq_getElem_cons hlt, hxk]; rfl
    rw [← this, ← recsV_append, List.take_append_drop]
  have hl : (recsV (xs.take k)).length = k * 44 := by rw [← h1, List.length_take, recsV_lenL h]; omega
  have e2 : xs.set k y = xs.take k ++ y :: xs.drop (k + 1) := by rw [List.set_eq_take_append_cons_drop, if_pos hlt]
  rw [e2, recsV_append, e1]
  have e3 : recsV (y :: xs.drop (k + 1)) = cellsR y ++ recsV (xs.drop (k + 1)) := rfl
  rw [e3, ← hy]
  unfold putAt
  rw [← hl, List.take_length_add_append, List.append_assoc, Nat.add_assoc, List.drop_length_add_append, List.take_append_of_le_length (by rw [hX]; omega), List.drop_append_of_le_length (by rw [hX]; omega)]
  simp only [List.append_assoc]
theorem ownC_any {w0 w : World} {M : List Nat} {R : List HA} (g n c k m cc : Nat) (ao : Option Addr) (C ads : List Value) (hS : St w0 M w (.row (.slice (some ⟨g, 0, none⟩) n c) 51 44 n C :: R)) (hk : k < n) (hv : C[k * 44 + 4]? = some (.slice ao m cc)) (hR : Rd w (.slice ao m cc) 2 m ads) (h1 : ads.all (·.oneCell') = true) (hb : m ≤ 100000) :
    Calls Try.prog 61 #[.pointer (some ⟨g, k * 44, none⟩)] w fun e w' => ∃ (a6 : Option Addr) (c6 : Nat), e = .returned (.tuple #[]) ∧ St w0 M w' (.row (.slice (some ⟨g, 0, none⟩) n c) 51 44 n (putAt C (k * 44 + 4) [.slice a6 m c6]) :: .row (.slice a6 m c6) 87 2 m ads :: R) := by
  have hst0 := hS
  have HV := hid hv
  have HR := hid hR
  have H1 := hid h1
  clear hS hv hR h1
  go_enter Try.func61, Try.ntmps61
  go_wp2_with (first | go_big_skip | go_big_guard | (refine wl_loadE rfl rfl rfl ?_; refine ⟨_, Loads.inRow hst0 (.head _) HV.out, ?_⟩) | (go_at_call 62; refine (cloneA_any ao m cc _ _ HR.out H1.out hb).mono ?_; rintro _ w9 ⟨v9, rfl, h4⟩; have hst := St.call hst0 h4; clear h4 hst0; obtain ⟨a6, c6, rfl, _, _⟩ := rowS [] hst) | (refine wl_storeRow1 [_] hst rfl rfl rfl rfl (v := .slice a6 m c6) rfl rfl (by omega) (by omega) ?_; intro w7 hst2; clear hst))
  go_end0
  exact ⟨rfl, a6, c6, St.perm hst2 (.swap _ _ _)⟩
theorem each_any (ao : Option Addr) (n c : Nat) (xs : List (Value × RC)) (w : World) (hl : RecsIn w (.slice ao n c) n xs) (hn : n ≤ 1000) (ha : ∀ x ∈ xs, x.2.l.length ≤ 100000 ∧ x.2.name.length ≤ 1000000) :
    Calls Try.prog 60 #[.slice ao n c, .func (.func 61) #[] #[]] w fun e w' => ∃ (rv : Value) (ys : List (Value × RC)), e = .returned rv ∧ ys.map (·.2) = xs.map (·.2) ∧ (∀ y ∈ ys, L32 y.2.S ∧ y.2.name.length ≤ 1000000) ∧ St w [] w' (.row rv 51 44 n (recsV ys) :: rootRows 87 ys) := by
  have hst0 := St.refl w
  have HL := hid hl
  have HA := hid ha
  have HLX : Hid (LX xs) := hid (fun x hx => (hl.each x hx).L)
  have HN := hid hl.len
  have H1 : Hid ((recsV xs).all (·.oneCell') = true) := hid (by
    rw [recsV, List.all_flatMap, List.all_eq_true]
    exact fun x hx => cellsR_ones (hl.each x hx))
  clear hl ha
  go_enter Try.func60, Try.ntmps60
  go_wp2_with (first | go_big_skip | go_big_guard | (go_at_call 80; refine (cloneR_any ao n c _ _ (Rd.old hst0 HL.out.rd) H1.out (by omega)).mono ?_; rintro _ w9 ⟨v9, rfl, h4⟩; have hst := St.call hst0 h4; clear h4 hst0; obtain ⟨ar, cr, rfl, _, _⟩ := rowS [] hst))
  go_loopw [11] (fun i wr => ∃ (j : Nat) (ys : List (Value × RC)), j ≤ n ∧ i = .int .i64 (j : Int) ∧ ys.map (·.2) = (xs.take j).map (·.2) ∧ St w [] wr (.row (.slice ar n cr) 51 44 n (recsV (ys ++ xs.drop j)) :: rootRows 87 ys)) (fun i _ => n - (intOf i).toNat)
  case atStart => exact ⟨0, [], Nat.zero_le _, rfl, rfl, hst⟩
  case round =>
    clear hst
    obtain ⟨j, ys, hj, rfl, hy, hst⟩ := hrel
    have HY := hid hy
    have hyl : ys.length = j := by
      have := congrArg List.length hy
      rw [List.length_map, List.length_map, List.length_take, HN.out] at this
      omega
    have HYL := hid hyl
    clear hy hyl
    by_cases hlt : j < n
    · have e1 : decide ((j : Int) < (n : Int)) = true := decide_eq_true (by omega)
      have z1 : IntKind.i64.wrap ((j : Int) + 1) = (j : Int) + 1 := IntWalk.i64_in _ (by omega)
      obtain ⟨x, hx⟩ : ∃ x, xs[j]? = some x := ⟨_, List.getElem?_eq_getElem (by rw [HN.out]; exact hlt)⟩
      have hxm := List.mem_of_getElem? hx
      have hz : (ys ++ xs.drop j)[j]? = some x := by
        rw [List.getElem?_append_right (by rw [HYL.out]; exact Nat.le_refl _), HYL.out, Nat.sub_self, List.getElem?_drop, Nat.add_zero]
        exact hx
      have hzl : LX (ys ++ xs.drop j) := fun y hy => by
        rcases List.mem_append.1 hy with hy | hy
        · have h2 : y.2 ∈ (xs.take j).map (·.2) := by rw [← HY.out]; exact List.mem_map_of_mem hy
          obtain ⟨u, hu, he⟩ := List.mem_map.1 h2
          rw [← he]
          exact HLX.out u (List.mem_of_mem_take hu)
        · exact HLX.out y (List.mem_of_mem_drop hy)
      obtain ⟨hLX2, ao2, m, cc, hsv, hrd, hm⟩ := (HL.out.each x hxm).1
      have hslot := recsV_at hzl hz (d := 4) (v := .slice ao2 m cc) (by rw [cells_slot, ← hsv]; rfl)
      have HX := hid hx
      have HZ := hid hz
      have HZL := hid hzl
      have HS := hid hslot
      have HRD := hid hrd
      have HM : Hid (x.2.l.length = m) := hid hm
      have HB := hid (HA.out x hxm).1
      obtain ⟨g, c9, he, _⟩ := row_spot hst (.head _) (by omega)
      cases he
      clear hx hxm hz hzl hLX2 hsv hrd hm hslot
      go_wp2_with (first | go_big_skip | go_big_guard | (refine wl_index rfl rfl rfl rfl hlt ?_) | (go_at_call 61; refine (ownC_any (k := j) g n cr m cc ao2 _ _ hst hlt HS.out (Rd.old hst HRD.out) (addrs_ones _) (by rw [← HM.out]; exact HB.out)).mono ?_; rintro _ w9 ⟨a6, c6, rfl, h4⟩; have hst2 := h4; clear h4 hst))
      go_roundw
      case rel =>
        refine ⟨j + 1, ys ++ [(.slice a6 m c6, x.2)], by omega, rfl, ?_, ?_⟩
        · rw [List.map_append, HY.out, List.take_add_one, HX.out, List.map_append]
          rfl
        · have e2 : putAt (cellsR x) 4 [.slice a6 m c6] = cellsR ((.slice a6 m c6 : Value), x.2) := rfl
          rw [recsV_put HZL.out HZ.out (d := 4) (by show 4 + 1 ≤ 44; decide) e2] at hst2
          have e3 : (ys ++ xs.drop j).set j ((.slice a6 m c6 : Value), x.2) = (ys ++ [((.slice a6 m c6 : Value), x.2)]) ++ xs.drop (j + 1) := by
            have hlt2 : j < xs.length := by rw [HN.out]; exact hlt
            rw [List.drop_eq_getElem_cons hlt2, List.set_append_right _ _ (by rw [HYL.out]; exact Nat.le_refl _), HYL.out, Nat.sub_self, List.set_cons_zero, List.append_assoc]
            rfl
          rw [e3] at hst2
          rw [rootRows_add]
          have hm2 := HM.out
          subst hm2
          exact hst2
      case measure => simp [intOf]; omega
    · have e1 : decide ((j : Int) < (n : Int)) = false := decide_eq_false (by omega)
      obtain rfl : j = n := by omega
      go_wp2_with (first | go_big_skip | go_big_guard | fail)
      go_ret
      have hd : xs.drop j = [] := List.drop_eq_nil_of_le (by rw [HN.out]; exact Nat.le_refl _)
      have ht : xs.take j = xs := List.take_of_length_le (by rw [HN.out]; exact Nat.le_refl _)
      have hy := HY.out
      rw [hd, List.append_nil] at hst
      rw [ht] at hy
      refine ⟨_, rfl, ys, hy, fun a b hym => ?_, hst⟩
      have h2 : b ∈ xs.map (·.2) := by rw [← hy]; exact List.mem_map_of_mem (f := (·.2)) hym
      obtain ⟨u, hu, he⟩ := List.mem_map.1 h2
      rw [← he]
      exact ⟨HLX.out u hu, (HA.out u hu).2⟩
end Go.Proofs.Ytifajcblbedcoaa
namespace Go.Proofs.Ytifajcblbedcoaa
set_option linter.unusedVariables false
set_option linter.unusedSimpArgs false
open Go.RowKit Hp
attribute [local irreducible] Go.Calls Go.wpList
set_option maxRecDepth 100000
set_option maxHeartbeats 8000000
attribute [local go_sem ↓] heldInt heldInts heldCur
theorem bldT3 (z a b c d : Int) (ao : Option Addr) (n k : Nat) : Try.prog.built 27 [(0, .int .i64 z), (2, .agg #[.int .i64 a, .int .i64 b, .int .i64 c, .int .i64 d]), (3, .slice ao n k)] = some #[.int .i64 z, .slice none 0 0, .int .i64 a, .int .i64 b, .int .i64 c, .int .i64 d, .slice ao n k] := by kernel_rfl
theorem put_root (x : Value × RC) (hL : L32 x.2.S) (v : Value) : putAt (cellsR x) 4 (PV.cells ((x.2.pv x.1).re v)) = cellsR (v, x.2) :=
  xC_put4 (p := x.2.pv x.1) (q := (x.2.pv x.1).re v) hL hL
theorem row_sliceC {w0 w : World} {M : List Nat} (L1 : List HA) {L2 : List HA} {v : Value} {T : TypeId} {sz n : Nat} {xs : List Value} (h : St w0 M w (L1 ++ .row v T sz n xs :: L2)) : ∃ ao c, v = .slice ao n c ∧ n ≤ c ∧ c ≤ 9223372036854775807 := by
  obtain ⟨ao, c, e, h1, h2, _⟩ := row_form h (List.mem_append.2 (.inr (.head _)))
  exact ⟨ao, c, e, h1, h2⟩
theorem results_cellC {fn : Func} {p : Tmp} {ty : TypeId} {tmps : Array Value} {P : Program} {w : World} {A : Addr} {v : Value} (h : fn.results = #[.cell p ty]) (hp : tmps.getD p undef = .pointer (some A)) (hl : Loads P w ty A v) :
    (results fn tmps).run P w = .ok v w := by
  have hl' : (loadVar ty A).run P w = .ok v w := hl
  have hp' : tmps[p]?.getD undef = .pointer (some A) := by simpa using hp
  simp [results, h, hp', asAddr, hl', Sem.run_bind]
end Go.Proofs.Ytifajcblbedcoaa
namespace Go.Proofs.Ytifajcblbedcoaa
set_option linter.unusedVariables false
set_option linter.unusedSimpArgs false
open Go.RowKit Hp
attribute [local irreducible] Go.Calls Go.wpList
set_option maxRecDepth 100000
set_option maxHeartbeats 8000000
def overR : List Value := xC (-7) [111, 118, 101, 114] 0 0 zP 0 0 0 0 0
theorem bldOver : Try.prog.built 51 [(0, .int .i64 (-7)), (1, .string ⟨#[111, 118, 101, 114]⟩)] = some overR.toArray := by kernel_rfl
theorem overR_len : overR.length = 44 := rfl
theorem overR_ones : overR.all (·.oneCell') = true := rfl
def rowOf (E : TypeId) (x : Value × RC) : HA := .row x.1 E 2 x.2.l.length (addrsV x.2.l)
theorem rootRows_perm (E : TypeId) (xs : List (Value × RC)) : (rootRows E xs).Perm (xs.map (rowOf E)) := by
  unfold rootRows
  exact (List.reverse_perm xs).map _
theorem drop_recs {xs : List (Value × RC)} {zs : List Value} {j : Nat} {x : Value × RC} (hx : xs[j]? = some x) (hL : (cellsR x).length = 44) (h : zs.drop (j * 44) = recsV (xs.drop j)) : zs[j * 44 + 4]? = some x.1 ∧ zs.drop ((j + 1) * 44) = recsV (xs.drop (j + 1)) ∧ xs.drop j = x :: xs.drop (j + 1) := by
  have hd : xs.drop j = x :: xs.drop (j + 1) := by
    obtain ⟨hlt, hg⟩ := List.getElem?_eq_some_iff.1 hx
    rw [List.drop_eq_getElem_cons hlt, hg]
  have hr : recsV (xs.drop j) = cellsR x ++ recsV (xs.drop (j + 1)) := by rw [hd]; rfl
  refine ⟨?_, ?_, hd⟩
  · rw [← List.getElem?_drop, h, hr, List.getElem?_append_left (by omega)]
    rfl
  · rw [show (j + 1) * 44 = j * 44 + 44 by omega, ← List.drop_drop, h, hr, List.drop_left' hL]
end Go.Proofs.Ytifajcblbedcoaa
namespace Go.Proofs.Ytifajcblbedcoaa
set_option linter.unusedVariables false
set_option linter.unusedSimpArgs false
open Go.RowKit Hp
attribute [local irreducible] Go.Calls Go.wpList
set_option maxRecDepth 100000
set_option maxHeartbeats 8000000
attribute [local go_sem ↓] heldInt heldInts heldRecs heldRec heldStr heldTab
/-- A table of one's own: its cells at g, its records, its lives, each record's addresses. -/
def TP (g : Nat) (t : TC) (rv lv : Value) (xs : List (Value × RC)) (R : List HA) : List HA := .blk g 27 (tabC t rv lv) :: .row rv 51 44 xs.length (recsV xs) :: .row lv 3 1 t.lives.length (numsV t.lives) :: (xs.map rootH ++ R)
structure Okx (xs : List (Value × RC)) (t : TC) : Prop where
  eq : xs.map (·.2) = t.recs
  ok : ∀ x ∈ xs, L32 x.2.S ∧ x.2.name.length ≤ 1000000
theorem Okx.own {xs : List (Value × RC)} {t : TC} (h : Okx xs t) (y : HA) (R : List HA) : OwnX (y :: (xs.map rootH ++ R)) xs := fun x hx => ⟨.tail _ (List.mem_append_left _ (List.mem_map_of_mem hx)), h.ok x hx⟩
theorem Okx.len {xs : List (Value × RC)} {t : TC} (h : Okx xs t) : xs.length = t.recs.length := by rw [← h.eq, List.length_map]
theorem RC.Bd.rootLen {r : RC} (h : r.Bd) : r.l.length ≤ 3 := (check_bd h.root).1
/-- What a function value tells, and leaves. -/
def DoesPost (g : Nat) (al : Option Addr) (cl : Nat) (w : World) (t : TC) (r : TR) (R : List HA) (e : Ending) (w' : World) : Prop :=
  e = .returned (.int .i64 r.1) ∧ ((r.1 == 0) = true → ∃ rv xs', Okx xs' r.2 ∧ St w [] w' (TP g r.2 rv (.slice al t.lives.length cl) xs' R) ∧ r.2.lives = t.lives) ∧ ((r.1 == 0) = false → St w [] w' R)
/-- What a function value does to a table of one's own. -/
def Does (F : FuncId) (caps : Array Value) (w : World) (t : TC) (r : TR) : Prop :=
  ∀ (g : Nat) (ao : Option Addr) (c : Nat) (al : Option Addr) (cl : Nat) (xs : List (Value × RC)) (R : List HA) (w1 : World), Okx xs t → St w [] w1 (TP g t (.slice ao xs.length c) (.slice al t.lives.length cl) xs R) →
    Calls Try.prog F (#[.pointer (some ⟨g, 0, none⟩)] ++ caps) w1 (DoesPost g al cl w t r R)
/-- What a call tells. -/
def TabRet (r : TR) (w : World) (e : Ending) (w' : World) : Prop :=
  ∃ rv lv xs, e = .returned (.tuple #[.agg (tabC r.2 rv lv).toArray, .int .i64 r.1]) ∧ Okx xs r.2 ∧ St w [] w' (.row rv 51 44 xs.length (recsV xs) :: .row lv 3 1 r.2.lives.length (numsV r.2.lives) :: xs.map rootH)
theorem tabRet_bad {w w' : World} {L : List HA} (h : St w [] w' L) (z : Int) : TabRet (badR z) w (.returned (.tuple #[.agg tab0.toArray, .int .i64 z])) w' :=
  ⟨.slice none 0 0, .slice none 0 0, [], rfl, ⟨rfl, fun _ h => by cases h⟩, St.nilR _ 44 (St.nilR _ 1 h.nil)⟩
theorem perm_owned {a b c d : HA} {R R' : List HA} (h : R.Perm R') : ((a :: R) ++ [b, c, d]).Perm (d :: a :: b :: (R' ++ [c])) := by
  have h1 : (R ++ [b, c, d]).Perm (b :: (R' ++ [c, d])) := (h.append_right _).trans List.perm_middle
  have h2 : (R' ++ [c, d]).Perm (d :: (R' ++ [c])) := by
    have e : R' ++ [c, d] = (R' ++ [c]) ++ [d] := by simp
    rw [e]
    exact List.perm_append_singleton _ _
  have h3 : (a :: (R ++ [b, c, d])).Perm (a :: b :: d :: (R' ++ [c])) := .cons _ (h1.trans (.cons _ h2))
  exact h3.trans ((List.Perm.cons _ (.swap _ _ _)).trans (.swap _ _ _))
theorem results_cellR {fn : Func} {p q : Tmp} {ty : TypeId} {tmps : Array Value} {P : Program} {w : World} {A : Addr} {v u : Value} (h : fn.results = #[.cell p ty, .tmp q]) (hp : tmps.getD p undef = .pointer (some A)) (hq : tmps.getD q undef = u) (hl : Loads P w ty A v) :
    (results fn tmps).run P w = .ok (.tuple #[v, u]) w := by
  have hl' : (loadVar ty A).run P w = .ok v w := hl
  have hp' : tmps[p]?.getD undef = .pointer (some A) := by simpa using hp
  have hq' : tmps[q]?.getD undef = u := by simpa using hq
  simp [results, h, hp', hq', asAddr, hl', Sem.run_bind]
theorem owned_any (F : FuncId) (caps : Array Value) (hF : ∀ (a : Array Value) (w : World), (callFunc F a).run Try.prog w = .ok (.enter F a) w) (t : TC) (ar al : Option Addr) (nr cr nl cl : Nat) (xs : List (Value × RC)) (w : World) (ht : TabIn w t ar nr cr al nl cl xs) (r : TR) (hd : t.ok = true → Does F caps w t r) :
    Calls Try.prog 24 #[.agg (tabC t (.slice ar nr cr) (.slice al nl cl)).toArray, .func (.func F) #[] caps] w (TabRet (opR t r) w) := by
  have hst0 := St.refl w
  have HT := hid ht
  have HD := hid hd
  have b1 := ht.br
  have b2 := ht.bl
  have b3 := ht.len
  have b4 := ht.ln
  obtain ⟨Q, hQ⟩ : ∃ Q, Q = opR t r := ⟨_, rfl⟩
  rw [← hQ]
  have HQ := hid hQ
  clear ht hd hQ
  cases hok : t.ok with
  | false =>
    have HE := hid (err_no hok)
    have HR := hid (show Q = badR 2 by rw [HQ.out]; unfold opR; rw [hok]; rfl)
    clear hok
    go_enter Try.func24, Try.ntmps24
    go_wp2_with (first | go_big_skip | go_big_guard | (refine wl_boxA hst0 rfl rfl rfl ?_; intro g w1 hst1; clear hst0) | (refine wl_alloc hst1 rfl rfl ?_; intro g4 w2 hst; clear hst1) | (refine wl_loadE rfl rfl rfl ?_; first | refine ⟨_, Loads.atA (tabC t (.slice ar nr cr) (.slice al nl cl)) [_] hst rfl rfl, ?_⟩ | refine ⟨_, Loads.at [_] hst rfl, ?_⟩ | refine ⟨_, Loads.at [_, _] hA2 rfl, ?_⟩ | refine ⟨_, Loads.atA (tabC u (.slice a9 xs9.length c9) (.slice a2 nl c2)) [] hB1 rfl rfl, ?_⟩) | (go_at_call 58; refine (check12_any t ar al nr cr nl cl xs _ (HT.out.R.old hst.nil) HT.out.eq (by omega) (Rd.old hst.nil HT.out.L) HT.out.ln (by omega)).mono ?_; rw [HE.out]; rintro _ w9 ⟨rfl, h4⟩; replace hst := St.call0 hst h4; clear h4) | (refine wl_build0 rfl rfl ?_) | (refine wl_storeA [] hst rfl rfl rfl rfl rfl rfl rfl ?_; intro w7 hst2; clear hst))
    have hl := Loads.atA (P := Try.prog) (off := 0) (T := 27) tab0 [] hst2 rfl rfl
    refine bodyPost_ret (results_cellR rfl rfl rfl hl) rfl ?_
    rw [HR.out]
    exact tabRet_bad hst2 2
  | true =>
    have HE := hid (err_yes hok)
    have hbd := ok_bd hok
    have HDD := hid (HD.out hok)
    have b5 := hbd.many
    have b6 := hbd.lives
    have HR := hid (show Q = if r.1 == 0 then r else badR r.1 by rw [HQ.out]; unfold opR; rw [hok]; rfl)
    have HRL := hid (show ∀ x ∈ xs, x.2.l.length ≤ 100000 ∧ x.2.name.length ≤ 1000000 from fun x hx => by
      have hx2 : x.2 ∈ t.recs := by rw [← HT.out.eq]; exact List.mem_map_of_mem hx
      have q1 := (hbd.recs x.2 hx2).rootLen
      have q2 := (hbd.recs x.2 hx2).name
      omega)
    clear hok hbd HD HQ
    obtain ⟨⟨z, u⟩, hru⟩ : ∃ q, q = r := ⟨_, rfl⟩
    subst hru
    have HRR := HR
    cases hz : (z == 0)
    · have d1 : (z != 0) = !(z == 0) := rfl
      rw [hz] at d1
      have HZ := hid hz
      clear hz
      go_enter Try.func24, Try.ntmps24
      go_wp2_with (first | go_big_skip | go_big_guard | (refine wl_boxA hst0 rfl rfl rfl ?_; intro g w1 hst1; clear hst0) | (refine wl_alloc hst1 rfl rfl ?_; intro g4 w2 hst; clear hst1) | (refine wl_loadE rfl rfl rfl ?_; first | refine ⟨_, Loads.atA (tabC t (.slice ar nr cr) (.slice al nl cl)) [_] hst rfl rfl, ?_⟩ | refine ⟨_, Loads.at [_] hst rfl, ?_⟩ | refine ⟨_, Loads.at [_, _] hA2 rfl, ?_⟩ | refine ⟨_, Loads.atA (tabC u (.slice a9 xs9.length c9) (.slice a2 nl c2)) [] hB1 rfl rfl, ?_⟩) | (go_at_call 58; refine (check12_any t ar al nr cr nl cl xs _ (HT.out.R.old hst.nil) HT.out.eq (by omega) (Rd.old hst.nil HT.out.L) HT.out.ln (by omega)).mono ?_; rw [HE.out]; rintro _ w9 ⟨rfl, h4⟩; replace hst := St.call0 hst h4; clear h4) | (go_at_call 59; refine (cloneI_any al nl cl _ _ (Rd.old hst HT.out.L) (ones_numsV _) (by omega)).mono ?_; rintro _ w9 ⟨v9, rfl, h4⟩; have hA1 := St.call hst h4; clear h4 hst; obtain ⟨a2, c2, rfl, _, _⟩ := rowS [] hA1) | (refine wl_store [_, _] hA1 rfl rfl rfl (off := 6) (v := .slice a2 nl c2) rfl rfl rfl (by show (6 : Nat) + 1 ≤ 7; decide) ?_; intro w6 h4; have hA2 : St w [] w6 (.row (.slice a2 nl c2) 3 1 nl (numsV t.lives) :: .blk g4 27 tab0 :: .blk g 27 (tabC t (.slice ar nr cr) (.slice a2 nl c2)) :: []) := h4; clear h4 hA1) | (go_at_call 60; refine (each_any ar nr cr xs _ (HT.out.R.old hA2.nil) (by omega) HRL.out).mono ?_; rintro _ w9 ⟨rv9, ys, rfl, hy9, ho9, h4⟩; have hA3 := St.call hA2 h4; clear h4 hA2; obtain ⟨a3, c3, rfl, _, _⟩ := rowS [] hA3; have HYE : Hid (ys.map (·.2) = t.recs) := hid (by rw [hy9]; exact HT.out.eq); have HYO := hid ho9; clear hy9 ho9; have hA4 : St w [] w9 (.blk g 27 (tabC t (.slice ar nr cr) (.slice a2 nl c2)) :: .row (.slice a3 nr c3) 51 44 nr (recsV ys) :: .row (.slice a2 nl c2) 3 1 nl (numsV t.lives) :: (ys.map rootH ++ [.blk g4 27 tab0])) := St.perm hA3 (perm_owned (rootRows_perm _ ys)); clear hA3) | (refine wl_store [] hA4 rfl rfl rfl (off := 1) (v := .slice a3 nr c3) rfl rfl rfl (by show (1 : Nat) + 1 ≤ 7; decide) ?_; intro w7 h4; have hB0 : St w [] w7 (TP g t (.slice a3 ys.length c3) (.slice a2 t.lives.length c2) ys [.blk g4 27 tab0]) := (by have q1 : ys.length = nr := (by rw [← List.length_map (f := fun x : Value × RC => x.2), HYE.out]; exact b3); unfold TP; rw [q1, b4]; exact h4); clear h4 hA4) | (refine (HDD.out g a3 c3 a2 c2 ys [.blk g4 27 tab0] _ ⟨HYE.out, HYO.out⟩ hB0).mono ?_; rintro _ w8 ⟨rfl, hgood, hbad⟩; have hC1 := hbad HZ.out; clear hgood hbad hB0) | (refine wl_build0 rfl rfl ?_) | (refine wl_storeA [] hC1 rfl rfl rfl rfl rfl rfl rfl ?_; intro w7 hC2; clear hC1))
      have hl := Loads.atA (P := Try.prog) (off := 0) (T := 27) tab0 [] hC2 rfl rfl
      refine bodyPost_ret (results_cellR rfl rfl rfl hl) rfl ?_
      have hq := HR.out
      rw [HZ.out] at hq
      rw [hq]
      exact tabRet_bad hC2 z
    · have d1 : (z != 0) = !(z == 0) := rfl
      rw [hz] at d1
      have HZ := hid hz
      clear hz
      go_enter Try.func24, Try.ntmps24
      go_wp2_with (first | go_big_skip | go_big_guard | (refine wl_boxA hst0 rfl rfl rfl ?_; intro g w1 hst1; clear hst0) | (refine wl_alloc hst1 rfl rfl ?_; intro g4 w2 hst; clear hst1) | (refine wl_loadE rfl rfl rfl ?_; first | refine ⟨_, Loads.atA (tabC t (.slice ar nr cr) (.slice al nl cl)) [_] hst rfl rfl, ?_⟩ | refine ⟨_, Loads.at [_] hst rfl, ?_⟩ | refine ⟨_, Loads.at [_, _] hA2 rfl, ?_⟩ | refine ⟨_, Loads.atA (tabC u (.slice a9 xs9.length c9) (.slice a2 nl c2)) [] hB1 rfl rfl, ?_⟩) | (go_at_call 58; refine (check12_any t ar al nr cr nl cl xs _ (HT.out.R.old hst.nil) HT.out.eq (by omega) (Rd.old hst.nil HT.out.L) HT.out.ln (by omega)).mono ?_; rw [HE.out]; rintro _ w9 ⟨rfl, h4⟩; replace hst := St.call0 hst h4; clear h4) | (go_at_call 59; refine (cloneI_any al nl cl _ _ (Rd.old hst HT.out.L) (ones_numsV _) (by omega)).mono ?_; rintro _ w9 ⟨v9, rfl, h4⟩; have hA1 := St.call hst h4; clear h4 hst; obtain ⟨a2, c2, rfl, _, _⟩ := rowS [] hA1) | (refine wl_store [_, _] hA1 rfl rfl rfl (off := 6) (v := .slice a2 nl c2) rfl rfl rfl (by show (6 : Nat) + 1 ≤ 7; decide) ?_; intro w6 h4; have hA2 : St w [] w6 (.row (.slice a2 nl c2) 3 1 nl (numsV t.lives) :: .blk g4 27 tab0 :: .blk g 27 (tabC t (.slice ar nr cr) (.slice a2 nl c2)) :: []) := h4; clear h4 hA1) | (go_at_call 60; refine (each_any ar nr cr xs _ (HT.out.R.old hA2.nil) (by omega) HRL.out).mono ?_; rintro _ w9 ⟨rv9, ys, rfl, hy9, ho9, h4⟩; have hA3 := St.call hA2 h4; clear h4 hA2; obtain ⟨a3, c3, rfl, _, _⟩ := rowS [] hA3; have HYE : Hid (ys.map (·.2) = t.recs) := hid (by rw [hy9]; exact HT.out.eq); have HYO := hid ho9; clear hy9 ho9; have hA4 : St w [] w9 (.blk g 27 (tabC t (.slice ar nr cr) (.slice a2 nl c2)) :: .row (.slice a3 nr c3) 51 44 nr (recsV ys) :: .row (.slice a2 nl c2) 3 1 nl (numsV t.lives) :: (ys.map rootH ++ [.blk g4 27 tab0])) := St.perm hA3 (perm_owned (rootRows_perm _ ys)); clear hA3) | (refine wl_store [] hA4 rfl rfl rfl (off := 1) (v := .slice a3 nr c3) rfl rfl rfl (by show (1 : Nat) + 1 ≤ 7; decide) ?_; intro w7 h4; have hB0 : St w [] w7 (TP g t (.slice a3 ys.length c3) (.slice a2 t.lives.length c2) ys [.blk g4 27 tab0]) := (by have q1 : ys.length = nr := (by rw [← List.length_map (f := fun x : Value × RC => x.2), HYE.out]; exact b3); unfold TP; rw [q1, b4]; exact h4); clear h4 hA4) | (refine (HDD.out g a3 c3 a2 c2 ys [.blk g4 27 tab0] _ ⟨HYE.out, HYO.out⟩ hB0).mono ?_; rintro _ w8 ⟨rfl, hgood, hbad⟩; obtain ⟨rv9, xs9, hok9, hB1, hlv9⟩ := hgood HZ.out; clear hgood hbad hB0; rw [b4] at hB1; obtain ⟨a9, c9, rfl, _, _⟩ := rowS [_] hB1; have HOK := hid hok9; have HLV := hid hlv9; clear hok9 hlv9) | (refine wl_build0 rfl rfl ?_) | (refine wl_storeA (_ :: _ :: _ :: List.map rootH xs9) hB1 rfl rfl rfl rfl (vs := tabC u (.slice a9 xs9.length c9) (.slice a2 nl c2)) rfl rfl rfl ?_; intro w7 hB2; clear hB1))
      have hl := Loads.atA (P := Try.prog) (off := 0) (T := 27) (tabC u (.slice a9 xs9.length c9) (.slice a2 nl c2)) (_ :: _ :: _ :: List.map rootH xs9) hB2 rfl rfl
      refine bodyPost_ret (results_cellR rfl rfl rfl hl) rfl ?_
      have hq := HR.out
      rw [HZ.out] at hq
      have hz0 : z = 0 := by simpa using HZ.out
      subst hz0
      rw [hq]
      exact ⟨_, _, xs9, rfl, HOK.out, St.sub hB2 (.cons _ (.cons_cons _ (.cons_cons _ (List.sublist_append_left _ _))))⟩
end Go.Proofs.Ytifajcblbedcoaa
namespace Go.Proofs.Ytifajcblbedcoaa
set_option linter.unusedVariables false
set_option linter.unusedSimpArgs false
open Go.RowKit Hp
attribute [local irreducible] Go.Calls Go.wpList
set_option maxRecDepth 100000
set_option maxHeartbeats 8000000
attribute [local go_sem ↓] heldInt heldInts heldRecs heldRec heldStr heldTab
theorem tp_rest {L : List HA} {g : Nat} {t : TC} {rv lv : Value} {xs : List (Value × RC)} {R : List HA} {w w' : World} (h : St w [] w' (L ++ TP g t rv lv xs R)) : St w [] w' R :=
  St.sub h (by
    refine (List.Sublist.trans ?_ (List.sublist_append_right _ _))
    exact .cons _ (.cons _ (.cons _ (List.sublist_append_right _ _))))
theorem does_bad {L : List HA} {g : Nat} {al : Option Addr} {cl : Nat} {w w' : World} {t : TC} {rv lv : Value} {xs : List (Value × RC)} {R : List HA} {r : TR} {z : Int} (hr : r = badR z) (hz : (z == 0) = false) (h : St w [] w' (L ++ TP g t rv lv xs R)) : DoesPost g al cl w t r R (.returned (.int .i64 z)) w' := by
  subst hr
  refine ⟨rfl, fun h0 => ?_, fun _ => tp_rest h⟩
  have : (z == 0) = true := h0
  rw [hz] at this
  cases this
/-- A record, its addresses ahead, is ready to be put in. -/
theorem put_ready {E : List HA} {g : Nat} {t : TC} {rv lv : Value} {xs : List (Value × RC)} {R : List HA} {w w' : World} {x : Value × RC} (h : St w [] w' (rootH x :: (E ++ TP g t rv lv xs R))) :
    St w [] w' (.blk g 27 (tabC t rv lv) :: .row rv 51 44 xs.length (recsV xs) :: (.row lv 3 1 t.lives.length (numsV t.lives) :: (xs.map rootH ++ (rootH x :: (E ++ R))))) := by
  refine St.perm h ?_
  unfold TP
  generalize HA.blk g _ _ = a
  generalize HA.row rv _ _ _ _ = b
  generalize HA.row lv _ _ _ _ = c
  generalize List.map rootH xs = m
  generalize rootH x = y
  have h1 : (E ++ (a :: b :: c :: (m ++ R))).Perm (a :: b :: c :: (m ++ (E ++ R))) := by
    have : (E ++ ((a :: b :: c :: m) ++ R)).Perm ((a :: b :: c :: m) ++ (E ++ R)) := by
      rw [← List.append_assoc, ← List.append_assoc]
      exact List.perm_append_comm.append_right R
    exact this
  have h2 : (y :: (a :: b :: c :: (m ++ (E ++ R)))).Perm (a :: b :: c :: (m ++ (y :: (E ++ R)))) := by
    have : (y :: ((a :: b :: c :: m) ++ (E ++ R))).Perm ((a :: b :: c :: m) ++ (y :: (E ++ R))) := List.perm_middle.symm
    exact this
  exact (List.Perm.cons y h1).trans h2
theorem ready_own {x : Value × RC} {xs : List (Value × RC)} {t : TC} {c : HA} {E : List HA} (h : Okx xs t) (hx : L32 x.2.S ∧ x.2.name.length ≤ 1000000) : OwnX (c :: (xs.map rootH ++ (rootH x :: E))) xs ∧ OwnR (c :: (xs.map rootH ++ (rootH x :: E))) x :=
  ⟨fun y hy => ⟨.tail _ (List.mem_append_left _ (List.mem_map_of_mem hy)), h.ok y hy⟩, ⟨.tail _ (List.mem_append_right _ (.head _)), hx⟩⟩
/-- A record was put in. -/
theorem put_done {E : List HA} {g : Nat} {al : Option Addr} {cl : Nat} {w w' : World} {t : TC} {rv : Value} {xs xs' : List (Value × RC)} {R : List HA} {x : Value × RC} {r : TR} (hr : r = (0, putT t x.2)) (hok : Okx xs t) (he : xs'.map (·.2) = layL { x.2 with id := t.next } (xs.map (·.2)))
    (ho : ∀ y ∈ xs', L32 y.2.S ∧ y.2.name.length ≤ 1000000) (hp : (xs'.map rootH).Perm (rootH x :: xs.map rootH))
    (h : St w [] w' (.blk g 27 (tabC (nextT t) rv (.slice al t.lives.length cl)) :: .row rv 51 44 (xs.length + 1) (recsV xs') :: (.row (.slice al t.lives.length cl) 3 1 t.lives.length (numsV t.lives) :: (xs.map rootH ++ (rootH x :: (E ++ R)))))) :
    DoesPost g al cl w t r R (.returned (.int .i64 0)) w' := by
  subst hr
  refine ⟨rfl, fun _ => ⟨rv, xs', ⟨?_, ho⟩, ?_, rfl⟩, fun h0 => by cases h0⟩
  · rw [he, hok.eq]
    rfl
  · have hl : xs'.length = xs.length + 1 := by
      have := congrArg List.length he
      rw [List.length_map, layL_length, List.length_map] at this
      exact this
    unfold TP
    rw [hl]
    have h1 : (xs.map rootH ++ (rootH x :: (E ++ R))).Perm (xs'.map rootH ++ (E ++ R)) := List.perm_middle.trans (hp.symm.append_right _)
    have h2 := St.perm h (.cons _ (.cons _ (.cons _ h1)))
    exact St.sub h2 (.cons_cons _ (.cons_cons _ (.cons_cons _ ((List.Sublist.refl _).append (List.sublist_append_right _ _)))))
theorem put_front {w w' : World} {e a b c y : HA} {m R : List HA} (h : St w [] w' (a :: b :: c :: (m ++ (y :: ([e] ++ R))))) : St w [] w' (e :: a :: b :: c :: (m ++ (y :: ([] ++ R)))) := by
  refine St.perm h ?_
  have h1 : (m ++ (y :: (e :: R))).Perm (e :: (m ++ (y :: R))) := by
    have := List.perm_middle (a := e) (l₁ := m ++ [y]) (l₂ := R)
    simpa using this
  have h2 : (a :: b :: c :: (m ++ (y :: (e :: R)))).Perm (a :: b :: c :: (e :: (m ++ (y :: R)))) := .cons _ (.cons _ (.cons _ h1))
  exact h2.trans (List.perm_middle (a := e) (l₁ := [a, b, c]) (l₂ := m ++ (y :: R)))
theorem bldV (nm : List UInt8) (size txg : Int) : Try.prog.built 51 [(1, .string ⟨nm.toArray⟩), (2, .int .i64 1), (3, .int .i64 size), (5, .int .i64 txg)] = some (cellsR ((.slice none 0 0 : Value), volR nm size txg)).toArray := by kernel_rfl
/-- A bound of a table that may be. -/
theorem ok_next {t : TC} (h : t.ok = true) : 0 ≤ t.next ∧ t.next ≤ 2147483648 := (ok_bd h).next
theorem ok_many {t : TC} (h : t.ok = true) : t.recs.length ≤ 16 := (ok_bd h).many
theorem ok_sorted {t : TC} (h : t.ok = true) : Sorted t.recs := by
  have h4 : allAt (eachB t.recs) t.recs = true := by
    unfold TC.ok at h
    simp only [Bool.and_eq_true] at h
    exact h.1.2
  have step : ∀ (i : Nat) (x y : RC), t.recs[i]? = some x → t.recs[i + 1]? = some y → lessL x.name y.name = true := fun i x y hx hy => by
    have := allAt_at h4 hy
    unfold eachB at this
    have h2 := (Bool.and_eq_true_iff.1 this).2
    have e : lessAt t.recs (i + 1) y = lessL x.name y.name := by
      show (match t.recs[i]? with
        | some u => lessL u.name y.name
        | none => true) = _
      rw [hx]
    rwa [e] at h2
  intro i j x y hij hx hy
  obtain ⟨d, rfl⟩ : ∃ d, j = i + 1 + d := ⟨j - (i + 1), by omega⟩
  induction d generalizing y with
  | zero => exact step i x y hx hy
  | succ d ih =>
    have hlt := (List.getElem?_eq_some_iff.1 hy).1
    have hz : t.recs[i + 1 + d]? = some t.recs[i + 1 + d] := List.getElem?_eq_getElem (by omega)
    exact less_trans (ih _ (by omega) hz) (step (i + 1 + d) _ y hz hy)
theorem make_does {w : World} {gn gs gx : Nat} (nm : List UInt8) (size txg : Int) (h1 : w.cell? ⟨gn, 0, none⟩ = some (.string ⟨nm.toArray⟩)) (h2 : w.cell? ⟨gs, 0, none⟩ = some (.int .i64 size)) (h3 : w.cell? ⟨gx, 0, none⟩ = some (.int .i64 txg)) (hl : nm.length ≤ 1000000) (t : TC) (hk : t.ok = true) :
    Does 25 #[.pointer (some ⟨gn, 0, none⟩), .pointer (some ⟨gs, 0, none⟩), .pointer (some ⟨gx, 0, none⟩)] w t (makeR t nm size txg) := by
  intro g ao c al cl xs R w1 hok hst0
  show Calls _ _ #[.pointer (some ⟨g, 0, none⟩), .pointer (some ⟨gn, 0, none⟩), .pointer (some ⟨gs, 0, none⟩), .pointer (some ⟨gx, 0, none⟩)] _ _
  have hst := hst0
  have H1 := hid h1
  have H2 := hid h2
  have H3 := hid h3
  have HOK := hid hok
  have HK := hid hk
  have b2 : xs.length ≤ 16 := by rw [hok.len]; exact ok_many hk
  clear hst0 h1 h2 h3 hok hk
  obtain ⟨r, hr⟩ : ∃ r, r = makeR t nm size txg := ⟨_, rfl⟩
  rw [← hr]
  have HR := hid hr
  clear hr
  obtain ⟨p, hp⟩ : ∃ p, partB nm = p := ⟨_, rfl⟩
  obtain ⟨q, hq⟩ : ∃ q, inB size 1 64 = q := ⟨_, rfl⟩
  obtain ⟨s, hs⟩ : ∃ s, txgB txg = s := ⟨_, rfl⟩
  obtain ⟨z, hz⟩ : ∃ z, roomE t nm = z := ⟨_, rfl⟩
  have HP := hid hp
  have HSZ := hid hq
  have HT := hid hs
  have HRM := hid hz
  have hv : r = if (p && q) && s then (if z == 0 then (0, putT t (volR nm size txg)) else badR z) else badR 2 := by rw [HR.out]; unfold makeR; rw [hp, hq, hs, hz]
  have HV := hid hv
  clear hp hq hs hz hv
  cases hc : ((p && q) && s)
  · have HB := hid (show r = badR 2 by rw [HV.out, hc]; rfl)
    clear HV HR
    cases p <;> cases q <;> cases s <;> first | (cases hc; done) | skip
    all_goals
      clear hc
      go_enter Try.func25, Try.ntmps25
      go_wp2_with (first | go_big_skip | go_big_guard | (refine wl_loadE rfl rfl rfl ?_; first | refine ⟨_, Loads.old hst H1.out, ?_⟩ | refine ⟨_, Loads.old hst H2.out, ?_⟩ | refine ⟨_, Loads.old hst H3.out, ?_⟩) | (go_at_call 26; refine (volume_any nm _ (by omega)).mono ?_; rw [HP.out]; rintro _ w9 ⟨rfl, h4⟩; replace hst := St.call0 hst h4; clear h4) | (go_at_call 27; refine (sized_any size _).mono ?_; rw [HSZ.out]; rintro _ w9 ⟨rfl, h4⟩; replace hst := St.call0 hst h4; clear h4) | (go_at_call 28; refine (commit_any txg _).mono ?_; rw [HT.out]; rintro _ w9 ⟨rfl, h4⟩; replace hst := St.call0 hst h4; clear h4))
      go_ret
      exact does_bad (L := []) HB.out (by decide) hst
  · have h3 : p = true ∧ q = true ∧ s = true := by revert hc; cases p <;> cases q <;> cases s <;> decide
    obtain ⟨rfl, rfl, rfl⟩ := h3
    cases hz : (z == 0)
    · have HB := hid (show r = badR z by rw [HV.out, hc, hz]; rfl)
      have HZ := hid hz
      have d1 : (z != 0) = true := by rw [bne, hz]; rfl
      clear hc hz HV HR
      go_enter Try.func25, Try.ntmps25
      go_wp2_with (first | go_big_skip | go_big_guard | (refine wl_loadE rfl rfl rfl ?_; first | refine ⟨_, Loads.old hst H1.out, ?_⟩ | refine ⟨_, Loads.old hst H2.out, ?_⟩ | refine ⟨_, Loads.old hst H3.out, ?_⟩) | (go_at_call 26; refine (volume_any nm _ (by omega)).mono ?_; rw [HP.out]; rintro _ w9 ⟨rfl, h4⟩; replace hst := St.call0 hst h4; clear h4) | (go_at_call 27; refine (sized_any size _).mono ?_; rw [HSZ.out]; rintro _ w9 ⟨rfl, h4⟩; replace hst := St.call0 hst h4; clear h4) | (go_at_call 28; refine (commit_any txg _).mono ?_; rw [HT.out]; rintro _ w9 ⟨rfl, h4⟩; replace hst := St.call0 hst h4; clear h4) | (go_at_call 29; refine (room_any g t ao xs.length c _ xs nm hst (HOK.out.own _ _) rfl HOK.out.eq (by omega)).mono ?_; rw [HRM.out]; rintro _ w9 ⟨rfl, h4⟩; have hst2 := h4; clear h4 hst))
      go_ret
      exact does_bad (L := []) HB.out HZ.out hst2
    · have HB := hid (show r = (0, putT t (volR nm size txg)) by rw [HV.out, hc, hz]; rfl)
      have d1 : (z != 0) = false := by rw [bne, hz]; rfl
      clear hc hz HV HR
      have hz0 := ok_next HK.out
      have HS := hid (ok_sorted HK.out)
      go_enter Try.func25, Try.ntmps25
      go_wp2_with (first | go_big_skip | go_big_guard | (refine wl_loadE rfl rfl rfl ?_; first | refine ⟨_, Loads.old hst H1.out, ?_⟩ | refine ⟨_, Loads.old hst H2.out, ?_⟩ | refine ⟨_, Loads.old hst H3.out, ?_⟩ | refine ⟨_, Loads.old hst2 H1.out, ?_⟩ | refine ⟨_, Loads.old hst2 H2.out, ?_⟩ | refine ⟨_, Loads.old hst2 H3.out, ?_⟩) | (go_at_call 26; refine (volume_any nm _ (by omega)).mono ?_; rw [HP.out]; rintro _ w9 ⟨rfl, h4⟩; replace hst := St.call0 hst h4; clear h4) | (go_at_call 27; refine (sized_any size _).mono ?_; rw [HSZ.out]; rintro _ w9 ⟨rfl, h4⟩; replace hst := St.call0 hst h4; clear h4) | (go_at_call 28; refine (commit_any txg _).mono ?_; rw [HT.out]; rintro _ w9 ⟨rfl, h4⟩; replace hst := St.call0 hst h4; clear h4) | (go_at_call 29; refine (room_any g t ao xs.length c _ xs nm hst (HOK.out.own _ _) rfl HOK.out.eq (by omega)).mono ?_; rw [HRM.out]; rintro _ w9 ⟨rfl, h4⟩; have hst2 := h4; clear h4 hst) | (refine wl_buildX (cs := cellsR ((.slice none 0 0 : Value), volR nm size txg)) [(1, .string ⟨nm.toArray⟩), (2, .int .i64 1), (3, .int .i64 size), (5, .int .i64 txg)] rfl rfl (by exact rfl) (bldV _ _ _) ?_) | (go_at_call 30; have hrd := put_ready (E := []) (g := g) (t := t) (rv := .slice ao xs.length c) (lv := .slice al t.lives.length cl) (xs := xs) (R := R) (x := ((.slice none 0 0 : Value), volR nm size txg)) (St.nilR 87 2 hst2); have hox := ready_own (x := ((.slice none 0 0 : Value), volR nm size txg)) (c := .row (.slice al t.lives.length cl) 3 1 t.lives.length (numsV t.lives)) (E := [] ++ R) HOK.out ⟨L32.nones, hl⟩; refine (putRec_any g t ao xs.length c _ xs ((.slice none 0 0 : Value), volR nm size txg) hrd hox.1 hox.2 rfl (by rw [HOK.out.eq]; exact HS.out) (by omega) hz0).mono ?_; rintro _ w9 ⟨rv9, xs9, rfl, he9, ho9, hp9, h4⟩; have HE9 := hid he9; have HO9 := hid ho9; have HP9 := hid hp9; have hst3 := h4; clear h4 hst2 he9 ho9 hp9 hrd hox))
      go_ret
      exact put_done (E := []) (g := g) (al := al) (cl := cl) (t := t) (rv := rv9) (xs := xs) (xs' := xs9) (R := R) (x := ((.slice none 0 0 : Value), volR nm size txg)) HB.out HOK.out HE9.out (fun y hy => (HO9.out y hy).2) HP9.out hst3
end Go.Proofs.Ytifajcblbedcoaa
