import Derived.Lib.Bytealg
namespace Go.Proofs.YtifajcblbedcoaaGreat
set_option linter.unusedVariables false
set_option linter.unusedSimpArgs false
open Go
def okc (first : Bool) (c : UInt8) : Bool := (decide (97 ≤ c) && decide (c ≤ 122)) || (!first && ((decide (48 ≤ c) && decide (c ≤ 57)) || c == 46 || c == 45 || c == 95))
def okAt (l : List UInt8) (i : Nat) : Bool := okc (i == 0) (l.getD i 0)
def partB (l : List UInt8) : Bool := (decide (1 ≤ l.length) && decide (l.length ≤ 20)) && (List.range l.length).all (okAt l)
def cutL : List UInt8 → List UInt8 × List UInt8 × Bool
  | [] => ([], [], false)
  | x :: l => if x = 64 then ([], l, true) else (x :: (cutL l).1, (cutL l).2.1, (cutL l).2.2)
theorem cutL_true {l : List UInt8} (h : (cutL l).2.2 = true) : l = (cutL l).1 ++ 64 :: (cutL l).2.1 := by
  induction l with
  | nil => simp [cutL] at h
  | cons x l ih =>
    by_cases hx : x = 64
    · simp [cutL, hx]
    · simp only [cutL, hx, if_false] at h ⊢
      rw [List.cons_append, ← ih h]
theorem cutL_false {l : List UInt8} (h : (cutL l).2.2 = false) : (cutL l).1 = l ∧ (cutL l).2.1 = [] := by
  induction l with
  | nil => simp [cutL]
  | cons x l ih =>
    by_cases hx : x = 64
    · simp [cutL, hx] at h
    · simp only [cutL, hx, if_false] at h ⊢
      exact ⟨by rw [(ih h).1], (ih h).2⟩
theorem cutL_of {a b : List UInt8} (h : (64 : UInt8) ∉ a) : cutL (a ++ 64 :: b) = (a, b, true) := by
  induction a with
  | nil => simp [cutL]
  | cons x a ih =>
    simp only [List.mem_cons, not_or] at h
    simp only [List.cons_append, cutL]
    rw [if_neg (fun e => h.1 e.symm), ih h.2]
theorem cutL_none {a : List UInt8} (h : (64 : UInt8) ∉ a) : cutL a = (a, [], false) := by
  induction a with
  | nil => simp [cutL]
  | cons x a ih =>
    simp only [List.mem_cons, not_or] at h
    simp only [cutL]
    rw [if_neg (fun e => h.1 e.symm), ih h.2]
theorem index_cut (l : List UInt8) : Lib.indexByte l 64 = if (cutL l).2.2 then ((cutL l).1.length : Int) else -1 := by
  induction l with
  | nil => simp [cutL, Lib.indexByte]
  | cons x l ih =>
    by_cases hx : x = 64
    · subst hx; simp [cutL, Lib.indexByte]
    · simp only [Lib.indexByte, cutL, hx, if_false, beq_iff_eq, ih]
      cases (cutL l).2.2
      · simp
      · simp only [if_true]
        rw [if_neg (by simp <;> omega)]
        simp
theorem cutL_at {l : List UInt8} {k : Nat} (hk : k < l.length) (hno : ∀ j, j < k → l.getD j 0 ≠ 64) (h : l.getD k 0 = 64) : cutL l = (l.take k, l.drop (k + 1), true) := by
  have e : l = l.take k ++ 64 :: l.drop (k + 1) := by
    have h1 : l[k] = 64 := by simpa [List.getD, hk] using h
    rw [← h1, List.getElem_cons_drop, List.take_append_drop]
  conv => lhs; rw [e]
  refine cutL_of fun hm => ?_
  obtain ⟨j, hj, hj'⟩ := List.getElem_of_mem hm
  have hj2 : j < k := by simp at hj; omega
  refine hno j hj2 ?_
  rw [List.getElem_take] at hj'
  simp [List.getD, hj', show j < l.length by omega]
theorem cutL_end {l : List UInt8} (hno : ∀ j, j < l.length → l.getD j 0 ≠ 64) : cutL l = (l, [], false) := by
  refine cutL_none fun hm => ?_
  obtain ⟨j, hj, hj'⟩ := List.getElem_of_mem hm
  exact hno j hj (by simp [List.getD, hj, hj'])
def splitL (l : List UInt8) : List UInt8 × List UInt8 × Bool := if (cutL l).2.2 && (partB (cutL l).1 && partB (cutL l).2.1) then ((cutL l).1, (cutL l).2.1, true) else ([], [], false)
def joinL (a b : List UInt8) : List UInt8 × Bool := if partB a && partB b then ((a ++ [64]) ++ b, true) else ([], false)
def snapB (l : List UInt8) : Bool := (splitL l).2.2
def ordL (f : Bool) : List UInt8 := if f then [64] else []
def orI (a b : Int) : Int := if a ≠ 0 then a else b
def cmp3 (a b : List UInt8) : Int := orI (Lib.compareBytes (cutL a).1 (cutL b).1) (orI (Lib.compareBytes (ordL (cutL a).2.2) (ordL (cutL b).2.2)) (Lib.compareBytes (cutL a).2.1 (cutL b).2.1))
def lessL (a b : List UInt8) : Bool := decide (cmp3 a b < 0)
theorem okAt_no {l : List UInt8} {i : Nat} (h : okAt l i = true) : l.getD i 0 ≠ 64 := by
  intro e
  rw [okAt, e] at h
  revert h
  cases (i == 0) <;> decide
theorem part_no {l : List UInt8} (h : partB l = true) : (64 : UInt8) ∉ l := by
  simp only [partB, Bool.and_eq_true, List.all_eq_true, List.mem_range] at h
  intro hm
  obtain ⟨j, hj, hj'⟩ := List.getElem_of_mem hm
  exact okAt_no (h.2 j hj) (by simp [List.getD, hj, hj'])
theorem part_all {l : List UInt8} (h1 : 1 ≤ l.length) (h2 : l.length ≤ 20) (h : ∀ j, j < l.length → okAt l j = true) : partB l = true := by
  simp only [partB, Bool.and_eq_true, List.all_eq_true, List.mem_range, decide_eq_true_eq]
  exact ⟨⟨h1, h2⟩, h⟩
theorem part_bad {l : List UInt8} {j : Nat} (hj : j < l.length) (h : okAt l j = false) : partB l = false := by
  rw [← Bool.not_eq_true]
  intro hp
  simp only [partB, Bool.and_eq_true, List.all_eq_true, List.mem_range] at hp
  rw [hp.2 j hj] at h
  cases h
theorem part_len {l : List UInt8} (h : ¬ (1 ≤ l.length ∧ l.length ≤ 20)) : partB l = false := by
  rw [← Bool.not_eq_true]
  intro hp
  simp only [partB, Bool.and_eq_true, decide_eq_true_eq] at hp
  exact h hp.1
theorem part_end {l : List UInt8} (h : ∀ j, j < l.length → okAt l j = true) : partB l = (decide (1 ≤ l.length) && decide (l.length ≤ 20)) := by
  have : (List.range l.length).all (okAt l) = true := by simpa [List.all_eq_true] using h
  rw [partB, this, Bool.and_true]
theorem part_bd {l : List UInt8} (h : partB l = true) : 1 ≤ l.length ∧ l.length ≤ 20 := by
  simp only [partB, Bool.and_eq_true, decide_eq_true_eq] at h
  exact h.1
theorem cb_self : ∀ l, Lib.compareBytes l l = 0
  | [] => rfl
  | x :: l => by simp [Lib.compareBytes, UInt8.lt_irrefl, cb_self l]
theorem cb_anti : ∀ a b, Lib.compareBytes b a = - Lib.compareBytes a b
  | [], [] => by simp [Lib.compareBytes]
  | [], _ :: _ => by simp [Lib.compareBytes]
  | _ :: _, [] => by simp [Lib.compareBytes]
  | x :: a, y :: b => by
    simp only [Lib.compareBytes, UInt8.lt_iff_toNat_lt]
    by_cases h1 : x.toNat < y.toNat
    · rw [if_neg (by omega), if_pos h1, if_pos h1]; rfl
    · by_cases h2 : y.toNat < x.toNat
      · rw [if_pos h2, if_neg h1, if_pos h2]
      · rw [if_neg h2, if_neg h1, if_neg h1, if_neg h2]; exact cb_anti a b
theorem cb_eq : ∀ {a b : List UInt8}, Lib.compareBytes a b = 0 → a = b
  | [], [], _ => rfl
  | [], _ :: _, h => by simp [Lib.compareBytes] at h
  | _ :: _, [], h => by simp [Lib.compareBytes] at h
  | x :: a, y :: b, h => by
    simp only [Lib.compareBytes, UInt8.lt_iff_toNat_lt] at h
    by_cases h1 : x.toNat < y.toNat
    · rw [if_pos h1] at h; simp at h
    · by_cases h2 : y.toNat < x.toNat
      · rw [if_neg h1, if_pos h2] at h; simp at h
      · rw [if_neg h1, if_neg h2] at h
        rw [cb_eq h, UInt8.toNat_inj.1 (by omega : x.toNat = y.toNat)]
theorem cb_trans : ∀ {a b c : List UInt8}, Lib.compareBytes a b < 0 → Lib.compareBytes b c < 0 → Lib.compareBytes a c < 0
  | [], [], _, h, _ => by simp [Lib.compareBytes] at h
  | [], _ :: _, [], _, h => by simp [Lib.compareBytes] at h
  | [], _ :: _, _ :: _, _, _ => by simp [Lib.compareBytes]
  | _ :: _, [], _, h, _ => by simp [Lib.compareBytes] at h
  | _ :: _, _ :: _, [], _, h => by simp [Lib.compareBytes] at h
  | x :: a, y :: b, z :: c, h, h' => by
    simp only [Lib.compareBytes, UInt8.lt_iff_toNat_lt] at h h' ⊢
    by_cases h1 : x.toNat < y.toNat
    · by_cases h2 : y.toNat < z.toNat
      · rw [if_pos (by omega)]; omega
      · by_cases h3 : z.toNat < y.toNat
        · rw [if_neg h2, if_pos h3] at h'; omega
        · rw [if_pos (by omega)]; omega
    · by_cases h4 : y.toNat < x.toNat
      · rw [if_neg h1, if_pos h4] at h; omega
      · rw [if_neg h1, if_neg h4] at h
        by_cases h2 : y.toNat < z.toNat
        · rw [if_pos (by omega)]; omega
        · by_cases h3 : z.toNat < y.toNat
          · rw [if_neg h2, if_pos h3] at h'; omega
          · rw [if_neg h2, if_neg h3] at h'
            rw [if_neg (by omega), if_neg (by omega)]
            exact cb_trans h h'
theorem cb_lt : ∀ a b : List UInt8, Lib.compareBytes a b < 0 ↔ a < b
  | [], [] => by simp [Lib.compareBytes]
  | [], _ :: _ => by simp [Lib.compareBytes]
  | _ :: _, [] => by simp [Lib.compareBytes]
  | x :: a, y :: b => by
    have ih := cb_lt a b
    rw [List.cons_lt_cons_iff, ← ih]
    simp only [Lib.compareBytes, UInt8.lt_iff_toNat_lt, ← UInt8.toNat_inj]
    by_cases h1 : x.toNat < y.toNat
    · simp [h1]
    · by_cases h2 : y.toNat < x.toNat
      · rw [if_neg h1, if_pos h2]; constructor
        · intro h; omega
        · rintro (h | h) <;> omega
      · rw [if_neg h1, if_neg h2]; constructor
        · intro h; exact .inr ⟨by omega, h⟩
        · rintro (h | h)
          · omega
          · exact h.2
end Go.Proofs.YtifajcblbedcoaaGreat
