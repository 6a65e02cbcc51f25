import Derived.Test.YtmdfbdfijnmhkaaGreatSepX
namespace Go.Proofs.YtmdfbdfijnmhkaaGreat
set_option linter.unusedVariables false
set_option linter.unusedSimpArgs false
open Hp
def nones : List UInt8 := List.replicate 32 0
def ptrCells (sv : Value) (b l : Int) (S : List UInt8) : List Value := sv :: .int .i64 b :: .int .i64 l :: bytesV S
def nothingB (b l : Int) (S : List UInt8) : Bool := decide (b = 0) && (decide (l = 0) && (S == nones))
def L32 (S : List UInt8) : Prop := S.length = 32
theorem L32.out {S : List UInt8} (h : L32 S) : S.length = 32 := h
theorem L32.v {S : List UInt8} (h : L32 S) : (bytesV S).length = 32 := by simp [h.out]
theorem L32.nones : L32 nones := rfl
theorem L32.two {S R : List UInt8} (h : L32 S) (h' : L32 R) : S.length = 32 ∧ R.length = 32 := ⟨h, h'⟩
theorem ptr_sum (sv : Value) (b l : Int) (S : List UInt8) : ((ptrCells sv b l S).drop 3).take (bytesV S).length = bytesV S := by
  show (bytesV S).take (bytesV S).length = bytesV S
  exact List.take_length
theorem ptr_all (sv : Value) (b l : Int) (S : List UInt8) : ((ptrCells sv b l S).drop 0).take (ptrCells sv b l S).length = ptrCells sv b l S := by
  simp
theorem ptr_len {S : List UInt8} (h : L32 S) (sv : Value) (b l : Int) : (ptrCells sv b l S).length = 35 := by simp [ptrCells, h.out]
theorem ret_bool {a b : Bool} (h : a = b) : Ending.returned (.bool a) = .returned (.bool b) := by rw [h]
theorem ret_int {k : IntKind} {a b : Int} (h : a = b) : Ending.returned (.int k a) = .returned (.int k b) := by rw [h]
def addrsV : List (Int × Int) → List Value
  | [] => []
  | x :: l => .int .i64 x.1 :: .int .i64 x.2 :: addrsV l
theorem addrsV_get (l : List (Int × Int)) (k : Nat) (hk : k < l.length) : (addrsV l)[k * 2]? = some (.int .i64 (l.getD k (0, 0)).1) ∧ (addrsV l)[k * 2 + 1]? = some (.int .i64 (l.getD k (0, 0)).2) := by
  induction l generalizing k with
  | nil => simp at hk
  | cons x l ih =>
    cases k with
    | zero => simp [addrsV]
    | succ k =>
      have := ih k (by simpa using hk)
      simp only [addrsV, show (k + 1) * 2 = k * 2 + 1 + 1 by omega, show k * 2 + 1 + 1 + 1 = (k * 2 + 1) + 1 + 1 by omega, List.getElem?_cons_succ, List.getD_cons_succ]
      exact this
section
open Go.RowKit
variable {w : World} {b off : Nat} {l : List (Int × Int)}
theorem addr_dev (h : w.rangeAt b off (addrsV l)) {k : Nat} (hk : k < l.length) : w.cell? ⟨b, off + k * 2, none⟩ = some (.int .i64 (l.getD k (0, 0)).1) := h _ _ (addrsV_get l k hk).1
theorem addr_at (h : w.rangeAt b off (addrsV l)) {k : Nat} (hk : k < l.length) : w.cell? ⟨b, off + k * 2 + 1, none⟩ = some (.int .i64 (l.getD k (0, 0)).2) := h _ _ (addrsV_get l k hk).2
theorem addr_both (h : w.rangeAt b off (addrsV l)) {k : Nat} (hk : k < l.length) : w.rangeAt b (off + k * 2) [.int .i64 (l.getD k (0, 0)).1, .int .i64 (l.getD k (0, 0)).2] := by
  intro j v hv
  match j, hv with
  | 0, hv => simp at hv; subst hv; exact addr_dev h hk
  | 1, hv => simp at hv; subst hv; exact addr_at h hk
end
def holeB (n : Nat) (b l : Int) (S : List UInt8) : Bool := decide (n = 0) && nothingB b l S
def seenB (l : List (Int × Int)) (d : Nat) : Bool := decide ((d : Int) ∈ l.map (·.1))
def seenV (l : List (Int × Int)) : List Value := (List.range 8).map fun d => .bool (seenB l d)
def validA (a : Int × Int) : Bool := decide (0 ≤ a.1 ∧ a.1 < 8 ∧ 5 ≤ a.2 ∧ a.2 < 4096)
def okA : List (Int × Int) → Bool
  | [] => true
  | x :: l => okA l && validA x && !(l.any fun y => y.1 == x.1)
def mayB (l : List (Int × Int)) : Bool := okA l.reverse && decide (1 ≤ l.length ∧ l.length ≤ 3)
def checkB (l : List (Int × Int)) (b v : Int) (S : List UInt8) : Bool := holeB l.length b v S || (mayB l && decide (1 ≤ b ∧ b ≤ 2147483648 ∧ 0 ≤ v ∧ v ≤ 3))
def checkE (l : List (Int × Int)) (b v : Int) (S : List UInt8) : Int := if checkB l b v S then 0 else 2
def okP (l : List (Int × Int)) (k : Nat) : Bool := okA (l.take k).reverse
theorem take_rev_succ (l : List (Int × Int)) (k : Nat) (hk : k < l.length) : (l.take (k + 1)).reverse = l.getD k (0, 0) :: (l.take k).reverse := by
  rw [List.take_succ_eq_append_getElem hk, List.reverse_append]
  simp [List.getD, hk]
theorem okP_succ (l : List (Int × Int)) (k : Nat) (hk : k < l.length) : okP l (k + 1) = (okP l k && validA (l.getD k (0, 0)) && !((l.take k).any fun y => y.1 == (l.getD k (0, 0)).1)) := by
  unfold okP
  rw [take_rev_succ l k hk, okA, List.any_reverse]
theorem okA_append : ∀ (a b : List (Int × Int)), okA (a ++ b) = true → okA b = true
  | [], _, h => h
  | x :: a, b, h => okA_append a b (by simp only [List.cons_append, okA, Bool.and_eq_true] at h; exact h.1.1)
theorem okP_false (l : List (Int × Int)) (k : Nat) (h : okP l k = false) : okA l.reverse = false := by
  rw [← Bool.not_eq_true]
  intro ht
  rw [← List.take_append_drop k l, List.reverse_append] at ht
  have := okA_append _ _ ht
  unfold okP at h
  simp [h] at this
theorem okP_all (l : List (Int × Int)) (k : Nat) (hk : l.length ≤ k) : okP l k = okA l.reverse := by unfold okP; rw [List.take_of_length_le hk]
theorem okP_zero (l : List (Int × Int)) : okP l 0 = true := by simp [okP, okA]
theorem seenV_get (l : List (Int × Int)) {d : Nat} (hd : d < 8) : (seenV l)[d]? = some (.bool (seenB l d)) := by
  unfold seenV
  simp [hd]
theorem length_seenV (l : List (Int × Int)) : (seenV l).length = 8 := by simp [seenV]
theorem seenB_any (l : List (Int × Int)) (x : Int) (hx : 0 ≤ x) : seenB l x.toNat = l.any fun y => y.1 == x := by
  unfold seenB
  rw [Bool.eq_iff_iff]
  simp only [decide_eq_true_eq, List.mem_map, List.any_eq_true, beq_iff_eq]
  constructor
  · rintro ⟨a, ha, h⟩; exact ⟨a, ha, by omega⟩
  · rintro ⟨a, ha, h⟩; exact ⟨a, ha, by omega⟩
theorem seenV_put (l : List (Int × Int)) (x : Int × Int) (h0 : 0 ≤ x.1) (h8 : x.1 < 8) : putAt (seenV l) x.1.toNat [.bool true] = seenV (l ++ [x]) := by
  apply List.ext_getElem?
  intro j
  unfold putAt
  have hl := length_seenV l
  by_cases hj : j < 8
  · rw [seenV_get _ hj]
    rcases Nat.lt_trichotomy j x.1.toNat with h | h | h
    · rw [List.getElem?_append_left (by simp; omega), List.getElem?_take, if_pos h, seenV_get _ hj]
      have : seenB (l ++ [x]) j = seenB l j := by
        unfold seenB
        simp only [List.map_append, List.map_cons, List.map_nil, List.mem_append, List.mem_singleton]
        congr 1
        simp only [eq_iff_iff, or_iff_left_iff_imp]
        intro e; omega
      rw [this]
    · rw [List.getElem?_append_right (by simp; omega)]
      have h1 : j - (List.take x.1.toNat (seenV l)).length = 0 := by simp; omega
      rw [h1]
      have : seenB (l ++ [x]) j = true := by
        unfold seenB
        simp only [decide_eq_true_eq, List.map_append, List.map_cons, List.map_nil, List.mem_append, List.mem_singleton]
        right; omega
      simp [this]
    · rw [List.getElem?_append_right (by simp; omega)]
      have h1 : j - (List.take x.1.toNat (seenV l)).length = (j - x.1.toNat - 1) + 1 := by simp; omega
      rw [h1]
      simp only [List.cons_append, List.nil_append, List.getElem?_cons_succ, List.getElem?_drop, List.length_singleton]
      rw [show x.1.toNat + 1 + (j - x.1.toNat - 1) = j by omega, seenV_get _ hj]
      have : seenB (l ++ [x]) j = seenB l j := by
        unfold seenB
        simp only [List.map_append, List.map_cons, List.map_nil, List.mem_append, List.mem_singleton]
        congr 1
        simp only [eq_iff_iff, or_iff_left_iff_imp]
        intro e; omega
      rw [this]
  · rw [List.getElem?_eq_none (by simp [hl]; omega), List.getElem?_eq_none (by rw [length_seenV]; omega)]
theorem take_snoc' (l : List (Int × Int)) (k : Nat) (hk : k < l.length) : l.take k ++ [l.getD k (0, 0)] = l.take (k + 1) := by
  rw [List.take_succ_eq_append_getElem hk]
  simp [List.getD, hk]
section
variable {l : List (Int × Int)} {k : Nat} {x : Int × Int}
theorem may_stop1 (hk : k < l.length) (hx : x = l.getD k (0, 0)) (h : ¬ (0 ≤ x.1 ∧ x.1 < 8 ∧ 5 ≤ x.2 ∧ x.2 < 4096)) : mayB l = false := by
  have h1 := okP_succ l k hk
  rw [← hx] at h1
  have : validA x = false := by simpa [validA] using h
  simp only [this, Bool.and_false, Bool.false_and] at h1
  simp [mayB, okP_false l _ h1]
theorem may_stop2 (hk : k < l.length) (hx : x = l.getD k (0, 0)) (h0 : 0 ≤ x.1) (h : seenB (l.take k) x.1.toNat = true) : mayB l = false := by
  have h1 := okP_succ l k hk
  rw [← hx] at h1
  rw [seenB_any _ _ h0] at h
  simp only [h, Bool.not_true, Bool.and_false] at h1
  simp [mayB, okP_false l _ h1]
theorem may_go (hk : k < l.length) (hx : x = l.getD k (0, 0)) (hok : okP l k = true) (h0 : 0 ≤ x.1) (h8 : x.1 < 8) (h5 : 5 ≤ x.2) (h4 : x.2 < 4096) (h : seenB (l.take k) x.1.toNat = false) :
    okP l (k + 1) = true ∧ putAt (seenV (l.take k)) x.1.toNat [.bool true] = seenV (l.take (k + 1)) := by
  rw [seenB_any _ _ h0] at h
  refine ⟨?_, ?_⟩
  · rw [okP_succ l k hk, ← hx, hok, h]
    simp [validA, h0, h8, h5, h4]
  · rw [seenV_put _ _ h0 h8, hx, take_snoc' l k hk]
theorem may_end (hk : l.length ≤ k) (hok : okP l k = true) : mayB l = decide (1 ≤ l.length ∧ l.length ≤ 3) := by
  rw [okP_all l k hk] at hok
  simp [mayB, hok]
end
section
variable {l : List (Int × Int)} {k : Nat} {x : Int × Int}
end
section
open Go.RowKit
theorem byte_cell {w : World} {b off : Nat} {l : List UInt8} (h : w.rangeAt b off (bytesV l)) {k : Nat} (hk : k < l.length) : w.cell? ⟨b, off + k, none⟩ = some (.int .u8 (l.getD k 0).toNat) := by
  refine h _ _ ?_
  simp [bytesV, List.getD, hk]
end
def sameB (l r : List (Int × Int)) (b v b' v' : Int) (S S' : List UInt8) : Bool := (l == r) && (decide (b = b') && (decide (v = v') && (S == S')))
end Go.Proofs.YtmdfbdfijnmhkaaGreat
