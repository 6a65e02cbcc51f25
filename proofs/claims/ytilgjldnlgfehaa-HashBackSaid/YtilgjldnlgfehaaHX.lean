/- Texts of IDs, as plain data. No program in sight. -/
import Derived.Test.YtilgjldnlgfehaaSepQ
import Derived.Lib.Bytealg
namespace Go.Proofs.Ytilgjldnlgfehaa
set_option linter.unusedVariables false
set_option linter.unusedSimpArgs false
open Go.RowKit Hp
def hexD : List UInt8 := [48, 49, 50, 51, 52, 53, 54, 55, 56, 57, 97, 98, 99, 100, 101, 102]
def hexA (n : Nat) : UInt8 := hexD.getD n 0
def hex2 (c : UInt8) : List UInt8 := [hexA (c.toNat / 16), hexA (c.toNat % 16)]
/-- An ID's text. -/
def textB (l : List UInt8) : List UInt8 := l.flatMap hex2
theorem textB_succ {l : List UInt8} {k : Nat} {c : UInt8} (h : l[k]? = some c) : textB (l.take (k + 1)) = textB (l.take k) ++ hex2 c := by
  simp [textB, List.take_add_one, h]
theorem length_textB (l : List UInt8) : (textB l).length = 2 * l.length := by
  induction l with
  | nil => rfl
  | cons x l ih =>
    have : textB (x :: l) = hex2 x ++ textB l := rfl
    rw [this, List.length_append, ih, List.length_cons]
    show 2 + 2 * l.length = _
    omega
/-- The number of a letter; -1: it is none. -/
def halfI (c : UInt8) : Int := Lib.indexByte hexD c
theorem half_in (c : UInt8) : halfI c = -1 ∨ ∃ k : Nat, k < 16 ∧ halfI c = k ∧ hexD.getD k 0 = c ∧ ∀ j, j < k → hexD.getD j 0 ≠ c := by
  have key : ∀ c : UInt8, halfI c = -1 ∨ ((halfI c).toNat < 16 ∧ halfI c = (halfI c).toNat ∧ hexD.getD (halfI c).toNat 0 = c ∧ ∀ j : Fin 16, j.1 < (halfI c).toNat → hexD.getD j.1 0 ≠ c) := by
    intro c
    have h : ∀ n : Fin 256, (fun c : UInt8 => halfI c = -1 ∨ ((halfI c).toNat < 16 ∧ halfI c = (halfI c).toNat ∧ hexD.getD (halfI c).toNat 0 = c ∧ ∀ j : Fin 16, j.1 < (halfI c).toNat → hexD.getD j.1 0 ≠ c)) (UInt8.ofNat n.1) := by decide +kernel
    have := h ⟨c.toNat, c.toNat_lt⟩
    simpa using this
  rcases key c with h | ⟨h1, h2, h3, h4⟩
  · exact .inl h
  · exact .inr ⟨_, h1, h2, h3, fun j hj => h4 ⟨j, by omega⟩ hj⟩
theorem half_none {c : UInt8} (h : halfI c = -1) : ∀ j, j < 16 → hexD.getD j 0 ≠ c := by
  have key : ∀ n : Fin 256, (fun c : UInt8 => halfI c = -1 → ∀ j : Fin 16, hexD.getD j.1 0 ≠ c) (UInt8.ofNat n.1) := by decide +kernel
  have := key ⟨c.toNat, c.toNat_lt⟩
  intro j hj
  have h9 : UInt8.ofNat c.toNat = c := by simp
  simp only [h9] at this
  exact this h ⟨j, hj⟩
/-- A byte of the ID that the first i letters say. -/
def nibB (s : List UInt8) (i j : Nat) : UInt8 :=
  if 2 * j + 1 < i then UInt8.ofNat ((halfI (s.getD (2 * j) 0)).toNat * 16 + (halfI (s.getD (2 * j + 1) 0)).toNat) else if 2 * j < i then UInt8.ofNat (halfI (s.getD (2 * j) 0)).toNat else 0
def idP (s : List UInt8) (i : Nat) : List UInt8 := (List.range 32).map (nibB s i)
theorem length_idP (s : List UInt8) (i : Nat) : (idP s i).length = 32 := by simp [idP]
theorem idP_get (s : List UInt8) (i : Nat) {j : Nat} (h : j < 32) : (idP s i)[j]? = some (nibB s i j) := by simp [idP, h]
theorem idP_zero (s : List UInt8) : idP s 0 = List.replicate 32 0 := by
  unfold idP
  have : nibB s 0 = fun _ => 0 := by funext j; simp [nibB]
  rw [this]
  rfl
/-- The ID of a text: where the first letter stands that is none; the ID. -/
def badAt (s : List UInt8) : Option Nat := (List.range 64).find? fun i => decide (halfI (s.getD i 0) < 0)
/-- What parsing tells: the ID, the fault's number and its place. -/
def parseR (s : List UInt8) : List UInt8 × Int × Int :=
  if s.length ≠ 64 then (List.replicate 32 0, 4, (min s.length 64 : Nat)) else match badAt s with
    | some i => (List.replicate 32 0, 2, (i : Int))
    | none => (idP s 64, 0, 0)
/-- The letters below i are letters: the step. -/
theorem nib_step {s : List UInt8} {i k : Nat} (hk : k < 16) (hh : halfI (s.getD i 0) = k) (j : Nat) :
    nibB s (i + 1) j = if j = i / 2 then UInt8.ofNat ((nibB s i j).toNat * 16 + k) else nibB s i j := by
  unfold nibB
  rcases Nat.lt_trichotomy j (i / 2) with h | h | h
  · rw [if_pos (by omega), if_neg (by omega), if_pos (by omega)]
  · rw [if_pos h]
    rcases Nat.mod_two_eq_zero_or_one i with h2 | h2
    · rw [if_neg (by omega), if_pos (by omega), if_neg (by omega), if_neg (by omega), show 2 * j = i by omega, hh]
      simp
    · have hj : 2 * j < i := by omega
      rw [if_pos (by omega), if_neg (by omega), if_pos hj, show 2 * j + 1 = i by omega, hh]
      rcases half_in (s.getD (2 * j) 0) with h3 | ⟨m, hm, h3, _⟩
      · rw [h3]; simp
      · rw [h3]
        congr 1
        simp
        omega
  · rw [if_neg (by omega), if_neg (by omega), if_neg (by omega), if_neg (by omega), if_neg (by omega)]
theorem idP_step {s : List UInt8} {i k : Nat} (hi : i < 64) (hk : k < 16) (hh : halfI (s.getD i 0) = k) :
    idP s (i + 1) = (idP s i).set (i / 2) (UInt8.ofNat ((nibB s i (i / 2)).toNat * 16 + k)) := by
  apply List.ext_getElem?
  intro j
  by_cases hj : j < 32
  · rw [idP_get s (i + 1) hj, nib_step hk hh, List.getElem?_set, length_idP, idP_get s i hj]
    by_cases h : j = i / 2
    · rw [if_pos h, if_pos h.symm, if_pos (by omega), h]
    · rw [if_neg h, if_neg (fun e => h e.symm)]
  · rw [List.getElem?_eq_none (by rw [length_idP]; omega), List.getElem?_eq_none (by rw [List.length_set, length_idP]; omega)]
end Go.Proofs.Ytilgjldnlgfehaa
