/- What a reader reads, as plain data. No program in sight. -/
import Derived.Test.YtalfdcfcaamnbaaFw
namespace Go.Proofs.Ytalfdcfcaamnbaa
set_option linter.unusedVariables false
set_option linter.unusedSimpArgs false
open Go.RowKit Hp
/-- Where a reader stands, and its fault. -/
structure RS where
  (pos : Nat) (e fa : Int)
/-- What reading comes to: it stops with a fault, or it tells something and stands elsewhere. -/
inductive RR (α : Type) where
  | stop (e a : Int)
  | ok (v : α) (pos : Nat)
/-- The place of the first byte that is no nought. -/
def nz : List UInt8 → Option Nat
  | [] => none
  | x :: l => if x = 0 then (nz l).map (· + 1) else some 0
def numRR (B : List UInt8) (p : Nat) (size low high : Int) : RR Int :=
  if size < 1 ∨ 7 < size then .stop 2 p
  else if (B.length : Int) - p < size then .stop 4 B.length
  else if (beN ((B.drop p).take size.toNat) : Int) < low ∨ high < (beN ((B.drop p).take size.toNat) : Int) then .stop 5 p
  else .ok (beN ((B.drop p).take size.toNat)) (p + size.toNat)
def textRR (B : List UInt8) (p : Nat) (most : Int) : RR (List UInt8) :=
  if most < 0 ∨ 255 < most then .stop 2 p
  else if (B.length : Int) - p < 1 + most then .stop 4 B.length
  else if most < (B.getD p 0).toNat then .stop 3 p
  else match nz ((B.drop (p + 1 + (B.getD p 0).toNat)).take (most.toNat - (B.getD p 0).toNat)) with
    | some i => .stop 4 (p + 1 + (B.getD p 0).toNat + i : Nat)
    | none => .ok ((B.drop (p + 1)).take (B.getD p 0).toNat) (p + 1 + most.toNat)
def rawRR (B : List UInt8) (p : Nat) (m : Int) : RR (List UInt8) :=
  if m < 0 then .stop 2 p
  else if (B.length : Int) - p < m then .stop 4 B.length
  else .ok ((B.drop p).take m.toNat) (p + m.toNat)
def restRR (B : List UInt8) (p : Nat) : RR Unit :=
  match nz (B.drop p) with
  | some i => .stop 4 (p + i : Nat)
  | none => .ok () B.length
/-- A step of a reader: behind a fault nothing is read. -/
def stepR {α : Type} (s : RS) (r : RR α) (d : α) : RS × α :=
  if s.e ≠ 0 then (s, d) else match r with
    | .stop e a => (⟨s.pos, e, a⟩, d)
    | .ok v p => (⟨p, s.e, s.fa⟩, v)
theorem nz_none {l : List UInt8} (h : nz l = none) : ∀ i, i < l.length → l.getD i 0 = 0 := by
  induction l with
  | nil => intro i hi; simp at hi
  | cons x l ih =>
    unfold nz at h
    split at h
    · rename_i hx
      intro i hi
      cases i with
      | zero => simpa using hx
      | succ i =>
        have := ih (by cases hn : nz l <;> simp_all) i (by simpa using hi)
        simpa using this
    · cases h
theorem nz_some {l : List UInt8} {k : Nat} (h : nz l = some k) : k < l.length ∧ l.getD k 0 ≠ 0 ∧ ∀ i, i < k → l.getD i 0 = 0 := by
  induction l generalizing k with
  | nil => cases h
  | cons x l ih =>
    unfold nz at h
    split at h
    · rename_i hx
      cases hn : nz l with
      | none => rw [hn] at h; cases h
      | some j =>
        rw [hn] at h
        have hk : k = j + 1 := by simpa using h.symm
        subst hk
        obtain ⟨h1, h2, h3⟩ := ih hn
        refine ⟨by simp; omega, by simpa using h2, fun i hi => ?_⟩
        cases i with
        | zero => simpa using hx
        | succ i =>
          have := h3 i (by omega)
          simpa using this
    · rename_i hx
      cases h
      exact ⟨by simp, by simpa using hx, fun i hi => by omega⟩
theorem nz_eq_some {l : List UInt8} {k : Nat} (hk : k < l.length) (hx : l.getD k 0 ≠ 0) (h0 : ∀ i, i < k → l.getD i 0 = 0) : nz l = some k := by
  cases hn : nz l with
  | none => exact absurd (nz_none hn k hk) hx
  | some j =>
    obtain ⟨h1, h2, h3⟩ := nz_some hn
    rcases Nat.lt_trichotomy j k with h | h | h
    · exact absurd (h0 j h) h2
    · rw [h]
    · exact absurd (h3 k h) hx
theorem nz_eq_none {l : List UInt8} (h0 : ∀ i, i < l.length → l.getD i 0 = 0) : nz l = none := by
  cases hn : nz l with
  | none => rfl
  | some j =>
    obtain ⟨h1, h2, _⟩ := nz_some hn
    exact absurd (h0 j h1) h2
end Go.Proofs.Ytalfdcfcaamnbaa
