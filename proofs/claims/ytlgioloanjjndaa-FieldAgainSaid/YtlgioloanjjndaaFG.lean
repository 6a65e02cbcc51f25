/- Acts that can be written, and what a reader reads of them, as plain data. -/
import Derived.Test.YtlgioloanjjndaaFA
import Derived.Test.YtlgioloanjjndaaFr
import Derived.Test.YtlgioloanjjndaaKP
namespace Go.Proofs.Ytlgioloanjjndaa
set_option linter.unusedVariables false
set_option linter.unusedSimpArgs false
open Go.RowKit Hp
def rsz (x : AV) : Int := 1 + pickI x.size 7
/-- An act that can be written. -/
def AV.right (x : AV) : AV :=
  if x.kind = 0 then ⟨x.kind, pickI x.n (2 ^ (8 * rsz x).toNat), rsz x, x.s, x.au, x.m, x.cu, x.B⟩
  else if x.kind = 1 then ⟨x.kind, x.n, pickI x.size 256, if pickI x.size 256 < x.s.length then x.s.take (pickI x.size 256).toNat else x.s, x.au, x.m, x.cu, x.B⟩
  else ⟨2, x.n, x.size, x.s, x.au, x.m, x.cu, x.B⟩
/-- Which bytes an act is. -/
def AV.out (x : AV) : List UInt8 :=
  if x.kind = 0 then numB x.n x.size.toNat else if x.kind = 1 then UInt8.ofNat x.s.length :: (x.s ++ List.replicate (x.size.toNat - x.s.length) 0) else x.B
/-- How many. -/
def AV.room (x : AV) : Int := if x.kind = 0 then x.size else if x.kind = 1 then 1 + x.size else x.m
/-- An act that can be written is one of these. -/
def AV.Fit (x : AV) : Prop :=
  (x.kind = 0 ∧ 1 ≤ x.size ∧ x.size ≤ 7 ∧ 0 ≤ x.n ∧ x.n < 2 ^ (8 * x.size).toNat) ∨ (x.kind = 1 ∧ 0 ≤ x.size ∧ x.size ≤ 255 ∧ (x.s.length : Int) ≤ x.size) ∨ x.kind = 2
theorem pickI_lt (x : Int) {n : Int} (h : 0 < n) : 0 ≤ pickI x n ∧ pickI x n < n := by
  unfold pickI
  rw [if_neg (by omega)]
  exact ⟨Int.emod_nonneg x (by omega), Int.emod_lt_of_pos x h⟩
theorem rsz_in (x : AV) : 1 ≤ rsz x ∧ rsz x ≤ 7 := by
  have := pickI_lt x.size (n := 7) (by decide)
  unfold rsz
  omega
theorem two_pow_pos (k : Nat) : (0 : Int) < 2 ^ k := Int.pow_pos (by decide)
theorem AV.right_fit (x : AV) : x.right.Fit := by
  unfold AV.right
  split
  · rename_i h
    obtain ⟨h1, h2⟩ := rsz_in x
    exact .inl ⟨h, h1, h2, pickI_lt _ (two_pow_pos _)⟩
  · split
    · rename_i h
      have h1 := pickI_lt x.size (n := 256) (by decide)
      refine .inr (.inl ⟨h, h1.1, by show pickI x.size 256 ≤ 255; omega, ?_⟩)
      show (((if pickI x.size 256 < x.s.length then x.s.take (pickI x.size 256).toNat else x.s).length : Nat) : Int) ≤ pickI x.size 256
      split
      · rw [List.length_take]; omega
      · omega
    · exact .inr (.inr rfl)
theorem pow56 {k : Nat} (h : k ≤ 56) : (2 : Int) ^ k ≤ 72057594037927936 := by
  have : (2 : Int) ^ k ≤ 2 ^ 56 := by exact_mod_cast Nat.pow_le_pow_right (by decide) h
  simpa using this
theorem AV.Ok.right {x : AV} {w : World} (h : x.Ok w) : x.right.Ok w := by
  unfold AV.right
  split
  · have h1 := rsz_in x
    have h2 := pickI_lt x.n (two_pow_pos (8 * rsz x).toNat)
    have h3 := pow56 (k := (8 * rsz x).toNat) (by omega)
    exact ⟨h.rd, h.len, h.m, h.s, by constructor <;> (show _ ≤ _; dsimp only; omega), by constructor <;> (show _ ≤ _; dsimp only; omega)⟩
  · split
    · have h1 := pickI_lt x.size (n := 256) (by decide)
      refine ⟨h.rd, h.len, h.m, ?_, h.n, by constructor <;> (show _ ≤ _; dsimp only; omega)⟩
      show (if pickI x.size 256 < x.s.length then x.s.take (pickI x.size 256).toNat else x.s).length ≤ 1000
      have := h.s
      split
      · rw [List.length_take]; omega
      · exact this
    · exact ⟨h.rd, h.len, h.m, h.s, h.n, h.size⟩
theorem AV.right_m (x : AV) : x.right.m = x.m ∧ x.right.au = x.au ∧ x.right.cu = x.cu ∧ x.right.B = x.B := by
  unfold AV.right
  split
  · exact ⟨rfl, rfl, rfl, rfl⟩
  · split <;> exact ⟨rfl, rfl, rfl, rfl⟩
theorem AV.Fit.room {x : AV} {w : World} (hf : x.Fit) (h : x.Ok w) : (x.out.length : Int) = x.room ∧ x.out.length ≤ 1000 := by
  unfold AV.out AV.room
  rcases hf with ⟨h0, h1, h2, _⟩ | ⟨h0, h1, h2, h3⟩ | h0
  · rw [if_pos h0, if_pos h0, length_numB]; omega
  · rw [if_neg (by omega), if_pos h0, if_neg (by omega), if_pos h0, List.length_cons, List.length_append, List.length_replicate]
    omega
  · have := h.len
    have := h.m
    rw [if_neg (by omega), if_neg (by omega), if_neg (by omega), if_neg (by omega)]
    omega
theorem AV.Fit.step {x : AV} {B : List UInt8} (hf : x.Fit) (hB : B.length + x.out.length ≤ 65536) : x.step (0, B) = (0, B ++ x.out) := by
  have key : ∀ r : WR, r = (0, x.out) → putW (0, B) r = (0, B ++ x.out) := by
    rintro _ rfl
    exact putW_ok rfl (by show ¬ 65536 < B.length + x.out.length; omega)
  unfold AV.step
  rcases hf with ⟨h0, h1, h2, h3, h4⟩ | ⟨h0, h1, h2, h3⟩ | h0
  · rw [if_pos h0]
    refine key _ ?_
    unfold numR AV.out
    rw [if_neg (by omega), if_neg (fun h => ?_), if_pos h0]
    rcases h with h | h
    · omega
    · exact h (Int.ediv_eq_zero_of_lt h3 h4)
  · rw [if_neg (by omega), if_pos h0]
    refine key _ ?_
    unfold textR AV.out
    rw [if_neg (by omega), if_neg (by omega), if_neg (by omega), if_pos h0]
  · rw [if_neg (by omega), if_neg (by omega), if_pos h0]
    refine key _ ?_
    unfold AV.out
    rw [if_neg (by omega), if_neg (by omega)]
/-- The bytes of the first k acts. -/
def outs (xs : List AV) (k : Nat) : List UInt8 := (xs.take k).flatMap fun x => x.right.out
theorem outs_zero (xs : List AV) : outs xs 0 = [] := by simp [outs]
theorem outs_succ {xs : List AV} {k : Nat} {x : AV} (h : xs[k]? = some x) : outs xs (k + 1) = outs xs k ++ x.right.out := by
  simp [outs, List.take_add_one, h]
theorem outs_len {xs : List AV} {w : World} (hx : ∀ x ∈ xs, x.Ok w) (k : Nat) (hk : k ≤ xs.length) : (outs xs k).length ≤ 1000 * k := by
  induction k with
  | zero => simp [outs_zero]
  | succ k ih =>
    have hk' : k < xs.length := by omega
    have hxk := List.getElem?_eq_getElem hk'
    rw [outs_succ hxk, List.length_append]
    have h1 := ih (by omega)
    have h2 := ((AV.right_fit xs[k]).room (hx _ (List.getElem_mem hk')).right).2
    omega
end Go.Proofs.Ytlgioloanjjndaa
