/- What was written is read as it was; what is read is written as it was read: plain data. -/
import Derived.Test.YtlgioloanjjndaaFG
import Derived.Test.YtlgioloanjjndaaF10
namespace Go.Proofs.Ytlgioloanjjndaa
set_option linter.unusedVariables false
set_option linter.unusedSimpArgs false
open Go.RowKit Hp
theorem beN_numB_take (n : Int) (k i : Nat) (h0 : 0 ≤ n) (h : n < 2 ^ (8 * k)) (hi : i ≤ k) : (beN ((numB n k).take i) : Int) = n / 2 ^ (8 * (k - i)) := by
  induction i with
  | zero =>
    rw [List.take_zero, Nat.sub_zero, Int.ediv_eq_zero_of_lt h0 h]
    rfl
  | succ i ih =>
    rw [numB_take n k i hi, beN_snoc]
    have h1 := ih (by omega)
    rw [Int.natCast_add, Int.natCast_mul, h1, byteAt_int, show k - 1 - i = k - (i + 1) by omega, show ((256 : Nat) : Int) = 256 from rfl]
    have h2 : (2 : Int) ^ (8 * (k - i)) = 2 ^ (8 * (k - (i + 1))) * 256 := by
      rw [show 8 * (k - i) = 8 * (k - (i + 1)) + 8 by omega, Int.pow_add]
      rfl
    rw [h2, ← Int.ediv_ediv_of_nonneg (Int.le_of_lt (two_pow_pos _))]
    omega
theorem beN_numB (n : Int) (k : Nat) (h0 : 0 ≤ n) (h : n < 2 ^ (8 * k)) : (beN (numB n k) : Int) = n := by
  have := beN_numB_take n k k h0 h (Nat.le_refl _)
  rw [List.take_of_length_le (by rw [length_numB]; exact Nat.le_refl _), Nat.sub_self, Nat.mul_zero] at this
  rw [this]
  simp
theorem nz_zeros (k : Nat) : nz (List.replicate k 0) = none := nz_eq_none (fun i hi => by
  rw [List.length_replicate] at hi
  simp [List.getD, hi])
theorem nz_zeros' {l : List UInt8} (h : nz l = none) : l = List.replicate l.length 0 := by
  apply List.ext_getElem (by simp)
  intro i h1 h2
  have := nz_none h i h1
  simp [List.getD, h1] at this
  simpa using this
/-- Where an act's bytes lie, they are read as it. -/
theorem back_num {A C : List UInt8} {x : AV} (hf : x.Fit) (h0 : x.kind = 0) : numRR (A ++ (x.out ++ C)) A.length x.size x.n x.n = .ok x.n (A.length + x.size.toNat) := by
  rcases hf with ⟨_, h1, h2, h3, h4⟩ | ⟨h9, _⟩ | h9
  · have ho : x.out = numB x.n x.size.toNat := by unfold AV.out; rw [if_pos h0]
    have hl : x.out.length = x.size.toNat := by rw [ho, length_numB]
    have hd : ((A ++ (x.out ++ C)).drop A.length).take x.size.toNat = x.out := by
      rw [List.drop_left, ← hl, List.take_left]
    have hb : (beN x.out : Int) = x.n := by
      rw [ho]
      refine beN_numB _ _ h3 ?_
      rw [show 8 * x.size.toNat = (8 * x.size).toNat by omega]
      exact h4
    unfold numRR
    rw [if_neg (by omega), if_neg (by rw [List.length_append, List.length_append]; omega), hd, hb, if_neg (by omega)]
  · omega
  · omega
theorem back_text {A C : List UInt8} {x : AV} (hf : x.Fit) (h0 : x.kind = 1) : textRR (A ++ (x.out ++ C)) A.length x.size = .ok x.s (A.length + 1 + x.size.toNat) := by
  rcases hf with ⟨h9, _⟩ | ⟨_, h1, h2, h3⟩ | h9
  · omega
  · have ho : x.out = UInt8.ofNat x.s.length :: (x.s ++ List.replicate (x.size.toNat - x.s.length) 0) := by unfold AV.out; rw [if_neg (by omega), if_pos h0]
    have hl : x.out.length = 1 + x.size.toNat := by rw [ho, List.length_cons, List.length_append, List.length_replicate]; omega
    have hg : ((A ++ (x.out ++ C)).getD A.length 0).toNat = x.s.length := by
      rw [ho, List.getD_eq_getElem?_getD, List.getElem?_append_right (Nat.le_refl _), Nat.sub_self]
      simp
      omega
    have hd1 : (A ++ (x.out ++ C)).drop (A.length + 1) = x.s ++ (List.replicate (x.size.toNat - x.s.length) 0 ++ C) := by
      rw [List.drop_append, List.drop_of_length_le (by omega), List.nil_append, show A.length + 1 - A.length = 1 by omega, ho]
      simp
    have hd2 : (A ++ (x.out ++ C)).drop (A.length + 1 + x.s.length) = List.replicate (x.size.toNat - x.s.length) 0 ++ C := by
      rw [← List.drop_drop, hd1, List.drop_left]
    unfold textRR
    rw [if_neg (by omega), if_neg (by rw [List.length_append, List.length_append]; omega), if_neg (by rw [hg]; omega), hg, hd1, hd2,
      List.take_append_of_le_length (by rw [List.length_replicate]; omega), List.take_of_length_le (by rw [List.length_replicate]; omega), nz_zeros, List.take_left]
  · omega
theorem back_raw {A C : List UInt8} {x : AV} {w : World} (h : x.Ok w) (h0 : x.kind ≠ 0) (h1 : x.kind ≠ 1) : rawRR (A ++ (x.out ++ C)) A.length x.m = .ok x.B (A.length + x.m) := by
  have ho : x.out = x.B := by unfold AV.out; rw [if_neg h0, if_neg h1]
  have hl := h.len
  unfold rawRR
  rw [if_neg (by omega), if_neg (by rw [ho, List.length_append, List.length_append]; omega), List.drop_left, Int.toNat_natCast, ho, ← hl, List.take_left]
/-- Noughts are a reader's rest. -/
theorem rest_zeros {A : List UInt8} (k : Nat) : restRR (A ++ List.replicate k 0) A.length = .ok () (A ++ List.replicate k 0).length := by
  unfold restRR
  rw [List.drop_left, nz_zeros]
theorem pad_step {S : List UInt8} {j : Nat} (hS : S.length + j ≤ 65536) : putW (0, S) (padR ((S.length : Int) + j) S.length) = (0, S ++ List.replicate j 0) := by
  have : padR ((S.length : Int) + j) S.length = (0, List.replicate j 0) := by
    unfold padR
    rw [if_neg (by omega), show ((S.length : Int) + j).toNat - S.length = j by omega]
  rw [this]
  exact putW_ok rfl (by rw [List.length_replicate]; omega)
/-! ### What is read, as an act -/
theorem numB_beN (l : List UInt8) : numB (beN l) l.length = l := by
  suffices h : ∀ (k : Nat) (l : List UInt8), l.length = k → ∀ m : Nat, numB ((m * 256 ^ k + beN l : Nat) : Int) k = l by
    have := h l.length l rfl 0
    simpa using this
  intro k
  induction k with
  | zero => intro l hl m; rw [List.eq_nil_of_length_eq_zero hl]; rfl
  | succ k ih =>
    intro l hl m
    match l, hl with
    | x :: l, hl =>
      have hl' : l.length = k := by simpa using hl
      have hb : beN (x :: l) = x.toNat * 256 ^ k + beN l := by
        have : ∀ (l : List UInt8) (a : Nat), l.foldl (fun a x => a * 256 + x.toNat) a = a * 256 ^ l.length + beN l := by
          intro l
          induction l with
          | nil => intro a; simp [beN]
          | cons y l ih =>
            intro a
            unfold beN
            rw [List.foldl_cons, List.foldl_cons, ih, ih (0 * 256 + y.toNat), List.length_cons, Nat.pow_succ]
            simp only [Nat.zero_mul, Nat.zero_add, Nat.add_mul, Nat.mul_assoc, Nat.mul_comm 256]
            omega
        have h9 := this l (0 * 256 + x.toNat)
        rw [hl', Nat.zero_mul, Nat.zero_add] at h9
        unfold beN at h9 ⊢
        rw [List.foldl_cons, Nat.zero_mul, Nat.zero_add]
        exact h9
      have hlt := beN_lt l
      rw [hl'] at hlt
      have hcast : ((m * 256 ^ (k + 1) + beN (x :: l) : Nat) : Int) = (((m * 256 + x.toNat) * 256 ^ k + beN l : Nat) : Int) := by
        congr 1
        rw [hb, Nat.pow_succ, Nat.add_mul, Nat.mul_assoc, Nat.mul_comm 256]
        omega
      rw [hcast]
      show byteAt _ k :: numB _ k = x :: l
      congr 1
      · have h1 := byteAt_int (((m * 256 + x.toNat) * 256 ^ k + beN l : Nat) : Int) k
        have h2 : (2 : Int) ^ (8 * k) = ((256 ^ k : Nat) : Int) := by
          rw [Int.pow_mul, Int.natCast_pow, show (2 : Int) ^ 8 = ((256 : Nat) : Int) from rfl]
        have hdiv : ((m * 256 + x.toNat) * 256 ^ k + beN l) / 256 ^ k = m * 256 + x.toNat := by
          rw [Nat.add_comm, Nat.add_mul_div_right _ _ (Nat.pow_pos (by decide)), Nat.div_eq_of_lt hlt, Nat.zero_add]
        rw [h2, ← Int.natCast_ediv, hdiv] at h1
        have hx := x.toNat_lt
        apply UInt8.toNat_inj.1
        omega
      · exact ih l hl' (m * 256 + x.toNat)
end Go.Proofs.Ytlgioloanjjndaa
