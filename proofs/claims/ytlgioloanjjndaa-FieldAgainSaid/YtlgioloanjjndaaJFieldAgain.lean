/- PROVED: the law FieldAgain returns true at any input, and nothing that was there has turned. No condition. -/
import Derived.Test.YtlgioloanjjndaaFG
import Derived.Test.YtlgioloanjjndaaF10
import Derived.Test.YtlgioloanjjndaaF29
import Derived.Test.YtlgioloanjjndaaF22
import Derived.Deep.CutBlock
import Derived.Test.YtlgioloanjjndaaOpenB
import Derived.Deep.Slices
import Derived.Test.YtlgioloanjjndaaPost
namespace Go.Proofs.Ytlgioloanjjndaa
set_option linter.unusedVariables false
set_option linter.unusedSimpArgs false
open Go.RowKit Hp
theorem beN_numB_take (n : Int) (k i : Nat) (h0 : 0 ≤ n) (h : n < 2 ^ (8 * k)) (hi : i ≤ k) : (beN ((numB n k).take i) : Int) = n / 2 ^ (8 * (k - i)) := by
  induction i with
  | zero =>
    rw [List.take_zero, Nat.sub_zero, Int.ediv_eq_zero_of_lt h0 h]
    rfl
  | succ i ih =>
    rw [numB_take n k i hi, beN_snoc]
    have h1 := ih (by omega)
    rw [Int.natCast_add, Int.natCast_mul, h1, byteAt_int, show k - 1 - i = k - (i + 1) by omega, show ((256 : Nat) : Int) = 256 from rfl]
    have h2 : (2 : Int) ^ (8 * (k - i)) = 2 ^ (8 * (k - (i + 1))) * 256 := by
      rw [show 8 * (k - i) = 8 * (k - (i + 1)) + 8 by omega, Int.pow_add]
      rfl
    rw [h2, ← Int.ediv_ediv_of_nonneg (Int.le_of_lt (two_pow_pos _))]
    omega
theorem beN_numB (n : Int) (k : Nat) (h0 : 0 ≤ n) (h : n < 2 ^ (8 * k)) : (beN (numB n k) : Int) = n := by
  have := beN_numB_take n k k h0 h (Nat.le_refl _)
  rw [List.take_of_length_le (by rw [length_numB]; exact Nat.le_refl _), Nat.sub_self, Nat.mul_zero] at this
  rw [this]
  simp
theorem nz_zeros (k : Nat) : nz (List.replicate k 0) = none := nz_eq_none (fun i hi => by
  rw [List.length_replicate] at hi
  simp [List.getD, hi])
theorem nz_zeros' {l : List UInt8} (h : nz l = none) : l = List.replicate l.length 0 := by
  apply List.ext_getElem (by simp)
  intro i h1 h2
  have := nz_none h i h1
  simp [List.getD, h1] at this
  simpa using this
/-- Where an act's bytes lie, they are read as it. -/
theorem back_num {A C : List UInt8} {x : AV} (hf : x.Fit) (h0 : x.kind = 0) : numRR (A ++ (x.out ++ C)) A.length x.size x.n x.n = .ok x.n (A.length + x.size.toNat) := by
  rcases hf with ⟨_, h1, h2, h3, h4⟩ | ⟨h9, _⟩ | h9
  · have ho : x.out = numB x.n x.size.toNat := by unfold AV.out; rw [if_pos h0]
    have hl : x.out.length = x.size.toNat := by rw [ho, length_numB]
    have hd : ((A ++ (x.out ++ C)).drop A.length).take x.size.toNat = x.out := by
      rw [List.drop_left, ← hl, List.take_left]
    have hb : (beN x.out : Int) = x.n := by
      rw [ho]
      refine beN_numB _ _ h3 ?_
      rw [show 8 * x.size.toNat = (8 * x.size).toNat by omega]
      exact h4
    unfold numRR
    rw [if_neg (by omega), if_neg (by rw [List.length_append, List.length_append]; omega), hd, hb, if_neg (by omega)]
  · omega
  · omega
theorem back_text {A C : List UInt8} {x : AV} (hf : x.Fit) (h0 : x.kind = 1) : textRR (A ++ (x.out ++ C)) A.length x.size = .ok x.s (A.length + 1 + x.size.toNat) := by
  rcases hf with ⟨h9, _⟩ | ⟨_, h1, h2, h3⟩ | h9
  · omega
  · have ho : x.out = UInt8.ofNat x.s.length :: (x.s ++ List.replicate (x.size.toNat - x.s.length) 0) := by unfold AV.out; rw [if_neg (by omega), if_pos h0]
    have hl : x.out.length = 1 + x.size.toNat := by rw [ho, List.length_cons, List.length_append, List.length_replicate]; omega
    have hg : ((A ++ (x.out ++ C)).getD A.length 0).toNat = x.s.length := by
      rw [ho, List.getD_eq_getElem?_getD, List.getElem?_append_right (Nat.le_refl _), Nat.sub_self]
      simp
      omega
    have hd1 : (A ++ (x.out ++ C)).drop (A.length + 1) = x.s ++ (List.replicate (x.size.toNat - x.s.length) 0 ++ C) := by
      rw [List.drop_append, List.drop_of_length_le (by omega), List.nil_append, show A.length + 1 - A.length = 1 by omega, ho]
      simp
    have hd2 : (A ++ (x.out ++ C)).drop (A.length + 1 + x.s.length) = List.replicate (x.size.toNat - x.s.length) 0 ++ C := by
      rw [← List.drop_drop, hd1, List.drop_left]
    unfold textRR
    rw [if_neg (by omega), if_neg (by rw [List.length_append, List.length_append]; omega), if_neg (by rw [hg]; omega), hg, hd1, hd2,
      List.take_append_of_le_length (by rw [List.length_replicate]; omega), List.take_of_length_le (by rw [List.length_replicate]; omega), nz_zeros, List.take_left]
  · omega
theorem back_raw {A C : List UInt8} {x : AV} {w : World} (h : x.Ok w) (h0 : x.kind ≠ 0) (h1 : x.kind ≠ 1) : rawRR (A ++ (x.out ++ C)) A.length x.m = .ok x.B (A.length + x.m) := by
  have ho : x.out = x.B := by unfold AV.out; rw [if_neg h0, if_neg h1]
  have hl := h.len
  unfold rawRR
  rw [if_neg (by omega), if_neg (by rw [ho, List.length_append, List.length_append]; omega), List.drop_left, Int.toNat_natCast, ho, ← hl, List.take_left]
/-- Noughts are a reader's rest. -/
theorem rest_zeros {A : List UInt8} (k : Nat) : restRR (A ++ List.replicate k 0) A.length = .ok () (A ++ List.replicate k 0).length := by
  unfold restRR
  rw [List.drop_left, nz_zeros]
theorem pad_step {S : List UInt8} {j : Nat} (hS : S.length + j ≤ 65536) : putW (0, S) (padR ((S.length : Int) + j) S.length) = (0, S ++ List.replicate j 0) := by
  have : padR ((S.length : Int) + j) S.length = (0, List.replicate j 0) := by
    unfold padR
    rw [if_neg (by omega), show ((S.length : Int) + j).toNat - S.length = j by omega]
  rw [this]
  exact putW_ok rfl (by rw [List.length_replicate]; omega)
/-! ### What is read, as an act -/
theorem numB_beN (l : List UInt8) : numB (beN l) l.length = l := by
  suffices h : ∀ (k : Nat) (l : List UInt8), l.length = k → ∀ m : Nat, numB ((m * 256 ^ k + beN l : Nat) : Int) k = l by
    have := h l.length l rfl 0
    simpa using this
  intro k
  induction k with
  | zero => intro l hl m; rw [List.eq_nil_of_length_eq_zero hl]; rfl
  | succ k ih =>
    intro l hl m
    match l, hl with
    | x :: l, hl =>
      have hl' : l.length = k := by simpa using hl
      have hb : beN (x :: l) = x.toNat * 256 ^ k + beN l := by
        have : ∀ (l : List UInt8) (a : Nat), l.foldl (fun a x => a * 256 + x.toNat) a = a * 256 ^ l.length + beN l := by
          intro l
          induction l with
          | nil => intro a; simp [beN]
          | cons y l ih =>
            intro a
            unfold beN
            rw [List.foldl_cons, List.foldl_cons, ih, ih (0 * 256 + y.toNat), List.length_cons, Nat.pow_succ]
            simp only [Nat.zero_mul, Nat.zero_add, Nat.add_mul, Nat.mul_assoc, Nat.mul_comm 256]
            omega
        have h9 := this l (0 * 256 + x.toNat)
        rw [hl', Nat.zero_mul, Nat.zero_add] at h9
        unfold beN at h9 ⊢
        rw [List.foldl_cons, Nat.zero_mul, Nat.zero_add]
        exact h9
      have hlt := beN_lt l
      rw [hl'] at hlt
      have hcast : ((m * 256 ^ (k + 1) + beN (x :: l) : Nat) : Int) = (((m * 256 + x.toNat) * 256 ^ k + beN l : Nat) : Int) := by
        congr 1
        rw [hb, Nat.pow_succ, Nat.add_mul, Nat.mul_assoc, Nat.mul_comm 256]
        omega
      rw [hcast]
      show byteAt _ k :: numB _ k = x :: l
      congr 1
      · have h1 := byteAt_int (((m * 256 + x.toNat) * 256 ^ k + beN l : Nat) : Int) k
        have h2 : (2 : Int) ^ (8 * k) = ((256 ^ k : Nat) : Int) := by
          rw [Int.pow_mul, Int.natCast_pow, show (2 : Int) ^ 8 = ((256 : Nat) : Int) from rfl]
        have hdiv : ((m * 256 + x.toNat) * 256 ^ k + beN l) / 256 ^ k = m * 256 + x.toNat := by
          rw [Nat.add_comm, Nat.add_mul_div_right _ _ (Nat.pow_pos (by decide)), Nat.div_eq_of_lt hlt, Nat.zero_add]
        rw [h2, ← Int.natCast_ediv, hdiv] at h1
        have hx := x.toNat_lt
        apply UInt8.toNat_inj.1
        omega
      · exact ih l hl' (m * 256 + x.toNat)
end Go.Proofs.Ytlgioloanjjndaa
namespace Go.Proofs.Ytlgioloanjjndaa
set_option linter.unusedVariables false
set_option linter.unusedSimpArgs false
open Go.RowKit Hp
attribute [local irreducible] Go.Calls
set_option maxRecDepth 100000
set_option maxHeartbeats 4000000
theorem stepR_pos {α : Type} {B : List UInt8} {s : RS} {r : RR α} {d : α} (hp : s.pos ≤ B.length) (hr : ∀ v p, r = .ok v p → p ≤ B.length) : (stepR s r d).1.pos ≤ B.length := by
  unfold stepR
  split
  · exact hp
  · cases r with
    | stop e a => exact hp
    | ok v p => exact hr v p rfl
theorem numRR_pos {B : List UInt8} {p : Nat} {size low high : Int} (v : Int) (p' : Nat) (h : numRR B p size low high = .ok v p') : p' ≤ B.length := by
  unfold numRR at h
  split at h
  · cases h
  · split at h
    · cases h
    · split at h
      · cases h
      · simp only [RR.ok.injEq] at h
        omega
theorem textRR_pos {B : List UInt8} {p : Nat} {most : Int} (v : List UInt8) (p' : Nat) (h : textRR B p most = .ok v p') : p' ≤ B.length := by
  unfold textRR at h
  split at h
  · cases h
  · split at h
    · cases h
    · split at h
      · cases h
      · split at h
        · cases h
        · simp only [RR.ok.injEq] at h
          omega
theorem rawRR_pos {B : List UInt8} {p : Nat} {m : Int} (v : List UInt8) (p' : Nat) (h : rawRR B p m = .ok v p') : p' ≤ B.length := by
  unfold rawRR at h
  split at h
  · cases h
  · split at h
    · cases h
    · simp only [RR.ok.injEq] at h
      omega
theorem restRR_pos {B : List UInt8} {p : Nat} (v : Unit) (p' : Nat) (h : restRR B p = .ok v p') : p' ≤ B.length := by
  unfold restRR at h
  split at h
  · cases h
  · simp only [RR.ok.injEq] at h
    omega
theorem KV.step_pos {B : List UInt8} {x : KV} {s : RS} (hp : s.pos ≤ B.length) : (x.step B s).pos ≤ B.length := by
  unfold KV.step
  split
  · exact stepR_pos hp numRR_pos
  · split
    · exact stepR_pos hp textRR_pos
    · split
      · exact stepR_pos hp rawRR_pos
      · split
        · exact stepR_pos hp restRR_pos
        · exact hp
/-- A reader behind the first k questions. -/
def foldK (B : List UInt8) (ks : List KV) (k : Nat) : RS := (ks.take k).foldl (fun s x => x.step B s) ⟨0, 0, 0⟩
theorem foldK_zero (B : List UInt8) (ks : List KV) : foldK B ks 0 = ⟨0, 0, 0⟩ := by simp [foldK]
theorem foldK_succ {B : List UInt8} {ks : List KV} {k : Nat} {x : KV} (h : ks[k]? = some x) : foldK B ks (k + 1) = x.step B (foldK B ks k) := by
  simp [foldK, List.take_add_one, h]
theorem foldK_pos (B : List UInt8) (ks : List KV) (k : Nat) : (foldK B ks k).pos ≤ B.length := by
  unfold foldK
  generalize ks.take k = l
  have : ∀ (s : RS), s.pos ≤ B.length → (l.foldl (fun s x => x.step B s) s).pos ≤ B.length := by
    induction l with
    | nil => exact fun s h => h
    | cons x l ih => exact fun s h => ih _ (KV.step_pos h)
  exact this _ (Nat.zero_le _)
theorem asksV_at : ∀ {ks : List KV} {k : Nat} {x : KV}, ks[k]? = some x → ∀ j v, x.cells[j]? = some v → (ks.flatMap KV.cells)[k * 4 + j]? = some v
  | y :: ks, 0, x, h, j, v, hj => by
    cases h
    rw [List.flatMap_cons, Nat.zero_mul, Nat.zero_add, List.getElem?_append_left (List.getElem?_eq_some_iff.1 hj).1]
    exact hj
  | y :: ks, k + 1, x, h, j, v, hj => by
    have hl : y.cells.length = 4 := rfl
    rw [List.flatMap_cons, List.getElem?_append_right (by rw [hl]; omega), hl, show (k + 1) * 4 + j - 4 = k * 4 + j by omega]
    exact asksV_at (by simpa using h) j v hj
  | [], _, _, h, _, _, _ => by cases h
theorem asks_range {w : World} {b off n c k : Nat} {ks : List KV} {x : KV} (h : Rd w (.slice (some ⟨b, off, none⟩) n c) 4 n (ks.flatMap KV.cells)) (hk : ks[k]? = some x) : w.rangeAt b (off + k * 4) x.cells := by
  have hr := h.range
  intro j v hj
  have := hr (k * 4 + j) v (asksV_at hk j v hj)
  rwa [← Nat.add_assoc] at this
end Go.Proofs.Ytlgioloanjjndaa
namespace Go.Proofs.Ytlgioloanjjndaa
set_option linter.unusedVariables false
set_option linter.unusedSimpArgs false
open Go.RowKit Hp
theorem take_win (B : List UInt8) (p k : Nat) : B.take (p + k) = B.take p ++ (B.drop p).take k := List.take_add
theorem put_win {B : List UInt8} {p k : Nat} {r : WR} (hB : B.length ≤ 1000) (hr : r = (0, (B.drop p).take k)) : putW (0, B.take p) r = (0, B.take (p + k)) := by
  subst hr
  rw [putW_ok rfl (by rw [List.length_take, List.length_take, List.length_drop]; omega), take_win]
theorem again_num {B : List UInt8} {p p' : Nat} {size low high v : Int} (hB : B.length ≤ 1000) (h : numRR B p size low high = .ok v p') :
    putW (0, B.take p) (numR v size) = (0, B.take p') ∧ 0 ≤ v ∧ v < 72057594037927936 := by
  unfold numRR at h
  split at h
  · cases h
  · rename_i h1
    split at h
    · cases h
    · rename_i h2
      split at h
      · cases h
      · simp only [RR.ok.injEq] at h
        obtain ⟨rfl, rfl⟩ := h
        obtain ⟨L, hL⟩ : ∃ L, L = (B.drop p).take size.toNat := ⟨_, rfl⟩
        have hl : L.length = size.toNat := by rw [hL, List.length_take, List.length_drop]; omega
        have hlt := beN_lt L
        have h256 : (256 : Nat) ^ L.length = 2 ^ (8 * L.length) := by rw [Nat.pow_mul]
        rw [← hL]
        have hv : (beN L : Int) < 2 ^ (8 * size).toNat := by
          rw [show (8 * size).toNat = 8 * L.length by omega]
          have : beN L < 2 ^ (8 * L.length) := by rw [← h256]; exact hlt
          exact_mod_cast this
        have h56 := pow56 (k := (8 * size).toNat) (by omega)
        refine ⟨put_win hB ?_, by omega, by omega⟩
        unfold numR
        rw [if_neg h1, if_neg (fun h9 => ?_), ← hL, ← hl, numB_beN]
        rcases h9 with h9 | h9
        · omega
        · exact h9 (Int.ediv_eq_zero_of_lt (by omega) hv)
theorem again_text {B t : List UInt8} {p p' : Nat} {most : Int} (hB : B.length ≤ 1000) (h : textRR B p most = .ok t p') :
    putW (0, B.take p) (textR t most) = (0, B.take p') ∧ t.length ≤ 255 := by
  unfold textRR at h
  split at h
  · cases h
  · rename_i h1
    split at h
    · cases h
    · rename_i h2
      split at h
      · cases h
      · rename_i h3
        split at h
        · cases h
        · rename_i h4
          simp only [RR.ok.injEq] at h
          obtain ⟨rfl, rfl⟩ := h
          obtain ⟨n, hn⟩ : ∃ n, n = (B.getD p 0).toNat := ⟨_, rfl⟩
          rw [← hn] at h3 h4 ⊢
          have hpl : p < B.length := by omega
          have hl : ((B.drop (p + 1)).take n).length = n := by rw [List.length_take, List.length_drop]; omega
          refine ⟨?_, by rw [hl]; omega⟩
          rw [show p + 1 + most.toNat = p + (1 + most.toNat) by omega]
          refine put_win hB ?_
          unfold textR
          rw [if_neg h1, if_neg (by rw [hl]; omega), hl]
          congr 1
          have hz := nz_zeros' h4
          rw [List.length_take, List.length_drop, show min (most.toNat - n) (B.length - (p + 1 + n)) = most.toNat - n by omega] at hz
          have hd : B.drop p = B[p] :: B.drop (p + 1) := List.drop_eq_getElem_cons hpl
          have hdd : B.drop (p + 1 + n) = (B.drop (p + 1)).drop n := by rw [List.drop_drop]
          rw [hd, Nat.add_comm 1, List.take_succ_cons, ← hz, hdd]
          congr 1
          · rw [hn]
            simp [List.getD, hpl]
          · have : most.toNat = n + (most.toNat - n) := by omega
            conv => rhs; rw [this]
            rw [List.take_add]
theorem again_raw {B t : List UInt8} {p p' : Nat} {m : Int} (hB : B.length ≤ 1000) (h : rawRR B p m = .ok t p') :
    putW (0, B.take p) (0, t) = (0, B.take p') ∧ t.length ≤ 1000 := by
  unfold rawRR at h
  split at h
  · cases h
  · split at h
    · cases h
    · simp only [RR.ok.injEq] at h
      obtain ⟨rfl, rfl⟩ := h
      exact ⟨put_win hB rfl, by rw [List.length_take, List.length_drop]; omega⟩
theorem again_rest {B : List UInt8} {p p' : Nat} {u : Unit} (hB : B.length ≤ 1000) (hp : p ≤ B.length) (h : restRR B p = .ok u p') :
    putW (0, B.take p) (padR (p' : Int) (B.take p).length) = (0, B.take p') ∧ p' = B.length := by
  unfold restRR at h
  split at h
  · cases h
  · rename_i h1
    simp only [RR.ok.injEq] at h
    obtain ⟨_, rfl⟩ := h
    refine ⟨?_, rfl⟩
    have hz := nz_zeros' h1
    rw [List.length_drop] at hz
    have h2 : B.take B.length = B.take (p + (B.length - p)) := by congr 1; omega
    rw [h2]
    refine put_win hB ?_
    unfold padR
    rw [List.length_take, Nat.min_eq_left hp, if_neg (by omega), List.take_of_length_le (by rw [List.length_drop]; exact Nat.le_refl _)]
    rw [show (B.length : Int).toNat - p = B.length - p by omega, ← hz]
/-! ### A step of a reader -/
theorem stepR_bad {α : Type} {s : RS} {r : RR α} {d : α} (h : s.e ≠ 0) : stepR s r d = (s, d) := by unfold stepR; rw [if_pos h]
theorem stepR_good {α : Type} {s : RS} {r : RR α} {d : α} (h : (stepR s r d).1.e = 0) (hn : ∀ f a, r = .stop f a → f ≠ 0) : s.e = 0 ∧ ∃ v p, r = .ok v p ∧ stepR s r d = (⟨p, s.e, s.fa⟩, v) := by
  unfold stepR at h ⊢
  split at h
  · rename_i h0
    exact absurd h h0
  · rename_i h0
    rw [if_neg h0]
    refine ⟨by simpa using h0, ?_⟩
    cases r with
    | stop f a => exact absurd h (hn f a rfl)
    | ok v p => exact ⟨v, p, rfl, rfl⟩
theorem stepR_fault {α : Type} {s : RS} {r : RR α} {d : α} (h : (stepR s r d).1.e ≠ 0) (hs : s.e = 0) : (stepR s r d).2 = d ∧ (stepR s r d).1.pos = s.pos := by
  unfold stepR at h ⊢
  rw [if_neg (by simpa using hs)] at h ⊢
  cases r with
  | stop f a => exact ⟨rfl, rfl⟩
  | ok v p => exact absurd hs h
theorem num_stop {B : List UInt8} {p : Nat} {size low high : Int} (f a : Int) (h : numRR B p size low high = .stop f a) : f ≠ 0 := by
  unfold numRR at h
  (repeat' split at h) <;> simp_all <;> omega
theorem text_stop {B : List UInt8} {p : Nat} {most : Int} (f a : Int) (h : textRR B p most = .stop f a) : f ≠ 0 := by
  unfold textRR at h
  (repeat' split at h) <;> simp_all <;> omega
theorem raw_stop {B : List UInt8} {p : Nat} {m : Int} (f a : Int) (h : rawRR B p m = .stop f a) : f ≠ 0 := by
  unfold rawRR at h
  (repeat' split at h) <;> simp_all <;> omega
theorem rest_stop {B : List UInt8} {p : Nat} (f a : Int) (h : restRR B p = .stop f a) : f ≠ 0 := by
  unfold restRR at h
  (repeat' split at h) <;> simp_all <;> omega
theorem stepR_mono {α : Type} {s : RS} {r : RR α} {d : α} (hr : ∀ v p, r = .ok v p → s.pos ≤ p) : s.pos ≤ (stepR s r d).1.pos := by
  unfold stepR
  split
  · exact Nat.le_refl _
  · cases r with
    | stop e a => exact Nat.le_refl _
    | ok v p => exact hr v p rfl
theorem num_mono {B : List UInt8} {p : Nat} {size low high : Int} (v : Int) (p' : Nat) (h : numRR B p size low high = .ok v p') : p ≤ p' := by
  unfold numRR at h
  (repeat' split at h) <;> simp_all <;> omega
theorem text_mono {B : List UInt8} {p : Nat} {most : Int} (v : List UInt8) (p' : Nat) (h : textRR B p most = .ok v p') : p ≤ p' := by
  unfold textRR at h
  (repeat' split at h) <;> simp_all <;> omega
theorem raw_mono {B : List UInt8} {p : Nat} {m : Int} (v : List UInt8) (p' : Nat) (h : rawRR B p m = .ok v p') : p ≤ p' := by
  unfold rawRR at h
  (repeat' split at h) <;> simp_all <;> omega
theorem rest_mono {B : List UInt8} {p : Nat} (hp : p ≤ B.length) (v : Unit) (p' : Nat) (h : restRR B p = .ok v p') : p ≤ p' := by
  unfold restRR at h
  (repeat' split at h) <;> simp_all <;> omega
/-! ### A question's step, and the act that is written for it -/
theorem again_pos {B : List UInt8} {x : KV} {S : RS} (hp : S.pos ≤ B.length) : S.pos ≤ (x.step B S).pos := by
  unfold KV.step
  split
  · exact stepR_mono num_mono
  · split
    · exact stepR_mono text_mono
    · split
      · exact stepR_mono raw_mono
      · split
        · exact stepR_mono (rest_mono hp)
        · exact Nat.le_refl _
theorem again_old {B : List UInt8} {x : KV} {S : RS} (h : S.e ≠ 0) : x.step B S = S := by
  unfold KV.step
  (repeat' split) <;> first | rfl | rw [stepR_bad h]
theorem again_bad {B : List UInt8} {x : KV} {S : RS} (h : (x.step B S).e ≠ 0) : (x.step B S).pos = S.pos := by
  by_cases hs : S.e = 0
  · unfold KV.step at h ⊢
    split at h
    · rename_i h0; rw [if_pos h0]; exact (stepR_fault h hs).2
    · rename_i h0
      rw [if_neg h0]
      split at h
      · rename_i h1; rw [if_pos h1]; exact (stepR_fault h hs).2
      · rename_i h1
        rw [if_neg h1]
        split at h
        · rename_i h2; rw [if_pos h2]; exact (stepR_fault h hs).2
        · rename_i h2
          rw [if_neg h2]
          split at h
          · rename_i h3; rw [if_pos h3]; exact (stepR_fault h hs).2
          · exact absurd hs h
  · rw [again_old hs]
theorem endR_bad {B : List UInt8} {T : RS} (h : T.e ≠ 0) : endR B T = (T.e, T.fa) := by
  unfold endR
  rw [if_neg (fun h9 => h h9.1)]
theorem again0 {B : List UInt8} {x : KV} {S : RS} (hk : x.kind = 0) (hB : B.length ≤ 1000) : ∃ V, stepR S (numRR B S.pos x.size x.low x.high) 0 = (x.step B S, V) ∧ (0 ≤ V ∧ V < 72057594037927936) ∧
    ((x.step B S).e = 0 → (⟨x.kind, V, x.size, [], none, 0, 0, []⟩ : AV).step (0, B.take S.pos) = (0, B.take (x.step B S).pos)) ∧ ((x.step B S).e ≠ 0 → V = 0) := by
  have hs : x.step B S = (stepR S (numRR B S.pos x.size x.low x.high) 0).1 := by unfold KV.step; rw [if_pos hk]
  refine ⟨(stepR S (numRR B S.pos x.size x.low x.high) 0).2, by rw [hs], ?_, fun h => ?_, fun h => ?_⟩
  · unfold stepR
    split
    · show (0 : Int) ≤ 0 ∧ (0 : Int) < 72057594037927936
      decide
    · split
      · show (0 : Int) ≤ 0 ∧ (0 : Int) < 72057594037927936
        decide
      · rename_i v p hr
        exact (again_num hB hr).2
  · rw [hs] at h ⊢
    obtain ⟨_, v, p, hr, he⟩ := stepR_good h num_stop
    rw [he]
    unfold AV.step
    rw [if_pos hk]
    exact (again_num hB hr).1
  · by_cases h0 : S.e = 0
    · exact (stepR_fault (by rw [← hs]; exact h) h0).1
    · rw [stepR_bad h0]
theorem again1 {B : List UInt8} {x : KV} {S : RS} (hk : x.kind = 1) (hB : B.length ≤ 1000) : ∃ V, stepR S (textRR B S.pos x.size) [] = (x.step B S, V) ∧ V.length ≤ 255 ∧
    ((x.step B S).e = 0 → (⟨x.kind, 0, x.size, V, none, 0, 0, []⟩ : AV).step (0, B.take S.pos) = (0, B.take (x.step B S).pos)) ∧ ((x.step B S).e ≠ 0 → V = []) := by
  have hs : x.step B S = (stepR S (textRR B S.pos x.size) []).1 := by unfold KV.step; rw [if_neg (by omega), if_pos hk]
  refine ⟨(stepR S (textRR B S.pos x.size) []).2, by rw [hs], ?_, fun h => ?_, fun h => ?_⟩
  · unfold stepR
    split
    · exact Nat.zero_le _
    · split
      · exact Nat.zero_le _
      · rename_i v p hr
        exact (again_text hB hr).2
  · rw [hs] at h ⊢
    obtain ⟨_, v, p, hr, he⟩ := stepR_good h text_stop
    rw [he]
    unfold AV.step
    rw [if_neg (by show ¬ x.kind = 0; omega), if_pos hk]
    exact (again_text hB hr).1
  · by_cases h0 : S.e = 0
    · exact (stepR_fault (by rw [← hs]; exact h) h0).1
    · rw [stepR_bad h0]
theorem again2 {B : List UInt8} {x : KV} {S : RS} (hk : x.kind = 2) (hB : B.length ≤ 1000) : ∃ V, stepR S (rawRR B S.pos x.size) [] = (x.step B S, V) ∧ V.length ≤ 1000 ∧
    ((x.step B S).e = 0 → ∀ au m cu, (⟨x.kind, 0, x.size, [], au, m, cu, V⟩ : AV).step (0, B.take S.pos) = (0, B.take (x.step B S).pos)) ∧ ((x.step B S).e ≠ 0 → V = []) := by
  have hs : x.step B S = (stepR S (rawRR B S.pos x.size) []).1 := by unfold KV.step; rw [if_neg (by omega), if_neg (by omega), if_pos hk]
  refine ⟨(stepR S (rawRR B S.pos x.size) []).2, by rw [hs], ?_, fun h au m cu => ?_, fun h => ?_⟩
  · unfold stepR
    split
    · exact Nat.zero_le _
    · split
      · exact Nat.zero_le _
      · rename_i v p hr
        exact (again_raw hB hr).2
  · rw [hs] at h ⊢
    obtain ⟨_, v, p, hr, he⟩ := stepR_good h raw_stop
    rw [he]
    unfold AV.step
    rw [if_neg (by show ¬ x.kind = 0; omega), if_neg (by show ¬ x.kind = 1; omega), if_pos hk]
    exact (again_raw hB hr).1
  · by_cases h0 : S.e = 0
    · exact (stepR_fault (by rw [← hs]; exact h) h0).1
    · rw [stepR_bad h0]
theorem again3 {B : List UInt8} {x : KV} {S : RS} (hk : x.kind = 3) (hB : B.length ≤ 1000) (hp : S.pos ≤ B.length) : (stepR S (restRR B S.pos) ()).1 = x.step B S ∧
    ((x.step B S).e = 0 → (⟨x.kind, 0, ((x.step B S).pos : Int), [], none, 0, 0, []⟩ : AV).step (0, B.take S.pos) = (0, B.take (x.step B S).pos)) := by
  have hs : x.step B S = (stepR S (restRR B S.pos) ()).1 := by unfold KV.step; rw [if_neg (by omega), if_neg (by omega), if_neg (by omega), if_pos hk]
  refine ⟨hs.symm, fun h => ?_⟩
  rw [hs] at h ⊢
  obtain ⟨_, v, p, hr, he⟩ := stepR_good h rest_stop
  rw [he]
  unfold AV.step
  rw [if_neg (by show ¬ x.kind = 0; omega), if_neg (by show ¬ x.kind = 1; omega), if_neg (by show ¬ x.kind = 2; omega), if_pos hk]
  exact (again_rest hB hp hr).1
theorem again4 {B : List UInt8} {x : KV} {S : RS} (h0 : x.kind ≠ 0) (h1 : x.kind ≠ 1) (h2 : x.kind ≠ 2) (h3 : x.kind ≠ 3) : x.step B S = S ∧ ∀ n z s au m cu b r, (⟨x.kind, n, z, s, au, m, cu, b⟩ : AV).step r = r := by
  refine ⟨by unfold KV.step; rw [if_neg h0, if_neg h1, if_neg h2, if_neg h3], fun n z s au m cu b r => ?_⟩
  unfold AV.step
  rw [if_neg h0, if_neg h1, if_neg h2, if_neg h3]
end Go.Proofs.Ytlgioloanjjndaa
namespace Go.Proofs.Ytlgioloanjjndaa
set_option linter.unusedVariables false
set_option linter.unusedSimpArgs false
open Go.RowKit Hp
@[go_sem ↓] theorem fieldFault0 (a b : Int) (w : World) : (Instr.field 50 (.agg #[.int .i64 a, .int .i64 b]) 0).run Try.prog w = .ok (.int .i64 a) w := by
  unfold Instr.field
  rw [Sem.run_bind, run_underlying Try.underlying50 w]
  kernel_rfl
@[go_sem ↓] theorem fieldFault1 (a b : Int) (w : World) : (Instr.field 50 (.agg #[.int .i64 a, .int .i64 b]) 1).run Try.prog w = .ok (.int .i64 b) w := by
  unfold Instr.field
  rw [Sem.run_bind, run_underlying Try.underlying50 w]
  kernel_rfl
end Go.Proofs.Ytlgioloanjjndaa
namespace Go.Proofs.Ytlgioloanjjndaa
set_option linter.unusedVariables false
set_option linter.unusedSimpArgs false
open Go.RowKit Hp
attribute [local irreducible] Go.Calls
set_option maxRecDepth 100000
set_option maxHeartbeats 4000000
theorem reads_big (ao : Option Addr) (n c : Nat) (al : Option Addr) (nl cl : Nat) (w : World) (hn : n ≤ 9223372036854775807) (hnl : nl ≤ 9223372036854775807) (hb : 1000 < n ∨ 60 < nl) :
    Calls Try.prog 6 #[.slice ao n c, .slice al nl cl] w fun e w' => e = .returned (.bool true) ∧ St w [] w' [] := by
  have hst := St.refl w
  by_cases h1 : 1000 < n
  · have d1 : decide (1000 < (n : Int)) = true := decide_eq_true (by omega)
    go_enter Try.func6, Try.ntmps6
    go_wp2_with (first | go_big_skip | go_big_guard | (go_at_call 12; refine (awake_any _).mono ?_; rintro _ _ ⟨rfl, h4⟩; have hfin := St.call0 hst h4; clear h4 hst))
    go_ret
    exact ⟨rfl, hfin⟩
  · have d1 : decide (1000 < (n : Int)) = false := decide_eq_false (by omega)
    have d2 : decide (60 < (nl : Int)) = true := decide_eq_true (by omega)
    go_enter Try.func6, Try.ntmps6
    go_wp2_with (first | go_big_skip | go_big_guard | (go_at_call 12; refine (awake_any _).mono ?_; rintro _ _ ⟨rfl, h4⟩; have hfin := St.call0 hst h4; clear h4 hst))
    go_ret
    exact ⟨rfl, hfin⟩
end Go.Proofs.Ytlgioloanjjndaa
namespace Go.Proofs.Ytlgioloanjjndaa
set_option linter.unusedVariables false
set_option linter.unusedSimpArgs false
open Go.RowKit Hp
attribute [local irreducible] Go.Calls
set_option maxRecDepth 100000
set_option maxHeartbeats 4000000
theorem loadedAsk (A : Addr) : loadVar 58 A = loadVarH 58 A := rfl
theorem bF_new {w0 w : World} {g q : Nat} {bv v : Value} {B : List UInt8} {s : RS} {R : List HA} (h : St w0 [] w (bP g bv q v B s ++ R)) : ∀ k ∈ bF g bv q v B s, w0.heap.size ≤ k := by
  intro k hk
  obtain ⟨x, hx, hf⟩ := List.mem_filterMap.1 hk
  rcases h.own x (List.mem_append_left _ hx) k hf with h1 | h1
  · exact h1
  · cases h1
theorem ow_bare {o : Oper} {a : Act} {w : World} {K : Act → World → Prop} {Q : Exit → Act → World → Prop} (h : Oper.wp Try.prog { o with guard := none } a w K Q) : o.wp Try.prog a w K Q := h
section
attribute [local go_sem ↓] loadedInt loadedFt loadedAsk
theorem reads_small (ao : Option Addr) (n c : Nat) (al : Option Addr) (nl cl : Nat) (B : List UInt8) (ks : List KV) (w : World) (hB : Rd w (.slice ao n c) 1 n (bytesV B)) (hL : B.length = n) (hK : Rd w (.slice al nl cl) 4 nl (ks.flatMap KV.cells)) (hkl : ks.length = nl) (hok : ∀ x ∈ ks, x.Ok) (hn : n ≤ 1000) (hnl : nl ≤ 60) :
    Calls Try.prog 6 #[.slice ao n c, .slice al nl cl] w fun e w' => e = .returned (.bool true) ∧ St w [] w' [] := by
  have hst := St.refl w
  have HL := hid hL
  have HKL := hid hkl
  have HOK := hid hok
  have d1 : decide (1000 < (n : Int)) = false := decide_eq_false (by omega)
  have d2 : decide (60 < (nl : Int)) = false := decide_eq_false (by omega)
  clear hL hkl hok
  go_enter Try.func6, Try.ntmps6
  go_wp2_with (first | go_big_skip | go_big_guard | (go_at_call 28; refine (lent_any ao n c B _ (Rd.old hst hB) HL.out (by omega)).mono ?_; rintro _ w1 ⟨gl, rfl, h4⟩; have hst1 := St.call hst h4; clear h4 hst) | (go_at_call 22; refine (open_any (some ⟨gl, 0, none⟩) n (n + 3) B _ (Rd.blk hst1 (.head _) (by omega) (by unfold maxLen; omega) (by rw [length_bytesV, HL.out]; omega) (by rw [List.drop_zero, lentB_V, List.take_left' rfl])) HL.out (by omega)).mono ?_; rintro _ w2 ⟨g, bv, rfl, h4⟩; have hst2 := St.call hst1 h4; clear h4 hst1) | (go_at_call 29; refine (qopen_any ao n c _).mono ?_; rintro _ w3 ⟨q, rfl, h4⟩; have hst3 := St.call hst2 h4; clear h4 hst2))
  have hst4 : St w [] w3 [.blk g 67 [.bool true, bv, .int .i64 (foldK B ks 0).pos, .int .i64 (foldK B ks 0).e, .int .i64 (foldK B ks 0).fa], .rowP isB bv 5 1 B.length (bytesV B), .blk q 61 [.slice ao n c, .int .i64 (foldK B ks 0).pos, .int .i64 (foldK B ks 0).e, .int .i64 (foldK B ks 0).fa], .blk gl 5 (bytesV (lentB B))] := by
    rw [foldK_zero]
    have hm : St w [] w3 ((rP g bv B ⟨0, 0, 0⟩ ++ [.blk gl 5 (bytesV (lentB B))]) ++ qP q (.slice ao n c) ⟨0, 0, 0⟩) := St.perm hst3 (List.perm_append_comm (l₁ := qP q (.slice ao n c) ⟨0, 0, 0⟩))
    have hm2 : St w [] w3 (rP g bv B ⟨0, 0, 0⟩ ++ (qP q (.slice ao n c) ⟨0, 0, 0⟩ ++ [.blk gl 5 (bytesV (lentB B))])) := St.perm hm (by rw [List.append_assoc]; exact List.Perm.append_left _ List.perm_append_comm)
    exact hm2
  clear hst3
  go_loopw [8] (fun i wr => ∃ k : Nat, k ≤ nl ∧ i = .int .i64 k ∧ St w [] wr [.blk g 67 [.bool true, bv, .int .i64 (foldK B ks k).pos, .int .i64 (foldK B ks k).e, .int .i64 (foldK B ks k).fa], .rowP isB bv 5 1 B.length (bytesV B), .blk q 61 [.slice ao n c, .int .i64 (foldK B ks k).pos, .int .i64 (foldK B ks k).e, .int .i64 (foldK B ks k).fa], .blk gl 5 (bytesV (lentB B))]) (fun i _ => nl - (intOf i).toNat)
  case atStart => exact ⟨0, Nat.zero_le _, rfl, hst4⟩
  case round =>
    clear hst4
    obtain ⟨k, hk, rfl, hst⟩ := hrel
    have hpS := foldK_pos B ks k
    by_cases hkn : k < nl
    · obtain ⟨x, hxk⟩ : ∃ x, ks[k]? = some x := ⟨_, List.getElem?_eq_getElem (by rw [HKL.out]; exact hkn)⟩
      obtain ⟨b, off, rfl, _⟩ := hK.at hkn
      have hxo := HOK.out x (List.mem_of_getElem? hxk)
      have hra := hid (asks_range hK hxk)
      have hpT := foldK_pos B ks (k + 1)
      have hS1 := foldK_succ (B := B) hxk
      obtain ⟨S, hS⟩ : ∃ S, S = foldK B ks k := ⟨_, rfl⟩
      obtain ⟨T, hT⟩ : ∃ T, T = foldK B ks (k + 1) := ⟨_, rfl⟩
      rw [← hT, ← hS] at hS1
      rw [← hS] at hst hpS
      rw [← hT] at hpT
      rw [HL.out] at hpS hpT
      have HS := hid hS1
      have HT := hid hT
      have hoff := Off.old hB (by decide) (bF_new (R := [.blk gl 5 (bytesV (lentB B))]) hst)
      have hofq : Off (.slice ao n c) [q] := fun A n' c' e hpos hm => hoff A n' c' e hpos (by rw [List.mem_singleton] at hm; rw [hm]; exact List.mem_filterMap.2 ⟨.blk q 61 [.slice ao n c, .int .i64 S.pos, .int .i64 S.e, .int .i64 S.fa], by simp [bP, rP, qP], rfl⟩)
      have hkk : (k : Int) < (nl : Int) := by omega
      have dk : decide ((k : Int) < (nl : Int)) = true := decide_eq_true hkk
      have z4 : IntKind.i64.wrap ((k : Int) + 1) = (k : Int) + 1 := IntWalk.i64_in _ (by omega)
      clear hS hT hxk hS1
      go_wp2_with (first | go_big_skip | go_big_guard | fail)
      have hD := hst.drew
      clear hst
      refine wp_region_held_drew (S := (fun w' => (loadVarH 58 ⟨b, off + k * 4, none⟩).run Try.prog w' = .ok (.agg (List.toArray [.int .i64 x.kind, .int .i64 x.size, .int .i64 x.low, .int .i64 x.high])) w')) (by kernel_rfl) (by exact Loads.oldA (cs := x.cells) (n := 4) hD rfl hra.out) (fun hHeld => ?_)
      refine wpAnyH_take (i := 0) (oi := ⟨some 32, _, _, _, _, _⟩) (v := ?_) rfl (by kernel_rfl) (by kernel_rfl) (by kernel_rfl) (fun _ _ _ h => h) (Or.inl ⟨by rfl, ?_⟩) (by assumption) ?_
      rotate_left
      · intro w hSw; (try dsimp only at hSw); go_simp; try with_reducible rfl
      (try simp only [Act.put, List.setIfInBounds_toArray, List.set_cons_zero, List.set_cons_succ])
      refine wpAnyH_take (i := 1) (oi := ⟨some 33, _, _, _, _, _⟩) (v := ?_) rfl (by kernel_rfl) (by kernel_rfl) (by kernel_rfl) (fun _ _ _ h => h) (Or.inl ⟨by rfl, ?_⟩) (by assumption) ?_
      rotate_left
      · intro w hSw; (try dsimp only at hSw); go_simp; try with_reducible rfl
      (try simp only [Act.put, List.setIfInBounds_toArray, List.set_cons_zero, List.set_cons_succ])
      refine wpAnyH_take (i := 2) (oi := ⟨some 34, _, _, _, _, _⟩) (v := ?_) rfl (by kernel_rfl) (by kernel_rfl) (by kernel_rfl) (fun _ _ _ h => h) (Or.inl ⟨by rfl, ?_⟩) (by assumption) ?_
      rotate_left
      · intro w hSw; (try dsimp only at hSw); go_simp; try with_reducible rfl
      (try simp only [Act.put, List.setIfInBounds_toArray, List.set_cons_zero, List.set_cons_succ])
      refine wpAnyH_take (i := 3) (oi := ⟨some 35, _, _, _, _, _⟩) (v := ?_) rfl (by kernel_rfl) (by kernel_rfl) (by kernel_rfl) (fun _ _ _ h => h) (Or.inl ⟨by rfl, ?_⟩) (by assumption) ?_
      rotate_left
      · intro w hSw; (try dsimp only at hSw); go_simp; try with_reducible rfl
      (try simp only [Act.put, List.setIfInBounds_toArray, List.set_cons_zero, List.set_cons_succ])
      refine wpAnyH_take (i := 4) (oi := ⟨some 36, _, _, _, _, _⟩) (v := ?_) rfl (by kernel_rfl) (by kernel_rfl) (by kernel_rfl) (fun _ _ _ h => h) (Or.inl ⟨by rfl, ?_⟩) (by assumption) ?_
      rotate_left
      · intro w hSw; (try dsimp only at hSw); go_simp; try with_reducible rfl
      (try simp only [Act.put, List.setIfInBounds_toArray, List.set_cons_zero, List.set_cons_succ])
      refine wpAnyH_take (i := 5) (oi := ⟨some 37, _, _, _, _, _⟩) (v := ?_) rfl (by kernel_rfl) (by kernel_rfl) (by kernel_rfl) (fun _ _ _ h => h) (Or.inl ⟨by rfl, ?_⟩) (by assumption) ?_
      rotate_left
      · intro w hSw; (try dsimp only at hSw); go_simp; try with_reducible rfl
      (try simp only [Act.put, List.setIfInBounds_toArray, List.set_cons_zero, List.set_cons_succ])
      refine wpAnyH_ready (rs := [6]) (by kernel_rfl) (by simp) ?_
      refine (AllReadyH.cons (o := ⟨some 38, _, _, _, _, _⟩) rfl (fun K hK => ?_) AllReadyH.nil)
      go_simp
      go_at_call 30
      have hSS : St _ (bF g bv q (.slice ao n c) B S) _ (bP g bv q (.slice ao n c) B S) := (St.sub (L' := bP g bv q (.slice ao n c) B S) hD (List.sublist_append_left (bP g bv q (.slice ao n c) B S) [_])).selfF
      refine (lread_any g bv q ao n c B S x _ hSS (Rd.old hD hB) hoff hofq HL.out hpS (by omega) hxo).mono ?_
      rw [← HS.out]
      rintro _ w5 ⟨rfl, h4⟩
      have hN1 : St w [] w5 [.blk g 67 [.bool true, bv, .int .i64 T.pos, .int .i64 T.e, .int .i64 T.fa], .rowP isB bv 5 1 B.length (bytesV B), .blk q 61 [.slice ao n c, .int .i64 T.pos, .int .i64 T.e, .int .i64 T.fa], .blk gl 5 (bytesV (lentB B))] := St.callF (bP g bv q (.slice ao n c) B S) (R := [.blk gl 5 (bytesV (lentB B))]) hD h4
      clear h4 hSS
      refine hK.out _ _ ?_ (fun hHeld => ?_)
      · exact Loads.oldA (cs := x.cells) (n := 4) hN1 rfl hra.out
      clear hK K
      (try simp only [Act.put, List.setIfInBounds_toArray, List.set_cons_zero, List.set_cons_succ])
      refine wpAnyH_take (i := 7) (oi := ⟨some 39, _, _, _, _, _⟩) (v := ?_) rfl (by kernel_rfl) (by kernel_rfl) (by kernel_rfl) (fun _ _ _ h => h) (Or.inl ⟨by rfl, ?_⟩) (by assumption) ?_
      rotate_left
      · intro w hSw; (try dsimp only at hSw); go_simp; try with_reducible rfl
      (try simp only [Act.put, List.setIfInBounds_toArray, List.set_cons_zero, List.set_cons_succ])
      refine wpAnyH_take (i := 8) (oi := ⟨some 40, _, _, _, _, _⟩) (v := ?_) rfl (by kernel_rfl) (by kernel_rfl) (by kernel_rfl) (fun _ _ _ h => h) (Or.inl ⟨by rfl, ?_⟩) (by assumption) ?_
      rotate_left
      · intro w hSw; (try dsimp only at hSw); go_simp; try with_reducible rfl
      (try simp only [Act.put, List.setIfInBounds_toArray, List.set_cons_zero, List.set_cons_succ])
      refine wpAnyH_take (i := 9) (oi := ⟨some 41, _, _, _, _, _⟩) (v := ?_) rfl (by kernel_rfl) (by kernel_rfl) (by kernel_rfl) (fun _ _ _ h => h) (Or.inl ⟨by rfl, ?_⟩) (by assumption) ?_
      rotate_left
      · intro w hSw; (try dsimp only at hSw); go_simp; try with_reducible rfl
      (try simp only [Act.put, List.setIfInBounds_toArray, List.set_cons_zero, List.set_cons_succ])
      refine wpAnyH_take (i := 11) (oi := ⟨some 43, _, _, _, _, _⟩) (v := ?_) rfl (by kernel_rfl) (by kernel_rfl) (by kernel_rfl) (fun _ _ _ h => h) (Or.inl ⟨by rfl, ?_⟩) (by assumption) ?_
      rotate_left
      · intro w hSw; (try dsimp only at hSw); go_simp; try with_reducible rfl
      (try simp only [Act.put, List.setIfInBounds_toArray, List.set_cons_zero, List.set_cons_succ])
      refine wpAnyH_take (i := 12) (oi := ⟨some 44, _, _, _, _, _⟩) (v := ?_) rfl (by kernel_rfl) (by kernel_rfl) (by kernel_rfl) (fun _ _ _ h => h) (Or.inl ⟨by rfl, ?_⟩) (by assumption) ?_
      rotate_left
      · intro w hSw; (try dsimp only at hSw); go_simp; try with_reducible rfl
      (try simp only [Act.put, List.setIfInBounds_toArray, List.set_cons_zero, List.set_cons_succ])
      refine wpAnyH_take (i := 13) (oi := ⟨some 45, _, _, _, _, _⟩) (v := ?_) rfl (by kernel_rfl) (by kernel_rfl) (by kernel_rfl) (fun _ _ _ h => h) (Or.inl ⟨by rfl, ?_⟩) (by assumption) ?_
      rotate_left
      · intro w hSw; (try dsimp only at hSw); go_simp; try with_reducible rfl
      (try simp only [Act.put, List.setIfInBounds_toArray, List.set_cons_zero, List.set_cons_succ])
      refine wpAnyH_ready (rs := [10, 14]) (by kernel_rfl) (by simp) ?_
      refine (AllReadyH.cons (o := ⟨some 42, _, _, _, _, _⟩) rfl (fun K hK => ?_) (AllReadyH.cons (o := ⟨some 46, _, _, _, _, _⟩) rfl (fun K hK => ?_) AllReadyH.nil))
      · go_simp
        go_at_call 31
        refine (at_any g bv B T _ (St.sub hN1 (.cons_cons _ (.cons_cons _ (List.nil_sublist _))))).mono ?_
        rintro _ w5 ⟨rfl, h4⟩
        have hN2 := St.call0 hN1 h4
        clear h4
        refine hK.out _ _ ?_ (fun hHeld => ?_)
        · exact Loads.oldA (cs := x.cells) (n := 4) hN2 rfl hra.out
        clear hK K
        (try simp only [Act.put, List.setIfInBounds_toArray, List.set_cons_zero, List.set_cons_succ])
        refine wpAnyH_ready (rs := [14]) (by kernel_rfl) (by simp) ?_
        refine (AllReadyH.cons (o := ⟨some 46, _, _, _, _, _⟩) rfl (fun K hK => ?_) AllReadyH.nil)
        rw [if_pos (by rfl)]
        refine ow_bare ?_
        refine ow_of_wl (ops := #[]) (by rfl) ?_
        refine wl_loadE rfl rfl rfl ?_
        refine ⟨_, Loads.at [_, _] hN2 rfl, ?_⟩
        refine q0_nil ?_
        refine hK.out _ _ ?_ (fun hHeld => ?_)
        · exact Loads.oldA (cs := x.cells) (n := 4) hN2 rfl hra.out
        clear hK K
        (try simp only [Act.put, List.setIfInBounds_toArray, List.set_cons_zero, List.set_cons_succ])
        refine wpAnyH_take (i := 15) (oi := ⟨some 47, _, _, _, _, _⟩) (v := ?_) rfl (by kernel_rfl) (by kernel_rfl) (by kernel_rfl) (fun _ _ _ h => h) (Or.inl ⟨by rfl, ?_⟩) (by assumption) ?_
        rotate_left
        · intro w hSw; (try dsimp only at hSw); go_simp; try with_reducible rfl
        (try simp only [Act.put, List.setIfInBounds_toArray, List.set_cons_zero, List.set_cons_succ])
        refine wpAnyH_take (i := 16) (oi := ⟨some 48, _, _, _, _, _⟩) (v := ?_) rfl (by kernel_rfl) (by kernel_rfl) (by kernel_rfl) (fun _ _ _ h => h) (Or.inl ⟨by rfl, ?_⟩) (by assumption) ?_
        rotate_left
        · intro w hSw; (try dsimp only at hSw); go_simp; try with_reducible rfl
        (try simp only [Act.put, List.setIfInBounds_toArray, List.set_cons_zero, List.set_cons_succ])
        refine wpAnyH_take (i := 17) (oi := ⟨some 49, _, _, _, _, _⟩) (v := ?_) rfl (by kernel_rfl) (by kernel_rfl) (by kernel_rfl) (fun _ _ _ h => h) (Or.inl ⟨by rfl, ?_⟩) (by assumption) ?_
        rotate_left
        · intro w hSw; (try dsimp only at hSw); go_simp; try with_reducible rfl
        (try simp only [Act.put, List.setIfInBounds_toArray, List.set_cons_zero, List.set_cons_succ])
        refine wpAnyH_take (i := 18) (oi := ⟨some 50, _, _, _, _, _⟩) (v := ?_) rfl (by kernel_rfl) (by kernel_rfl) (by kernel_rfl) (fun _ _ _ h => h) (Or.inl ⟨by rfl, ?_⟩) (by assumption) ?_
        rotate_left
        · intro w hSw; (try dsimp only at hSw); go_simp; try with_reducible rfl
        (try simp only [Act.put, List.setIfInBounds_toArray, List.set_cons_zero, List.set_cons_succ])
        refine wpAnyH_take (i := 20) (oi := ⟨some 52, _, _, _, _, _⟩) (v := ?_) rfl (by kernel_rfl) (by kernel_rfl) (by kernel_rfl) (fun _ _ _ h => h) (Or.inl ⟨by rfl, ?_⟩) (by assumption) ?_
        rotate_left
        · intro w hSw; (try dsimp only at hSw); go_simp; try with_reducible rfl
        (try simp only [Act.put, List.setIfInBounds_toArray, List.set_cons_zero, List.set_cons_succ])
        refine wpAnyH_ready (rs := [19]) (by kernel_rfl) (by simp) ?_
        refine (AllReadyH.cons (o := ⟨some 51, _, _, _, _, _⟩) rfl (fun K hK => ?_) AllReadyH.nil)
        go_simp
        go_at_call 32
        refine (left_any g bv B T _ (St.sub hN2 (.cons_cons _ (.cons_cons _ (List.nil_sublist _)))) (by rw [HL.out]; exact hpT) (by rw [HL.out]; omega)).mono ?_
        rw [HL.out]
        rintro _ w5 ⟨rfl, h4⟩
        have hN3 := St.call0 hN2 h4
        clear h4
        refine hK.out _ _ ?_ (fun hHeld => ?_)
        · exact Loads.oldA (cs := x.cells) (n := 4) hN3 rfl hra.out
        clear hK K
        (try simp only [Act.put, List.setIfInBounds_toArray, List.set_cons_zero, List.set_cons_succ])
        refine wpAnyH_ready (rs := [21]) (by kernel_rfl) (by simp) ?_
        refine (AllReadyH.cons (o := ⟨some 53, _, _, _, _, _⟩) rfl (fun K hK => ?_) AllReadyH.nil)
        go_simp
        go_at_call 33
        refine (qleft_any q ao n c T _ (St.sub hN3 (.cons _ (.cons _ (.cons_cons _ (List.nil_sublist _))))) hpT (by omega)).mono ?_
        rintro _ w5 ⟨rfl, h4⟩
        have hN4 := St.call0 hN3 h4
        clear h4
        refine hK.out _ _ ?_ (fun hHeld => ?_)
        · exact Loads.oldA (cs := x.cells) (n := 4) hN4 rfl hra.out
        clear hK K
        (try simp only [Act.put, List.setIfInBounds_toArray, List.set_cons_zero, List.set_cons_succ])
        refine wpAnyH_take (i := 22) (oi := ⟨some 54, _, _, _, _, _⟩) (v := ?_) rfl (by kernel_rfl) (by kernel_rfl) (by kernel_rfl) (fun _ _ _ h => h) (Or.inl ⟨by rfl, ?_⟩) (by assumption) ?_
        rotate_left
        · intro w hSw; (try dsimp only at hSw); go_simp; try with_reducible rfl
        (try simp only [Act.put, List.setIfInBounds_toArray, List.set_cons_zero, List.set_cons_succ])
        refine wpAnyH_take (i := 23) (oi := ⟨some 55, _, _, _, _, _⟩) (v := ?_) rfl (by kernel_rfl) (by kernel_rfl) (by kernel_rfl) (fun _ _ _ h => h) (Or.inl ⟨by rfl, ?_⟩) (by assumption) ?_
        rotate_left
        · intro w hSw; (try dsimp only at hSw); go_simp; try with_reducible rfl
        (try simp only [Act.put, List.setIfInBounds_toArray, List.set_cons_zero, List.set_cons_succ])
        refine wpAnyH_take (i := 24) (oi := ⟨some 56, _, _, _, _, _⟩) (v := ?_) rfl (by kernel_rfl) (by kernel_rfl) (by kernel_rfl) (fun _ _ _ h => h) (Or.inl ⟨by rfl, ?_⟩) (by assumption) ?_
        rotate_left
        · intro w hSw; (try dsimp only at hSw); go_simp; try with_reducible rfl
        (try simp only [Act.put, List.setIfInBounds_toArray, List.set_cons_zero, List.set_cons_succ])
        refine wpAnyH_take (i := 25) (oi := ⟨some 57, _, _, _, _, _⟩) (v := ?_) rfl (by kernel_rfl) (by kernel_rfl) (by kernel_rfl) (fun _ _ _ h => h) (Or.inl ⟨by rfl, ?_⟩) (by assumption) ?_
        rotate_left
        · intro w hSw; (try dsimp only at hSw); go_simp; try with_reducible rfl
        (try simp only [Act.put, List.setIfInBounds_toArray, List.set_cons_zero, List.set_cons_succ])
        refine wpAnyH_take (i := 27) (oi := ⟨some 59, _, _, _, _, _⟩) (v := ?_) rfl (by kernel_rfl) (by kernel_rfl) (by kernel_rfl) (fun _ _ _ h => h) (Or.inl ⟨by rfl, ?_⟩) (by assumption) ?_
        rotate_left
        · intro w hSw; (try dsimp only at hSw); go_simp; try with_reducible rfl
        (try simp only [Act.put, List.setIfInBounds_toArray, List.set_cons_zero, List.set_cons_succ])
        refine wpAnyH_take (i := 28) (oi := ⟨some 60, _, _, _, _, _⟩) (v := ?_) rfl (by kernel_rfl) (by kernel_rfl) (by kernel_rfl) (fun _ _ _ h => h) (Or.inl ⟨by rfl, ?_⟩) (by assumption) ?_
        rotate_left
        · intro w hSw; (try dsimp only at hSw); go_simp; try with_reducible rfl
        (try simp only [Act.put, List.setIfInBounds_toArray, List.set_cons_zero, List.set_cons_succ])
        refine wpAnyH_take (i := 29) (oi := ⟨some 61, _, _, _, _, _⟩) (v := ?_) rfl (by kernel_rfl) (by kernel_rfl) (by kernel_rfl) (fun _ _ _ h => h) (Or.inl ⟨by rfl, ?_⟩) (by assumption) ?_
        rotate_left
        · intro w hSw; (try dsimp only at hSw); go_simp; try with_reducible rfl
        (try simp only [Act.put, List.setIfInBounds_toArray, List.set_cons_zero, List.set_cons_succ])
        refine wpAnyH_ready (rs := [26, 30]) (by kernel_rfl) (by simp) ?_
        refine (AllReadyH.cons (o := ⟨some 58, _, _, _, _, _⟩) rfl (fun K hK => ?_) (AllReadyH.cons (o := ⟨some 62, _, _, _, _, _⟩) rfl (fun K hK => ?_) AllReadyH.nil))
        · go_simp
          go_at_call 26
          refine (fault_any g bv B T _ (St.sub hN4 (.cons_cons _ (.cons_cons _ (List.nil_sublist _))))).mono ?_
          rintro _ w5 ⟨rfl, h4⟩
          have hN5 := St.call0 hN4 h4
          clear h4
          refine hK.out _ _ ?_ (fun hHeld => ?_)
          · exact Loads.oldA (cs := x.cells) (n := 4) hN5 rfl hra.out
          clear hK K
          (try simp only [Act.put, List.setIfInBounds_toArray, List.set_cons_zero, List.set_cons_succ])
          refine wpAnyH_ready (rs := [30]) (by kernel_rfl) (by simp) ?_
          refine (AllReadyH.cons (o := ⟨some 62, _, _, _, _, _⟩) rfl (fun K hK => ?_) AllReadyH.nil)
          rw [if_pos (by rfl)]
          refine ow_bare ?_
          refine ow_of_wl (ops := #[]) (by rfl) ?_
          refine wl_loadE rfl rfl rfl ?_
          refine ⟨_, Loads.atA (off := 2) (T := 50) [.int .i64 T.e, .int .i64 T.fa] [_, _] hN5 rfl rfl, ?_⟩
          refine q0_nil ?_
          refine hK.out _ _ ?_ (fun hHeld => ?_)
          · exact Loads.oldA (cs := x.cells) (n := 4) hN5 rfl hra.out
          clear hK K
          (try simp only [Act.put, List.setIfInBounds_toArray, List.set_cons_zero, List.set_cons_succ])
          refine wpAnyH_take (i := 31) (oi := ⟨some 63, _, _, _, _, _⟩) (v := ?_) rfl (by kernel_rfl) (by kernel_rfl) (by kernel_rfl) (fun _ _ _ h => h) (Or.inl ⟨by rfl, ?_⟩) (by assumption) ?_
          rotate_left
          · intro w hSw; (try dsimp only at hSw); go_simp; try with_reducible rfl
          (try simp only [Act.put, List.setIfInBounds_toArray, List.set_cons_zero, List.set_cons_succ])
          refine wpAnyH_take (i := 32) (oi := ⟨some 64, _, _, _, _, _⟩) (v := ?_) rfl (by kernel_rfl) (by kernel_rfl) (by kernel_rfl) (fun _ _ _ h => h) (Or.inl ⟨by rfl, ?_⟩) (by assumption) ?_
          rotate_left
          · intro w hSw; (try dsimp only at hSw); go_simp; try with_reducible rfl
          (try simp only [Act.put, List.setIfInBounds_toArray, List.set_cons_zero, List.set_cons_succ])
          refine wpAnyH_take (i := 33) (oi := ⟨some 65, _, _, _, _, _⟩) (v := ?_) rfl (by kernel_rfl) (by kernel_rfl) (by kernel_rfl) (fun _ _ _ h => h) (Or.inl ⟨by rfl, ?_⟩) (by assumption) ?_
          rotate_left
          · intro w hSw; (try dsimp only at hSw); go_simp; try with_reducible rfl
          (try simp only [Act.put, List.setIfInBounds_toArray, List.set_cons_zero, List.set_cons_succ])
          refine wpAnyH_take (i := 34) (oi := ⟨some 66, _, _, _, _, _⟩) (v := ?_) rfl (by kernel_rfl) (by kernel_rfl) (by kernel_rfl) (fun _ _ _ h => h) (Or.inl ⟨by rfl, ?_⟩) (by assumption) ?_
          rotate_left
          · intro w hSw; (try dsimp only at hSw); go_simp; try with_reducible rfl
          (try simp only [Act.put, List.setIfInBounds_toArray, List.set_cons_zero, List.set_cons_succ])
          refine wpAnyH_take (i := 36) (oi := ⟨some 68, _, _, _, _, _⟩) (v := ?_) rfl (by kernel_rfl) (by kernel_rfl) (by kernel_rfl) (fun _ _ _ h => h) (Or.inl ⟨by rfl, ?_⟩) (by assumption) ?_
          rotate_left
          · intro w hSw; (try dsimp only at hSw); go_simp; try with_reducible rfl
          (try simp only [Act.put, List.setIfInBounds_toArray, List.set_cons_zero, List.set_cons_succ])
          refine wpAnyH_ready (rs := [35]) (by kernel_rfl) (by simp) ?_
          refine (AllReadyH.cons (o := ⟨some 67, _, _, _, _, _⟩) rfl (fun K hK => ?_) AllReadyH.nil)
          go_simp
          go_at_call 27
          refine (end_any g bv B T _ (St.sub hN5 (.cons_cons _ (.cons_cons _ (List.nil_sublist _)))) (by rw [HL.out]; exact hpT) (by rw [HL.out]; omega)).mono ?_
          rintro _ w5 ⟨rfl, h4⟩
          have hN6 := St.call0 hN5 h4
          clear h4
          refine hK.out _ _ ?_ (fun hHeld => ?_)
          · exact Loads.oldA (cs := x.cells) (n := 4) hN6 rfl hra.out
          clear hK K
          (try simp only [Act.put, List.setIfInBounds_toArray, List.set_cons_zero, List.set_cons_succ])
          refine wpAnyH_ready (rs := [37]) (by kernel_rfl) (by simp) ?_
          refine (AllReadyH.cons (o := ⟨some 69, _, _, _, _, _⟩) rfl (fun K hK => ?_) AllReadyH.nil)
          go_simp
          go_at_call 34
          refine (qend_any q ao n c T B _ (St.sub hN6 (.cons _ (.cons _ (.cons_cons _ (List.nil_sublist _))))) HL.out (by omega) hpT).mono ?_
          rintro _ w5 ⟨rfl, h4⟩
          have hN7 := St.call0 hN6 h4
          clear h4
          refine hK.out _ _ ?_ (fun hHeld => ?_)
          · exact Loads.oldA (cs := x.cells) (n := 4) hN7 rfl hra.out
          clear hK K
          (try simp only [Act.put, List.setIfInBounds_toArray, List.set_cons_zero, List.set_cons_succ])
          refine wpAnyH_take (i := 38) (oi := ⟨some 70, _, _, _, _, _⟩) (v := ?_) rfl (by kernel_rfl) (by kernel_rfl) (by kernel_rfl) (fun _ _ _ h => h) (Or.inl ⟨by rfl, ?_⟩) (by assumption) ?_
          rotate_left
          · intro w hSw; (try dsimp only at hSw); go_simp; try with_reducible rfl
          (try simp only [Act.put, List.setIfInBounds_toArray, List.set_cons_zero, List.set_cons_succ])
          refine wpAnyH_take (i := 39) (oi := ⟨some 71, _, _, _, _, _⟩) (v := ?_) rfl (by kernel_rfl) (by kernel_rfl) (by kernel_rfl) (fun _ _ _ h => h) (Or.inl ⟨by rfl, ?_⟩) (by assumption) ?_
          rotate_left
          · intro w hSw; (try dsimp only at hSw); go_simp; try with_reducible rfl
          (try simp only [Act.put, List.setIfInBounds_toArray, List.set_cons_zero, List.set_cons_succ])
          refine wpAnyH_done (by kernel_rfl) ?_ _
          clear hHeld
          go_wp2_with (first | go_big_skip | go_big_guard | fail)
          go_roundw
          case rel => exact ⟨k + 1, by omega, by go_num, by rw [← HT.out]; exact hN7⟩
          case measure => simp [intOf]; omega
        · rw [if_pos (by rfl)]
          refine ow_bare ?_
          refine ow_of_wl (ops := #[]) (by rfl) ?_
          refine wl_loadE rfl rfl rfl ?_
          refine ⟨_, Loads.atA (off := 2) (T := 50) [.int .i64 T.e, .int .i64 T.fa] [_, _] hN4 rfl rfl, ?_⟩
          refine q0_nil ?_
          refine hK.out _ _ ?_ (fun hHeld => ?_)
          · exact Loads.oldA (cs := x.cells) (n := 4) hN4 rfl hra.out
          clear hK K
          (try simp only [Act.put, List.setIfInBounds_toArray, List.set_cons_zero, List.set_cons_succ])
          refine wpAnyH_ready (rs := [26]) (by kernel_rfl) (by simp) ?_
          refine (AllReadyH.cons (o := ⟨some 58, _, _, _, _, _⟩) rfl (fun K hK => ?_) AllReadyH.nil)
          go_simp
          go_at_call 26
          refine (fault_any g bv B T _ (St.sub hN4 (.cons_cons _ (.cons_cons _ (List.nil_sublist _))))).mono ?_
          rintro _ w5 ⟨rfl, h4⟩
          have hN8 := St.call0 hN4 h4
          clear h4
          refine hK.out _ _ ?_ (fun hHeld => ?_)
          · exact Loads.oldA (cs := x.cells) (n := 4) hN8 rfl hra.out
          clear hK K
          (try simp only [Act.put, List.setIfInBounds_toArray, List.set_cons_zero, List.set_cons_succ])
          refine wpAnyH_take (i := 31) (oi := ⟨some 63, _, _, _, _, _⟩) (v := ?_) rfl (by kernel_rfl) (by kernel_rfl) (by kernel_rfl) (fun _ _ _ h => h) (Or.inl ⟨by rfl, ?_⟩) (by assumption) ?_
          rotate_left
          · intro w hSw; (try dsimp only at hSw); go_simp; try with_reducible rfl
          (try simp only [Act.put, List.setIfInBounds_toArray, List.set_cons_zero, List.set_cons_succ])
          refine wpAnyH_take (i := 32) (oi := ⟨some 64, _, _, _, _, _⟩) (v := ?_) rfl (by kernel_rfl) (by kernel_rfl) (by kernel_rfl) (fun _ _ _ h => h) (Or.inl ⟨by rfl, ?_⟩) (by assumption) ?_
          rotate_left
          · intro w hSw; (try dsimp only at hSw); go_simp; try with_reducible rfl
          (try simp only [Act.put, List.setIfInBounds_toArray, List.set_cons_zero, List.set_cons_succ])
          refine wpAnyH_take (i := 33) (oi := ⟨some 65, _, _, _, _, _⟩) (v := ?_) rfl (by kernel_rfl) (by kernel_rfl) (by kernel_rfl) (fun _ _ _ h => h) (Or.inl ⟨by rfl, ?_⟩) (by assumption) ?_
          rotate_left
          · intro w hSw; (try dsimp only at hSw); go_simp; try with_reducible rfl
          (try simp only [Act.put, List.setIfInBounds_toArray, List.set_cons_zero, List.set_cons_succ])
          refine wpAnyH_take (i := 34) (oi := ⟨some 66, _, _, _, _, _⟩) (v := ?_) rfl (by kernel_rfl) (by kernel_rfl) (by kernel_rfl) (fun _ _ _ h => h) (Or.inl ⟨by rfl, ?_⟩) (by assumption) ?_
          rotate_left
          · intro w hSw; (try dsimp only at hSw); go_simp; try with_reducible rfl
          (try simp only [Act.put, List.setIfInBounds_toArray, List.set_cons_zero, List.set_cons_succ])
          refine wpAnyH_take (i := 36) (oi := ⟨some 68, _, _, _, _, _⟩) (v := ?_) rfl (by kernel_rfl) (by kernel_rfl) (by kernel_rfl) (fun _ _ _ h => h) (Or.inl ⟨by rfl, ?_⟩) (by assumption) ?_
          rotate_left
          · intro w hSw; (try dsimp only at hSw); go_simp; try with_reducible rfl
          (try simp only [Act.put, List.setIfInBounds_toArray, List.set_cons_zero, List.set_cons_succ])
          refine wpAnyH_ready (rs := [35]) (by kernel_rfl) (by simp) ?_
          refine (AllReadyH.cons (o := ⟨some 67, _, _, _, _, _⟩) rfl (fun K hK => ?_) AllReadyH.nil)
          go_simp
          go_at_call 27
          refine (end_any g bv B T _ (St.sub hN8 (.cons_cons _ (.cons_cons _ (List.nil_sublist _)))) (by rw [HL.out]; exact hpT) (by rw [HL.out]; omega)).mono ?_
          rintro _ w5 ⟨rfl, h4⟩
          have hN9 := St.call0 hN8 h4
          clear h4
          refine hK.out _ _ ?_ (fun hHeld => ?_)
          · exact Loads.oldA (cs := x.cells) (n := 4) hN9 rfl hra.out
          clear hK K
          (try simp only [Act.put, List.setIfInBounds_toArray, List.set_cons_zero, List.set_cons_succ])
          refine wpAnyH_ready (rs := [37]) (by kernel_rfl) (by simp) ?_
          refine (AllReadyH.cons (o := ⟨some 69, _, _, _, _, _⟩) rfl (fun K hK => ?_) AllReadyH.nil)
          go_simp
          go_at_call 34
          refine (qend_any q ao n c T B _ (St.sub hN9 (.cons _ (.cons _ (.cons_cons _ (List.nil_sublist _))))) HL.out (by omega) hpT).mono ?_
          rintro _ w5 ⟨rfl, h4⟩
          have hN10 := St.call0 hN9 h4
          clear h4
          refine hK.out _ _ ?_ (fun hHeld => ?_)
          · exact Loads.oldA (cs := x.cells) (n := 4) hN10 rfl hra.out
          clear hK K
          (try simp only [Act.put, List.setIfInBounds_toArray, List.set_cons_zero, List.set_cons_succ])
          refine wpAnyH_take (i := 38) (oi := ⟨some 70, _, _, _, _, _⟩) (v := ?_) rfl (by kernel_rfl) (by kernel_rfl) (by kernel_rfl) (fun _ _ _ h => h) (Or.inl ⟨by rfl, ?_⟩) (by assumption) ?_
          rotate_left
          · intro w hSw; (try dsimp only at hSw); go_simp; try with_reducible rfl
          (try simp only [Act.put, List.setIfInBounds_toArray, List.set_cons_zero, List.set_cons_succ])
          refine wpAnyH_take (i := 39) (oi := ⟨some 71, _, _, _, _, _⟩) (v := ?_) rfl (by kernel_rfl) (by kernel_rfl) (by kernel_rfl) (fun _ _ _ h => h) (Or.inl ⟨by rfl, ?_⟩) (by assumption) ?_
          rotate_left
          · intro w hSw; (try dsimp only at hSw); go_simp; try with_reducible rfl
          (try simp only [Act.put, List.setIfInBounds_toArray, List.set_cons_zero, List.set_cons_succ])
          refine wpAnyH_done (by kernel_rfl) ?_ _
          clear hHeld
          go_wp2_with (first | go_big_skip | go_big_guard | fail)
          go_roundw
          case rel => exact ⟨k + 1, by omega, by go_num, by rw [← HT.out]; exact hN10⟩
          case measure => simp [intOf]; omega
      · rw [if_pos (by rfl)]
        refine ow_bare ?_
        refine ow_of_wl (ops := #[]) (by rfl) ?_
        refine wl_loadE rfl rfl rfl ?_
        refine ⟨_, Loads.at [_, _] hN1 rfl, ?_⟩
        refine q0_nil ?_
        refine hK.out _ _ ?_ (fun hHeld => ?_)
        · exact Loads.oldA (cs := x.cells) (n := 4) hN1 rfl hra.out
        clear hK K
        (try simp only [Act.put, List.setIfInBounds_toArray, List.set_cons_zero, List.set_cons_succ])
        refine wpAnyH_ready (rs := [10]) (by kernel_rfl) (by simp) ?_
        refine (AllReadyH.cons (o := ⟨some 42, _, _, _, _, _⟩) rfl (fun K hK => ?_) AllReadyH.nil)
        go_simp
        go_at_call 31
        refine (at_any g bv B T _ (St.sub hN1 (.cons_cons _ (.cons_cons _ (List.nil_sublist _))))).mono ?_
        rintro _ w5 ⟨rfl, h4⟩
        have hN11 := St.call0 hN1 h4
        clear h4
        refine hK.out _ _ ?_ (fun hHeld => ?_)
        · exact Loads.oldA (cs := x.cells) (n := 4) hN11 rfl hra.out
        clear hK K
        (try simp only [Act.put, List.setIfInBounds_toArray, List.set_cons_zero, List.set_cons_succ])
        refine wpAnyH_take (i := 15) (oi := ⟨some 47, _, _, _, _, _⟩) (v := ?_) rfl (by kernel_rfl) (by kernel_rfl) (by kernel_rfl) (fun _ _ _ h => h) (Or.inl ⟨by rfl, ?_⟩) (by assumption) ?_
        rotate_left
        · intro w hSw; (try dsimp only at hSw); go_simp; try with_reducible rfl
        (try simp only [Act.put, List.setIfInBounds_toArray, List.set_cons_zero, List.set_cons_succ])
        refine wpAnyH_take (i := 16) (oi := ⟨some 48, _, _, _, _, _⟩) (v := ?_) rfl (by kernel_rfl) (by kernel_rfl) (by kernel_rfl) (fun _ _ _ h => h) (Or.inl ⟨by rfl, ?_⟩) (by assumption) ?_
        rotate_left
        · intro w hSw; (try dsimp only at hSw); go_simp; try with_reducible rfl
        (try simp only [Act.put, List.setIfInBounds_toArray, List.set_cons_zero, List.set_cons_succ])
        refine wpAnyH_take (i := 17) (oi := ⟨some 49, _, _, _, _, _⟩) (v := ?_) rfl (by kernel_rfl) (by kernel_rfl) (by kernel_rfl) (fun _ _ _ h => h) (Or.inl ⟨by rfl, ?_⟩) (by assumption) ?_
        rotate_left
        · intro w hSw; (try dsimp only at hSw); go_simp; try with_reducible rfl
        (try simp only [Act.put, List.setIfInBounds_toArray, List.set_cons_zero, List.set_cons_succ])
        refine wpAnyH_take (i := 18) (oi := ⟨some 50, _, _, _, _, _⟩) (v := ?_) rfl (by kernel_rfl) (by kernel_rfl) (by kernel_rfl) (fun _ _ _ h => h) (Or.inl ⟨by rfl, ?_⟩) (by assumption) ?_
        rotate_left
        · intro w hSw; (try dsimp only at hSw); go_simp; try with_reducible rfl
        (try simp only [Act.put, List.setIfInBounds_toArray, List.set_cons_zero, List.set_cons_succ])
        refine wpAnyH_take (i := 20) (oi := ⟨some 52, _, _, _, _, _⟩) (v := ?_) rfl (by kernel_rfl) (by kernel_rfl) (by kernel_rfl) (fun _ _ _ h => h) (Or.inl ⟨by rfl, ?_⟩) (by assumption) ?_
        rotate_left
        · intro w hSw; (try dsimp only at hSw); go_simp; try with_reducible rfl
        (try simp only [Act.put, List.setIfInBounds_toArray, List.set_cons_zero, List.set_cons_succ])
        refine wpAnyH_ready (rs := [19]) (by kernel_rfl) (by simp) ?_
        refine (AllReadyH.cons (o := ⟨some 51, _, _, _, _, _⟩) rfl (fun K hK => ?_) AllReadyH.nil)
        go_simp
        go_at_call 32
        refine (left_any g bv B T _ (St.sub hN11 (.cons_cons _ (.cons_cons _ (List.nil_sublist _)))) (by rw [HL.out]; exact hpT) (by rw [HL.out]; omega)).mono ?_
        rw [HL.out]
        rintro _ w5 ⟨rfl, h4⟩
        have hN12 := St.call0 hN11 h4
        clear h4
        refine hK.out _ _ ?_ (fun hHeld => ?_)
        · exact Loads.oldA (cs := x.cells) (n := 4) hN12 rfl hra.out
        clear hK K
        (try simp only [Act.put, List.setIfInBounds_toArray, List.set_cons_zero, List.set_cons_succ])
        refine wpAnyH_ready (rs := [21]) (by kernel_rfl) (by simp) ?_
        refine (AllReadyH.cons (o := ⟨some 53, _, _, _, _, _⟩) rfl (fun K hK => ?_) AllReadyH.nil)
        go_simp
        go_at_call 33
        refine (qleft_any q ao n c T _ (St.sub hN12 (.cons _ (.cons _ (.cons_cons _ (List.nil_sublist _))))) hpT (by omega)).mono ?_
        rintro _ w5 ⟨rfl, h4⟩
        have hN13 := St.call0 hN12 h4
        clear h4
        refine hK.out _ _ ?_ (fun hHeld => ?_)
        · exact Loads.oldA (cs := x.cells) (n := 4) hN13 rfl hra.out
        clear hK K
        (try simp only [Act.put, List.setIfInBounds_toArray, List.set_cons_zero, List.set_cons_succ])
        refine wpAnyH_take (i := 22) (oi := ⟨some 54, _, _, _, _, _⟩) (v := ?_) rfl (by kernel_rfl) (by kernel_rfl) (by kernel_rfl) (fun _ _ _ h => h) (Or.inl ⟨by rfl, ?_⟩) (by assumption) ?_
        rotate_left
        · intro w hSw; (try dsimp only at hSw); go_simp; try with_reducible rfl
        (try simp only [Act.put, List.setIfInBounds_toArray, List.set_cons_zero, List.set_cons_succ])
        refine wpAnyH_take (i := 23) (oi := ⟨some 55, _, _, _, _, _⟩) (v := ?_) rfl (by kernel_rfl) (by kernel_rfl) (by kernel_rfl) (fun _ _ _ h => h) (Or.inl ⟨by rfl, ?_⟩) (by assumption) ?_
        rotate_left
        · intro w hSw; (try dsimp only at hSw); go_simp; try with_reducible rfl
        (try simp only [Act.put, List.setIfInBounds_toArray, List.set_cons_zero, List.set_cons_succ])
        refine wpAnyH_take (i := 24) (oi := ⟨some 56, _, _, _, _, _⟩) (v := ?_) rfl (by kernel_rfl) (by kernel_rfl) (by kernel_rfl) (fun _ _ _ h => h) (Or.inl ⟨by rfl, ?_⟩) (by assumption) ?_
        rotate_left
        · intro w hSw; (try dsimp only at hSw); go_simp; try with_reducible rfl
        (try simp only [Act.put, List.setIfInBounds_toArray, List.set_cons_zero, List.set_cons_succ])
        refine wpAnyH_take (i := 25) (oi := ⟨some 57, _, _, _, _, _⟩) (v := ?_) rfl (by kernel_rfl) (by kernel_rfl) (by kernel_rfl) (fun _ _ _ h => h) (Or.inl ⟨by rfl, ?_⟩) (by assumption) ?_
        rotate_left
        · intro w hSw; (try dsimp only at hSw); go_simp; try with_reducible rfl
        (try simp only [Act.put, List.setIfInBounds_toArray, List.set_cons_zero, List.set_cons_succ])
        refine wpAnyH_take (i := 27) (oi := ⟨some 59, _, _, _, _, _⟩) (v := ?_) rfl (by kernel_rfl) (by kernel_rfl) (by kernel_rfl) (fun _ _ _ h => h) (Or.inl ⟨by rfl, ?_⟩) (by assumption) ?_
        rotate_left
        · intro w hSw; (try dsimp only at hSw); go_simp; try with_reducible rfl
        (try simp only [Act.put, List.setIfInBounds_toArray, List.set_cons_zero, List.set_cons_succ])
        refine wpAnyH_take (i := 28) (oi := ⟨some 60, _, _, _, _, _⟩) (v := ?_) rfl (by kernel_rfl) (by kernel_rfl) (by kernel_rfl) (fun _ _ _ h => h) (Or.inl ⟨by rfl, ?_⟩) (by assumption) ?_
        rotate_left
        · intro w hSw; (try dsimp only at hSw); go_simp; try with_reducible rfl
        (try simp only [Act.put, List.setIfInBounds_toArray, List.set_cons_zero, List.set_cons_succ])
        refine wpAnyH_take (i := 29) (oi := ⟨some 61, _, _, _, _, _⟩) (v := ?_) rfl (by kernel_rfl) (by kernel_rfl) (by kernel_rfl) (fun _ _ _ h => h) (Or.inl ⟨by rfl, ?_⟩) (by assumption) ?_
        rotate_left
        · intro w hSw; (try dsimp only at hSw); go_simp; try with_reducible rfl
        (try simp only [Act.put, List.setIfInBounds_toArray, List.set_cons_zero, List.set_cons_succ])
        refine wpAnyH_ready (rs := [26, 30]) (by kernel_rfl) (by simp) ?_
        refine (AllReadyH.cons (o := ⟨some 58, _, _, _, _, _⟩) rfl (fun K hK => ?_) (AllReadyH.cons (o := ⟨some 62, _, _, _, _, _⟩) rfl (fun K hK => ?_) AllReadyH.nil))
        · go_simp
          go_at_call 26
          refine (fault_any g bv B T _ (St.sub hN13 (.cons_cons _ (.cons_cons _ (List.nil_sublist _))))).mono ?_
          rintro _ w5 ⟨rfl, h4⟩
          have hN14 := St.call0 hN13 h4
          clear h4
          refine hK.out _ _ ?_ (fun hHeld => ?_)
          · exact Loads.oldA (cs := x.cells) (n := 4) hN14 rfl hra.out
          clear hK K
          (try simp only [Act.put, List.setIfInBounds_toArray, List.set_cons_zero, List.set_cons_succ])
          refine wpAnyH_ready (rs := [30]) (by kernel_rfl) (by simp) ?_
          refine (AllReadyH.cons (o := ⟨some 62, _, _, _, _, _⟩) rfl (fun K hK => ?_) AllReadyH.nil)
          rw [if_pos (by rfl)]
          refine ow_bare ?_
          refine ow_of_wl (ops := #[]) (by rfl) ?_
          refine wl_loadE rfl rfl rfl ?_
          refine ⟨_, Loads.atA (off := 2) (T := 50) [.int .i64 T.e, .int .i64 T.fa] [_, _] hN14 rfl rfl, ?_⟩
          refine q0_nil ?_
          refine hK.out _ _ ?_ (fun hHeld => ?_)
          · exact Loads.oldA (cs := x.cells) (n := 4) hN14 rfl hra.out
          clear hK K
          (try simp only [Act.put, List.setIfInBounds_toArray, List.set_cons_zero, List.set_cons_succ])
          refine wpAnyH_take (i := 31) (oi := ⟨some 63, _, _, _, _, _⟩) (v := ?_) rfl (by kernel_rfl) (by kernel_rfl) (by kernel_rfl) (fun _ _ _ h => h) (Or.inl ⟨by rfl, ?_⟩) (by assumption) ?_
          rotate_left
          · intro w hSw; (try dsimp only at hSw); go_simp; try with_reducible rfl
          (try simp only [Act.put, List.setIfInBounds_toArray, List.set_cons_zero, List.set_cons_succ])
          refine wpAnyH_take (i := 32) (oi := ⟨some 64, _, _, _, _, _⟩) (v := ?_) rfl (by kernel_rfl) (by kernel_rfl) (by kernel_rfl) (fun _ _ _ h => h) (Or.inl ⟨by rfl, ?_⟩) (by assumption) ?_
          rotate_left
          · intro w hSw; (try dsimp only at hSw); go_simp; try with_reducible rfl
          (try simp only [Act.put, List.setIfInBounds_toArray, List.set_cons_zero, List.set_cons_succ])
          refine wpAnyH_take (i := 33) (oi := ⟨some 65, _, _, _, _, _⟩) (v := ?_) rfl (by kernel_rfl) (by kernel_rfl) (by kernel_rfl) (fun _ _ _ h => h) (Or.inl ⟨by rfl, ?_⟩) (by assumption) ?_
          rotate_left
          · intro w hSw; (try dsimp only at hSw); go_simp; try with_reducible rfl
          (try simp only [Act.put, List.setIfInBounds_toArray, List.set_cons_zero, List.set_cons_succ])
          refine wpAnyH_take (i := 34) (oi := ⟨some 66, _, _, _, _, _⟩) (v := ?_) rfl (by kernel_rfl) (by kernel_rfl) (by kernel_rfl) (fun _ _ _ h => h) (Or.inl ⟨by rfl, ?_⟩) (by assumption) ?_
          rotate_left
          · intro w hSw; (try dsimp only at hSw); go_simp; try with_reducible rfl
          (try simp only [Act.put, List.setIfInBounds_toArray, List.set_cons_zero, List.set_cons_succ])
          refine wpAnyH_take (i := 36) (oi := ⟨some 68, _, _, _, _, _⟩) (v := ?_) rfl (by kernel_rfl) (by kernel_rfl) (by kernel_rfl) (fun _ _ _ h => h) (Or.inl ⟨by rfl, ?_⟩) (by assumption) ?_
          rotate_left
          · intro w hSw; (try dsimp only at hSw); go_simp; try with_reducible rfl
          (try simp only [Act.put, List.setIfInBounds_toArray, List.set_cons_zero, List.set_cons_succ])
          refine wpAnyH_ready (rs := [35]) (by kernel_rfl) (by simp) ?_
          refine (AllReadyH.cons (o := ⟨some 67, _, _, _, _, _⟩) rfl (fun K hK => ?_) AllReadyH.nil)
          go_simp
          go_at_call 27
          refine (end_any g bv B T _ (St.sub hN14 (.cons_cons _ (.cons_cons _ (List.nil_sublist _)))) (by rw [HL.out]; exact hpT) (by rw [HL.out]; omega)).mono ?_
          rintro _ w5 ⟨rfl, h4⟩
          have hN15 := St.call0 hN14 h4
          clear h4
          refine hK.out _ _ ?_ (fun hHeld => ?_)
          · exact Loads.oldA (cs := x.cells) (n := 4) hN15 rfl hra.out
          clear hK K
          (try simp only [Act.put, List.setIfInBounds_toArray, List.set_cons_zero, List.set_cons_succ])
          refine wpAnyH_ready (rs := [37]) (by kernel_rfl) (by simp) ?_
          refine (AllReadyH.cons (o := ⟨some 69, _, _, _, _, _⟩) rfl (fun K hK => ?_) AllReadyH.nil)
          go_simp
          go_at_call 34
          refine (qend_any q ao n c T B _ (St.sub hN15 (.cons _ (.cons _ (.cons_cons _ (List.nil_sublist _))))) HL.out (by omega) hpT).mono ?_
          rintro _ w5 ⟨rfl, h4⟩
          have hN16 := St.call0 hN15 h4
          clear h4
          refine hK.out _ _ ?_ (fun hHeld => ?_)
          · exact Loads.oldA (cs := x.cells) (n := 4) hN16 rfl hra.out
          clear hK K
          (try simp only [Act.put, List.setIfInBounds_toArray, List.set_cons_zero, List.set_cons_succ])
          refine wpAnyH_take (i := 38) (oi := ⟨some 70, _, _, _, _, _⟩) (v := ?_) rfl (by kernel_rfl) (by kernel_rfl) (by kernel_rfl) (fun _ _ _ h => h) (Or.inl ⟨by rfl, ?_⟩) (by assumption) ?_
          rotate_left
          · intro w hSw; (try dsimp only at hSw); go_simp; try with_reducible rfl
          (try simp only [Act.put, List.setIfInBounds_toArray, List.set_cons_zero, List.set_cons_succ])
          refine wpAnyH_take (i := 39) (oi := ⟨some 71, _, _, _, _, _⟩) (v := ?_) rfl (by kernel_rfl) (by kernel_rfl) (by kernel_rfl) (fun _ _ _ h => h) (Or.inl ⟨by rfl, ?_⟩) (by assumption) ?_
          rotate_left
          · intro w hSw; (try dsimp only at hSw); go_simp; try with_reducible rfl
          (try simp only [Act.put, List.setIfInBounds_toArray, List.set_cons_zero, List.set_cons_succ])
          refine wpAnyH_done (by kernel_rfl) ?_ _
          clear hHeld
          go_wp2_with (first | go_big_skip | go_big_guard | fail)
          go_roundw
          case rel => exact ⟨k + 1, by omega, by go_num, by rw [← HT.out]; exact hN16⟩
          case measure => simp [intOf]; omega
        · rw [if_pos (by rfl)]
          refine ow_bare ?_
          refine ow_of_wl (ops := #[]) (by rfl) ?_
          refine wl_loadE rfl rfl rfl ?_
          refine ⟨_, Loads.atA (off := 2) (T := 50) [.int .i64 T.e, .int .i64 T.fa] [_, _] hN13 rfl rfl, ?_⟩
          refine q0_nil ?_
          refine hK.out _ _ ?_ (fun hHeld => ?_)
          · exact Loads.oldA (cs := x.cells) (n := 4) hN13 rfl hra.out
          clear hK K
          (try simp only [Act.put, List.setIfInBounds_toArray, List.set_cons_zero, List.set_cons_succ])
          refine wpAnyH_ready (rs := [26]) (by kernel_rfl) (by simp) ?_
          refine (AllReadyH.cons (o := ⟨some 58, _, _, _, _, _⟩) rfl (fun K hK => ?_) AllReadyH.nil)
          go_simp
          go_at_call 26
          refine (fault_any g bv B T _ (St.sub hN13 (.cons_cons _ (.cons_cons _ (List.nil_sublist _))))).mono ?_
          rintro _ w5 ⟨rfl, h4⟩
          have hN17 := St.call0 hN13 h4
          clear h4
          refine hK.out _ _ ?_ (fun hHeld => ?_)
          · exact Loads.oldA (cs := x.cells) (n := 4) hN17 rfl hra.out
          clear hK K
          (try simp only [Act.put, List.setIfInBounds_toArray, List.set_cons_zero, List.set_cons_succ])
          refine wpAnyH_take (i := 31) (oi := ⟨some 63, _, _, _, _, _⟩) (v := ?_) rfl (by kernel_rfl) (by kernel_rfl) (by kernel_rfl) (fun _ _ _ h => h) (Or.inl ⟨by rfl, ?_⟩) (by assumption) ?_
          rotate_left
          · intro w hSw; (try dsimp only at hSw); go_simp; try with_reducible rfl
          (try simp only [Act.put, List.setIfInBounds_toArray, List.set_cons_zero, List.set_cons_succ])
          refine wpAnyH_take (i := 32) (oi := ⟨some 64, _, _, _, _, _⟩) (v := ?_) rfl (by kernel_rfl) (by kernel_rfl) (by kernel_rfl) (fun _ _ _ h => h) (Or.inl ⟨by rfl, ?_⟩) (by assumption) ?_
          rotate_left
          · intro w hSw; (try dsimp only at hSw); go_simp; try with_reducible rfl
          (try simp only [Act.put, List.setIfInBounds_toArray, List.set_cons_zero, List.set_cons_succ])
          refine wpAnyH_take (i := 33) (oi := ⟨some 65, _, _, _, _, _⟩) (v := ?_) rfl (by kernel_rfl) (by kernel_rfl) (by kernel_rfl) (fun _ _ _ h => h) (Or.inl ⟨by rfl, ?_⟩) (by assumption) ?_
          rotate_left
          · intro w hSw; (try dsimp only at hSw); go_simp; try with_reducible rfl
          (try simp only [Act.put, List.setIfInBounds_toArray, List.set_cons_zero, List.set_cons_succ])
          refine wpAnyH_take (i := 34) (oi := ⟨some 66, _, _, _, _, _⟩) (v := ?_) rfl (by kernel_rfl) (by kernel_rfl) (by kernel_rfl) (fun _ _ _ h => h) (Or.inl ⟨by rfl, ?_⟩) (by assumption) ?_
          rotate_left
          · intro w hSw; (try dsimp only at hSw); go_simp; try with_reducible rfl
          (try simp only [Act.put, List.setIfInBounds_toArray, List.set_cons_zero, List.set_cons_succ])
          refine wpAnyH_take (i := 36) (oi := ⟨some 68, _, _, _, _, _⟩) (v := ?_) rfl (by kernel_rfl) (by kernel_rfl) (by kernel_rfl) (fun _ _ _ h => h) (Or.inl ⟨by rfl, ?_⟩) (by assumption) ?_
          rotate_left
          · intro w hSw; (try dsimp only at hSw); go_simp; try with_reducible rfl
          (try simp only [Act.put, List.setIfInBounds_toArray, List.set_cons_zero, List.set_cons_succ])
          refine wpAnyH_ready (rs := [35]) (by kernel_rfl) (by simp) ?_
          refine (AllReadyH.cons (o := ⟨some 67, _, _, _, _, _⟩) rfl (fun K hK => ?_) AllReadyH.nil)
          go_simp
          go_at_call 27
          refine (end_any g bv B T _ (St.sub hN17 (.cons_cons _ (.cons_cons _ (List.nil_sublist _)))) (by rw [HL.out]; exact hpT) (by rw [HL.out]; omega)).mono ?_
          rintro _ w5 ⟨rfl, h4⟩
          have hN18 := St.call0 hN17 h4
          clear h4
          refine hK.out _ _ ?_ (fun hHeld => ?_)
          · exact Loads.oldA (cs := x.cells) (n := 4) hN18 rfl hra.out
          clear hK K
          (try simp only [Act.put, List.setIfInBounds_toArray, List.set_cons_zero, List.set_cons_succ])
          refine wpAnyH_ready (rs := [37]) (by kernel_rfl) (by simp) ?_
          refine (AllReadyH.cons (o := ⟨some 69, _, _, _, _, _⟩) rfl (fun K hK => ?_) AllReadyH.nil)
          go_simp
          go_at_call 34
          refine (qend_any q ao n c T B _ (St.sub hN18 (.cons _ (.cons _ (.cons_cons _ (List.nil_sublist _))))) HL.out (by omega) hpT).mono ?_
          rintro _ w5 ⟨rfl, h4⟩
          have hN19 := St.call0 hN18 h4
          clear h4
          refine hK.out _ _ ?_ (fun hHeld => ?_)
          · exact Loads.oldA (cs := x.cells) (n := 4) hN19 rfl hra.out
          clear hK K
          (try simp only [Act.put, List.setIfInBounds_toArray, List.set_cons_zero, List.set_cons_succ])
          refine wpAnyH_take (i := 38) (oi := ⟨some 70, _, _, _, _, _⟩) (v := ?_) rfl (by kernel_rfl) (by kernel_rfl) (by kernel_rfl) (fun _ _ _ h => h) (Or.inl ⟨by rfl, ?_⟩) (by assumption) ?_
          rotate_left
          · intro w hSw; (try dsimp only at hSw); go_simp; try with_reducible rfl
          (try simp only [Act.put, List.setIfInBounds_toArray, List.set_cons_zero, List.set_cons_succ])
          refine wpAnyH_take (i := 39) (oi := ⟨some 71, _, _, _, _, _⟩) (v := ?_) rfl (by kernel_rfl) (by kernel_rfl) (by kernel_rfl) (fun _ _ _ h => h) (Or.inl ⟨by rfl, ?_⟩) (by assumption) ?_
          rotate_left
          · intro w hSw; (try dsimp only at hSw); go_simp; try with_reducible rfl
          (try simp only [Act.put, List.setIfInBounds_toArray, List.set_cons_zero, List.set_cons_succ])
          refine wpAnyH_done (by kernel_rfl) ?_ _
          clear hHeld
          go_wp2_with (first | go_big_skip | go_big_guard | fail)
          go_roundw
          case rel => exact ⟨k + 1, by omega, by go_num, by rw [← HT.out]; exact hN19⟩
          case measure => simp [intOf]; omega
    · have e : k = nl := by omega
      subst e
      have dk : decide ((k : Int) < (k : Int)) = false := by simp
      obtain ⟨T, hT⟩ : ∃ T, T = foldK B ks k := ⟨_, rfl⟩
      rw [← hT] at hst hpS
      have hpT := hpS
      rw [HL.out] at hpT
      clear hT
      go_wp2_with (first | go_big_skip | go_big_guard | (go_at_call 27; refine (end_any g bv B T _ (St.sub hst (.cons_cons _ (.cons_cons _ (List.nil_sublist _)))) (by rw [HL.out]; exact hpT) (by rw [HL.out]; omega)).mono ?_; rintro _ _ ⟨rfl, h4⟩; have ho20 := St.call0 hst h4; clear h4 hst) | (go_at_call 34; refine (qend_any q ao n c T B _ (St.sub ho20 (.cons _ (.cons _ (.cons_cons _ (List.nil_sublist _))))) HL.out (by omega) hpT).mono ?_; rintro _ _ ⟨rfl, h4⟩; have ho21 := St.call0 ho20 h4; clear h4 ho20) | (go_at_call 32; refine (left_any g bv B T _ (St.sub ho21 (.cons_cons _ (.cons_cons _ (List.nil_sublist _)))) (by rw [HL.out]; exact hpT) (by rw [HL.out]; omega)).mono ?_; rw [HL.out]; rintro _ _ ⟨rfl, h4⟩; have ho22 := St.call0 ho21 h4; clear h4 ho21) | (go_at_call 33; refine (qleft_any q ao n c T _ (St.sub ho22 (.cons _ (.cons _ (.cons_cons _ (List.nil_sublist _))))) hpT (by omega)).mono ?_; rintro _ _ ⟨rfl, h4⟩; have ho23 := St.call0 ho22 h4; clear h4 ho22) | (go_at_call 35; refine (kept_g ao gl n c B _ (ho23.all _ (.tail _ (.tail _ (.tail _ (.head _))))) (Rd.old ho23 hB) HL.out (by omega)).mono ?_; rintro _ _ ⟨rfl, h4⟩; have ho24 := St.call0 ho23 h4; clear h4 ho23) | (go_at_call 12; refine (awake_any _).mono ?_; rintro _ _ ⟨rfl, h4⟩; have ho25 := St.call0 ho24 h4; clear h4 ho24))
      go_ret
      exact ⟨by simp, ho25.nil⟩
theorem reads_law (ao : Option Addr) (n c : Nat) (al : Option Addr) (nl cl : Nat) (B : List UInt8) (ks : List KV) (w : World) (hB : Rd w (.slice ao n c) 1 n (bytesV B)) (hL : B.length = n) (hK : Rd w (.slice al nl cl) 4 nl (ks.flatMap KV.cells)) (hkl : ks.length = nl) (hok : ∀ x ∈ ks, x.Ok) :
    Calls Try.prog 6 #[.slice ao n c, .slice al nl cl] w fun e w' => e = .returned (.bool true) ∧ St w [] w' [] := by
  by_cases h : 1000 < n ∨ 60 < nl
  · exact reads_big ao n c al nl cl w (Nat.le_trans hB.bd.1 hB.bd.2.1) (Nat.le_trans hK.bd.1 hK.bd.2.1) h
  · exact reads_small ao n c al nl cl B ks w hB hL hK hkl hok (by omega) (by omega)
end
end Go.Proofs.Ytlgioloanjjndaa
namespace Go.Proofs.Ytlgioloanjjndaa
set_option linter.unusedVariables false
set_option linter.unusedSimpArgs false
open Go.RowKit Hp
attribute [local irreducible] Go.Calls
set_option maxRecDepth 100000
set_option maxHeartbeats 0
theorem Hp.St.mid {w0 w : World} {M : List Nat} (A B C : List HA) (h : St w0 M w (A ++ (B ++ C))) : St w0 M w (B ++ (A ++ C)) := h.perm (by
  rw [← List.append_assoc, ← List.append_assoc]
  exact List.Perm.append_right _ List.perm_append_comm)
instance fZA' : TyZ Try.prog 34 [.int .i64 0, .int .i64 0, .int .i64 0, .string ⟨#[]⟩, .slice none 0 0] := ⟨by kernel_rfl⟩
instance fZFt : TyZ Try.prog 50 [.int .i64 0, .int .i64 0] := ⟨by kernel_rfl⟩
theorem zero_in : -9223372036854775808 ≤ (0 : Int) ∧ (0 : Int) ≤ 9223372036854775807 := by decide
/-- What is known of an act that was read. -/
def goodA (a : AV) : Prop := a.B.length = a.m ∧ a.m ≤ 1000 ∧ a.s.length ≤ 1000 ∧ (-9223372036854775808 ≤ a.n ∧ a.n ≤ 9223372036854775807) ∧ (-9223372036854775808 ≤ a.size ∧ a.size ≤ 9223372036854775807)
theorem perm_raw (A C : List HA) (u x y : HA) : ((A ++ [u]) ++ ([x, y] ++ C)).Perm (x :: y :: u :: (A ++ C)) := by
  have h1 : ((A ++ [u]) ++ ([x, y] ++ C)).Perm ([x, y] ++ ((A ++ [u]) ++ C)) := by
    rw [← List.append_assoc, ← List.append_assoc]
    exact List.Perm.append_right _ List.perm_append_comm
  refine h1.trans ?_
  show (x :: y :: ((A ++ [u]) ++ C)).Perm _
  refine List.Perm.cons _ (List.Perm.cons _ ?_)
  rw [List.append_assoc]
  exact List.perm_middle
theorem again_ok {w w' : World} {a : AV} {h1 h2 : HA} {R : List HA} {g : Nat} {bw : Value} {X : WR} (h : St w [] w' (h1 :: h2 :: .rowP isB (.slice a.au a.m a.cu) 5 1 a.m (bytesV a.B) :: (R ++ wP g bw X))) (hg : goodA a) : a.Ok w' ∧ Off (.slice a.au a.m a.cu) (wF g bw X) := by
  obtain ⟨g1, g2, g3, g4, g5⟩ := hg
  refine ⟨⟨Rd.rowP h (.tail _ (.tail _ (.head _))), g1, g2, g3, g4, g5⟩, ?_⟩
  exact St.offFeet (h.sub (.cons _ (.cons _ (.cons_cons _ (List.sublist_append_right _ _)))))
section
attribute [local go_sem ↓] loadedInt loadedFt loadedE
theorem again_big (ao : Option Addr) (n c : Nat) (al : Option Addr) (nl cl : Nat) (w : World) (hn : n ≤ 9223372036854775807) (hnl : nl ≤ 9223372036854775807) (hb : 1000 < n ∨ 60 < nl) :
    Calls Try.prog 9 #[.slice ao n c, .slice al nl cl] w fun e w' => e = .returned (.bool true) ∧ St w [] w' [] := by
  have hst := St.refl w
  by_cases h1 : 1000 < n
  · have d1 : decide (1000 < (n : Int)) = true := decide_eq_true (by omega)
    go_enter Try.func9, Try.ntmps9
    go_wp2_with (first | go_big_skip | go_big_guard | (go_at_call 12; refine (awake_any _).mono ?_; rintro _ _ ⟨rfl, h4⟩; have hst1 := St.call0 hst h4; clear h4 hst))
    go_ret
    exact ⟨rfl, hst1.nil⟩
  · have d1 : decide (1000 < (n : Int)) = false := decide_eq_false (by omega)
    have d2 : decide (60 < (nl : Int)) = true := decide_eq_true (by omega)
    go_enter Try.func9, Try.ntmps9
    go_wp2_with (first | go_big_skip | go_big_guard | (go_at_call 12; refine (awake_any _).mono ?_; rintro _ _ ⟨rfl, h4⟩; have hst1 := St.call0 hst h4; clear h4 hst))
    go_ret
    exact ⟨rfl, hst1.nil⟩
theorem again_small (ao : Option Addr) (n c : Nat) (al : Option Addr) (nl cl : Nat) (B : List UInt8) (ks : List KV) (w : World) (hB : Rd w (.slice ao n c) 1 n (bytesV B)) (hL : B.length = n) (hK : Rd w (.slice al nl cl) 4 nl (ks.flatMap KV.cells)) (hkl : ks.length = nl) (hok : ∀ x ∈ ks, x.Ok) (hn : n ≤ 1000) (hnl : nl ≤ 60) :
    Calls Try.prog 9 #[.slice ao n c, .slice al nl cl] w fun e w' => e = .returned (.bool true) ∧ St w [] w' [] := by
  have hst := St.refl w
  have HL := hid hL
  have HB1 := hid (show B.length ≤ 1000 by omega)
  have HKL := hid hkl
  have HOK := hid hok
  have d1 : decide (1000 < (n : Int)) = false := decide_eq_false (by omega)
  have d2 : decide (60 < (nl : Int)) = false := decide_eq_false (by omega)
  clear hL hkl hok
  go_enter Try.func9, Try.ntmps9
  go_wp2_with (first | go_big_skip | go_big_guard | (go_at_call 12; refine (awake_any _).mono ?_; rintro _ _ ⟨rfl, h4⟩; have hst1 := St.call0 hst h4; clear h4 hst) | (go_at_call 22; refine (open_any ao n c B _ (Rd.old hst1 hB) HL.out (by omega)).mono ?_; rintro _ w2 ⟨r, bv, rfl, h4⟩; have hst2 := (St.call hst1 h4).sub (L' := rP r bv B ⟨0, 0, 0⟩) (List.sublist_append_left _ _); clear h4 hst1) | (go_at_call 10; refine (new_any _).mono ?_; rintro _ w3 ⟨g, rfl, h4⟩; have hst3 := St.call hst2 h4; clear h4 hst2))
  have hst4 : St w [] w3 (rP r bv B (foldK B ks 0) ++ wP g (.slice none 0 0) (0, B.take (foldK B ks 0).pos)) := by
    rw [foldK_zero]
    exact St.perm hst3 List.perm_append_comm
  clear hst3
  go_loopw [8] (fun i wr => ∃ (k : Nat) (bw : Value), k ≤ nl ∧ i = .int .i64 k ∧ St w [] wr (rP r bv B (foldK B ks k) ++ wP g bw (0, B.take (foldK B ks k).pos))) (fun i _ => nl - (intOf i).toNat)
  case atStart => exact ⟨0, _, Nat.zero_le _, rfl, hst4⟩
  case round =>
    clear hst4
    obtain ⟨k, bw, hk, rfl, hst⟩ := hrel
    have hpS := foldK_pos B ks k
    by_cases hkn : k < nl
    · obtain ⟨x, hxk⟩ : ∃ x, ks[k]? = some x := ⟨_, List.getElem?_eq_getElem (by rw [HKL.out]; exact hkn)⟩
      obtain ⟨b, off, rfl, _⟩ := hK.at hkn
      have hxo := HOK.out x (List.mem_of_getElem? hxk)
      have hra := asks_range hK hxk
      have hpT := foldK_pos B ks (k + 1)
      have hS1 := foldK_succ (B := B) hxk
      obtain ⟨S, hS⟩ : ∃ S, S = foldK B ks k := ⟨_, rfl⟩
      obtain ⟨T, hT⟩ : ∃ T, T = foldK B ks (k + 1) := ⟨_, rfl⟩
      rw [← hT, ← hS] at hS1
      rw [← hS] at hst hpS
      rw [← hT] at hpT
      have HS := hid hS1
      have HT := hid hT
      obtain ⟨X, hX⟩ : ∃ X, X = B.take S.pos := ⟨_, rfl⟩
      rw [← hX] at hst
      have HX := hid hX
      have c0 := hid (show w.cell? ⟨b, off + k * 4, none⟩ = some (.int .i64 x.kind) from by simpa using hra 0 _ rfl)
      have c1 := hid (show w.cell? ⟨b, off + k * 4 + 1, none⟩ = some (.int .i64 x.size) from hra 1 _ rfl)
      have c2 := hid (show w.cell? ⟨b, off + k * 4 + 2, none⟩ = some (.int .i64 x.low) from hra 2 _ rfl)
      have c3 := hid (show w.cell? ⟨b, off + k * 4 + 3, none⟩ = some (.int .i64 x.high) from hra 3 _ rfl)
      have hBl : B.length ≤ 100000 := by rw [HL.out]; omega
      have hkk : (k : Int) < (nl : Int) := by omega
      have dk : decide ((k : Int) < (nl : Int)) = true := decide_eq_true hkk
      have z4 : IntKind.i64.wrap ((k : Int) + 1) = (k : Int) + 1 := IntWalk.i64_in _ (by omega)
      clear hS hT hxk hS1 hX hra
      go_wp2_with (first | go_big_skip | go_big_guard | (go_at_call 31; refine (at_any r bv B S _ (St.sub hst (List.sublist_append_left _ _))).mono ?_; rintro _ _ ⟨rfl, h4⟩; have hst5 := St.call0 hst h4; clear h4 hst) | (go_at_call 26; refine (fault_any r bv B S _ (St.sub hst5 (List.sublist_append_left _ _))).mono ?_; rintro _ _ ⟨rfl, h4⟩; have hst6 := St.call0 hst5 h4; clear h4 hst5) | (refine wl_alloc hst6 rfl rfl ?_; intro gf _ hst7; clear hst6) | (refine wl_storeA [] hst7 rfl rfl rfl rfl rfl rfl rfl ?_; intro _ hst8; clear hst7))
      (try simp only [Act.put, List.setIfInBounds_toArray, List.set_cons_zero, List.set_cons_succ])
      go_cut [11] (fun a wx => ∃ gx, a = .pointer (some ⟨gx, 0, none⟩) ∧ St w [] wx (.blk gx 34 [.int .i64 x.kind, .int .i64 0, .int .i64 x.size, .string ⟨([] : List UInt8).toArray⟩, .slice none 0 0] :: .blk gf 50 [.int .i64 S.e, .int .i64 S.fa] :: (rP r bv B S ++ wP g bw (0, X))))
      case first =>
        have hD := hst8.drew
        clear hst8
        refine wp_region_held_drew (S := (fun w' => (loadVarH 3 ⟨b, off + k * 4, none⟩).run Try.prog w' = .ok (.int .i64 x.kind) w' ∧ (loadVarH 3 ⟨b, off + k * 4 + 1, none⟩).run Try.prog w' = .ok (.int .i64 x.size) w')) (by kernel_rfl) (by exact ⟨ldO hD (c0.out), ldO hD (c1.out)⟩) (fun hHeld => ?_)
        refine wpAnyH_take (i := 0) (oi := ⟨some 44, _, _, _, _, _⟩) (v := ?_) rfl (by kernel_rfl) (by kernel_rfl) (by kernel_rfl) (fun _ _ _ h => h) (Or.inl ⟨by rfl, ?_⟩) (by assumption) ?_
        rotate_left
        · intro w hSw; (try dsimp only at hSw); go_simp; try with_reducible rfl
        (try simp only [Act.put, List.setIfInBounds_toArray, List.set_cons_zero, List.set_cons_succ])
        refine wpAnyH_take (i := 1) (oi := ⟨some 45, _, _, _, _, _⟩) (v := ?_) rfl (by kernel_rfl) (by kernel_rfl) (by kernel_rfl) (fun _ _ _ h => h) (Or.inl ⟨by rfl, ?_⟩) (by assumption) ?_
        rotate_left
        · intro w hSw; (try dsimp only at hSw); go_simp; try with_reducible rfl
        (try simp only [Act.put, List.setIfInBounds_toArray, List.set_cons_zero, List.set_cons_succ])
        refine wpAnyH_take (i := 5) (oi := ⟨some 49, _, _, _, _, _⟩) (v := ?_) rfl (by kernel_rfl) (by kernel_rfl) (by kernel_rfl) (fun _ _ _ h => h) (Or.inl ⟨by rfl, ?_⟩) (by assumption) ?_
        rotate_left
        · intro w hSw; (try dsimp only at hSw); go_simp; try with_reducible rfl
        (try simp only [Act.put, List.setIfInBounds_toArray, List.set_cons_zero, List.set_cons_succ])
        refine wpAnyH_take (i := 6) (oi := ⟨some 50, _, _, _, _, _⟩) (v := ?_) rfl (by kernel_rfl) (by kernel_rfl) (by kernel_rfl) (fun _ _ _ h => h) (Or.inl ⟨by rfl, ?_⟩) (by assumption) ?_
        rotate_left
        · intro w hSw; (try dsimp only at hSw); go_simp; try with_reducible rfl
        (try simp only [Act.put, List.setIfInBounds_toArray, List.set_cons_zero, List.set_cons_succ])
        refine wpAnyH_take (i := 2) (oi := ⟨some 46, _, _, _, _, _⟩) (v := ?_) rfl (by kernel_rfl) (by kernel_rfl) (by kernel_rfl) (fun _ _ _ h => h) (Or.inl ⟨by rfl, ?_⟩) (by assumption) ?_
        rotate_left
        · intro w hSw; (try dsimp only at hSw); go_simp; try with_reducible rfl
        (try simp only [Act.put, List.setIfInBounds_toArray, List.set_cons_zero, List.set_cons_succ])
        refine wpAnyH_take (i := 7) (oi := ⟨some 51, _, _, _, _, _⟩) (v := ?_) rfl (by kernel_rfl) (by kernel_rfl) (by kernel_rfl) (fun _ _ _ h => h) (Or.inl ⟨by rfl, ?_⟩) (by assumption) ?_
        rotate_left
        · intro w hSw; (try dsimp only at hSw); go_simp; try with_reducible rfl
        (try simp only [Act.put, List.setIfInBounds_toArray, List.set_cons_zero, List.set_cons_succ])
        refine wpAnyH_take (i := 3) (oi := ⟨some 47, _, _, _, _, _⟩) (v := ?_) rfl (by kernel_rfl) (by kernel_rfl) (by kernel_rfl) (fun _ _ _ h => h) (Or.inl ⟨by rfl, ?_⟩) (by assumption) ?_
        rotate_left
        · intro w hSw; (try dsimp only at hSw); go_simp; try with_reducible rfl
        (try simp only [Act.put, List.setIfInBounds_toArray, List.set_cons_zero, List.set_cons_succ])
        refine wpAnyH_take (i := 8) (oi := ⟨some 52, _, _, _, _, _⟩) (v := ?_) rfl (by kernel_rfl) (by kernel_rfl) (by kernel_rfl) (fun _ _ _ h => h) (Or.inl ⟨by rfl, ?_⟩) (by assumption) ?_
        rotate_left
        · intro w hSw; (try dsimp only at hSw); go_simp; try with_reducible rfl
        (try simp only [Act.put, List.setIfInBounds_toArray, List.set_cons_zero, List.set_cons_succ])
        refine wpAnyH_take (i := 4) (oi := ⟨some 48, _, _, _, _, _⟩) (v := ?_) rfl (by kernel_rfl) (by kernel_rfl) (by kernel_rfl) (fun _ _ _ h => h) (Or.inl ⟨by rfl, ?_⟩) (by assumption) ?_
        rotate_left
        · intro w hSw; (try dsimp only at hSw); go_simp; try with_reducible rfl
        (try simp only [Act.put, List.setIfInBounds_toArray, List.set_cons_zero, List.set_cons_succ])
        refine wpAnyH_take (i := 9) (oi := ⟨some 53, _, _, _, _, _⟩) (v := ?_) rfl (by kernel_rfl) (by kernel_rfl) (by kernel_rfl) (fun _ _ _ h => h) (Or.inl ⟨by rfl, ?_⟩) (by assumption) ?_
        rotate_left
        · intro w hSw; (try dsimp only at hSw); go_simp; try with_reducible rfl
        (try simp only [Act.put, List.setIfInBounds_toArray, List.set_cons_zero, List.set_cons_succ])
        refine wpAnyH_ready (rs := [10, 11]) (by kernel_rfl) (by simp) ?_
        refine (AllReadyH.cons (o := ⟨some 54, _, _, _, _, _⟩) rfl (fun K hK => ?_) (AllReadyH.cons (o := ⟨some 11, _, _, _, _, _⟩) rfl (fun K hK => ?_) AllReadyH.nil))
        · rw [if_pos (by rfl)]
          refine ow_of_wl (ops := #[]) (by rfl) ?_
          refine wl_buildX (cs := [.int .i64 x.kind, .int .i64 0, .int .i64 x.size, .string ⟨([] : List UInt8).toArray⟩, .slice none 0 0]) [(0, .int .i64 x.kind), (2, .int .i64 x.size)] rfl rfl (by exact rfl) (by kernel_rfl) ?_
          refine q0_nil ?_
          refine hK.out _ _ ?_ (fun hHeld => ?_)
          · exact ⟨ldO hD (c0.out), ldO hD (c1.out)⟩
          clear hK K
          (try simp only [Act.put, List.setIfInBounds_toArray, List.set_cons_zero, List.set_cons_succ])
          refine wpAnyH_ready (rs := [11]) (by kernel_rfl) (by simp) ?_
          refine (AllReadyH.cons (o := ⟨some 11, _, _, _, _, _⟩) rfl (fun K hK => ?_) AllReadyH.nil)
          rw [if_pos (by rfl)]
          refine ow_of_wl (ops := #[]) (by rfl) ?_
          refine wl_alloc hD rfl rfl ?_
          intro gx _ hE1
          refine q0_nil ?_
          refine hK.out _ _ ?_ (fun hHeld => ?_)
          · exact ⟨ldO hE1 (c0.out), ldO hE1 (c1.out)⟩
          clear hK K
          (try simp only [Act.put, List.setIfInBounds_toArray, List.set_cons_zero, List.set_cons_succ])
          refine wpAnyH_ready (rs := [12]) (by kernel_rfl) (by simp) ?_
          refine (AllReadyH.cons (o := ⟨none, _, _, _, _, _⟩) rfl (fun K hK => ?_) AllReadyH.nil)
          rw [if_pos (by rfl)]
          refine ow_of_wl (ops := #[]) (by rfl) ?_
          refine wl_storeA [] hE1 rfl rfl rfl rfl rfl rfl rfl ?_
          intro _ hE2
          refine q0_nil ?_
          refine hK.out _ _ ?_ (fun hHeld => ?_)
          · exact ⟨ldO hE2 (c0.out), ldO hE2 (c1.out)⟩
          clear hK K
          (try simp only [Act.put, List.setIfInBounds_toArray, List.set_cons_zero, List.set_cons_succ])
          refine wpAnyH_done (by kernel_rfl) ?_ _
          clear hHeld
          go_wp2_with (first | go_big_skip | go_big_guard | fail)
          go_meet
          exact ⟨gx, rfl, hE2⟩
        · rw [if_pos (by rfl)]
          refine ow_of_wl (ops := #[]) (by rfl) ?_
          refine wl_alloc hD rfl rfl ?_
          intro gx _ hE3
          refine q0_nil ?_
          refine hK.out _ _ ?_ (fun hHeld => ?_)
          · exact ⟨ldO hE3 (c0.out), ldO hE3 (c1.out)⟩
          clear hK K
          (try simp only [Act.put, List.setIfInBounds_toArray, List.set_cons_zero, List.set_cons_succ])
          refine wpAnyH_ready (rs := [10]) (by kernel_rfl) (by simp) ?_
          refine (AllReadyH.cons (o := ⟨some 54, _, _, _, _, _⟩) rfl (fun K hK => ?_) AllReadyH.nil)
          rw [if_pos (by rfl)]
          refine ow_of_wl (ops := #[]) (by rfl) ?_
          refine wl_buildX (cs := [.int .i64 x.kind, .int .i64 0, .int .i64 x.size, .string ⟨([] : List UInt8).toArray⟩, .slice none 0 0]) [(0, .int .i64 x.kind), (2, .int .i64 x.size)] rfl rfl (by exact rfl) (by kernel_rfl) ?_
          refine q0_nil ?_
          refine hK.out _ _ ?_ (fun hHeld => ?_)
          · exact ⟨ldO hE3 (c0.out), ldO hE3 (c1.out)⟩
          clear hK K
          (try simp only [Act.put, List.setIfInBounds_toArray, List.set_cons_zero, List.set_cons_succ])
          refine wpAnyH_ready (rs := [12]) (by kernel_rfl) (by simp) ?_
          refine (AllReadyH.cons (o := ⟨none, _, _, _, _, _⟩) rfl (fun K hK => ?_) AllReadyH.nil)
          rw [if_pos (by rfl)]
          refine ow_of_wl (ops := #[]) (by rfl) ?_
          refine wl_storeA [] hE3 rfl rfl rfl rfl rfl rfl rfl ?_
          intro _ hE4
          refine q0_nil ?_
          refine hK.out _ _ ?_ (fun hHeld => ?_)
          · exact ⟨ldO hE4 (c0.out), ldO hE4 (c1.out)⟩
          clear hK K
          (try simp only [Act.put, List.setIfInBounds_toArray, List.set_cons_zero, List.set_cons_succ])
          refine wpAnyH_done (by kernel_rfl) ?_ _
          clear hHeld
          go_wp2_with (first | go_big_skip | go_big_guard | fail)
          go_meet
          exact ⟨gx, rfl, hE4⟩
      case rest =>
        clear hst8
        obtain ⟨gx, rfl, hst9⟩ := hcut
        go_upto_block 2 with (first | go_big_skip | go_big_guard | (refine wl_loadE rfl rfl rfl ?_; first | refine ⟨_, Loads.at [] hst9 rfl, ?_⟩))
        (try simp only [Act.put, List.setIfInBounds_toArray, List.set_cons_zero, List.set_cons_succ])
        go_cut [56] (fun _ wx => ∃ a : AV, St w [] wx (.blk gx 34 a.cells :: .blk gf 50 [.int .i64 S.e, .int .i64 S.fa] :: .rowP isB (.slice a.au a.m a.cu) 5 1 a.m (bytesV a.B) :: (rP r bv B T ++ wP g bw (0, X))) ∧ Hid (goodA a) ∧ Hid (T.e = 0 → a.step (0, X) = (0, B.take T.pos)) ∧ Hid (T.e ≠ 0 → a.n = 0 ∧ a.s = [] ∧ a.m = 0))
        case first =>
          by_cases hk0 : x.kind = 0
          · have hk := hk0
            obtain ⟨V, hV, hVb, hag, hdf⟩ := again0 (S := S) hk HB1.out
            rw [← HS.out] at hV
            have HV := hid hV
            have HAG := hid hag
            have HDF := hid hdf
            have HVB := hid hVb
            clear hV hag hdf hVb
            have e0 : (x.kind == 0) = true := by rw [hk]; rfl
            have HKD := hid hk
            clear hk
            go_wp2_with (first | go_big_skip | go_big_guard | (refine wl_loadE rfl rfl rfl ?_; first | refine ⟨_, Loads.at [] hst9 rfl, ?_⟩))
            have hD := hst9.drew
            clear hst9
            refine wp_region_held_drew (S := (fun w' => (loadVarH 3 ⟨gx, 2, none⟩).run Try.prog w' = .ok (.int .i64 x.size) w' ∧ (loadVarH 3 ⟨b, off + k * 4 + 2, none⟩).run Try.prog w' = .ok (.int .i64 x.low) w' ∧ (loadVarH 3 ⟨b, off + k * 4 + 3, none⟩).run Try.prog w' = .ok (.int .i64 x.high) w')) (by kernel_rfl) (by exact ⟨ldS [] hD rfl, ldO hD (c2.out), ldO hD (c3.out)⟩) (fun hHeld => ?_)
            refine wpAnyH_take (i := 0) (oi := ⟨some 59, _, _, _, _, _⟩) (v := ?_) rfl (by kernel_rfl) (by kernel_rfl) (by kernel_rfl) (fun _ _ _ h => h) (Or.inl ⟨by rfl, ?_⟩) (by assumption) ?_
            rotate_left
            · intro w hSw; (try dsimp only at hSw); go_simp; try with_reducible rfl
            (try simp only [Act.put, List.setIfInBounds_toArray, List.set_cons_zero, List.set_cons_succ])
            refine wpAnyH_take (i := 1) (oi := ⟨some 60, _, _, _, _, _⟩) (v := ?_) rfl (by kernel_rfl) (by kernel_rfl) (by kernel_rfl) (fun _ _ _ h => h) (Or.inl ⟨by rfl, ?_⟩) (by assumption) ?_
            rotate_left
            · intro w hSw; (try dsimp only at hSw); go_simp; try with_reducible rfl
            (try simp only [Act.put, List.setIfInBounds_toArray, List.set_cons_zero, List.set_cons_succ])
            refine wpAnyH_take (i := 3) (oi := ⟨some 62, _, _, _, _, _⟩) (v := ?_) rfl (by kernel_rfl) (by kernel_rfl) (by kernel_rfl) (fun _ _ _ h => h) (Or.inl ⟨by rfl, ?_⟩) (by assumption) ?_
            rotate_left
            · intro w hSw; (try dsimp only at hSw); go_simp; try with_reducible rfl
            (try simp only [Act.put, List.setIfInBounds_toArray, List.set_cons_zero, List.set_cons_succ])
            refine wpAnyH_take (i := 4) (oi := ⟨some 63, _, _, _, _, _⟩) (v := ?_) rfl (by kernel_rfl) (by kernel_rfl) (by kernel_rfl) (fun _ _ _ h => h) (Or.inl ⟨by rfl, ?_⟩) (by assumption) ?_
            rotate_left
            · intro w hSw; (try dsimp only at hSw); go_simp; try with_reducible rfl
            (try simp only [Act.put, List.setIfInBounds_toArray, List.set_cons_zero, List.set_cons_succ])
            refine wpAnyH_take (i := 8) (oi := ⟨some 67, _, _, _, _, _⟩) (v := ?_) rfl (by kernel_rfl) (by kernel_rfl) (by kernel_rfl) (fun _ _ _ h => h) (Or.inl ⟨by rfl, ?_⟩) (by assumption) ?_
            rotate_left
            · intro w hSw; (try dsimp only at hSw); go_simp; try with_reducible rfl
            (try simp only [Act.put, List.setIfInBounds_toArray, List.set_cons_zero, List.set_cons_succ])
            refine wpAnyH_take (i := 9) (oi := ⟨some 68, _, _, _, _, _⟩) (v := ?_) rfl (by kernel_rfl) (by kernel_rfl) (by kernel_rfl) (fun _ _ _ h => h) (Or.inl ⟨by rfl, ?_⟩) (by assumption) ?_
            rotate_left
            · intro w hSw; (try dsimp only at hSw); go_simp; try with_reducible rfl
            (try simp only [Act.put, List.setIfInBounds_toArray, List.set_cons_zero, List.set_cons_succ])
            refine wpAnyH_take (i := 2) (oi := ⟨some 61, _, _, _, _, _⟩) (v := ?_) rfl (by kernel_rfl) (by kernel_rfl) (by kernel_rfl) (fun _ _ _ h => h) (Or.inl ⟨by rfl, ?_⟩) (by assumption) ?_
            rotate_left
            · intro w hSw; (try dsimp only at hSw); go_simp; try with_reducible rfl
            (try simp only [Act.put, List.setIfInBounds_toArray, List.set_cons_zero, List.set_cons_succ])
            refine wpAnyH_take (i := 5) (oi := ⟨some 64, _, _, _, _, _⟩) (v := ?_) rfl (by kernel_rfl) (by kernel_rfl) (by kernel_rfl) (fun _ _ _ h => h) (Or.inl ⟨by rfl, ?_⟩) (by assumption) ?_
            rotate_left
            · intro w hSw; (try dsimp only at hSw); go_simp; try with_reducible rfl
            (try simp only [Act.put, List.setIfInBounds_toArray, List.set_cons_zero, List.set_cons_succ])
            refine wpAnyH_take (i := 10) (oi := ⟨some 69, _, _, _, _, _⟩) (v := ?_) rfl (by kernel_rfl) (by kernel_rfl) (by kernel_rfl) (fun _ _ _ h => h) (Or.inl ⟨by rfl, ?_⟩) (by assumption) ?_
            rotate_left
            · intro w hSw; (try dsimp only at hSw); go_simp; try with_reducible rfl
            (try simp only [Act.put, List.setIfInBounds_toArray, List.set_cons_zero, List.set_cons_succ])
            refine wpAnyH_take (i := 6) (oi := ⟨some 65, _, _, _, _, _⟩) (v := ?_) rfl (by kernel_rfl) (by kernel_rfl) (by kernel_rfl) (fun _ _ _ h => h) (Or.inl ⟨by rfl, ?_⟩) (by assumption) ?_
            rotate_left
            · intro w hSw; (try dsimp only at hSw); go_simp; try with_reducible rfl
            (try simp only [Act.put, List.setIfInBounds_toArray, List.set_cons_zero, List.set_cons_succ])
            refine wpAnyH_take (i := 11) (oi := ⟨some 70, _, _, _, _, _⟩) (v := ?_) rfl (by kernel_rfl) (by kernel_rfl) (by kernel_rfl) (fun _ _ _ h => h) (Or.inl ⟨by rfl, ?_⟩) (by assumption) ?_
            rotate_left
            · intro w hSw; (try dsimp only at hSw); go_simp; try with_reducible rfl
            (try simp only [Act.put, List.setIfInBounds_toArray, List.set_cons_zero, List.set_cons_succ])
            refine wpAnyH_take (i := 7) (oi := ⟨some 66, _, _, _, _, _⟩) (v := ?_) rfl (by kernel_rfl) (by kernel_rfl) (by kernel_rfl) (fun _ _ _ h => h) (Or.inl ⟨by rfl, ?_⟩) (by assumption) ?_
            rotate_left
            · intro w hSw; (try dsimp only at hSw); go_simp; try with_reducible rfl
            (try simp only [Act.put, List.setIfInBounds_toArray, List.set_cons_zero, List.set_cons_succ])
            refine wpAnyH_take (i := 12) (oi := ⟨some 71, _, _, _, _, _⟩) (v := ?_) rfl (by kernel_rfl) (by kernel_rfl) (by kernel_rfl) (fun _ _ _ h => h) (Or.inl ⟨by rfl, ?_⟩) (by assumption) ?_
            rotate_left
            · intro w hSw; (try dsimp only at hSw); go_simp; try with_reducible rfl
            (try simp only [Act.put, List.setIfInBounds_toArray, List.set_cons_zero, List.set_cons_succ])
            refine wpAnyH_ready (rs := [13]) (by kernel_rfl) (by simp) ?_
            refine (AllReadyH.cons (o := ⟨some 72, _, _, _, _, _⟩) rfl (fun K hK => ?_) AllReadyH.nil)
            go_simp
            go_at_call 23
            have hm := St.mid [.blk gx 34 [.int .i64 x.kind, .int .i64 0, .int .i64 x.size, .string ⟨([] : List UInt8).toArray⟩, .slice none 0 0], .blk gf 50 [.int .i64 S.e, .int .i64 S.fa]] (rP r bv B S) (wP g bw (0, X)) hD
            have hSS := (St.sub (L' := rP r bv B S) hm (List.sublist_append_left _ _)).selfF
            refine (rNum_any r bv B S x.size x.low x.high _ hSS hpS hBl hxo).mono ?_
            rw [HV.out]
            rintro _ w5 ⟨rfl, h4⟩
            have hm2 := St.callF (rP r bv B S) hm h4
            have hE5 : St w [] w5 (.blk gx 34 [.int .i64 x.kind, .int .i64 0, .int .i64 x.size, .string ⟨([] : List UInt8).toArray⟩, .slice none 0 0] :: .blk gf 50 [.int .i64 S.e, .int .i64 S.fa] :: (rP r bv B T ++ wP g bw (0, X))) := St.mid (rP r bv B T) [.blk gx 34 [.int .i64 x.kind, .int .i64 0, .int .i64 x.size, .string ⟨([] : List UInt8).toArray⟩, .slice none 0 0], .blk gf 50 [.int .i64 S.e, .int .i64 S.fa]] (wP g bw (0, X)) hm2
            clear h4 hm hSS hm2
            refine hK.out _ _ ?_ (fun hHeld => ?_)
            · exact ⟨ldS [] hE5 rfl, ldO hE5 (c2.out), ldO hE5 (c3.out)⟩
            clear hK K
            (try simp only [Act.put, List.setIfInBounds_toArray, List.set_cons_zero, List.set_cons_succ])
            refine wpAnyH_take (i := 14) (oi := ⟨some 73, _, _, _, _, _⟩) (v := ?_) rfl (by kernel_rfl) (by kernel_rfl) (by kernel_rfl) (fun _ _ _ h => h) (Or.inl ⟨by rfl, ?_⟩) (by assumption) ?_
            rotate_left
            · intro w hSw; (try dsimp only at hSw); go_simp; try with_reducible rfl
            (try simp only [Act.put, List.setIfInBounds_toArray, List.set_cons_zero, List.set_cons_succ])
            refine wpAnyH_ready (rs := [15]) (by kernel_rfl) (by simp) ?_
            refine (AllReadyH.cons (o := ⟨none, _, _, _, _, _⟩) rfl (fun K hK => ?_) AllReadyH.nil)
            rw [if_pos (by rfl)]
            refine ow_of_wl (ops := #[]) (by rfl) ?_
            refine wl_store [] hE5 rfl rfl rfl (v := .int .i64 V) rfl rfl rfl (by show (2 : Nat) ≤ 5; decide) ?_
            intro _ h9
            have hE6 : St w [] _ (.blk gx 34 [.int .i64 x.kind, .int .i64 V, .int .i64 x.size, .string ⟨([] : List UInt8).toArray⟩, .slice none 0 0] :: .blk gf 50 [.int .i64 S.e, .int .i64 S.fa] :: (rP r bv B T ++ wP g bw (0, X))) := h9
            clear h9
            refine q0_nil ?_
            refine hK.out _ _ ?_ (fun hHeld => ?_)
            · exact ⟨ldS [] hE6 rfl, ldO hE6 (c2.out), ldO hE6 (c3.out)⟩
            clear hK K
            (try simp only [Act.put, List.setIfInBounds_toArray, List.set_cons_zero, List.set_cons_succ])
            refine wpAnyH_done (by kernel_rfl) ?_ _
            clear hHeld
            go_wp2_with (first | go_big_skip | go_big_guard | fail)
            go_meet
            exact ⟨⟨x.kind, V, x.size, [], none, 0, 0, []⟩, (St.perm (St.nilPQ isB 5 1 hE6) ((List.Perm.swap _ _ _).trans (List.Perm.cons _ (List.Perm.swap _ _ _)))), hid ⟨rfl, Nat.zero_le _, Nat.zero_le _, by have := HVB.out; dsimp only; omega, hxo⟩, hid (by rw [HX.out, HS.out]; exact HAG.out), hid (by rw [HS.out]; exact fun h => ⟨HDF.out h, rfl, rfl⟩)⟩
          · by_cases hk1 : x.kind = 1
            · have hk := hk1
              obtain ⟨V, hV, hVb, hag, hdf⟩ := again1 (S := S) hk HB1.out
              rw [← HS.out] at hV
              have HV := hid hV
              have HAG := hid hag
              have HDF := hid hdf
              have HVB := hid hVb
              clear hV hag hdf hVb
              have e0 : (x.kind == 0) = false := by rw [hk]; rfl
              have e1 : (x.kind == 1) = true := by rw [hk]; rfl
              have HKD := hid hk
              clear hk
              go_wp2_with (first | go_big_skip | go_big_guard | (refine wl_loadE rfl rfl rfl ?_; first | refine ⟨_, Loads.at [] hst9 rfl, ?_⟩) | (go_at_call 24; have hm := St.mid [.blk gx 34 [.int .i64 x.kind, .int .i64 0, .int .i64 x.size, .string ⟨([] : List UInt8).toArray⟩, .slice none 0 0], .blk gf 50 [.int .i64 S.e, .int .i64 S.fa]] (rP r bv B S) (wP g bw (0, X)) hst9; have hSS := (St.sub (L' := rP r bv B S) hm (List.sublist_append_left _ _)).selfF; refine (rText_any r bv B S x.size _ hSS hpS hBl hxo).mono ?_; rw [HV.out]; rintro _ w5 ⟨rfl, h4⟩; have hm2 := St.callF (rP r bv B S) hm h4; have hst10 : St w [] w5 (.blk gx 34 [.int .i64 x.kind, .int .i64 0, .int .i64 x.size, .string ⟨([] : List UInt8).toArray⟩, .slice none 0 0] :: .blk gf 50 [.int .i64 S.e, .int .i64 S.fa] :: (rP r bv B T ++ wP g bw (0, X))) := St.mid (rP r bv B T) [.blk gx 34 [.int .i64 x.kind, .int .i64 0, .int .i64 x.size, .string ⟨([] : List UInt8).toArray⟩, .slice none 0 0], .blk gf 50 [.int .i64 S.e, .int .i64 S.fa]] (wP g bw (0, X)) hm2; clear h4 hm hSS hm2 hst9) | (refine wl_store [] hst10 rfl rfl rfl (v := .string ⟨V.toArray⟩) rfl rfl rfl (by show (4 : Nat) ≤ 5; decide) ?_; intro _ h9; have hst11 : St w [] _ (.blk gx 34 [.int .i64 x.kind, .int .i64 0, .int .i64 x.size, .string ⟨(V : List UInt8).toArray⟩, .slice none 0 0] :: .blk gf 50 [.int .i64 S.e, .int .i64 S.fa] :: (rP r bv B T ++ wP g bw (0, X))) := h9; clear h9 hst10))
              go_wp2_with (first | go_big_skip | go_big_guard | fail)
              go_meet
              exact ⟨⟨x.kind, 0, x.size, V, none, 0, 0, []⟩, (St.perm (St.nilPQ isB 5 1 hst11) ((List.Perm.swap _ _ _).trans (List.Perm.cons _ (List.Perm.swap _ _ _)))), hid ⟨rfl, Nat.zero_le _, by have := HVB.out; dsimp only; omega, zero_in, hxo⟩, hid (by rw [HX.out, HS.out]; exact HAG.out), hid (by rw [HS.out]; exact fun h => ⟨rfl, HDF.out h, rfl⟩)⟩
            · by_cases hk2 : x.kind = 2
              · have hk := hk2
                obtain ⟨V, hV, hVb, hag, hdf⟩ := again2 (S := S) hk HB1.out
                rw [← HS.out] at hV
                have HV := hid hV
                have HAG := hid hag
                have HDF := hid hdf
                have HVB := hid hVb
                clear hV hag hdf hVb
                have e0 : (x.kind == 0) = false := by rw [hk]; rfl
                have e1 : (x.kind == 1) = false := by rw [hk]; rfl
                have e2 : (x.kind == 2) = true := by rw [hk]; rfl
                have HKD := hid hk
                clear hk
                go_wp2_with (first | go_big_skip | go_big_guard | (refine wl_loadE rfl rfl rfl ?_; first | refine ⟨_, Loads.at [] hst9 rfl, ?_⟩) | (go_at_call 36; have hm := St.mid [.blk gx 34 [.int .i64 x.kind, .int .i64 0, .int .i64 x.size, .string ⟨([] : List UInt8).toArray⟩, .slice none 0 0], .blk gf 50 [.int .i64 S.e, .int .i64 S.fa]] (rP r bv B S) (wP g bw (0, X)) hst9; have hSS := (St.sub (L' := rP r bv B S) hm (List.sublist_append_left _ _)).selfF; refine (rRaw_any r bv B S x.size _ hSS hpS hBl hxo).mono ?_; rw [HV.out]; rintro _ w5 ⟨u, rfl, h4⟩; have hm2 := St.callF (rP r bv B S) hm h4; have hst10 : St w [] w5 (.blk gx 34 [.int .i64 x.kind, .int .i64 0, .int .i64 x.size, .string ⟨([] : List UInt8).toArray⟩, .slice none 0 0] :: .blk gf 50 [.int .i64 S.e, .int .i64 S.fa] :: .rowP isB u 5 1 V.length (bytesV V) :: (rP r bv B T ++ wP g bw (0, X))) := St.perm hm2 (perm_raw (rP r bv B T) (wP g bw (0, X)) (.rowP isB u 5 1 V.length (bytesV V)) (.blk gx 34 [.int .i64 x.kind, .int .i64 0, .int .i64 x.size, .string ⟨([] : List UInt8).toArray⟩, .slice none 0 0]) (.blk gf 50 [.int .i64 S.e, .int .i64 S.fa])); clear h4 hm hSS hm2 hst9; obtain ⟨au, cu, rfl⟩ := St.rowPSliceF [_, _] hst10) | (refine wl_store [] hst10 rfl rfl rfl (v := .slice au V.length cu) rfl rfl rfl (by show (5 : Nat) ≤ 5; decide) ?_; intro _ h9; have hst11 : St w [] _ (.blk gx 34 [.int .i64 x.kind, .int .i64 0, .int .i64 x.size, .string ⟨([] : List UInt8).toArray⟩, .slice au V.length cu] :: .blk gf 50 [.int .i64 S.e, .int .i64 S.fa] :: .rowP isB (.slice au V.length cu) 5 1 V.length (bytesV V) :: (rP r bv B T ++ wP g bw (0, X))) := h9; clear h9 hst10))
                go_wp2_with (first | go_big_skip | go_big_guard | fail)
                go_meet
                exact ⟨⟨x.kind, 0, x.size, [], au, V.length, cu, V⟩, hst11, hid ⟨rfl, HVB.out, Nat.zero_le _, zero_in, hxo⟩, hid (by rw [HX.out, HS.out]; exact fun h => HAG.out h au V.length cu), hid (by rw [HS.out]; exact fun h => ⟨rfl, rfl, by show V.length = 0; rw [HDF.out h]; rfl⟩)⟩
              · by_cases hk3 : x.kind = 3
                · have hk := hk3
                  obtain ⟨hV, hag⟩ := again3 (S := S) hk HB1.out hpS
                  rw [← HS.out] at hV
                  have HV := hid hV
                  have HAG := hid hag
                  clear hV hag
                  have e0 : (x.kind == 0) = false := by rw [hk]; rfl
                  have e1 : (x.kind == 1) = false := by rw [hk]; rfl
                  have e2 : (x.kind == 2) = false := by rw [hk]; rfl
                  have e3 : (x.kind == 3) = true := by rw [hk]; rfl
                  have HKD := hid hk
                  clear hk
                  go_wp2_with (first | go_big_skip | go_big_guard | (refine wl_loadE rfl rfl rfl ?_; first | refine ⟨_, Loads.at [] hst9 rfl, ?_⟩) | (go_at_call 25; have hm := St.mid [.blk gx 34 [.int .i64 x.kind, .int .i64 0, .int .i64 x.size, .string ⟨([] : List UInt8).toArray⟩, .slice none 0 0], .blk gf 50 [.int .i64 S.e, .int .i64 S.fa]] (rP r bv B S) (wP g bw (0, X)) hst9; have hSS := (St.sub (L' := rP r bv B S) hm (List.sublist_append_left _ _)).selfF; refine (rRest_any r bv B S _ hSS hpS hBl).mono ?_; rw [HV.out]; rintro _ w5 ⟨rfl, h4⟩; have hm2 := St.callF (rP r bv B S) hm h4; have hst10 : St w [] w5 (.blk gx 34 [.int .i64 x.kind, .int .i64 0, .int .i64 x.size, .string ⟨([] : List UInt8).toArray⟩, .slice none 0 0] :: .blk gf 50 [.int .i64 S.e, .int .i64 S.fa] :: (rP r bv B T ++ wP g bw (0, X))) := St.mid (rP r bv B T) [.blk gx 34 [.int .i64 x.kind, .int .i64 0, .int .i64 x.size, .string ⟨([] : List UInt8).toArray⟩, .slice none 0 0], .blk gf 50 [.int .i64 S.e, .int .i64 S.fa]] (wP g bw (0, X)) hm2; clear h4 hm hSS hm2 hst9) | (go_at_call 31; refine (at_any r bv B T _ (St.sub hst10 (.cons _ (.cons _ (List.sublist_append_left _ _))))).mono ?_; rintro _ _ ⟨rfl, h4⟩; have hst11 := St.call0 hst10 h4; clear h4 hst10) | (refine wl_store [] hst11 rfl rfl rfl (v := .int .i64 (T.pos : Int)) rfl rfl rfl (by show (3 : Nat) ≤ 5; decide) ?_; intro _ h9; have hst12 : St w [] _ (.blk gx 34 [.int .i64 x.kind, .int .i64 0, .int .i64 (T.pos : Int), .string ⟨([] : List UInt8).toArray⟩, .slice none 0 0] :: .blk gf 50 [.int .i64 S.e, .int .i64 S.fa] :: (rP r bv B T ++ wP g bw (0, X))) := h9; clear h9 hst11))
                  go_wp2_with (first | go_big_skip | go_big_guard | fail)
                  go_meet
                  exact ⟨⟨x.kind, 0, (T.pos : Int), [], none, 0, 0, []⟩, (St.perm (St.nilPQ isB 5 1 hst12) ((List.Perm.swap _ _ _).trans (List.Perm.cons _ (List.Perm.swap _ _ _)))), hid ⟨rfl, Nat.zero_le _, Nat.zero_le _, zero_in, by have := HB1.out; dsimp only; omega⟩, hid (by rw [HX.out, HS.out]; exact (by rw [← HS.out]; have h8 := HAG.out; rw [← HS.out] at h8; exact h8)), hid (by rw [HS.out]; exact fun _ => ⟨rfl, rfl, rfl⟩)⟩
                · obtain ⟨hV, hag⟩ := again4 (B := B) (S := S) hk0 hk1 hk2 hk3
                  rw [← HS.out] at hV
                  have HV := hid hV
                  have HAG := hid hag
                  clear hV hag
                  have e0 : (x.kind == 0) = false := by simpa using hk0
                  have e1 : (x.kind == 1) = false := by simpa using hk1
                  have e2 : (x.kind == 2) = false := by simpa using hk2
                  have e3 : (x.kind == 3) = false := by simpa using hk3
                  have hTS := HV.out
                  clear HV
                  go_wp2_with (first | go_big_skip | go_big_guard | (refine wl_loadE rfl rfl rfl ?_; first | refine ⟨_, Loads.at [] hst9 rfl, ?_⟩))
                  go_meet
                  rw [hTS]
                  exact ⟨⟨x.kind, 0, x.size, [], none, 0, 0, []⟩, (St.perm (St.nilPQ isB 5 1 hst9) ((List.Perm.swap _ _ _).trans (List.Perm.cons _ (List.Perm.swap _ _ _)))), hid ⟨rfl, Nat.zero_le _, Nat.zero_le _, zero_in, hxo⟩, hid (fun _ => by rw [HAG.out, HX.out]), hid (fun _ => ⟨rfl, rfl, rfl⟩)⟩
        case rest =>
          clear hst9
          obtain ⟨a, hst10, HG, HAG, HDF⟩ := hcut
          have hmono : S.pos ≤ T.pos := by rw [HS.out]; exact again_pos hpS
          have hn9 : T.pos ≤ n := by rw [← HL.out]; exact hpT
          have m1 : decide ((T.pos : Int) < (S.pos : Int)) = false := decide_eq_false (by omega)
          have m2 : decide ((n : Int) < (T.pos : Int)) = false := decide_eq_false (by omega)
          have m3 : IntKind.i64.wrap ((T.pos : Int) + ((n : Int) - (T.pos : Int))) = (n : Int) := by rw [show (T.pos : Int) + ((n : Int) - (T.pos : Int)) = (n : Int) by omega]; exact IntWalk.i64_in _ (by omega)
          have m4 : ((n : Int) != (n : Int)) = false := bne_self_eq_false _
          by_cases hT0 : T.e = 0
          · have t0 : (T.e == 0) = true := by simpa using hT0
            have hag := hid (HAG.out hT0)
            clear hT0 HAG HDF
            go_wp2_with (first | go_big_skip | go_big_guard | (first | (go_at_call 31; refine (at_any r bv B T _ (St.sub hst10 (.cons _ (.cons _ (.cons _ (List.sublist_append_left _ _)))))).mono ?_; rintro _ _ ⟨rfl, h4⟩; have hst11 := St.call0 hst10 h4; clear h4 hst10) | (go_at_call 31; refine (at_any r bv B T _ (St.sub hst11 (.cons _ (.cons _ (.cons _ (List.sublist_append_left _ _)))))).mono ?_; rintro _ _ ⟨rfl, h4⟩; have hst12 := St.call0 hst11 h4; clear h4 hst11) | (go_at_call 31; refine (at_any r bv B T _ (St.sub hst12 (.cons _ (.cons _ (.cons _ (List.sublist_append_left _ _)))))).mono ?_; rintro _ _ ⟨rfl, h4⟩; have hst13 := St.call0 hst12 h4; clear h4 hst12)) | (go_at_call 32; refine (left_any r bv B T _ (St.sub hst13 (.cons _ (.cons _ (.cons _ (List.sublist_append_left _ _))))) hpT (by have := HB1.out; omega)).mono ?_; rw [HL.out]; rintro _ _ ⟨rfl, h4⟩; have hst14 := St.call0 hst13 h4; clear h4 hst13) | (go_at_call 26; refine (fault_any r bv B T _ (St.sub hst14 (.cons _ (.cons _ (.cons _ (List.sublist_append_left _ _)))))).mono ?_; rintro _ _ ⟨rfl, h4⟩; have hst15 := St.call0 hst14 h4; clear h4 hst14) | (refine wl_loadE rfl rfl rfl ?_; first | refine ⟨_, Loads.atA (a.cells) [] hst15 (rfl) (rfl), ?_⟩) | (go_at_call 13; have hA := again_ok (a := a) (R := rP r bv B T) (g := g) (bw := bw) (X := (0, X)) hst15 HG.out; have hst16 : St w [] _ (wP g bw (0, X) ++ ([.blk gx 34 a.cells, .blk gf 50 [.int .i64 S.e, .int .i64 S.fa], .rowP isB (.slice a.au a.m a.cu) 5 1 a.m (bytesV a.B)] ++ rP r bv B T)) := St.perm (L := [.blk gx 34 a.cells, .blk gf 50 [.int .i64 S.e, .int .i64 S.fa], .rowP isB (.slice a.au a.m a.cu) 5 1 a.m (bytesV a.B)] ++ rP r bv B T ++ wP g bw (0, X)) hst15 List.perm_append_comm; refine (lwrite_any g bw (0, X) a _ (St.sub (L' := wP g bw (0, X)) hst16 (List.sublist_append_left _ _)).selfF (by show X.length ≤ 65536; rw [HX.out, List.length_take]; have := HB1.out; omega) hA.1 hA.2).mono ?_; rw [hag.out]; rintro _ w9 ⟨rfl, bw', h4⟩; have hst17 := St.callF (wP g bw (0, X)) hst16 h4; clear h4 hst15 hst16 hA))
            go_roundw
            case rel => exact ⟨k + 1, bw', by omega, by go_num, by rw [← HT.out]; exact St.perm (St.sub (L' := wP g bw' (0, B.take T.pos) ++ rP r bv B T) hst17 (List.Sublist.append (List.Sublist.refl _) (.cons _ (.cons _ (.cons _ (List.Sublist.refl _)))))) List.perm_append_comm⟩
            case measure => simp [intOf]; omega
          · by_cases hs0 : S.e = 0
            · have t0 : (T.e == 0) = false := by simpa using hT0
              have HEN := hid (endR_bad (B := B) hT0)
              have hpe : T.pos = S.pos := by rw [HS.out]; exact again_bad (by rw [← HS.out]; exact hT0)
              have hdf := HDF.out hT0
              have HXT := hid (show X = B.take T.pos by rw [HX.out, hpe])
              obtain ⟨kd, nn, sz, ss, au, mm, cu, bb⟩ := a
              obtain ⟨q1, q2, q3⟩ := hdf
              dsimp only at q1 q2 q3
              subst q1 q2 q3
              clear hT0 HAG HDF HG
              have s0 : (S.e != 0) = false := by rw [hs0]; rfl
              have p1 : ((T.pos : Int) == (S.pos : Int)) = true := by rw [hpe]; exact beq_self_eq_true _
              clear hs0 hpe
              have g1 : (T.e == T.e) = true := beq_self_eq_true _
              have g2 : (T.fa == T.fa) = true := beq_self_eq_true _
              have hst10' : St w [] _ (.blk gx 34 [.int .i64 kd, .int .i64 0, .int .i64 sz, .string ⟨([] : List UInt8).toArray⟩, .slice au 0 cu] :: .blk gf 50 [.int .i64 S.e, .int .i64 S.fa] :: .rowP isB (.slice au 0 cu) 5 1 0 (bytesV bb) :: (rP r bv B T ++ wP g bw (0, X))) := hst10
              clear hst10
              go_wp2_with (first | go_big_skip | go_big_guard | (first | (go_at_call 31; refine (at_any r bv B T _ (St.sub hst10' (.cons _ (.cons _ (.cons _ (List.sublist_append_left _ _)))))).mono ?_; rintro _ _ ⟨rfl, h4⟩; have hst11 := St.call0 hst10' h4; clear h4 hst10') | (go_at_call 31; refine (at_any r bv B T _ (St.sub hst11 (.cons _ (.cons _ (.cons _ (List.sublist_append_left _ _)))))).mono ?_; rintro _ _ ⟨rfl, h4⟩; have hst12 := St.call0 hst11 h4; clear h4 hst11) | (go_at_call 31; refine (at_any r bv B T _ (St.sub hst15 (.cons _ (.cons _ (.cons _ (List.sublist_append_left _ _)))))).mono ?_; rintro _ _ ⟨rfl, h4⟩; have hst16 := St.call0 hst15 h4; clear h4 hst15) | (go_at_call 31; refine (at_any r bv B T _ (St.sub hst12 (.cons _ (.cons _ (.cons _ (List.sublist_append_left _ _)))))).mono ?_; rintro _ _ ⟨rfl, h4⟩; have hst13 := St.call0 hst12 h4; clear h4 hst12)) | (go_at_call 32; refine (left_any r bv B T _ (St.sub hst13 (.cons _ (.cons _ (.cons _ (List.sublist_append_left _ _))))) hpT (by have := HB1.out; omega)).mono ?_; rw [HL.out]; rintro _ _ ⟨rfl, h4⟩; have hst14 := St.call0 hst13 h4; clear h4 hst13) | (go_at_call 26; refine (fault_any r bv B T _ (St.sub hst14 (.cons _ (.cons _ (.cons _ (List.sublist_append_left _ _)))))).mono ?_; rintro _ _ ⟨rfl, h4⟩; have hst15 := St.call0 hst14 h4; clear h4 hst14) | (refine wl_loadE rfl rfl rfl ?_; first | refine ⟨_, Loads.at [] hst15 rfl, ?_⟩))
              have hD := hst16.drew
              clear hst16
              refine wp_region_held_drew (S := (fun w' => (loadVarH 27 ⟨gf, 0, none⟩).run Try.prog w' = .ok (.int .i64 S.e) w')) (by kernel_rfl) (by exact ldS [_] hD rfl) (fun hHeld => ?_)
              refine wpAnyH_take (i := 0) (oi := ⟨some 143, _, _, _, _, _⟩) (v := ?_) rfl (by kernel_rfl) (by kernel_rfl) (by kernel_rfl) (fun _ _ _ h => h) (Or.inl ⟨by rfl, ?_⟩) (by assumption) ?_
              rotate_left
              · intro w hSw; (try dsimp only at hSw); go_simp; try with_reducible rfl
              (try simp only [Act.put, List.setIfInBounds_toArray, List.set_cons_zero, List.set_cons_succ])
              refine wpAnyH_take (i := 1) (oi := ⟨some 144, _, _, _, _, _⟩) (v := ?_) rfl (by kernel_rfl) (by kernel_rfl) (by kernel_rfl) (fun _ _ _ h => h) (Or.inl ⟨by rfl, ?_⟩) (by assumption) ?_
              rotate_left
              · intro w hSw; (try dsimp only at hSw); go_simp; try with_reducible rfl
              (try simp only [Act.put, List.setIfInBounds_toArray, List.set_cons_zero, List.set_cons_succ])
              refine wpAnyH_take (i := 2) (oi := ⟨some 145, _, _, _, _, _⟩) (v := ?_) rfl (by kernel_rfl) (by kernel_rfl) (by kernel_rfl) (fun _ _ _ h => h) (Or.inl ⟨by rfl, ?_⟩) (by assumption) ?_
              rotate_left
              · intro w hSw; (try dsimp only at hSw); go_simp; try with_reducible rfl
              (try simp only [Act.put, List.setIfInBounds_toArray, List.set_cons_zero, List.set_cons_succ])
              refine wpAnyH_take (i := 3) (oi := ⟨some 146, _, _, _, _, _⟩) (v := ?_) rfl (by kernel_rfl) (by kernel_rfl) (by kernel_rfl) (fun _ _ _ h => h) (Or.inl ⟨by rfl, ?_⟩) (by assumption) ?_
              rotate_left
              · intro w hSw; (try dsimp only at hSw); go_simp; try with_reducible rfl
              (try simp only [Act.put, List.setIfInBounds_toArray, List.set_cons_zero, List.set_cons_succ])
              refine wpAnyH_take (i := 4) (oi := ⟨some 147, _, _, _, _, _⟩) (v := ?_) rfl (by kernel_rfl) (by kernel_rfl) (by kernel_rfl) (fun _ _ _ h => h) (Or.inl ⟨by rfl, ?_⟩) (by assumption) ?_
              rotate_left
              · intro w hSw; (try dsimp only at hSw); go_simp; try with_reducible rfl
              (try simp only [Act.put, List.setIfInBounds_toArray, List.set_cons_zero, List.set_cons_succ])
              refine wpAnyH_take (i := 5) (oi := ⟨some 148, _, _, _, _, _⟩) (v := ?_) rfl (by kernel_rfl) (by kernel_rfl) (by kernel_rfl) (fun _ _ _ h => h) (Or.inl ⟨by rfl, ?_⟩) (by assumption) ?_
              rotate_left
              · intro w hSw; (try dsimp only at hSw); go_simp; try with_reducible rfl
              (try simp only [Act.put, List.setIfInBounds_toArray, List.set_cons_zero, List.set_cons_succ])
              refine wpAnyH_take (i := 6) (oi := ⟨some 149, _, _, _, _, _⟩) (v := ?_) rfl (by kernel_rfl) (by kernel_rfl) (by kernel_rfl) (fun _ _ _ h => h) (Or.inl ⟨by rfl, ?_⟩) (by assumption) ?_
              rotate_left
              · intro w hSw; (try dsimp only at hSw); go_simp; try with_reducible rfl
              (try simp only [Act.put, List.setIfInBounds_toArray, List.set_cons_zero, List.set_cons_succ])
              refine wpAnyH_take (i := 7) (oi := ⟨some 150, _, _, _, _, _⟩) (v := undef) rfl (by kernel_rfl) (by kernel_rfl) (by kernel_rfl) (fun _ _ _ h => h) (Or.inr ⟨by rfl, rfl⟩) (by assumption) ?_
              (try simp only [Act.put, List.setIfInBounds_toArray, List.set_cons_zero, List.set_cons_succ])
              refine wpAnyH_take (i := 9) (oi := ⟨some 152, _, _, _, _, _⟩) (v := undef) rfl (by kernel_rfl) (by kernel_rfl) (by kernel_rfl) (fun _ _ _ h => h) (Or.inr ⟨by rfl, rfl⟩) (by assumption) ?_
              (try simp only [Act.put, List.setIfInBounds_toArray, List.set_cons_zero, List.set_cons_succ])
              refine wpAnyH_ready (rs := [8]) (by kernel_rfl) (by simp) ?_
              refine (AllReadyH.cons (o := ⟨some 151, _, _, _, _, _⟩) rfl (fun K hK => ?_) AllReadyH.nil)
              rw [if_neg (by rw [show Region.wanted _ _ = false from rfl]; exact Bool.false_ne_true)]
              refine hK.out _ _ ?_ (fun hHeld => ?_)
              · exact ldS [_] hD rfl
              clear hK K
              (try simp only [Act.put, List.setIfInBounds_toArray, List.set_cons_zero, List.set_cons_succ])
              refine wpAnyH_take (i := 10) (oi := ⟨some 153, _, _, _, _, _⟩) (v := undef) rfl (by kernel_rfl) (by kernel_rfl) (by kernel_rfl) (fun _ _ _ h => h) (Or.inr ⟨by rfl, rfl⟩) (by assumption) ?_
              (try simp only [Act.put, List.setIfInBounds_toArray, List.set_cons_zero, List.set_cons_succ])
              refine wpAnyH_take (i := 11) (oi := ⟨some 154, _, _, _, _, _⟩) (v := ?_) rfl (by kernel_rfl) (by kernel_rfl) (by kernel_rfl) (fun _ _ _ h => h) (Or.inl ⟨by rfl, ?_⟩) (by assumption) ?_
              rotate_left
              · intro w hSw; (try dsimp only at hSw); go_simp; try with_reducible rfl
              (try simp only [Act.put, List.setIfInBounds_toArray, List.set_cons_zero, List.set_cons_succ])
              refine wpAnyH_take (i := 12) (oi := ⟨some 155, _, _, _, _, _⟩) (v := ?_) rfl (by kernel_rfl) (by kernel_rfl) (by kernel_rfl) (fun _ _ _ h => h) (Or.inl ⟨by rfl, ?_⟩) (by assumption) ?_
              rotate_left
              · intro w hSw; (try dsimp only at hSw); go_simp; try with_reducible rfl
              (try simp only [Act.put, List.setIfInBounds_toArray, List.set_cons_zero, List.set_cons_succ])
              refine wpAnyH_take (i := 13) (oi := ⟨some 156, _, _, _, _, _⟩) (v := ?_) rfl (by kernel_rfl) (by kernel_rfl) (by kernel_rfl) (fun _ _ _ h => h) (Or.inl ⟨by rfl, ?_⟩) (by assumption) ?_
              rotate_left
              · intro w hSw; (try dsimp only at hSw); go_simp; try with_reducible rfl
              (try simp only [Act.put, List.setIfInBounds_toArray, List.set_cons_zero, List.set_cons_succ])
              refine wpAnyH_take (i := 14) (oi := ⟨some 157, _, _, _, _, _⟩) (v := ?_) rfl (by kernel_rfl) (by kernel_rfl) (by kernel_rfl) (fun _ _ _ h => h) (Or.inl ⟨by rfl, ?_⟩) (by assumption) ?_
              rotate_left
              · intro w hSw; (try dsimp only at hSw); go_simp; try with_reducible rfl
              (try simp only [Act.put, List.setIfInBounds_toArray, List.set_cons_zero, List.set_cons_succ])
              refine wpAnyH_take (i := 16) (oi := ⟨some 159, _, _, _, _, _⟩) (v := ?_) rfl (by kernel_rfl) (by kernel_rfl) (by kernel_rfl) (fun _ _ _ h => h) (Or.inl ⟨by rfl, ?_⟩) (by assumption) ?_
              rotate_left
              · intro w hSw; (try dsimp only at hSw); go_simp; try with_reducible rfl
              (try simp only [Act.put, List.setIfInBounds_toArray, List.set_cons_zero, List.set_cons_succ])
              refine wpAnyH_ready (rs := [15]) (by kernel_rfl) (by simp) ?_
              refine (AllReadyH.cons (o := ⟨some 158, _, _, _, _, _⟩) rfl (fun K hK => ?_) AllReadyH.nil)
              go_simp
              go_at_call 27
              refine (end_any r bv B T _ (St.sub hD (.cons _ (.cons _ (.cons _ (List.sublist_append_left _ _))))) hpT (by have := HB1.out; omega)).mono ?_
              rw [HEN.out]
              rintro _ _ ⟨rfl, h4⟩
              have hE7 := St.call0 hD h4
              clear h4
              refine hK.out _ _ ?_ (fun hHeld => ?_)
              · exact ldS [_] hE7 rfl
              clear hK K
              (try simp only [Act.put, List.setIfInBounds_toArray, List.set_cons_zero, List.set_cons_succ])
              refine wpAnyH_ready (rs := [17]) (by kernel_rfl) (by simp) ?_
              refine (AllReadyH.cons (o := ⟨some 160, _, _, _, _, _⟩) rfl (fun K hK => ?_) AllReadyH.nil)
              go_simp
              go_at_call 26
              refine (fault_any r bv B T _ (St.sub hE7 (.cons _ (.cons _ (.cons _ (List.sublist_append_left _ _)))))).mono ?_
              rintro _ _ ⟨rfl, h4⟩
              have hE8 := St.call0 hE7 h4
              clear h4
              refine hK.out _ _ ?_ (fun hHeld => ?_)
              · exact ldS [_] hE8 rfl
              clear hK K
              (try simp only [Act.put, List.setIfInBounds_toArray, List.set_cons_zero, List.set_cons_succ])
              refine wpAnyH_take (i := 18) (oi := ⟨some 161, _, _, _, _, _⟩) (v := ?_) rfl (by kernel_rfl) (by kernel_rfl) (by kernel_rfl) (fun _ _ _ h => h) (Or.inl ⟨by rfl, ?_⟩) (by assumption) ?_
              rotate_left
              · intro w hSw; (try dsimp only at hSw); go_simp; try with_reducible rfl
              (try simp only [Act.put, List.setIfInBounds_toArray, List.set_cons_zero, List.set_cons_succ])
              refine wpAnyH_take (i := 19) (oi := ⟨some 162, _, _, _, _, _⟩) (v := ?_) rfl (by kernel_rfl) (by kernel_rfl) (by kernel_rfl) (fun _ _ _ h => h) (Or.inl ⟨by rfl, ?_⟩) (by assumption) ?_
              rotate_left
              · intro w hSw; (try dsimp only at hSw); go_simp; try with_reducible rfl
              (try simp only [Act.put, List.setIfInBounds_toArray, List.set_cons_zero, List.set_cons_succ])
              refine wpAnyH_done (by kernel_rfl) ?_ _
              clear hHeld
              go_wp2_with (first | go_big_skip | go_big_guard | fail)
              go_roundw
              case rel => exact ⟨k + 1, bw, by omega, by go_num, by rw [← HT.out, ← HXT.out]; exact St.sub hE8 (.cons _ (.cons _ (.cons _ (List.Sublist.refl _))))⟩
              case measure => simp [intOf]; omega
            · have t0 : (T.e == 0) = false := by simpa using hT0
              have HEN := hid (endR_bad (B := B) hT0)
              have hpe : T.pos = S.pos := by rw [HS.out]; exact again_bad (by rw [← HS.out]; exact hT0)
              have hdf := HDF.out hT0
              have HXT := hid (show X = B.take T.pos by rw [HX.out, hpe])
              obtain ⟨kd, nn, sz, ss, au, mm, cu, bb⟩ := a
              obtain ⟨q1, q2, q3⟩ := hdf
              dsimp only at q1 q2 q3
              subst q1 q2 q3
              clear hT0 HAG HDF HG
              have hTS : T = S := by rw [HS.out]; exact again_old hs0
              have s0 : (S.e != 0) = true := by simpa using hs0
              have f1 : (S.e == S.e) = true := beq_self_eq_true _
              have f2 : (S.fa == S.fa) = true := beq_self_eq_true _
              have p1 : ((T.pos : Int) == (S.pos : Int)) = true := by rw [hpe]; exact beq_self_eq_true _
              clear hs0 hpe
              have HTS := hid hTS
              clear hTS
              have g1 : (T.e == T.e) = true := beq_self_eq_true _
              have g2 : (T.fa == T.fa) = true := beq_self_eq_true _
              have hst10' : St w [] _ (.blk gx 34 [.int .i64 kd, .int .i64 0, .int .i64 sz, .string ⟨([] : List UInt8).toArray⟩, .slice au 0 cu] :: .blk gf 50 [.int .i64 S.e, .int .i64 S.fa] :: .rowP isB (.slice au 0 cu) 5 1 0 (bytesV bb) :: (rP r bv B T ++ wP g bw (0, X))) := hst10
              clear hst10
              go_wp2_with (first | go_big_skip | go_big_guard | (first | (go_at_call 31; refine (at_any r bv B T _ (St.sub hst10' (.cons _ (.cons _ (.cons _ (List.sublist_append_left _ _)))))).mono ?_; rintro _ _ ⟨rfl, h4⟩; have hst11 := St.call0 hst10' h4; clear h4 hst10') | (go_at_call 31; refine (at_any r bv B T _ (St.sub hst11 (.cons _ (.cons _ (.cons _ (List.sublist_append_left _ _)))))).mono ?_; rintro _ _ ⟨rfl, h4⟩; have hst12 := St.call0 hst11 h4; clear h4 hst11) | (go_at_call 31; refine (at_any r bv B T _ (St.sub hst15 (.cons _ (.cons _ (.cons _ (List.sublist_append_left _ _)))))).mono ?_; rintro _ _ ⟨rfl, h4⟩; have hst16 := St.call0 hst15 h4; clear h4 hst15) | (go_at_call 31; refine (at_any r bv B T _ (St.sub hst12 (.cons _ (.cons _ (.cons _ (List.sublist_append_left _ _)))))).mono ?_; rintro _ _ ⟨rfl, h4⟩; have hst13 := St.call0 hst12 h4; clear h4 hst12)) | (go_at_call 32; refine (left_any r bv B T _ (St.sub hst13 (.cons _ (.cons _ (.cons _ (List.sublist_append_left _ _))))) hpT (by have := HB1.out; omega)).mono ?_; rw [HL.out]; rintro _ _ ⟨rfl, h4⟩; have hst14 := St.call0 hst13 h4; clear h4 hst13) | (go_at_call 26; refine (fault_any r bv B T _ (St.sub hst14 (.cons _ (.cons _ (.cons _ (List.sublist_append_left _ _)))))).mono ?_; rintro _ _ ⟨rfl, h4⟩; have hst15 := St.call0 hst14 h4; clear h4 hst14) | (refine wl_loadE rfl rfl rfl ?_; first | refine ⟨_, Loads.at [] hst15 rfl, ?_⟩))
              have hD := hst16.drew
              clear hst16
              refine wp_region_held_drew (S := (fun w' => (loadVarH 27 ⟨gf, 0, none⟩).run Try.prog w' = .ok (.int .i64 S.e) w' ∧ (loadVarH 50 ⟨gf, 0, none⟩).run Try.prog w' = .ok (.agg (List.toArray ([.int .i64 S.e, .int .i64 S.fa]))) w')) (by kernel_rfl) (by exact ⟨ldS [_] hD rfl, ldA ([.int .i64 S.e, .int .i64 S.fa]) [_] hD (rfl) (rfl)⟩) (fun hHeld => ?_)
              refine wpAnyH_take (i := 0) (oi := ⟨some 143, _, _, _, _, _⟩) (v := ?_) rfl (by kernel_rfl) (by kernel_rfl) (by kernel_rfl) (fun _ _ _ h => h) (Or.inl ⟨by rfl, ?_⟩) (by assumption) ?_
              rotate_left
              · intro w hSw; (try dsimp only at hSw); go_simp; try with_reducible rfl
              (try simp only [Act.put, List.setIfInBounds_toArray, List.set_cons_zero, List.set_cons_succ])
              refine wpAnyH_take (i := 1) (oi := ⟨some 144, _, _, _, _, _⟩) (v := ?_) rfl (by kernel_rfl) (by kernel_rfl) (by kernel_rfl) (fun _ _ _ h => h) (Or.inl ⟨by rfl, ?_⟩) (by assumption) ?_
              rotate_left
              · intro w hSw; (try dsimp only at hSw); go_simp; try with_reducible rfl
              (try simp only [Act.put, List.setIfInBounds_toArray, List.set_cons_zero, List.set_cons_succ])
              refine wpAnyH_take (i := 2) (oi := ⟨some 145, _, _, _, _, _⟩) (v := ?_) rfl (by kernel_rfl) (by kernel_rfl) (by kernel_rfl) (fun _ _ _ h => h) (Or.inl ⟨by rfl, ?_⟩) (by assumption) ?_
              rotate_left
              · intro w hSw; (try dsimp only at hSw); go_simp; try with_reducible rfl
              (try simp only [Act.put, List.setIfInBounds_toArray, List.set_cons_zero, List.set_cons_succ])
              refine wpAnyH_take (i := 3) (oi := ⟨some 146, _, _, _, _, _⟩) (v := ?_) rfl (by kernel_rfl) (by kernel_rfl) (by kernel_rfl) (fun _ _ _ h => h) (Or.inl ⟨by rfl, ?_⟩) (by assumption) ?_
              rotate_left
              · intro w hSw; (try dsimp only at hSw); go_simp; try with_reducible rfl
              (try simp only [Act.put, List.setIfInBounds_toArray, List.set_cons_zero, List.set_cons_succ])
              refine wpAnyH_take (i := 4) (oi := ⟨some 147, _, _, _, _, _⟩) (v := ?_) rfl (by kernel_rfl) (by kernel_rfl) (by kernel_rfl) (fun _ _ _ h => h) (Or.inl ⟨by rfl, ?_⟩) (by assumption) ?_
              rotate_left
              · intro w hSw; (try dsimp only at hSw); go_simp; try with_reducible rfl
              (try simp only [Act.put, List.setIfInBounds_toArray, List.set_cons_zero, List.set_cons_succ])
              refine wpAnyH_take (i := 5) (oi := ⟨some 148, _, _, _, _, _⟩) (v := ?_) rfl (by kernel_rfl) (by kernel_rfl) (by kernel_rfl) (fun _ _ _ h => h) (Or.inl ⟨by rfl, ?_⟩) (by assumption) ?_
              rotate_left
              · intro w hSw; (try dsimp only at hSw); go_simp; try with_reducible rfl
              (try simp only [Act.put, List.setIfInBounds_toArray, List.set_cons_zero, List.set_cons_succ])
              refine wpAnyH_take (i := 6) (oi := ⟨some 149, _, _, _, _, _⟩) (v := ?_) rfl (by kernel_rfl) (by kernel_rfl) (by kernel_rfl) (fun _ _ _ h => h) (Or.inl ⟨by rfl, ?_⟩) (by assumption) ?_
              rotate_left
              · intro w hSw; (try dsimp only at hSw); go_simp; try with_reducible rfl
              (try simp only [Act.put, List.setIfInBounds_toArray, List.set_cons_zero, List.set_cons_succ])
              refine wpAnyH_take (i := 7) (oi := ⟨some 150, _, _, _, _, _⟩) (v := ?_) rfl (by kernel_rfl) (by kernel_rfl) (by kernel_rfl) (fun _ _ _ h => h) (Or.inl ⟨by rfl, ?_⟩) (by assumption) ?_
              rotate_left
              · intro w hSw; (try dsimp only at hSw); go_simp; try with_reducible rfl
              (try simp only [Act.put, List.setIfInBounds_toArray, List.set_cons_zero, List.set_cons_succ])
              refine wpAnyH_take (i := 9) (oi := ⟨some 152, _, _, _, _, _⟩) (v := ?_) rfl (by kernel_rfl) (by kernel_rfl) (by kernel_rfl) (fun _ _ _ h => h) (Or.inl ⟨by rfl, ?_⟩) (by assumption) ?_
              rotate_left
              · intro w hSw; (try dsimp only at hSw); go_simp; try with_reducible rfl
              (try simp only [Act.put, List.setIfInBounds_toArray, List.set_cons_zero, List.set_cons_succ])
              refine wpAnyH_ready (rs := [8]) (by kernel_rfl) (by simp) ?_
              refine (AllReadyH.cons (o := ⟨some 151, _, _, _, _, _⟩) rfl (fun K hK => ?_) AllReadyH.nil)
              go_simp
              go_at_call 26
              refine (fault_any r bv B T _ (St.sub hD (.cons _ (.cons _ (.cons _ (List.sublist_append_left _ _)))))).mono ?_
              rw [HTS.out]
              rintro _ _ ⟨rfl, h4⟩
              have hE9 := St.call0 hD h4
              clear h4
              refine hK.out _ _ ?_ (fun hHeld => ?_)
              · exact ⟨ldS [_] hE9 rfl, ldA ([.int .i64 S.e, .int .i64 S.fa]) [_] hE9 (rfl) (rfl)⟩
              clear hK K
              (try simp only [Act.put, List.setIfInBounds_toArray, List.set_cons_zero, List.set_cons_succ])
              refine wpAnyH_take (i := 10) (oi := ⟨some 153, _, _, _, _, _⟩) (v := ?_) rfl (by kernel_rfl) (by kernel_rfl) (by kernel_rfl) (fun _ _ _ h => h) (Or.inl ⟨by rfl, ?_⟩) (by assumption) ?_
              rotate_left
              · intro w hSw; (try dsimp only at hSw); go_simp; try with_reducible rfl
              (try simp only [Act.put, List.setIfInBounds_toArray, List.set_cons_zero, List.set_cons_succ])
              refine wpAnyH_take (i := 11) (oi := ⟨some 154, _, _, _, _, _⟩) (v := ?_) rfl (by kernel_rfl) (by kernel_rfl) (by kernel_rfl) (fun _ _ _ h => h) (Or.inl ⟨by rfl, ?_⟩) (by assumption) ?_
              rotate_left
              · intro w hSw; (try dsimp only at hSw); go_simp; try with_reducible rfl
              (try simp only [Act.put, List.setIfInBounds_toArray, List.set_cons_zero, List.set_cons_succ])
              refine wpAnyH_take (i := 12) (oi := ⟨some 155, _, _, _, _, _⟩) (v := ?_) rfl (by kernel_rfl) (by kernel_rfl) (by kernel_rfl) (fun _ _ _ h => h) (Or.inl ⟨by rfl, ?_⟩) (by assumption) ?_
              rotate_left
              · intro w hSw; (try dsimp only at hSw); go_simp; try with_reducible rfl
              (try simp only [Act.put, List.setIfInBounds_toArray, List.set_cons_zero, List.set_cons_succ])
              refine wpAnyH_take (i := 13) (oi := ⟨some 156, _, _, _, _, _⟩) (v := ?_) rfl (by kernel_rfl) (by kernel_rfl) (by kernel_rfl) (fun _ _ _ h => h) (Or.inl ⟨by rfl, ?_⟩) (by assumption) ?_
              rotate_left
              · intro w hSw; (try dsimp only at hSw); go_simp; try with_reducible rfl
              (try simp only [Act.put, List.setIfInBounds_toArray, List.set_cons_zero, List.set_cons_succ])
              refine wpAnyH_take (i := 14) (oi := ⟨some 157, _, _, _, _, _⟩) (v := ?_) rfl (by kernel_rfl) (by kernel_rfl) (by kernel_rfl) (fun _ _ _ h => h) (Or.inl ⟨by rfl, ?_⟩) (by assumption) ?_
              rotate_left
              · intro w hSw; (try dsimp only at hSw); go_simp; try with_reducible rfl
              (try simp only [Act.put, List.setIfInBounds_toArray, List.set_cons_zero, List.set_cons_succ])
              refine wpAnyH_take (i := 16) (oi := ⟨some 159, _, _, _, _, _⟩) (v := ?_) rfl (by kernel_rfl) (by kernel_rfl) (by kernel_rfl) (fun _ _ _ h => h) (Or.inl ⟨by rfl, ?_⟩) (by assumption) ?_
              rotate_left
              · intro w hSw; (try dsimp only at hSw); go_simp; try with_reducible rfl
              (try simp only [Act.put, List.setIfInBounds_toArray, List.set_cons_zero, List.set_cons_succ])
              refine wpAnyH_ready (rs := [15]) (by kernel_rfl) (by simp) ?_
              refine (AllReadyH.cons (o := ⟨some 158, _, _, _, _, _⟩) rfl (fun K hK => ?_) AllReadyH.nil)
              go_simp
              go_at_call 27
              refine (end_any r bv B T _ (St.sub hE9 (.cons _ (.cons _ (.cons _ (List.sublist_append_left _ _))))) hpT (by have := HB1.out; omega)).mono ?_
              rw [HEN.out]
              rintro _ _ ⟨rfl, h4⟩
              have hE10 := St.call0 hE9 h4
              clear h4
              refine hK.out _ _ ?_ (fun hHeld => ?_)
              · exact ⟨ldS [_] hE10 rfl, ldA ([.int .i64 S.e, .int .i64 S.fa]) [_] hE10 (rfl) (rfl)⟩
              clear hK K
              (try simp only [Act.put, List.setIfInBounds_toArray, List.set_cons_zero, List.set_cons_succ])
              refine wpAnyH_ready (rs := [17]) (by kernel_rfl) (by simp) ?_
              refine (AllReadyH.cons (o := ⟨some 160, _, _, _, _, _⟩) rfl (fun K hK => ?_) AllReadyH.nil)
              go_simp
              go_at_call 26
              refine (fault_any r bv B T _ (St.sub hE10 (.cons _ (.cons _ (.cons _ (List.sublist_append_left _ _)))))).mono ?_
              rintro _ _ ⟨rfl, h4⟩
              have hE11 := St.call0 hE10 h4
              clear h4
              refine hK.out _ _ ?_ (fun hHeld => ?_)
              · exact ⟨ldS [_] hE11 rfl, ldA ([.int .i64 S.e, .int .i64 S.fa]) [_] hE11 (rfl) (rfl)⟩
              clear hK K
              (try simp only [Act.put, List.setIfInBounds_toArray, List.set_cons_zero, List.set_cons_succ])
              refine wpAnyH_take (i := 18) (oi := ⟨some 161, _, _, _, _, _⟩) (v := ?_) rfl (by kernel_rfl) (by kernel_rfl) (by kernel_rfl) (fun _ _ _ h => h) (Or.inl ⟨by rfl, ?_⟩) (by assumption) ?_
              rotate_left
              · intro w hSw; (try dsimp only at hSw); go_simp; try with_reducible rfl
              (try simp only [Act.put, List.setIfInBounds_toArray, List.set_cons_zero, List.set_cons_succ])
              refine wpAnyH_take (i := 19) (oi := ⟨some 162, _, _, _, _, _⟩) (v := ?_) rfl (by kernel_rfl) (by kernel_rfl) (by kernel_rfl) (fun _ _ _ h => h) (Or.inl ⟨by rfl, ?_⟩) (by assumption) ?_
              rotate_left
              · intro w hSw; (try dsimp only at hSw); go_simp; try with_reducible rfl
              (try simp only [Act.put, List.setIfInBounds_toArray, List.set_cons_zero, List.set_cons_succ])
              refine wpAnyH_done (by kernel_rfl) ?_ _
              clear hHeld
              go_wp2_with (first | go_big_skip | go_big_guard | fail)
              go_roundw
              case rel => exact ⟨k + 1, bw, by omega, by go_num, by rw [← HT.out, ← HXT.out]; exact St.sub hE11 (.cons _ (.cons _ (.cons _ (List.Sublist.refl _))))⟩
              case measure => simp [intOf]; omega
    · have e : k = nl := by omega
      subst e
      have dk : decide ((k : Int) < (k : Int)) = false := by simp
      obtain ⟨T, hT⟩ : ∃ T, T = foldK B ks k := ⟨_, rfl⟩
      rw [← hT] at hst hpS
      have hpT := hpS
      rw [HL.out] at hpT
      obtain ⟨X, hX⟩ : ∃ X, X = B.take T.pos := ⟨_, rfl⟩
      rw [← hX] at hst
      have HX := hid hX
      have HXl := hid (show X.length = T.pos by rw [hX, List.length_take]; omega)
      have HO := hid (show outW ((0, X) : WR) = X from rfl)
      have hBd := hB.bd
      have hc1 := hBd.1
      have hc2 := hBd.2.1
      have n1 : ((T.pos : Nat) : Int).toNat = T.pos := by omega
      have n3 : (T.pos : Int) ≤ (c : Int) := by omega
      have n5 : 0 ≤ (T.pos : Int) := by omega
      clear hT hX hBd
      rcases hB.casesF with ⟨he, h0, hb0⟩ | ⟨A, c', he, _⟩
      · simp only [Value.slice.injEq] at he
        obtain ⟨rfl, rfl, rfl⟩ := he
        have hp0 : T.pos = 0 := by omega
        rw [hp0] at n1 n3 n5
        go_wp2_with (first | go_big_skip | go_big_guard | (go_at_call 15; refine (wout_any g bw (0, X) _ (St.sub hst (List.sublist_append_right _ _)) (by show X.length ≤ 65536; rw [HXl.out]; omega)).mono ?_; rintro _ w9 ⟨u, rfl, h4⟩; rw [HO.out] at h4; have hst2 := St.call hst h4; clear h4 hst) | (go_at_call 31; refine (at_any r bv B T _ (St.sub hst2 (.cons _ (List.sublist_append_left _ _)))).mono ?_; rw [hp0]; rintro _ _ ⟨rfl, h4⟩; have hst3 := St.call0 hst2 h4; clear h4 hst2) | (go_at_call 17; refine (sameBytes_any _ _ _ _ X X _ (Rd.rowP hst3 (.head _)) (by have h9 := Rd.takeN (Rd.old hst3 hB) (m := T.pos) hpT; rw [← HX.out] at h9; rw [hp0] at h9; exact h9)).mono ?_; rw [beq_self_eq_true]; rintro _ _ ⟨rfl, h4⟩; have hst5 := St.call0 hst3 h4; clear h4 hst3))
        go_ret
        exact ⟨by simp, hst5.nil⟩
      · simp only [Value.slice.injEq, true_and] at he
        obtain ⟨rfl, rfl⟩ := he
        go_wp2_with (first | go_big_skip | go_big_guard | (go_at_call 15; refine (wout_any g bw (0, X) _ (St.sub hst (List.sublist_append_right _ _)) (by show X.length ≤ 65536; rw [HXl.out]; omega)).mono ?_; rintro _ w9 ⟨u, rfl, h4⟩; rw [HO.out] at h4; have hst2 := St.call hst h4; clear h4 hst) | (go_at_call 31; refine (at_any r bv B T _ (St.sub hst2 (.cons _ (List.sublist_append_left _ _)))).mono ?_; rintro _ _ ⟨rfl, h4⟩; have hst3 := St.call0 hst2 h4; clear h4 hst2) | (go_at_call 17; refine (sameBytes_any _ _ _ _ X X _ (Rd.rowP hst3 (.head _)) (by have h9 := Rd.takeN (Rd.old hst3 hB) (m := T.pos) hpT; rw [← HX.out] at h9; exact h9)).mono ?_; rw [beq_self_eq_true]; rintro _ _ ⟨rfl, h4⟩; have hst5 := St.call0 hst3 h4; clear h4 hst3))
        go_ret
        exact ⟨by simp, hst5.nil⟩
theorem again_law (ao : Option Addr) (n c : Nat) (al : Option Addr) (nl cl : Nat) (B : List UInt8) (ks : List KV) (w : World) (hB : Rd w (.slice ao n c) 1 n (bytesV B)) (hL : B.length = n) (hK : Rd w (.slice al nl cl) 4 nl (ks.flatMap KV.cells)) (hkl : ks.length = nl) (hok : ∀ x ∈ ks, x.Ok) :
    Calls Try.prog 9 #[.slice ao n c, .slice al nl cl] w fun e w' => e = .returned (.bool true) ∧ St w [] w' [] := by
  by_cases h : 1000 < n ∨ 60 < nl
  · exact again_big ao n c al nl cl w (Nat.le_trans hB.bd.1 hB.bd.2.1) (Nat.le_trans hK.bd.1 hK.bd.2.1) h
  · exact again_small ao n c al nl cl B ks w hB hL hK hkl hok (by omega) (by omega)
end
end Go.Proofs.Ytlgioloanjjndaa
namespace Go.Proofs.Ytlgioloanjjndaa
set_option linter.unusedVariables false
set_option linter.unusedSimpArgs false
open Go.ChangeShapes Go.WideShapes Go.ChangeAt Go.RowKit Go.Deep Go.Lib Go.Joins Hp
instance : Inhabited KV := ⟨⟨0, 0, 0, 0⟩⟩
theorem cellsK : Try.prog.cellsOf 58 = 4 := by kernel_rfl
theorem cellsKi : Try.prog.cellsOf 3 = 1 := by kernel_rfl
theorem i64_wf {z : Int} (hw : (Lit.int .i64 z).wf = true) : -9223372036854775808 ≤ z ∧ z ≤ 9223372036854775807 := by
  simp only [Lit.wf, Bool.and_eq_true, decide_eq_true_eq] at hw
  have h3 : IntKind.i64.min = -9223372036854775808 := rfl
  have h4 : IntKind.i64.max = 9223372036854775807 := rfl
  omega
theorem open_ask {H : Type} {enc : TypeId × Value → H} {W : World} {fuel : Nat} {cs : List Value} {x : DataW H × List MemPlace} (hl : cs.length = 4)
    (h : DataW.trod enc Try.prog W 0 (fun _ => true) true fuel 58 cs = some x) : ∃ k : KV, cs = k.cells ∧ k.Ok := by
  match cs, hl with
  | [a, b, c, d], _ =>
    obtain ⟨y0, y1, y2, y3, n, _, _, h0, h1, h2, h3⟩ := trod_struct4 Try.underlying58 h
    simp only [cellsKi, List.drop_zero, List.drop_succ_cons, List.take_succ_cons, List.take_zero] at h0 h1 h2 h3
    obtain ⟨z0, e0, _⟩ := DataW.trod_int Try.underlying3 h0
    obtain ⟨z1, e1, _, w1⟩ := DataW.trod_int Try.underlying3 h1
    obtain ⟨z2, e2, _⟩ := DataW.trod_int Try.underlying3 h2
    obtain ⟨z3, e3, _⟩ := DataW.trod_int Try.underlying3 h3
    cases e0; cases e1; cases e2; cases e3
    exact ⟨⟨z0, z1, z2, z3⟩, rfl, i64_wf w1⟩
theorem asksV_inv : ∀ (ks : List KV) (k : Nat) (v : Value), (ks.flatMap KV.cells)[k]? = some v → ∃ i j x, ks[i]? = some x ∧ k = i * 4 + j ∧ x.cells[j]? = some v ∧ j < 4
  | [], k, v, h => by simp at h
  | x :: ks, k, v, h => by
    have hl : x.cells.length = 4 := rfl
    rw [List.flatMap_cons] at h
    by_cases hk : k < 4
    · rw [List.getElem?_append_left (by rw [hl]; exact hk)] at h
      exact ⟨0, k, x, rfl, by omega, h, hk⟩
    · rw [List.getElem?_append_right (by rw [hl]; omega), hl] at h
      obtain ⟨i, j, y, h1, h2, h3, h4⟩ := asksV_inv ks (k - 4) v h
      exact ⟨i + 1, j, y, by simpa using h1, by omega, h3, h4⟩
theorem length_asks (ks : List KV) : (ks.flatMap KV.cells).length = ks.length * 4 := by
  induction ks with
  | nil => rfl
  | cons x ks ih =>
    have hl : x.cells.length = 4 := rfl
    rw [List.flatMap_cons, List.length_append, ih, hl, List.length_cons]
    omega
theorem open_asks {H : Type} {enc : TypeId × Value → H} {W : World} {base fuel : Nat} {v : Value} {x : DataW H × List MemPlace} (hv : Value.okWide Try.prog W .any base 52 v)
    (h : DataW.trod enc Try.prog W 0 (fun _ => true) true fuel 52 v.cells.toList = some x) : ∃ ao n c, ∃ ks : List KV, v = .slice ao n c ∧ Rd W (.slice ao n c) 4 n (ks.flatMap KV.cells) ∧ ks.length = n ∧ ∀ x ∈ ks, x.Ok := by
  obtain ⟨a, len, cap, rfl⟩ := okWide_slice Try.underlying52 hv
  rcases open_slice Try.underlying52 h with ⟨hc, _⟩ | ⟨a', len', cap', m, n, D, Pl, hc, _, hl, hm, hmm, _, hx⟩
  · simp [Value.cells] at hc
    obtain ⟨rfl, rfl, rfl⟩ := hc
    exact ⟨none, 0, 0, [], rfl, Rd.nil _ _, rfl, by simp⟩
  · simp [Value.cells] at hc
    obtain ⟨rfl, rfl, rfl⟩ := hc
    have hs := slice_spotV Try.underlying52 hv
    obtain ⟨b, off, rfl⟩ : ∃ b off, a' = ⟨b, off, none⟩ := ⟨a'.block, a'.off, by cases a'; simp_all⟩
    simp only [if_true] at hmm
    rw [cellsK] at hx
    obtain ⟨K, hK⟩ := choose_lt (α := KV) (p := fun i k => k.Ok ∧ ∀ j, j < 4 → W.cell? ⟨b, off + i * 4 + j, none⟩ = k.cells[j]?) (fun i hi => by
      obtain ⟨cs', h1, h2⟩ := hx i hi
      obtain ⟨_, hlen, hcell⟩ := World.cells?_some h1
      obtain ⟨k, rfl, hk⟩ := open_ask hlen h2
      refine ⟨k, hk, fun j hj => ?_⟩
      have := hcell j hj
      rwa [Addr.add_mid, Addr.add_mid] at this)
    refine ⟨_, len, cap, (List.range len).map K, rfl, Rd.mk hl hm (by rw [length_asks]; simp) (fun k v hk => ?_), by simp, fun x hx => ?_⟩
    · obtain ⟨i, j, y, h1, rfl, h3, h4⟩ := asksV_inv _ _ _ hk
      have hi : i < len := by
        have := (List.getElem?_eq_some_iff.1 h1).1
        simpa using this
      rw [List.getElem?_map, List.getElem?_range hi] at h1
      simp at h1
      subst h1
      rw [← Nat.add_assoc, (hK i (by omega)).2 j h4, h3]
    · obtain ⟨i, hi, rfl⟩ := List.mem_map.1 hx
      exact (hK i (by have := List.mem_range.1 hi; omega)).1
end Go.Proofs.Ytlgioloanjjndaa
namespace Go.Proofs.Ytlgioloanjjndaa
set_option linter.unusedVariables false
set_option linter.unusedSimpArgs false
open Go.ChangeShapes Go.WideShapes Go.ChangeAt Go.RowKit Hp
set_option maxRecDepth 100000 in
theorem fieldAgain_lifted (os : Os) (started : os.Started) (H : Type) (enc : TypeId × Value → H) :
    ReturnsInHanded {} Try.checked os 9 .any (Rows.fieldAgainSpec.pre6 enc Try.prog Try.f9 Rows.fieldAgainRow.domain false) (Rows.fieldAgainSpec.post enc Try.prog Try.f9 false true false false) := by
  refine returnsInHanded_of_change (C := Try.checked) own started (by kernel_rfl) Try.func9
    (ChangeSpec.witness6 (enc := enc) (C := Try.checked) false ⟨#[], #[.slice none 0 0, .slice none 0 0], []⟩ 8 (by kernel_rfl) (by kernel_rfl) (by kernel_rfl) (by kernel_rfl)) ?_
  intro W base args ds gs before hval0 hW hcnd _
  have hval : ∀ (j : Nat) t v, Try.f9.params[j]? = some t → args[j]? = some v → Value.okWide Try.prog W .any base t v := hval0
  have hW' := hW
  obtain ⟨p, q, hAA0, hV, rfl, hfz, hnd⟩ := hW
  have hA : DataW.TrodAll enc Try.prog W 0 (fun _ => true) true Try.f9.params.toList args.toList ds p := hAA0
  rw [Try.params9] at hA hval
  have hk := hA
  obtain ⟨v0, v1, d0, d1, p0, p1, rfl, rfl, rfl, h0, h1⟩ := trodAll_two hA
  obtain ⟨rfl, rfl⟩ := trodVars_none hV
  obtain ⟨n0, h0⟩ := h0
  obtain ⟨ao0, n0, c0, bs0, rfl, hA0, hn0⟩ := open_bytes (hval 0 _ v0 rfl rfl) h0
  obtain ⟨n1, h1⟩ := h1
  obtain ⟨ao1, n1, c1, ks1, rfl, hA1, hn1, hk1⟩ := open_asks (hval 1 _ v1 rfl rfl) h1
  clear hAA0 hval0
  simp only [List.append_nil] at hW'
  refine (again_law ao0 n0 c0 ao1 n1 c1 bs0 ks1 W hA0 hn0 hA1 hn1 hk1).mono fun e W' ⟨he, hg⟩ => ?_
  subst he
  exact ⟨_, rfl, post_of_kept (pv := []) hW' (fun _ _ _ => (trodAll_cons_mk (shut_bool Try.underlying4 _) trodAll_mk0)) (fun sp hsp => by
      rw [Try.params9]
      exact args_kept (by decide) hk hg.below (fun p hp => hW'.lt p hp) sp hsp) (fun _ _ => rfl) (by simp)
    (hg.below.frame _)⟩
theorem fieldAgain_over : Rows.fieldAgainRow.holds Try.pinned (OpenSpec.ofChange Rows.fieldAgainSpec) :=
  OpenClaim.holds_of_wide 9 Try.f9 rfl rfl rfl rfl rfl rfl rfl ⟨rfl, rfl, rfl, rfl, rfl⟩ rfl rfl rfl rfl rfl (by kernel_rfl) Try.func9 (by kernel_rfl)
    (of_decide_eq_true (by kernel_rfl)) (by unfold Func.isWrapper; first | (rw [if_pos (by decide +kernel)]; kernel_rfl) | (rw [if_neg (by decide +kernel)]; exact ⟨rfl, rfl⟩))
    (fun os started H enc _ => fieldAgain_lifted os started H enc)

theorem fieldAgain_proved : Rows.FieldAgainSaid :=
  fieldAgain_over
end Go.Proofs.Ytlgioloanjjndaa
