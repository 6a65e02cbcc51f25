/- Numbers as bytes, the highest first. No program in sight. -/
import Derived.Test.YtifajcblbedcoaaGreatSepX
namespace Go.Proofs.YtifajcblbedcoaaGreat
set_option linter.unusedVariables false
set_option linter.unusedSimpArgs false
open Hp
def byteAt (n : Int) (i : Nat) : UInt8 := UInt8.ofNat ((n / 2 ^ (8 * i)) % 256).toNat
theorem byteAt_int (n : Int) (i : Nat) : ((byteAt n i).toNat : Int) = n / 2 ^ (8 * i) % 256 := by
  unfold byteAt
  rw [UInt8.toNat_ofNat']
  have := Int.emod_nonneg (n / 2 ^ (8 * i)) (show (256 : Int) ≠ 0 by decide)
  have := Int.emod_lt_of_pos (n / 2 ^ (8 * i)) (show (0 : Int) < 256 by decide)
  omega
def numB (n : Int) : Nat → List UInt8
  | 0 => []
  | k + 1 => byteAt n k :: numB n k
theorem length_numB (n : Int) (k : Nat) : (numB n k).length = k := by
  induction k with
  | zero => rfl
  | succ k ih => simp [numB, ih]
theorem numB_get (n : Int) : ∀ (k i : Nat), i < k → (numB n k)[i]? = some (byteAt n (k - 1 - i))
  | 0, _, h => by omega
  | k + 1, 0, _ => by simp [numB]
  | k + 1, i + 1, h => by
    simp only [numB, List.getElem?_cons_succ]
    rw [numB_get n k i (by omega)]
    congr 2; omega
theorem numB_take (n : Int) (k i : Nat) (h : i < k) : (numB n k).take (i + 1) = (numB n k).take i ++ [byteAt n (k - 1 - i)] := by
  rw [List.take_add_one, numB_get n k i h]; rfl
theorem byteV (n : Int) (i : Nat) : Value.int .u8 (n / 2 ^ (8 * i) % 256) = .int .u8 (byteAt n i).toNat := by rw [byteAt_int]
theorem bytesV_append (l k : List UInt8) : bytesV (l ++ k) = bytesV l ++ bytesV k := by simp [bytesV]
theorem num1_cells (n : Int) {x : Int} (h : x = n % 256) : [Value.int .u8 x] = bytesV (numB n 1) := by
  subst h
  simp [numB, bytesV, byteAt_int]
theorem num2_cells (n : Int) {x y : Int} (hx : x = n / 256 % 256) (hy : y = n % 256) : [Value.int .u8 x, .int .u8 y] = bytesV (numB n 2) := by
  subst hx; subst hy
  simp [numB, bytesV, byteAt_int]
/-- The number of bytes, the highest first. -/
def beN (l : List UInt8) : Nat := l.foldl (fun a x => a * 256 + x.toNat) 0
theorem beN_snoc (l : List UInt8) (x : UInt8) : beN (l ++ [x]) = beN l * 256 + x.toNat := by simp [beN]
theorem beN_lt (l : List UInt8) : beN l < 256 ^ l.length := by
  suffices h : ∀ (l : List UInt8) (a m : Nat), a < m → l.foldl (fun a x => a * 256 + x.toNat) a < m * 256 ^ l.length by
    simpa [beN] using h l 0 1 (by decide)
  intro l
  induction l with
  | nil => intro a m h; simpa using h
  | cons x l ih =>
    intro a m h
    have hx := x.toNat_lt
    have := ih (a * 256 + x.toNat) (m * 256) (by omega)
    simp only [List.foldl_cons, List.length_cons, Nat.pow_succ]
    rw [Nat.mul_assoc, Nat.mul_comm 256] at this
    exact this
theorem beN_take_succ (l : List UInt8) (j : Nat) (h : j < l.length) : beN (l.take (j + 1)) = beN (l.take j) * 256 + (l.getD j 0).toNat := by
  rw [List.take_succ_eq_append_getElem h, beN_snoc]
  simp [List.getD, h]
theorem or256 (q x : Int) (hq : 0 ≤ q) (hq' : q < 1099511627776) (hx : 0 ≤ x) (hx' : x < 256) : bits .or .i64 (q * 256) x = q * 256 + x :=
  bits_join .i64 63 (by decide) (fun n h0 h1 => by rw [IntKind.wrap_i64]; omega) 8 _ _ (by omega) (by omega) (by omega) hx (by omega) (by omega)
section
open Go.RowKit
theorem Rd.tailC {w : World} {b off n k : Nat} {l : List UInt8} (h : Rd w (.slice (some ⟨b, off, none⟩) n k) 1 n (bytesV l)) (hk : n = k) : Rd w (.slice (some ⟨b, off, none⟩) 0 0) 1 0 (bytesV (l.drop k)) := by
  have hl := h.bd.2.2
  have : l.drop k = [] := List.drop_eq_nil_of_le (by simp at hl; omega)
  rw [this]
  exact Rd.mk (Nat.le_refl _) (by unfold maxLen; omega) (by simp [bytesV]) (by intro j v hv; simp [bytesV] at hv)
theorem Rd.tail {w : World} {b off n c k : Nat} {l : List UInt8} (h : Rd w (.slice (some ⟨b, off, none⟩) n c) 1 n (bytesV l)) (hk : k ≤ n) (hc : k < c) : Rd w (.slice (some ⟨b, off + k, none⟩) (n - k) (c - k)) 1 (n - k) (bytesV (l.drop k)) := by
  have hl := h.bd
  have hr := h.range
  obtain ⟨hl1, ao, c', he, hn, hcm, hnone, hsome⟩ := h
  simp only [Value.slice.injEq, true_and] at he
  obtain ⟨he1, rfl⟩ := he
  refine Rd.mk (by omega) (by unfold maxLen at *; omega) (by simp at hl1 ⊢; omega) ?_
  intro j v hv
  have := hr (k + j) v (by simpa [bytesV, List.getElem?_drop] using hv)
  rwa [← Nat.add_assoc] at this
end
end Go.Proofs.YtifajcblbedcoaaGreat
