import Derived.Test.YtmdfbdfijnmhkaaGreatSepX
namespace Go.Proofs.YtmdfbdfijnmhkaaGreat
set_option linter.unusedVariables false
set_option linter.unusedSimpArgs false
open Hp
def byteAt (n : Int) (i : Nat) : UInt8 := UInt8.ofNat ((n / 2 ^ (8 * i)) % 256).toNat
theorem byteAt_int (n : Int) (i : Nat) : ((byteAt n i).toNat : Int) = n / 2 ^ (8 * i) % 256 := by
  unfold byteAt
  rw [UInt8.toNat_ofNat']
  have := Int.emod_nonneg (n / 2 ^ (8 * i)) (show (256 : Int) ≠ 0 by decide)
  have := Int.emod_lt_of_pos (n / 2 ^ (8 * i)) (show (0 : Int) < 256 by decide)
  omega
def numB (n : Int) : Nat → List UInt8
  | 0 => []
  | k + 1 => byteAt n k :: numB n k
theorem length_numB (n : Int) (k : Nat) : (numB n k).length = k := by
  induction k with
  | zero => rfl
  | succ k ih => simp [numB, ih]
theorem numB_get (n : Int) : ∀ (k i : Nat), i < k → (numB n k)[i]? = some (byteAt n (k - 1 - i))
  | 0, _, h => by omega
  | k + 1, 0, _ => by simp [numB]
  | k + 1, i + 1, h => by
    simp only [numB, List.getElem?_cons_succ]
    rw [numB_get n k i (by omega)]
    congr 2; omega
theorem numB_take (n : Int) (k i : Nat) (h : i < k) : (numB n k).take (i + 1) = (numB n k).take i ++ [byteAt n (k - 1 - i)] := by
  rw [List.take_add_one, numB_get n k i h]; rfl
theorem bytesV_append (l k : List UInt8) : bytesV (l ++ k) = bytesV l ++ bytesV k := by simp [bytesV]
def beN (l : List UInt8) : Nat := l.foldl (fun a x => a * 256 + x.toNat) 0
section
open Go.RowKit
theorem Rd.tail {w : World} {b off n c k : Nat} {l : List UInt8} (h : Rd w (.slice (some ⟨b, off, none⟩) n c) 1 n (bytesV l)) (hk : k ≤ n) (hc : k < c) : Rd w (.slice (some ⟨b, off + k, none⟩) (n - k) (c - k)) 1 (n - k) (bytesV (l.drop k)) := by
  have hl := h.bd
  have hr := h.range
  obtain ⟨hl1, ao, c', he, hn, hcm, hnone, hsome⟩ := h
  simp only [Value.slice.injEq, true_and] at he
  obtain ⟨he1, rfl⟩ := he
  refine Rd.mk (by omega) (by unfold maxLen at *; omega) (by simp at hl1 ⊢; omega) ?_
  intro j v hv
  have := hr (k + j) v (by simpa [bytesV, List.getElem?_drop] using hv)
  rwa [← Nat.add_assoc] at this
end
end Go.Proofs.YtmdfbdfijnmhkaaGreat
