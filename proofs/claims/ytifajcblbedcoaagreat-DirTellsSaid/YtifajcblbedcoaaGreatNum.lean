import Derived.Test.YtifajcblbedcoaaGreatSepX
namespace Go.Proofs.YtifajcblbedcoaaGreat
set_option linter.unusedVariables false
set_option linter.unusedSimpArgs false
open Hp
def byteAt (n : Int) (i : Nat) : UInt8 := UInt8.ofNat ((n / 2 ^ (8 * i)) % 256).toNat
def numB (n : Int) : Nat → List UInt8
  | 0 => []
  | k + 1 => byteAt n k :: numB n k
def beN (l : List UInt8) : Nat := l.foldl (fun a x => a * 256 + x.toNat) 0
section
open Go.RowKit
theorem Rd.tail {w : World} {b off n c k : Nat} {l : List UInt8} (h : Rd w (.slice (some ⟨b, off, none⟩) n c) 1 n (bytesV l)) (hk : k ≤ n) (hc : k < c) : Rd w (.slice (some ⟨b, off + k, none⟩) (n - k) (c - k)) 1 (n - k) (bytesV (l.drop k)) := by
  have hl := h.bd
  have hr := h.range
  obtain ⟨hl1, ao, c', he, hn, hcm, hnone, hsome⟩ := h
  simp only [Value.slice.injEq, true_and] at he
  obtain ⟨he1, rfl⟩ := he
  refine Rd.mk (by omega) (by unfold maxLen at *; omega) (by simp at hl1 ⊢; omega) ?_
  intro j v hv
  have := hr (k + j) v (by simpa [bytesV, List.getElem?_drop] using hv)
  rwa [← Nat.add_assoc] at this
end
end Go.Proofs.YtifajcblbedcoaaGreat
