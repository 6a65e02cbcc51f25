/- A pointer that may be is read back from its bytes; its bytes are its own. No program in sight. -/
import Derived.Test.YtifajcblbedcoaaGreatPtrR
namespace Go.Proofs.YtifajcblbedcoaaGreat
set_option linter.unusedVariables false
set_option linter.unusedSimpArgs false
open Hp
theorem beN1 (n : Int) (h0 : 0 ≤ n) (h1 : n < 256) : ((beN [byteAt n 0] : Nat) : Int) = n := by
  have h := byteAt_int n 0
  simp only [beN, List.foldl_cons, List.foldl_nil]
  simp at h
  omega
theorem beN2 (n : Int) (h0 : 0 ≤ n) (h1 : n < 65536) : ((beN [byteAt n 1, byteAt n 0] : Nat) : Int) = n := by
  have h := byteAt_int n 0
  have h' := byteAt_int n 1
  simp only [beN, List.foldl_cons, List.foldl_nil]
  simp at h h'
  omega
theorem beN4 (n : Int) (h0 : 0 ≤ n) (h1 : n < 4294967296) : ((beN [byteAt n 3, byteAt n 2, byteAt n 1, byteAt n 0] : Nat) : Int) = n := by
  have h := byteAt_int n 0
  have h' := byteAt_int n 1
  have h2 := byteAt_int n 2
  have h3 := byteAt_int n 3
  simp only [beN, List.foldl_cons, List.foldl_nil]
  simp at h h' h2 h3
  omega
section
variable {l : List (Int × Int)} {b v : Int} {S : List UInt8}
theorem addrs3 : ∀ (l : List (Int × Int)), l.length ≤ 3 → ((if 0 < l.length then [l.getD 0 (0, 0)] else []) ++ (if 1 < l.length then [l.getD 1 (0, 0)] else [])) ++ (if 2 < l.length then [l.getD 2 (0, 0)] else []) = l
  | [], _ => rfl
  | [_], _ => rfl
  | [_, _], _ => rfl
  | [_, _, _], _ => rfl
  | _ :: _ :: _ :: _ :: _, h => by simp at h
theorem rBirth_bytes : rBirth (bytesP l b v S) = beN [byteAt b 3, byteAt b 2, byteAt b 1, byteAt b 0] := rfl
theorem rLevel_bytes : rLevel (bytesP l b v S) = beN [byteAt v 0] := rfl
theorem rSum_bytes : rSum (bytesP l b v S) = S := rfl
theorem rMany_bytes : (bytesP l b v S).take 1 = [byteAt (l.length : Int) 0] := rfl
theorem rA_bytes : ∀ i, i < 3 → rA (bytesP l b v S) i = (((beN [byteAt (l.getD i (0, 0)).1 0] : Nat) : Int), ((beN [byteAt (l.getD i (0, 0)).2 1, byteAt (l.getD i (0, 0)).2 0] : Nat) : Int))
  | 0, _ => rfl
  | 1, _ => rfl
  | 2, _ => rfl
theorem read_bytes (h : checkB l b v S = true) : rAddrs (bytesP l b v S) 3 = l ∧ (rBirth (bytesP l b v S) : Int) = b ∧ (rLevel (bytesP l b v S) : Int) = v ∧ rSum (bytesP l b v S) = S := by
  obtain ⟨h1, h2, h3, h4, h5, h6⟩ := check_bd h
  have hm : beN ((bytesP l b v S).take 1) = l.length := by
    rw [rMany_bytes]
    have := beN1 (l.length : Int) (by omega) (by omega)
    omega
  have ha : ∀ i, i < 3 → rA (bytesP l b v S) i = l.getD i (0, 0) := by
    intro i hi
    have := h6 i
    rw [rA_bytes i hi, beN1 _ (by omega) (by omega), beN2 _ (by omega) (by omega)]
  refine ⟨?_, ?_, ?_, rSum_bytes⟩
  · simp only [rAddrs, hm, ha 0 (by decide), ha 1 (by decide), ha 2 (by decide), List.nil_append]
    exact addrs3 l h1
  · rw [rBirth_bytes, beN4 b (by omega) (by omega)]
  · rw [rLevel_bytes, beN1 v (by omega) (by omega)]
theorem rOK_bytes (h : checkB l b v S = true) (hS : L32 S) : rOK (bytesP l b v S) = true := by
  obtain ⟨h1, h2, h3, h4⟩ := read_bytes h
  unfold rOK
  rw [h1, h2, h3, h4, h]
  simp [length_bytesP l b v hS]
end
theorem bytes_one {l r : List (Int × Int)} {b v b' v' : Int} {S S' : List UInt8} (h : checkB l b v S = true) (h' : checkB r b' v' S' = true) : (bytesP l b v S == bytesP r b' v' S') = sameB l r b v b' v' S S' := by
  rw [Bool.eq_iff_iff]
  simp only [beq_iff_eq, sameB, Bool.and_eq_true, decide_eq_true_eq]
  constructor
  · intro e
    obtain ⟨h1, h2, h3, h4⟩ := read_bytes h
    obtain ⟨k1, k2, k3, k4⟩ := read_bytes h'
    rw [e] at h1 h2 h3 h4
    exact ⟨h1.symm.trans k1, h2.symm.trans k2, h3.symm.trans k3, h4.symm.trans k4⟩
  · rintro ⟨rfl, rfl, rfl, rfl⟩; rfl
theorem sameB_symm (l r : List (Int × Int)) (b v b' v' : Int) (S S' : List UInt8) : sameB r l b' v' b v S' S = sameB l r b v b' v' S S' := by
  unfold sameB
  rw [Bool.eq_iff_iff]
  simp only [Bool.and_eq_true, beq_iff_eq, decide_eq_true_eq]
  constructor <;> rintro ⟨h1, h2, h3, h4⟩ <;> exact ⟨h1.symm, h2.symm, h3.symm, h4.symm⟩
theorem sameB_refl (l : List (Int × Int)) (b v : Int) (S : List UInt8) : sameB l l b v b v S S = true := by simp [sameB]
theorem sameB_like {l r : List (Int × Int)} {b v b' v' : Int} {S S' : List UInt8} (h : sameB l r b v b' v' S S' = true) : likeB l.length r.length b v b' v' S S' = true := by
  rw [← sameB_eq] at h
  exact ((Bool.and_eq_true _ _).mp h).1
end Go.Proofs.YtifajcblbedcoaaGreat
