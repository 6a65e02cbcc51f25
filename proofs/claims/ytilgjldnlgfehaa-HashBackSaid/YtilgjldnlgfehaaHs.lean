/- The digest of bytes as plain data: words, pieces, turns. No program in sight. -/
import Derived.Test.YtilgjldnlgfehaaNum
namespace Go.Proofs.Ytilgjldnlgfehaa
set_option linter.unusedVariables false
set_option linter.unusedSimpArgs false
open Hp
abbrev Wd := BitVec 32
def rotr (x : Wd) (n : Nat) : Wd := x >>> n ||| x <<< (32 - n)
def kT : List Wd := [0x428a2f98, 0x71374491, 0xb5c0fbcf, 0xe9b5dba5, 0x3956c25b, 0x59f111f1, 0x923f82a4, 0xab1c5ed5,
  0xd807aa98, 0x12835b01, 0x243185be, 0x550c7dc3, 0x72be5d74, 0x80deb1fe, 0x9bdc06a7, 0xc19bf174,
  0xe49b69c1, 0xefbe4786, 0x0fc19dc6, 0x240ca1cc, 0x2de92c6f, 0x4a7484aa, 0x5cb0a9dc, 0x76f988da,
  0x983e5152, 0xa831c66d, 0xb00327c8, 0xbf597fc7, 0xc6e00bf3, 0xd5a79147, 0x06ca6351, 0x14292967,
  0x27b70a85, 0x2e1b2138, 0x4d2c6dfc, 0x53380d13, 0x650a7354, 0x766a0abb, 0x81c2c92e, 0x92722c85,
  0xa2bfe8a1, 0xa81a664b, 0xc24b8b70, 0xc76c51a3, 0xd192e819, 0xd6990624, 0xf40e3585, 0x106aa070,
  0x19a4c116, 0x1e376c08, 0x2748774c, 0x34b0bcb5, 0x391c0cb3, 0x4ed8aa4a, 0x5b9cca4f, 0x682e6ff3,
  0x748f82ee, 0x78a5636f, 0x84c87814, 0x8cc70208, 0x90befffa, 0xa4506ceb, 0xbef9a3f7, 0xc67178f2]
/-- A state: eight words. -/
structure S8 where
  (a b c d e f g h : Wd)
deriving DecidableEq
def S8.list (s : S8) : List Wd := [s.a, s.b, s.c, s.d, s.e, s.f, s.g, s.h]
def S8.start : S8 := ⟨0x6a09e667, 0xbb67ae85, 0x3c6ef372, 0xa54ff53a, 0x510e527f, 0x9b05688c, 0x1f83d9ab, 0x5be0cd19⟩
def sg0 (x : Wd) : Wd := rotr x 7 ^^^ rotr x 18 ^^^ x >>> 3
def sg1 (y : Wd) : Wd := rotr y 17 ^^^ rotr y 19 ^^^ y >>> 10
def byW (p : List UInt8) (i : Nat) : Wd := BitVec.ofNat 32 (p.getD i 0).toNat
def word4 (p : List UInt8) (i : Nat) : Wd := byW p (4 * i) <<< 24 ||| byW p (4 * i + 1) <<< 16 ||| byW p (4 * i + 2) <<< 8 ||| byW p (4 * i + 3)
/-- The word behind those that there are. -/
def nextW (p : List UInt8) (l : List Wd) : Wd :=
  if l.length < 16 then word4 p l.length
  else l.getD (l.length - 16) 0 + sg0 (l.getD (l.length - 15) 0) + l.getD (l.length - 7) 0 + sg1 (l.getD (l.length - 2) 0)
def wds (p : List UInt8) : Nat → List Wd
  | 0 => []
  | k + 1 => wds p k ++ [nextW p (wds p k)]
/-- The i-th word of a piece. -/
def wdAt (p : List UInt8) (i : Nat) : Wd := nextW p (wds p i)
def S8.rnd (s : S8) (k w : Wd) : S8 :=
  let t := s.h + (rotr s.e 6 ^^^ rotr s.e 11 ^^^ rotr s.e 25) + (s.e &&& s.f ^^^ ~~~s.e &&& s.g) + k + w
  let u := (rotr s.a 2 ^^^ rotr s.a 13 ^^^ rotr s.a 22) + (s.a &&& s.b ^^^ s.a &&& s.c ^^^ s.b &&& s.c)
  ⟨t + u, s.a, s.b, s.c, s.d + t, s.e, s.f, s.g⟩
def rnds (s : S8) (p : List UInt8) : Nat → S8
  | 0 => s
  | i + 1 => (rnds s p i).rnd (kT.getD i 0) (wdAt p i)
def S8.add (s r : S8) : S8 := ⟨s.a + r.a, s.b + r.b, s.c + r.c, s.d + r.d, s.e + r.e, s.f + r.f, s.g + r.g, s.h + r.h⟩
def S8.turn (s : S8) (p : List UInt8) : S8 := (rnds s p 64).add s
/-- How many noughts stand behind the byte 128. -/
def noughts (n : Nat) : Nat := (119 - n % 64) % 64
def filled (b : List UInt8) : List UInt8 := b ++ 128 :: (List.replicate (noughts b.length) 0 ++ numB (8 * b.length) 8)
def cut64 (l : List UInt8) (k : Nat) : List UInt8 := (l.drop (64 * k)).take 64
def pieces (b : List UInt8) : List (List UInt8) := (List.range ((filled b).length / 64)).map (cut64 (filled b))
def sumS (b : List UInt8) : S8 := (pieces b).foldl S8.turn S8.start
def wBytes (x : Wd) : List UInt8 := [24, 16, 8, 0].map fun s => UInt8.ofNat (x >>> s).toNat
def S8.bytes (s : S8) : List UInt8 := s.list.flatMap wBytes
def sumB (b : List UInt8) : List UInt8 := (sumS b).bytes
theorem wds_length (p : List UInt8) (k : Nat) : (wds p k).length = k := by
  induction k with
  | zero => rfl
  | succ k ih => simp [wds, ih]
theorem wds_get (p : List UInt8) {k j : Nat} (h : j < k) : (wds p k).getD j 0 = wdAt p j := by
  induction k with
  | zero => omega
  | succ k ih =>
    rw [wds]
    by_cases e : j = k
    · subst e
      simp [List.getD, wds_length, wdAt]
    · rw [← ih (by omega)]
      simp only [List.getD]
      rw [List.getElem?_append_left (by rw [wds_length]; omega)]
theorem wdAt_lo (p : List UInt8) {i : Nat} (h : i < 16) : wdAt p i = word4 p i := by
  unfold wdAt nextW
  rw [wds_length, if_pos h]
theorem wdAt_hi (p : List UInt8) {i : Nat} (h : 16 ≤ i) : wdAt p i = wdAt p (i - 16) + sg0 (wdAt p (i - 15)) + wdAt p (i - 7) + sg1 (wdAt p (i - 2)) := by
  have h0 : wdAt p i = nextW p (wds p i) := rfl
  rw [h0, nextW, wds_length, if_neg (by omega), wds_get p (by omega), wds_get p (by omega), wds_get p (by omega), wds_get p (by omega)]
theorem noughts_mod (n : Nat) : (n + 1 + noughts n) % 64 = 56 := by unfold noughts; omega
theorem length_filled (b : List UInt8) : (filled b).length = b.length + 9 + noughts b.length := by
  unfold filled
  simp [length_numB]; omega
theorem filled_mod (b : List UInt8) : (filled b).length % 64 = 0 := by
  have := noughts_mod b.length
  rw [length_filled]; omega
/-- A word as a number: hidden from simp. -/
def wI (x : Wd) : Int := (x.toNat : Int)
/-- Words as memory has them. -/
def wordsV (l : List Wd) : List Value := l.map fun x => .int .u32 (wI x)
end Go.Proofs.Ytilgjldnlgfehaa
