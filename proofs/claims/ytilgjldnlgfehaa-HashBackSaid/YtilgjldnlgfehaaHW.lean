/- Words of 32 bits as the walk meets them. No program in sight. -/
import Derived.Test.YtilgjldnlgfehaaHs
import Derived.Test.YtilgjldnlgfehaaSepY
namespace Go.Proofs.Ytilgjldnlgfehaa
set_option linter.unusedVariables false
set_option linter.unusedSimpArgs false
open Go.RowKit Hp
theorem wrap32 (n : Nat) : IntKind.u32.wrap (n : Int) = ((n % 4294967296 : Nat) : Int) := by
  show (n : Int) % 4294967296 = _
  omega
theorem add32 (T : TypeId) (x y : Wd) : binOp .add T (.int .u32 (wI x)) (.int .u32 (wI y)) = pure (.int .u32 (wI (x + y))) := by
  have h : IntKind.u32.wrap ((x.toNat : Int) + (y.toNat : Int)) = ((x + y).toNat : Int) := by
    rw [← Int.natCast_add, wrap32, BitVec.toNat_add]
  show pure (Value.int .u32 (IntKind.u32.wrap ((x.toNat : Int) + (y.toNat : Int)))) = _
  rw [h]
  rfl
theorem ofInt32 (x : Wd) : BitVec.ofInt 32 (x.toNat : Int) = x := by
  rw [BitVec.ofInt_natCast, BitVec.ofNat_toNat, BitVec.setWidth_eq]
theorem back32 (z : Wd) : IntKind.u32.wrap ((z.toNat : Nat) : Int) = (z.toNat : Int) := by
  have := z.isLt
  rw [wrap32, Nat.mod_eq_of_lt this]
theorem and32 (T : TypeId) (x y : Wd) : binOp .and T (.int .u32 (wI x)) (.int .u32 (wI y)) = pure (.int .u32 (wI (x &&& y))) := by
  show pure (Value.int .u32 (IntKind.u32.wrap ((BitVec.ofInt 32 (x.toNat : Int) &&& BitVec.ofInt 32 (y.toNat : Int)).toNat : Int))) = _
  rw [ofInt32, ofInt32, back32]
  rfl
theorem or32 (T : TypeId) (x y : Wd) : binOp .or T (.int .u32 (wI x)) (.int .u32 (wI y)) = pure (.int .u32 (wI (x ||| y))) := by
  show pure (Value.int .u32 (IntKind.u32.wrap ((BitVec.ofInt 32 (x.toNat : Int) ||| BitVec.ofInt 32 (y.toNat : Int)).toNat : Int))) = _
  rw [ofInt32, ofInt32, back32]
  rfl
theorem xor32 (T : TypeId) (x y : Wd) : binOp .xor T (.int .u32 (wI x)) (.int .u32 (wI y)) = pure (.int .u32 (wI (x ^^^ y))) := by
  show pure (Value.int .u32 (IntKind.u32.wrap ((BitVec.ofInt 32 (x.toNat : Int) ^^^ BitVec.ofInt 32 (y.toNat : Int)).toNat : Int))) = _
  rw [ofInt32, ofInt32, back32]
  rfl
theorem not32 (x : Wd) : Op.unary .xor (.int .u32 (wI x)) = pure (.int .u32 (wI (~~~x))) := by
  have h : BitVec.ofInt 32 4294967295 ^^^ x = ~~~x := by
    have : BitVec.ofInt 32 4294967295 = BitVec.allOnes 32 := by decide
    rw [this, BitVec.allOnes_xor]
  show pure (Value.int .u32 (IntKind.u32.wrap ((BitVec.ofInt 32 4294967295 ^^^ BitVec.ofInt 32 (x.toNat : Int)).toNat : Int))) = _
  rw [ofInt32, h, back32]
  rfl
theorem shlN (T : TypeId) (x : Wd) (yk : IntKind) (n : Nat) (hn : n ≤ 32) : binOp .shl T (.int .u32 (wI x)) (.int yk (n : Int)) = pure (.int .u32 (wI (x <<< n))) := by
  show Op.shift .shl .u32 (x.toNat : Int) yk (n : Int) = _
  rw [shift_shl .u32 yk (x.toNat : Int) (n : Int) (by omega) (by show (n : Int) ≤ 32; omega)]
  have h : IntKind.u32.wrap ((x.toNat : Int) * 2 ^ (n : Int).toNat) = ((x <<< n).toNat : Int) := by
    rw [Int.toNat_natCast, BitVec.toNat_shiftLeft, Nat.shiftLeft_eq]
    have : (x.toNat : Int) * 2 ^ n = ((x.toNat * 2 ^ n : Nat) : Int) := by push_cast; rfl
    rw [this, wrap32]
  rw [h]
  rfl
theorem shrN (T : TypeId) (x : Wd) (yk : IntKind) (n : Nat) (hn : n ≤ 32) : binOp .shr T (.int .u32 (wI x)) (.int yk (n : Int)) = pure (.int .u32 (wI (x >>> n))) := by
  show Op.shift .shr .u32 (x.toNat : Int) yk (n : Int) = _
  rw [shift_shr .u32 yk (x.toNat : Int) (n : Int) (by omega) (by show (n : Int) ≤ 32; omega)]
  have h : (x.toNat : Int) / 2 ^ (n : Int).toNat = ((x >>> n).toNat : Int) := by
    rw [Int.toNat_natCast, BitVec.toNat_ushiftRight, Nat.shiftRight_eq_div_pow]
    push_cast
    rfl
  rw [h]
  rfl
section
variable {P : Program} (T : TypeId) (x y : Wd) (w : World)
theorem add32r : (binOp .add T (.int .u32 (wI x)) (.int .u32 (wI y))).run P w = .ok (.int .u32 (wI (x + y))) w := by rw [add32]; rfl
theorem and32r : (binOp .and T (.int .u32 (wI x)) (.int .u32 (wI y))).run P w = .ok (.int .u32 (wI (x &&& y))) w := by rw [and32]; rfl
theorem or32r : (binOp .or T (.int .u32 (wI x)) (.int .u32 (wI y))).run P w = .ok (.int .u32 (wI (x ||| y))) w := by rw [or32]; rfl
theorem xor32r : (binOp .xor T (.int .u32 (wI x)) (.int .u32 (wI y))).run P w = .ok (.int .u32 (wI (x ^^^ y))) w := by rw [xor32]; rfl
theorem not32r : (Op.unary .xor (.int .u32 (wI x))).run P w = .ok (.int .u32 (wI (~~~x))) w := by rw [not32]; rfl
theorem shl3u64e : binOp .shl T (.int .u32 (wI x)) (.int .u64 3) = pure (.int .u32 (wI (x <<< 3))) := shlN T x .u64 3 (by decide)
theorem shl3u64 : (binOp .shl T (.int .u32 (wI x)) (.int .u64 3)).run P w = .ok (.int .u32 (wI (x <<< 3))) w := by rw [show binOp .shl T (.int .u32 (wI x)) (.int .u64 3) = pure (.int .u32 (wI (x <<< 3))) from shlN T x .u64 3 (by decide)]; rfl
theorem shr3u64e : binOp .shr T (.int .u32 (wI x)) (.int .u64 3) = pure (.int .u32 (wI (x >>> 3))) := shrN T x .u64 3 (by decide)
theorem shr3u64 : (binOp .shr T (.int .u32 (wI x)) (.int .u64 3)).run P w = .ok (.int .u32 (wI (x >>> 3))) w := by rw [show binOp .shr T (.int .u32 (wI x)) (.int .u64 3) = pure (.int .u32 (wI (x >>> 3))) from shrN T x .u64 3 (by decide)]; rfl
theorem shl3i64e : binOp .shl T (.int .u32 (wI x)) (.int .i64 3) = pure (.int .u32 (wI (x <<< 3))) := shlN T x .i64 3 (by decide)
theorem shl3i64 : (binOp .shl T (.int .u32 (wI x)) (.int .i64 3)).run P w = .ok (.int .u32 (wI (x <<< 3))) w := by rw [show binOp .shl T (.int .u32 (wI x)) (.int .i64 3) = pure (.int .u32 (wI (x <<< 3))) from shlN T x .i64 3 (by decide)]; rfl
theorem shr3i64e : binOp .shr T (.int .u32 (wI x)) (.int .i64 3) = pure (.int .u32 (wI (x >>> 3))) := shrN T x .i64 3 (by decide)
theorem shr3i64 : (binOp .shr T (.int .u32 (wI x)) (.int .i64 3)).run P w = .ok (.int .u32 (wI (x >>> 3))) w := by rw [show binOp .shr T (.int .u32 (wI x)) (.int .i64 3) = pure (.int .u32 (wI (x >>> 3))) from shrN T x .i64 3 (by decide)]; rfl
theorem shl8u64e : binOp .shl T (.int .u32 (wI x)) (.int .u64 8) = pure (.int .u32 (wI (x <<< 8))) := shlN T x .u64 8 (by decide)
theorem shl8u64 : (binOp .shl T (.int .u32 (wI x)) (.int .u64 8)).run P w = .ok (.int .u32 (wI (x <<< 8))) w := by rw [show binOp .shl T (.int .u32 (wI x)) (.int .u64 8) = pure (.int .u32 (wI (x <<< 8))) from shlN T x .u64 8 (by decide)]; rfl
theorem shr8u64e : binOp .shr T (.int .u32 (wI x)) (.int .u64 8) = pure (.int .u32 (wI (x >>> 8))) := shrN T x .u64 8 (by decide)
theorem shr8u64 : (binOp .shr T (.int .u32 (wI x)) (.int .u64 8)).run P w = .ok (.int .u32 (wI (x >>> 8))) w := by rw [show binOp .shr T (.int .u32 (wI x)) (.int .u64 8) = pure (.int .u32 (wI (x >>> 8))) from shrN T x .u64 8 (by decide)]; rfl
theorem shl8i64e : binOp .shl T (.int .u32 (wI x)) (.int .i64 8) = pure (.int .u32 (wI (x <<< 8))) := shlN T x .i64 8 (by decide)
theorem shl8i64 : (binOp .shl T (.int .u32 (wI x)) (.int .i64 8)).run P w = .ok (.int .u32 (wI (x <<< 8))) w := by rw [show binOp .shl T (.int .u32 (wI x)) (.int .i64 8) = pure (.int .u32 (wI (x <<< 8))) from shlN T x .i64 8 (by decide)]; rfl
theorem shr8i64e : binOp .shr T (.int .u32 (wI x)) (.int .i64 8) = pure (.int .u32 (wI (x >>> 8))) := shrN T x .i64 8 (by decide)
theorem shr8i64 : (binOp .shr T (.int .u32 (wI x)) (.int .i64 8)).run P w = .ok (.int .u32 (wI (x >>> 8))) w := by rw [show binOp .shr T (.int .u32 (wI x)) (.int .i64 8) = pure (.int .u32 (wI (x >>> 8))) from shrN T x .i64 8 (by decide)]; rfl
theorem shl10u64e : binOp .shl T (.int .u32 (wI x)) (.int .u64 10) = pure (.int .u32 (wI (x <<< 10))) := shlN T x .u64 10 (by decide)
theorem shl10u64 : (binOp .shl T (.int .u32 (wI x)) (.int .u64 10)).run P w = .ok (.int .u32 (wI (x <<< 10))) w := by rw [show binOp .shl T (.int .u32 (wI x)) (.int .u64 10) = pure (.int .u32 (wI (x <<< 10))) from shlN T x .u64 10 (by decide)]; rfl
theorem shr10u64e : binOp .shr T (.int .u32 (wI x)) (.int .u64 10) = pure (.int .u32 (wI (x >>> 10))) := shrN T x .u64 10 (by decide)
theorem shr10u64 : (binOp .shr T (.int .u32 (wI x)) (.int .u64 10)).run P w = .ok (.int .u32 (wI (x >>> 10))) w := by rw [show binOp .shr T (.int .u32 (wI x)) (.int .u64 10) = pure (.int .u32 (wI (x >>> 10))) from shrN T x .u64 10 (by decide)]; rfl
theorem shl10i64e : binOp .shl T (.int .u32 (wI x)) (.int .i64 10) = pure (.int .u32 (wI (x <<< 10))) := shlN T x .i64 10 (by decide)
theorem shl10i64 : (binOp .shl T (.int .u32 (wI x)) (.int .i64 10)).run P w = .ok (.int .u32 (wI (x <<< 10))) w := by rw [show binOp .shl T (.int .u32 (wI x)) (.int .i64 10) = pure (.int .u32 (wI (x <<< 10))) from shlN T x .i64 10 (by decide)]; rfl
theorem shr10i64e : binOp .shr T (.int .u32 (wI x)) (.int .i64 10) = pure (.int .u32 (wI (x >>> 10))) := shrN T x .i64 10 (by decide)
theorem shr10i64 : (binOp .shr T (.int .u32 (wI x)) (.int .i64 10)).run P w = .ok (.int .u32 (wI (x >>> 10))) w := by rw [show binOp .shr T (.int .u32 (wI x)) (.int .i64 10) = pure (.int .u32 (wI (x >>> 10))) from shrN T x .i64 10 (by decide)]; rfl
theorem shl16u64e : binOp .shl T (.int .u32 (wI x)) (.int .u64 16) = pure (.int .u32 (wI (x <<< 16))) := shlN T x .u64 16 (by decide)
theorem shl16u64 : (binOp .shl T (.int .u32 (wI x)) (.int .u64 16)).run P w = .ok (.int .u32 (wI (x <<< 16))) w := by rw [show binOp .shl T (.int .u32 (wI x)) (.int .u64 16) = pure (.int .u32 (wI (x <<< 16))) from shlN T x .u64 16 (by decide)]; rfl
theorem shr16u64e : binOp .shr T (.int .u32 (wI x)) (.int .u64 16) = pure (.int .u32 (wI (x >>> 16))) := shrN T x .u64 16 (by decide)
theorem shr16u64 : (binOp .shr T (.int .u32 (wI x)) (.int .u64 16)).run P w = .ok (.int .u32 (wI (x >>> 16))) w := by rw [show binOp .shr T (.int .u32 (wI x)) (.int .u64 16) = pure (.int .u32 (wI (x >>> 16))) from shrN T x .u64 16 (by decide)]; rfl
theorem shl16i64e : binOp .shl T (.int .u32 (wI x)) (.int .i64 16) = pure (.int .u32 (wI (x <<< 16))) := shlN T x .i64 16 (by decide)
theorem shl16i64 : (binOp .shl T (.int .u32 (wI x)) (.int .i64 16)).run P w = .ok (.int .u32 (wI (x <<< 16))) w := by rw [show binOp .shl T (.int .u32 (wI x)) (.int .i64 16) = pure (.int .u32 (wI (x <<< 16))) from shlN T x .i64 16 (by decide)]; rfl
theorem shr16i64e : binOp .shr T (.int .u32 (wI x)) (.int .i64 16) = pure (.int .u32 (wI (x >>> 16))) := shrN T x .i64 16 (by decide)
theorem shr16i64 : (binOp .shr T (.int .u32 (wI x)) (.int .i64 16)).run P w = .ok (.int .u32 (wI (x >>> 16))) w := by rw [show binOp .shr T (.int .u32 (wI x)) (.int .i64 16) = pure (.int .u32 (wI (x >>> 16))) from shrN T x .i64 16 (by decide)]; rfl
theorem shl24u64e : binOp .shl T (.int .u32 (wI x)) (.int .u64 24) = pure (.int .u32 (wI (x <<< 24))) := shlN T x .u64 24 (by decide)
theorem shl24u64 : (binOp .shl T (.int .u32 (wI x)) (.int .u64 24)).run P w = .ok (.int .u32 (wI (x <<< 24))) w := by rw [show binOp .shl T (.int .u32 (wI x)) (.int .u64 24) = pure (.int .u32 (wI (x <<< 24))) from shlN T x .u64 24 (by decide)]; rfl
theorem shr24u64e : binOp .shr T (.int .u32 (wI x)) (.int .u64 24) = pure (.int .u32 (wI (x >>> 24))) := shrN T x .u64 24 (by decide)
theorem shr24u64 : (binOp .shr T (.int .u32 (wI x)) (.int .u64 24)).run P w = .ok (.int .u32 (wI (x >>> 24))) w := by rw [show binOp .shr T (.int .u32 (wI x)) (.int .u64 24) = pure (.int .u32 (wI (x >>> 24))) from shrN T x .u64 24 (by decide)]; rfl
theorem shl24i64e : binOp .shl T (.int .u32 (wI x)) (.int .i64 24) = pure (.int .u32 (wI (x <<< 24))) := shlN T x .i64 24 (by decide)
theorem shl24i64 : (binOp .shl T (.int .u32 (wI x)) (.int .i64 24)).run P w = .ok (.int .u32 (wI (x <<< 24))) w := by rw [show binOp .shl T (.int .u32 (wI x)) (.int .i64 24) = pure (.int .u32 (wI (x <<< 24))) from shlN T x .i64 24 (by decide)]; rfl
theorem shr24i64e : binOp .shr T (.int .u32 (wI x)) (.int .i64 24) = pure (.int .u32 (wI (x >>> 24))) := shrN T x .i64 24 (by decide)
theorem shr24i64 : (binOp .shr T (.int .u32 (wI x)) (.int .i64 24)).run P w = .ok (.int .u32 (wI (x >>> 24))) w := by rw [show binOp .shr T (.int .u32 (wI x)) (.int .i64 24) = pure (.int .u32 (wI (x >>> 24))) from shrN T x .i64 24 (by decide)]; rfl
end
theorem and31 : ∀ n : Nat, n < 32 → 0 < n → bits .and .u64 (IntKind.u64.wrap (-(n : Int))) 31 = ((32 - n : Nat) : Int) := by decide +kernel
end Go.Proofs.Ytilgjldnlgfehaa
