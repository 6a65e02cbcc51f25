/- The types' rows of this program, as the walk asks for them. -/
import Derived.Test.YtalfdcfcaamnbaaKTy
import Derived.Test.YtalfdcfcaamnbaaFw
namespace Go.Proofs.Ytalfdcfcaamnbaa
set_option linter.unusedVariables false
set_option linter.unusedSimpArgs false
open Hp
instance fSE : TyS Try.prog 29 := ⟨by kernel_rfl⟩
instance fNE : TyN Try.prog 29 1 := ⟨by kernel_rfl⟩
instance fSW : TyS Try.prog 84 := ⟨by kernel_rfl⟩
instance fNW : TyN Try.prog 84 1 := ⟨by kernel_rfl⟩
instance fAW : TyA Try.prog 109 3 := ⟨by kernel_rfl⟩
instance fNWr : TyN Try.prog 109 3 := ⟨by kernel_rfl⟩
instance fAV : TyA Try.prog 64 2 := ⟨by kernel_rfl⟩
instance fNV : TyN Try.prog 64 2 := ⟨by kernel_rfl⟩
instance fBV : TyB Try.prog 64 [.slice none 0 0, .int .i64 0] := ⟨by kernel_rfl⟩
/-- A writer's memory. -/
def wP (g : Nat) (bv : Value) (s : WR) : List HA := [.blk g 109 [.bool true, bv, .int .i64 s.1], .rowP isB bv 5 1 s.2.length (bytesV s.2)]
/-- The document's writer's memory. -/
def vP (g : Nat) (bv : Value) (s : WR) : List HA := [.blk g 64 [bv, .int .i64 s.1], .rowP isB bv 5 1 s.2.length (bytesV s.2)]
end Go.Proofs.Ytalfdcfcaamnbaa
