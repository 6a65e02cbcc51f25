/- The types' rows of the reader's part. -/
import Derived.Test.YtalfdcfcaamnbaaFTy
import Derived.Test.YtalfdcfcaamnbaaFr
namespace Go.Proofs.Ytalfdcfcaamnbaa
set_option linter.unusedVariables false
set_option linter.unusedSimpArgs false
open Hp
instance fSR : TyS Try.prog 99 := ⟨by kernel_rfl⟩
instance fNR : TyN Try.prog 99 1 := ⟨by kernel_rfl⟩
instance fAR : TyA Try.prog 111 5 := ⟨by kernel_rfl⟩
instance fNRr : TyN Try.prog 111 5 := ⟨by kernel_rfl⟩
instance fAF : TyA Try.prog 42 2 := ⟨by kernel_rfl⟩
instance fNF : TyN Try.prog 42 2 := ⟨by kernel_rfl⟩
instance fZF : TyZ Try.prog 42 [.int .i64 0, .int .i64 0] := ⟨by kernel_rfl⟩
instance fAs : TyA Try.prog 115 2 := ⟨by kernel_rfl⟩
instance fNs : TyN Try.prog 115 2 := ⟨by kernel_rfl⟩
instance fZs : TyZ Try.prog 115 [.int .i64 0, .int .i64 0] := ⟨by kernel_rfl⟩
instance fAQ : TyA Try.prog 102 4 := ⟨by kernel_rfl⟩
instance fNQ : TyN Try.prog 102 4 := ⟨by kernel_rfl⟩
/-- A reader's memory. -/
def rP (g : Nat) (bv : Value) (B : List UInt8) (s : RS) : List HA := [.blk g 111 [.bool true, bv, .int .i64 s.pos, .int .i64 s.e, .int .i64 s.fa], .rowP isB bv 5 1 B.length (bytesV B)]
/-- The document's reader's memory: its bytes are not its own. -/
def qP (g : Nat) (bv : Value) (s : RS) : List HA := [.blk g 102 [bv, .int .i64 s.pos, .int .i64 s.e, .int .i64 s.fa]]
end Go.Proofs.Ytalfdcfcaamnbaa
