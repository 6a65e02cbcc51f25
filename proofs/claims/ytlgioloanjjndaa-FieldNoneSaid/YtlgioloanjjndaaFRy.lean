/- The types' rows of the reader's part. -/
import Derived.Test.YtlgioloanjjndaaFTy
import Derived.Test.YtlgioloanjjndaaFr
namespace Go.Proofs.Ytlgioloanjjndaa
set_option linter.unusedVariables false
set_option linter.unusedSimpArgs false
open Hp
instance fSR : TyS Try.prog 45 := ⟨by kernel_rfl⟩
instance fNR : TyN Try.prog 45 1 := ⟨by kernel_rfl⟩
instance fAR : TyA Try.prog 67 5 := ⟨by kernel_rfl⟩
instance fNRr : TyN Try.prog 67 5 := ⟨by kernel_rfl⟩
instance fAF : TyA Try.prog 50 2 := ⟨by kernel_rfl⟩
instance fNF : TyN Try.prog 50 2 := ⟨by kernel_rfl⟩
instance fZF : TyZ Try.prog 50 [.int .i64 0, .int .i64 0] := ⟨by kernel_rfl⟩
instance fAs : TyA Try.prog 79 2 := ⟨by kernel_rfl⟩
instance fNs : TyN Try.prog 79 2 := ⟨by kernel_rfl⟩
instance fZs : TyZ Try.prog 79 [.int .i64 0, .int .i64 0] := ⟨by kernel_rfl⟩
instance fAQ : TyA Try.prog 61 4 := ⟨by kernel_rfl⟩
instance fNQ : TyN Try.prog 61 4 := ⟨by kernel_rfl⟩
/-- A reader's memory. -/
def rP (g : Nat) (bv : Value) (B : List UInt8) (s : RS) : List HA := [.blk g 67 [.bool true, bv, .int .i64 s.pos, .int .i64 s.e, .int .i64 s.fa], .rowP isB bv 5 1 B.length (bytesV B)]
/-- The document's reader's memory: its bytes are not its own. -/
def qP (g : Nat) (bv : Value) (s : RS) : List HA := [.blk g 61 [bv, .int .i64 s.pos, .int .i64 s.e, .int .i64 s.fa]]
end Go.Proofs.Ytlgioloanjjndaa
