import Derived.Test.YtmdfbdfijnmhkaaGreatProg
import Derived.Test.YtmdfbdfijnmhkaaGreatSepX
namespace Go.Proofs.YtmdfbdfijnmhkaaGreat
set_option linter.unusedVariables false
set_option linter.unusedSimpArgs false
open Hp
instance kS3 : TyS Tryz.prog 3 := ⟨by kernel_rfl⟩
instance kS4 : TyS Tryz.prog 4 := ⟨by kernel_rfl⟩
instance kS5 : TyS Tryz.prog 5 := ⟨by kernel_rfl⟩
instance kS9 : TyS Tryz.prog 9 := ⟨by kernel_rfl⟩
instance kS22 : TyS Tryz.prog 28 := ⟨by kernel_rfl⟩
instance kI3 : TyI Tryz.prog 3 .i64 := ⟨by kernel_rfl⟩
instance kI5 : TyI Tryz.prog 5 .u8 := ⟨by kernel_rfl⟩
instance kStr9 : TyStr Tryz.prog 9 := ⟨by kernel_rfl⟩
instance kSl22 : TySl Tryz.prog 28 5 := ⟨by kernel_rfl⟩
instance kE5 : TyE Tryz.prog 5 1 1 := ⟨by kernel_rfl⟩
instance kE3 : TyE Tryz.prog 3 1 8 := ⟨by kernel_rfl⟩
instance kN3 : TyN Tryz.prog 3 1 := ⟨by kernel_rfl⟩
instance kN4 : TyN Tryz.prog 4 1 := ⟨by kernel_rfl⟩
instance kN5 : TyN Tryz.prog 5 1 := ⟨by kernel_rfl⟩
instance kN9 : TyN Tryz.prog 9 1 := ⟨by kernel_rfl⟩
instance kN22 : TyN Tryz.prog 28 1 := ⟨by kernel_rfl⟩
instance kZ5 : TyZ Tryz.prog 5 [.int .u8 0] := ⟨by kernel_rfl⟩
instance kZ3 : TyZ Tryz.prog 3 [.int .i64 0] := ⟨by kernel_rfl⟩
instance kE22 : TyE Tryz.prog 28 1 24 := ⟨by kernel_rfl⟩
instance kZ22 : TyZ Tryz.prog 28 [.slice none 0 0] := ⟨by kernel_rfl⟩
instance kZ9 : TyZ Tryz.prog 9 [.string ⟨#[]⟩] := ⟨by kernel_rfl⟩
end Go.Proofs.YtmdfbdfijnmhkaaGreat
