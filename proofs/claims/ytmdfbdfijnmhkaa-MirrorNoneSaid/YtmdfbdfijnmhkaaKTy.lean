import Derived.Test.YtmdfbdfijnmhkaaProg
import Derived.Test.YtmdfbdfijnmhkaaSepX
namespace Go.Proofs.Ytmdfbdfijnmhkaa
set_option linter.unusedVariables false
set_option linter.unusedSimpArgs false
open Hp
instance kS3 : TyS Try.prog 3 := ⟨by kernel_rfl⟩
instance kS4 : TyS Try.prog 4 := ⟨by kernel_rfl⟩
instance kS5 : TyS Try.prog 5 := ⟨by kernel_rfl⟩
instance kS9 : TyS Try.prog 9 := ⟨by kernel_rfl⟩
instance kS22 : TyS Try.prog 30 := ⟨by kernel_rfl⟩
instance kI3 : TyI Try.prog 3 .i64 := ⟨by kernel_rfl⟩
instance kI5 : TyI Try.prog 5 .u8 := ⟨by kernel_rfl⟩
instance kStr9 : TyStr Try.prog 9 := ⟨by kernel_rfl⟩
instance kSl22 : TySl Try.prog 30 5 := ⟨by kernel_rfl⟩
instance kE5 : TyE Try.prog 5 1 1 := ⟨by kernel_rfl⟩
instance kE3 : TyE Try.prog 3 1 8 := ⟨by kernel_rfl⟩
instance kN3 : TyN Try.prog 3 1 := ⟨by kernel_rfl⟩
instance kN4 : TyN Try.prog 4 1 := ⟨by kernel_rfl⟩
instance kN5 : TyN Try.prog 5 1 := ⟨by kernel_rfl⟩
instance kN9 : TyN Try.prog 9 1 := ⟨by kernel_rfl⟩
instance kN22 : TyN Try.prog 30 1 := ⟨by kernel_rfl⟩
instance kZ5 : TyZ Try.prog 5 [.int .u8 0] := ⟨by kernel_rfl⟩
instance kZ3 : TyZ Try.prog 3 [.int .i64 0] := ⟨by kernel_rfl⟩
instance kE22 : TyE Try.prog 30 1 24 := ⟨by kernel_rfl⟩
instance kZ22 : TyZ Try.prog 30 [.slice none 0 0] := ⟨by kernel_rfl⟩
instance kZ9 : TyZ Try.prog 9 [.string ⟨#[]⟩] := ⟨by kernel_rfl⟩
end Go.Proofs.Ytmdfbdfijnmhkaa
