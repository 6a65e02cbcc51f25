/- The types' rows of this program, as the walk asks for them. -/
import Derived.Test.YtilgjldnlgfehaaProg
import Derived.Test.YtilgjldnlgfehaaSepX
import Derived.Test.YtilgjldnlgfehaaHs
namespace Go.Proofs.Ytilgjldnlgfehaa
set_option linter.unusedVariables false
set_option linter.unusedSimpArgs false
open Hp
instance tyS3 : TyS Try.prog 3 := ⟨by kernel_rfl⟩
instance tyS4 : TyS Try.prog 4 := ⟨by kernel_rfl⟩
instance tyS5 : TyS Try.prog 5 := ⟨by kernel_rfl⟩
instance tyS22 : TyS Try.prog 22 := ⟨by kernel_rfl⟩
instance tyI3 : TyI Try.prog 3 .i64 := ⟨by kernel_rfl⟩
instance tyI5 : TyI Try.prog 5 .u8 := ⟨by kernel_rfl⟩
instance tyStr9 : TyStr Try.prog 9 := ⟨by kernel_rfl⟩
instance tySl22 : TySl Try.prog 22 5 := ⟨by kernel_rfl⟩
instance tyE5 : TyE Try.prog 5 1 1 := ⟨by kernel_rfl⟩
instance tyE3 : TyE Try.prog 3 1 8 := ⟨by kernel_rfl⟩
instance tyN3 : TyN Try.prog 3 1 := ⟨by kernel_rfl⟩
instance tyN4 : TyN Try.prog 4 1 := ⟨by kernel_rfl⟩
instance tyN5 : TyN Try.prog 5 1 := ⟨by kernel_rfl⟩
instance tyN22 : TyN Try.prog 22 1 := ⟨by kernel_rfl⟩
instance tyZ5 : TyZ Try.prog 5 [.int .u8 0] := ⟨by kernel_rfl⟩
instance tyE22 : TyE Try.prog 22 1 24 := ⟨by kernel_rfl⟩
instance tyZ22 : TyZ Try.prog 22 [.slice none 0 0] := ⟨by kernel_rfl⟩
instance tyS25 : TyS Try.prog 25 := ⟨by kernel_rfl⟩
instance tyN25 : TyN Try.prog 25 1 := ⟨by kernel_rfl⟩
instance tySl25 : TySl Try.prog 25 22 := ⟨by kernel_rfl⟩
instance tyZ25 : TyZ Try.prog 25 [.slice none 0 0] := ⟨by kernel_rfl⟩
instance tyZ3 : TyZ Try.prog 3 [.int .i64 0] := ⟨by kernel_rfl⟩
instance tyS35 : TyS Try.prog 35 := ⟨by kernel_rfl⟩
instance tyN35 : TyN Try.prog 35 1 := ⟨by kernel_rfl⟩
instance tyA36 : TyA Try.prog 36 8 := ⟨by kernel_rfl⟩
instance tyN36 : TyN Try.prog 36 8 := ⟨by kernel_rfl⟩
instance tyZ36 : TyZ Try.prog 36 (List.replicate 8 (.int .u32 0)) := ⟨by kernel_rfl⟩
instance tyA58 : TyA Try.prog 58 8 := ⟨by kernel_rfl⟩
instance tyN58 : TyN Try.prog 58 8 := ⟨by kernel_rfl⟩
instance tyZ58 : TyZ Try.prog 58 (List.replicate 8 (.int .u32 0)) := ⟨by kernel_rfl⟩
instance tyA60 : TyA Try.prog 60 64 := ⟨by kernel_rfl⟩
instance tyN60 : TyN Try.prog 60 64 := ⟨by kernel_rfl⟩
instance tyZ60 : TyZ Try.prog 60 (List.replicate 64 (.int .u32 0)) := ⟨by kernel_rfl⟩
instance tyA76 : TyA Try.prog 76 16 := ⟨by kernel_rfl⟩
instance tyN76 : TyN Try.prog 76 16 := ⟨by kernel_rfl⟩
instance tyZ76 : TyZ Try.prog 76 (List.replicate 16 (.int .u32 0)) := ⟨by kernel_rfl⟩
end Go.Proofs.Ytilgjldnlgfehaa
