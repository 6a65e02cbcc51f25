/- The types' rows of this program, as the walk asks for them. -/
import Derived.Test.YtifajcblbedcoaaProg
import Derived.Test.YtifajcblbedcoaaSepX
import Derived.Test.YtifajcblbedcoaaPtr
namespace Go.Proofs.Ytifajcblbedcoaa
set_option linter.unusedVariables false
set_option linter.unusedSimpArgs false
open Hp
instance tyS3 : TyS Try.prog 3 := ⟨by kernel_rfl⟩
instance tyS4 : TyS Try.prog 4 := ⟨by kernel_rfl⟩
instance tyS5 : TyS Try.prog 5 := ⟨by kernel_rfl⟩
instance tyI3 : TyI Try.prog 3 .i64 := ⟨by kernel_rfl⟩
instance tyI5 : TyI Try.prog 5 .u8 := ⟨by kernel_rfl⟩
instance tyStr9 : TyStr Try.prog 9 := ⟨by kernel_rfl⟩
instance tyE5 : TyE Try.prog 5 1 1 := ⟨by kernel_rfl⟩
instance tyE3 : TyE Try.prog 3 1 8 := ⟨by kernel_rfl⟩
instance tyN3 : TyN Try.prog 3 1 := ⟨by kernel_rfl⟩
instance tyN4 : TyN Try.prog 4 1 := ⟨by kernel_rfl⟩
instance tyN5 : TyN Try.prog 5 1 := ⟨by kernel_rfl⟩
instance tyS25 : TyS Try.prog 42 := ⟨by kernel_rfl⟩
instance tyN25 : TyN Try.prog 42 1 := ⟨by kernel_rfl⟩
instance tySl25 : TySl Try.prog 42 87 := ⟨by kernel_rfl⟩
instance tyA42 : TyA Try.prog 87 2 := ⟨by kernel_rfl⟩
instance tyN42 : TyN Try.prog 87 2 := ⟨by kernel_rfl⟩
instance tyE42 : TyE Try.prog 87 2 16 := ⟨by kernel_rfl⟩
instance tyZ42 : TyZ Try.prog 87 [.int .i64 0, .int .i64 0] := ⟨by kernel_rfl⟩
instance tyZ62 : TyZ Try.prog 107 (List.replicate 8 (.bool false)) := ⟨by kernel_rfl⟩
instance tyA27 : TyA Try.prog 44 32 := ⟨by kernel_rfl⟩
instance tyA29 : TyA Try.prog 46 35 := ⟨by kernel_rfl⟩
instance tyN29 : TyN Try.prog 46 35 := ⟨by kernel_rfl⟩
instance tyS30 : TyS Try.prog 28 := ⟨by kernel_rfl⟩
instance tyN30 : TyN Try.prog 28 1 := ⟨by kernel_rfl⟩
instance tyArr27 : TyArr Try.prog 44 32 5 := ⟨by kernel_rfl, by kernel_rfl, by kernel_rfl, by kernel_rfl⟩
instance tyB27 : TyB Try.prog 44 (bytesV nones) := ⟨by kernel_rfl⟩
instance tyZ29 : TyZ Try.prog 46 (ptrCells (.slice none 0 0) 0 0 nones) := ⟨by kernel_rfl⟩
instance tyB29 : TyB Try.prog 46 (ptrCells (.slice none 0 0) 0 0 nones) := ⟨by kernel_rfl⟩
instance tyP42 : TyP2 Try.prog 87 := ⟨by kernel_rfl⟩
@[go_sem ↓] theorem eqlAddr (a b c d : Int) (w : World) : (binOp .eql 87 (.agg #[.int .i64 a, .int .i64 b]) (.agg #[.int .i64 c, .int .i64 d])).run Try.prog w = .ok (.bool ((a == c) && (b == d))) w := run_eql_p2 tyP42 a b c d _ _ w
@[go_sem ↓] theorem neqAddr (a b c d : Int) (w : World) : (binOp .neq 87 (.agg #[.int .i64 a, .int .i64 b]) (.agg #[.int .i64 c, .int .i64 d])).run Try.prog w = .ok (.bool (!((a == c) && (b == d)))) w := run_neq_p2 tyP42 a b c d _ _ w
@[go_sem ↓] theorem guardAddr (op : BinOp) (x y : Operand) (xs ys : Array Value) (w : World) : (eqGuard op 87 x y (.agg xs) (.agg ys)).run Try.prog w = .ok () w := run_guard_p2 tyP42 op x y xs ys w
instance tyZ5 : TyZ Try.prog 5 [.int .u8 0] := ⟨by kernel_rfl⟩
end Go.Proofs.Ytifajcblbedcoaa
