/- The types' rows of this program, as the walk asks for them. -/
import Derived.Test.YtkpkaoiafppimaaProg
import Derived.Test.YtkpkaoiafppimaaSepX
import Derived.Test.YtkpkaoiafppimaaPtr
namespace Go.Proofs.Ytkpkaoiafppimaa
set_option linter.unusedVariables false
set_option linter.unusedSimpArgs false
open Hp
instance tyS3 : TyS Try.prog 3 := ⟨by kernel_rfl⟩
instance tyS4 : TyS Try.prog 4 := ⟨by kernel_rfl⟩
instance tyS5 : TyS Try.prog 5 := ⟨by kernel_rfl⟩
instance tyS22 : TyS Try.prog 22 := ⟨by kernel_rfl⟩
instance tyI3 : TyI Try.prog 3 .i64 := ⟨by kernel_rfl⟩
instance tyI5 : TyI Try.prog 5 .u8 := ⟨by kernel_rfl⟩
instance tyStr9 : TyStr Try.prog 9 := ⟨by kernel_rfl⟩
instance tySl22 : TySl Try.prog 22 5 := ⟨by kernel_rfl⟩
instance tyE5 : TyE Try.prog 5 1 1 := ⟨by kernel_rfl⟩
instance tyE3 : TyE Try.prog 3 1 8 := ⟨by kernel_rfl⟩
instance tyN3 : TyN Try.prog 3 1 := ⟨by kernel_rfl⟩
instance tyN4 : TyN Try.prog 4 1 := ⟨by kernel_rfl⟩
instance tyN5 : TyN Try.prog 5 1 := ⟨by kernel_rfl⟩
instance tyN22 : TyN Try.prog 22 1 := ⟨by kernel_rfl⟩
instance tyS25 : TyS Try.prog 41 := ⟨by kernel_rfl⟩
instance tyN25 : TyN Try.prog 41 1 := ⟨by kernel_rfl⟩
instance tySl25 : TySl Try.prog 41 98 := ⟨by kernel_rfl⟩
instance tyA42 : TyA Try.prog 98 2 := ⟨by kernel_rfl⟩
instance tyN42 : TyN Try.prog 98 2 := ⟨by kernel_rfl⟩
instance tyE42 : TyE Try.prog 98 2 16 := ⟨by kernel_rfl⟩
instance tyZ42 : TyZ Try.prog 98 [.int .i64 0, .int .i64 0] := ⟨by kernel_rfl⟩
instance tyZ62 : TyZ Try.prog 122 (List.replicate 8 (.bool false)) := ⟨by kernel_rfl⟩
instance tyA27 : TyA Try.prog 43 32 := ⟨by kernel_rfl⟩
instance tyA29 : TyA Try.prog 45 35 := ⟨by kernel_rfl⟩
instance tyN29 : TyN Try.prog 45 35 := ⟨by kernel_rfl⟩
instance tyS30 : TyS Try.prog 31 := ⟨by kernel_rfl⟩
instance tyN30 : TyN Try.prog 31 1 := ⟨by kernel_rfl⟩
instance tyA32 : TyA Try.prog 33 2 := ⟨by kernel_rfl⟩
instance tyN32 : TyN Try.prog 33 2 := ⟨by kernel_rfl⟩
instance tyZ32 : TyZ Try.prog 33 [.int .i64 0, .int .i64 0] := ⟨by kernel_rfl⟩
instance tyArr27 : TyArr Try.prog 43 32 5 := ⟨by kernel_rfl, by kernel_rfl, by kernel_rfl, by kernel_rfl⟩
instance tyB27 : TyB Try.prog 43 (bytesV nones) := ⟨by kernel_rfl⟩
instance tyZ29 : TyZ Try.prog 45 (ptrCells (.slice none 0 0) 0 0 nones) := ⟨by kernel_rfl⟩
instance tyB29 : TyB Try.prog 45 (ptrCells (.slice none 0 0) 0 0 nones) := ⟨by kernel_rfl⟩
instance tyP42 : TyP2 Try.prog 98 := ⟨by kernel_rfl⟩
instance tyP32 : TyP2 Try.prog 33 := ⟨by kernel_rfl⟩
@[go_sem ↓] theorem eqlAddr (a b c d : Int) (w : World) : (binOp .eql 98 (.agg #[.int .i64 a, .int .i64 b]) (.agg #[.int .i64 c, .int .i64 d])).run Try.prog w = .ok (.bool ((a == c) && (b == d))) w := run_eql_p2 tyP42 a b c d _ _ w
@[go_sem ↓] theorem neqAddr (a b c d : Int) (w : World) : (binOp .neq 98 (.agg #[.int .i64 a, .int .i64 b]) (.agg #[.int .i64 c, .int .i64 d])).run Try.prog w = .ok (.bool (!((a == c) && (b == d)))) w := run_neq_p2 tyP42 a b c d _ _ w
@[go_sem ↓] theorem guardAddr (op : BinOp) (x y : Operand) (xs ys : Array Value) (w : World) : (eqGuard op 98 x y (.agg xs) (.agg ys)).run Try.prog w = .ok () w := run_guard_p2 tyP42 op x y xs ys w
@[go_sem ↓] theorem eqlFault (a b c d : Int) (w : World) : (binOp .eql 33 (.agg #[.int .i64 a, .int .i64 b]) (.agg #[.int .i64 c, .int .i64 d])).run Try.prog w = .ok (.bool ((a == c) && (b == d))) w := run_eql_p2 tyP32 a b c d _ _ w
@[go_sem ↓] theorem guardFault (op : BinOp) (x y : Operand) (xs ys : Array Value) (w : World) : (eqGuard op 33 x y (.agg xs) (.agg ys)).run Try.prog w = .ok () w := run_guard_p2 tyP32 op x y xs ys w
instance tySlBuf : TySl Try.prog 100 5 := ⟨by kernel_rfl⟩
instance tyNcur : TyN Try.prog 121 1 := ⟨by kernel_rfl⟩
theorem conc50 : Try.prog.concrete 115 = true := by kernel_rfl
instance tyZ5 : TyZ Try.prog 5 [.int .u8 0] := ⟨by kernel_rfl⟩
end Go.Proofs.Ytkpkaoiafppimaa
