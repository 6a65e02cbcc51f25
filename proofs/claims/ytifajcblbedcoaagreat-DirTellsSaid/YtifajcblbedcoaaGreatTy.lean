import Derived.Test.YtifajcblbedcoaaGreatProg
import Derived.Test.YtifajcblbedcoaaGreatSepX
import Derived.Test.YtifajcblbedcoaaGreatPtr
namespace Go.Proofs.YtifajcblbedcoaaGreat
set_option linter.unusedVariables false
set_option linter.unusedSimpArgs false
open Hp
instance tyS3 : TyS Tryz.prog 3 := ⟨by kernel_rfl⟩
instance tyS4 : TyS Tryz.prog 4 := ⟨by kernel_rfl⟩
instance tyS5 : TyS Tryz.prog 5 := ⟨by kernel_rfl⟩
instance tyI3 : TyI Tryz.prog 3 .i64 := ⟨by kernel_rfl⟩
instance tyI5 : TyI Tryz.prog 5 .u8 := ⟨by kernel_rfl⟩
instance tyStr9 : TyStr Tryz.prog 9 := ⟨by kernel_rfl⟩
instance tyE5 : TyE Tryz.prog 5 1 1 := ⟨by kernel_rfl⟩
instance tyE3 : TyE Tryz.prog 3 1 8 := ⟨by kernel_rfl⟩
instance tyN3 : TyN Tryz.prog 3 1 := ⟨by kernel_rfl⟩
instance tyN4 : TyN Tryz.prog 4 1 := ⟨by kernel_rfl⟩
instance tyN5 : TyN Tryz.prog 5 1 := ⟨by kernel_rfl⟩
instance tyS25 : TyS Tryz.prog 28 := ⟨by kernel_rfl⟩
instance tyN25 : TyN Tryz.prog 28 1 := ⟨by kernel_rfl⟩
instance tySl25 : TySl Tryz.prog 28 102 := ⟨by kernel_rfl⟩
instance tyA42 : TyA Tryz.prog 102 2 := ⟨by kernel_rfl⟩
instance tyN42 : TyN Tryz.prog 102 2 := ⟨by kernel_rfl⟩
instance tyE42 : TyE Tryz.prog 102 2 16 := ⟨by kernel_rfl⟩
instance tyZ42 : TyZ Tryz.prog 102 [.int .i64 0, .int .i64 0] := ⟨by kernel_rfl⟩
instance tyZ62 : TyZ Tryz.prog 122 (List.replicate 8 (.bool false)) := ⟨by kernel_rfl⟩
instance tyA27 : TyA Tryz.prog 30 32 := ⟨by kernel_rfl⟩
instance tyA29 : TyA Tryz.prog 32 35 := ⟨by kernel_rfl⟩
instance tyN29 : TyN Tryz.prog 32 35 := ⟨by kernel_rfl⟩
instance tyS30 : TyS Tryz.prog 41 := ⟨by kernel_rfl⟩
instance tyN30 : TyN Tryz.prog 41 1 := ⟨by kernel_rfl⟩
instance tyArr27 : TyArr Tryz.prog 30 32 5 := ⟨by kernel_rfl, by kernel_rfl, by kernel_rfl, by kernel_rfl⟩
instance tyB27 : TyB Tryz.prog 30 (bytesV nones) := ⟨by kernel_rfl⟩
instance tyZ29 : TyZ Tryz.prog 32 (ptrCells (.slice none 0 0) 0 0 nones) := ⟨by kernel_rfl⟩
instance tyB29 : TyB Tryz.prog 32 (ptrCells (.slice none 0 0) 0 0 nones) := ⟨by kernel_rfl⟩
instance tyP42 : TyP2 Tryz.prog 102 := ⟨by kernel_rfl⟩
@[go_sem ↓] theorem eqlAddr (a b c d : Int) (w : World) : (binOp .eql 102 (.agg #[.int .i64 a, .int .i64 b]) (.agg #[.int .i64 c, .int .i64 d])).run Tryz.prog w = .ok (.bool ((a == c) && (b == d))) w := run_eql_p2 tyP42 a b c d _ _ w
@[go_sem ↓] theorem neqAddr (a b c d : Int) (w : World) : (binOp .neq 102 (.agg #[.int .i64 a, .int .i64 b]) (.agg #[.int .i64 c, .int .i64 d])).run Tryz.prog w = .ok (.bool (!((a == c) && (b == d)))) w := run_neq_p2 tyP42 a b c d _ _ w
@[go_sem ↓] theorem guardAddr (op : BinOp) (x y : Operand) (xs ys : Array Value) (w : World) : (eqGuard op 102 x y (.agg xs) (.agg ys)).run Tryz.prog w = .ok () w := run_guard_p2 tyP42 op x y xs ys w
instance tyZ5 : TyZ Tryz.prog 5 [.int .u8 0] := ⟨by kernel_rfl⟩
end Go.Proofs.YtifajcblbedcoaaGreat
