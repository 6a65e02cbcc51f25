import Derived.Test.YtifajcblbedcoaaGreatTy
import Derived.Test.YtifajcblbedcoaaGreatKTy
import Derived.Test.YtifajcblbedcoaaGreatD0
import Derived.Test.YtifajcblbedcoaaGreatSepB
import Derived.Test.YtifajcblbedcoaaGreatSepO
import Derived.Test.YtifajcblbedcoaaGreatSepJ
namespace Go.Proofs.YtifajcblbedcoaaGreat
set_option linter.unusedVariables false
set_option linter.unusedSimpArgs false
open Go.RowKit Hp
def rec0 : List Value := .int .i64 0 :: .string ⟨#[]⟩ :: .int .i64 0 :: .int .i64 0 :: (ptrCells (.slice none 0 0) 0 0 nones ++ [.int .i64 0, .int .i64 0, .int .i64 0, .int .i64 0, .int .i64 0])
def tab0 : List Value := [.int .i64 0, .slice none 0 0, .int .i64 0, .int .i64 0, .int .i64 0, .int .i64 0, .slice none 0 0]
instance dAR : TyA Tryz.prog 53 44 := ⟨by kernel_rfl⟩
instance dNR : TyN Tryz.prog 53 44 := ⟨by kernel_rfl⟩
instance dZR : TyZ Tryz.prog 53 rec0 := ⟨by kernel_rfl⟩
instance dBR : TyB Tryz.prog 53 rec0 := ⟨by kernel_rfl⟩
instance dAT : TyA Tryz.prog 27 7 := ⟨by kernel_rfl⟩
instance dNT : TyN Tryz.prog 27 7 := ⟨by kernel_rfl⟩
instance dZT : TyZ Tryz.prog 27 tab0 := ⟨by kernel_rfl⟩
instance dBT : TyB Tryz.prog 27 tab0 := ⟨by kernel_rfl⟩
instance dAC : TyA Tryz.prog 24 4 := ⟨by kernel_rfl⟩
instance dNC : TyN Tryz.prog 24 4 := ⟨by kernel_rfl⟩
instance dZC : TyZ Tryz.prog 24 [.int .i64 0, .int .i64 0, .int .i64 0, .int .i64 0] := ⟨by kernel_rfl⟩
instance dBC : TyB Tryz.prog 24 [.int .i64 0, .int .i64 0, .int .i64 0, .int .i64 0] := ⟨by kernel_rfl⟩
instance dSlR : TySl Tryz.prog 22 53 := ⟨by kernel_rfl⟩
instance dSR : TyS Tryz.prog 22 := ⟨by kernel_rfl⟩
instance dNSR : TyN Tryz.prog 22 1 := ⟨by kernel_rfl⟩
instance dER : TyE Tryz.prog 53 44 152 := ⟨by kernel_rfl⟩
instance dSlI : TySl Tryz.prog 25 3 := ⟨by kernel_rfl⟩
instance dSI : TyS Tryz.prog 25 := ⟨by kernel_rfl⟩
instance dNSI : TyN Tryz.prog 25 1 := ⟨by kernel_rfl⟩
instance dSIC : TySI Tryz.prog 24 4 := ⟨by kernel_rfl⟩
@[go_sem ↓] theorem eqlCur (a b c d a' b' c' d' : Int) (w : World) : (binOp .eql 24 (.agg #[.int .i64 a, .int .i64 b, .int .i64 c, .int .i64 d]) (.agg #[.int .i64 a', .int .i64 b', .int .i64 c', .int .i64 d'])).run Tryz.prog w = .ok (.bool ([a, b, c, d] == [a', b', c', d'])) w := run_eqlSI (q := .i64) [a, b, c, d] [a', b', c', d'] rfl rfl
@[go_sem ↓] theorem neqCur (a b c d a' b' c' d' : Int) (w : World) : (binOp .neq 24 (.agg #[.int .i64 a, .int .i64 b, .int .i64 c, .int .i64 d]) (.agg #[.int .i64 a', .int .i64 b', .int .i64 c', .int .i64 d'])).run Tryz.prog w = .ok (.bool (!([a, b, c, d] == [a', b', c', d']))) w := run_neqSI (q := .i64) [a, b, c, d] [a', b', c', d'] rfl rfl
@[go_sem ↓] theorem guardCur (op : BinOp) (x y : Operand) (xs ys : Array Value) (w : World) : (eqGuard op 24 x y (.agg xs) (.agg ys)).run Tryz.prog w = .ok () w := run_guardSI op x y xs ys
def recOff : Nat → Option Nat
  | 0 => some 0
  | 1 => some 1
  | 2 => some 2
  | 3 => some 3
  | 4 => some 4
  | 5 => some 39
  | 6 => some 40
  | 7 => some 41
  | 8 => some 42
  | 9 => some 43
  | _ => none
theorem fldR {k d : Nat} (h : recOff k = some d) : fldOff Tryz.prog 53 k = some d := by
  match k with
  | 0 => exact (show some 0 = some d from h) ▸ (by kernel_rfl : fldOff Tryz.prog 53 0 = some 0)
  | 1 => exact (show some 1 = some d from h) ▸ (by kernel_rfl : fldOff Tryz.prog 53 1 = some 1)
  | 2 => exact (show some 2 = some d from h) ▸ (by kernel_rfl : fldOff Tryz.prog 53 2 = some 2)
  | 3 => exact (show some 3 = some d from h) ▸ (by kernel_rfl : fldOff Tryz.prog 53 3 = some 3)
  | 4 => exact (show some 4 = some d from h) ▸ (by kernel_rfl : fldOff Tryz.prog 53 4 = some 4)
  | 5 => exact (show some 39 = some d from h) ▸ (by kernel_rfl : fldOff Tryz.prog 53 5 = some 39)
  | 6 => exact (show some 40 = some d from h) ▸ (by kernel_rfl : fldOff Tryz.prog 53 6 = some 40)
  | 7 => exact (show some 41 = some d from h) ▸ (by kernel_rfl : fldOff Tryz.prog 53 7 = some 41)
  | 8 => exact (show some 42 = some d from h) ▸ (by kernel_rfl : fldOff Tryz.prog 53 8 = some 42)
  | 9 => exact (show some 43 = some d from h) ▸ (by kernel_rfl : fldOff Tryz.prog 53 9 = some 43)
  | _ + 10 => cases h
section
variable {ops : Array Oper} {rest : List Oper} {o : Oper} {a : Act} {w : World} {Q : Exit → Act → World → Prop}
theorem wl_gfldR {g : Bool} {x : Operand} {k d b : Nat} (hop : o.op = .fieldAddr 53 x k) (hw : Region.wanted o (yielded ops a.tmps) = g) (hx : g = true → evL a x = .pointer (some ⟨b, 0, none⟩)) (hd : recOff k = some d)
    (h : wpList Tryz.prog ops Q rest (a.put o.dst (gvV g (.pointer (some ⟨b, d, none⟩)))) w) : wpList Tryz.prog ops Q (o :: rest) a w :=
  wl_gfld hop hw hx (fldR hd) (by rw [Nat.zero_add]; exact h)
end
end Go.Proofs.YtifajcblbedcoaaGreat
