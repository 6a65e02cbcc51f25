/- The types' rows of orders and replies. -/
import Derived.Test.YtalfdcfcaamnbaaFRy
import Derived.Test.YtalfdcfcaamnbaaSepB
import Derived.Test.YtalfdcfcaamnbaaSepO
import Derived.Test.YtalfdcfcaamnbaaSepT
import Derived.Test.YtalfdcfcaamnbaaStr
namespace Go.Proofs.Ytalfdcfcaamnbaa
set_option linter.unusedVariables false
set_option linter.unusedSimpArgs false
open Go.RowKit Hp
/-- A text as a value. -/
def strV (l : List UInt8) : Value := .string ⟨l.toArray⟩
def strsV (l : List (List UInt8)) : List Value := l.map strV
def intsV (l : List Int) : List Value := l.map fun x => .int .i64 x
@[simp] theorem length_strsV (l : List (List UInt8)) : (strsV l).length = l.length := by simp [strsV]
@[simp] theorem length_intsV (l : List Int) : (intsV l).length = l.length := by simp [intsV]
theorem ones_strsV (l : List (List UInt8)) : (strsV l).all (·.oneCell') = true := by
  rw [List.all_eq_true]
  intro v hv
  simp only [strsV, List.mem_map] at hv
  obtain ⟨x, _, rfl⟩ := hv
  rfl
theorem ones_intsV (l : List Int) : (intsV l).all (·.oneCell') = true := by
  rw [List.all_eq_true]
  intro v hv
  simp only [intsV, List.mem_map] at hv
  obtain ⟨x, _, rfl⟩ := hv
  rfl
theorem strsV_append (l k : List (List UInt8)) : strsV (l ++ k) = strsV l ++ strsV k := by simp [strsV]
theorem intsV_append (l k : List Int) : intsV (l ++ k) = intsV l ++ intsV k := by simp [intsV]
theorem strsV_get {l : List (List UInt8)} {k : Nat} {s : List UInt8} (h : l[k]? = some s) : (strsV l)[k]? = some (strV s) := by simp [strsV, h]
theorem intsV_get {l : List Int} {k : Nat} {x : Int} (h : l[k]? = some x) : (intsV l)[k]? = some (.int .i64 x) := by simp [intsV, h]
instance oAO : TyA Try.prog 25 7 := ⟨by kernel_rfl⟩
instance oNO : TyN Try.prog 25 7 := ⟨by kernel_rfl⟩
instance oZO : TyZ Try.prog 25 [.int .i64 0, .string ⟨#[]⟩, .string ⟨#[]⟩, .int .i64 0, .int .i64 0, .slice none 0 0, .slice none 0 0] := ⟨by kernel_rfl⟩
instance oBO : TyB Try.prog 25 [.int .i64 0, .string ⟨#[]⟩, .string ⟨#[]⟩, .int .i64 0, .int .i64 0, .slice none 0 0, .slice none 0 0] := ⟨by kernel_rfl⟩
instance oAR : TyA Try.prog 49 3 := ⟨by kernel_rfl⟩
instance oNR : TyN Try.prog 49 3 := ⟨by kernel_rfl⟩
instance oZR : TyZ Try.prog 49 [.int .i64 0, .slice none 0 0, .slice none 0 0] := ⟨by kernel_rfl⟩
instance oBR : TyB Try.prog 49 [.int .i64 0, .slice none 0 0, .slice none 0 0] := ⟨by kernel_rfl⟩
instance oAU : TyA Try.prog 35 6 := ⟨by kernel_rfl⟩
instance oNU : TyN Try.prog 35 6 := ⟨by kernel_rfl⟩
instance oZU : TyZ Try.prog 35 [.bool false, .bool false, .bool false, .bool false, .bool false, .bool false] := ⟨by kernel_rfl⟩
instance oBU : TyB Try.prog 35 [.bool false, .bool false, .bool false, .bool false, .bool false, .bool false] := ⟨by kernel_rfl⟩
instance oN25 : TyN Try.prog 71 150 := ⟨by kernel_rfl⟩
instance oZ25 : TyZ Try.prog 71 (List.replicate 150 (.bool false)) := ⟨by kernel_rfl⟩
instance oAP : TyA Try.prog 89 2 := ⟨by kernel_rfl⟩
instance oNP : TyN Try.prog 89 2 := ⟨by kernel_rfl⟩
instance oZP : TyZ Try.prog 89 [.nilFunc, .nilFunc] := ⟨by kernel_rfl⟩
instance oEP : TyE Try.prog 89 2 16 := ⟨by kernel_rfl⟩
instance oSlP : TySl Try.prog 59 89 := ⟨by kernel_rfl⟩
instance oSP : TyS Try.prog 59 := ⟨by kernel_rfl⟩
instance oSSs : TyS Try.prog 22 := ⟨by kernel_rfl⟩
instance oNSs : TyN Try.prog 22 1 := ⟨by kernel_rfl⟩
instance oSlSs : TySl Try.prog 22 9 := ⟨by kernel_rfl⟩
instance oES : TyE Try.prog 9 1 16 := ⟨by kernel_rfl⟩
instance oSIs : TyS Try.prog 47 := ⟨by kernel_rfl⟩
instance oNIs : TyN Try.prog 47 1 := ⟨by kernel_rfl⟩
instance oSlIs : TySl Try.prog 47 3 := ⟨by kernel_rfl⟩
instance oSpi : TyS Try.prog 83 := ⟨by kernel_rfl⟩
instance oSps : TyS Try.prog 92 := ⟨by kernel_rfl⟩
instance oSpSs : TyS Try.prog 94 := ⟨by kernel_rfl⟩
instance oSpIs : TyS Try.prog 106 := ⟨by kernel_rfl⟩
instance oSpBs : TyS Try.prog 96 := ⟨by kernel_rfl⟩
instance oSfw : TyS Try.prog 86 := ⟨by kernel_rfl⟩
instance oSfr : TyS Try.prog 87 := ⟨by kernel_rfl⟩
instance oSfs : TyS Try.prog 91 := ⟨by kernel_rfl⟩
instance oSfi : TyS Try.prog 107 := ⟨by kernel_rfl⟩
end Go.Proofs.Ytalfdcfcaamnbaa
