import Derived.Test.YtmdfbdfijnmhkaaOpenI
namespace Go.Proofs.Ytmdfbdfijnmhkaa
set_option linter.unusedVariables false
set_option linter.unusedSimpArgs false
set_option maxRecDepth 100000
open Go.ChangeShapes Go.WideShapes Go.ChangeAt Go.RowKit Go.Deep Go.Lib Go.Joins Hp
theorem open_int3 {H : Type} {enc : TypeId × Value → H} {W : World} {base fuel : Nat} {v : Value} {x : DataW H × List MemPlace} (hv : Value.okWide Try.prog W .any base 22 v)
    (h : DataW.trod enc Try.prog W 0 (fun _ => true) true fuel 22 v.cells.toList = some x) : ∃ a b c : Int, v = .agg (List.toArray [.int .i64 a, .int .i64 b, .int .i64 c]) ∧ (-9223372036854775808 ≤ a ∧ a ≤ 9223372036854775807) ∧ (-9223372036854775808 ≤ b ∧ b ≤ 9223372036854775807) ∧ (-9223372036854775808 ≤ c ∧ c ≤ 9223372036854775807) := by
  obtain ⟨zs, rfl, hl, hz⟩ := open_arr Try.underlying22 Try.underlying3 (by kernel_rfl) (by kernel_rfl) hv h
  match zs, hl with
  | [a, b, c], _ => exact ⟨a, b, c, rfl, hz a (by simp), hz b (by simp), hz c (by simp)⟩
theorem byte_ofM {z : Int} (h : IntKind.u8.min ≤ z ∧ z ≤ IntKind.u8.max) : ∃ x : UInt8, (x.toNat : Int) = z := by
  have h3 : IntKind.u8.min = 0 := rfl
  have h4 : IntKind.u8.max = 255 := rfl
  refine ⟨UInt8.ofNat z.toNat, ?_⟩
  rw [UInt8.toNat_ofNat']
  omega
theorem open_byte3 {H : Type} {enc : TypeId × Value → H} {W : World} {base fuel : Nat} {v : Value} {x : DataW H × List MemPlace} (hv : Value.okWide Try.prog W .any base 23 v)
    (h : DataW.trod enc Try.prog W 0 (fun _ => true) true fuel 23 v.cells.toList = some x) : ∃ a b c : UInt8, v = .agg (List.toArray (bytesV [a, b, c])) := by
  obtain ⟨zs, rfl, hl, hz⟩ := open_arr Try.underlying23 Try.underlying5 (by kernel_rfl) (by kernel_rfl) hv h
  match zs, hl with
  | [a, b, c], _ =>
    obtain ⟨a, rfl⟩ := byte_ofM (hz a (by simp))
    obtain ⟨b, rfl⟩ := byte_ofM (hz b (by simp))
    obtain ⟨c, rfl⟩ := byte_ofM (hz c (by simp))
    exact ⟨a, b, c, rfl⟩
end Go.Proofs.Ytmdfbdfijnmhkaa
