/- States and IDs among the arguments, opened. -/
import Derived.Test.YtilgjldnlgfehaaOpenW
import Derived.Test.YtilgjldnlgfehaaHTy
namespace Go.Proofs.Ytilgjldnlgfehaa
set_option linter.unusedVariables false
set_option linter.unusedSimpArgs false
open Go.ChangeShapes Go.WideShapes Go.ChangeAt Go.RowKit Go.Deep Go.Lib Go.Joins Hp
theorem word_of {z : Int} (h : IntKind.u32.min ≤ z ∧ z ≤ IntKind.u32.max) : ∃ x : Wd, wI x = z := by
  have h3 : IntKind.u32.min = 0 := rfl
  have h4 : IntKind.u32.max = 4294967295 := rfl
  refine ⟨BitVec.ofNat 32 z.toNat, ?_⟩
  unfold wI
  rw [BitVec.toNat_ofNat]
  omega
theorem open_state {H : Type} {enc : TypeId × Value → H} {W : World} {base fuel : Nat} {v : Value} {x : DataW H × List MemPlace} (hv : Value.okWide Try.prog W .any base 36 v)
    (h : DataW.trod enc Try.prog W 0 (fun _ => true) true fuel 36 v.cells.toList = some x) : ∃ s : S8, v = .agg (wordsV s.list).toArray := by
  obtain ⟨zs, rfl, hl, hz⟩ := open_arr Try.underlying36 Try.underlying35 (by kernel_rfl) (by kernel_rfl) hv h
  match zs, hl with
  | [a, b, c, d, e, f, g, k], _ =>
    obtain ⟨a, rfl⟩ := word_of (hz a (by simp))
    obtain ⟨b, rfl⟩ := word_of (hz b (by simp))
    obtain ⟨c, rfl⟩ := word_of (hz c (by simp))
    obtain ⟨d, rfl⟩ := word_of (hz d (by simp))
    obtain ⟨e, rfl⟩ := word_of (hz e (by simp))
    obtain ⟨f, rfl⟩ := word_of (hz f (by simp))
    obtain ⟨g, rfl⟩ := word_of (hz g (by simp))
    obtain ⟨k, rfl⟩ := word_of (hz k (by simp))
    exact ⟨⟨a, b, c, d, e, f, g, k⟩, rfl⟩
theorem byte_ofI {z : Int} (h : IntKind.u8.min ≤ z ∧ z ≤ IntKind.u8.max) : ∃ x : UInt8, (x.toNat : Int) = z := by
  have h3 : IntKind.u8.min = 0 := rfl
  have h4 : IntKind.u8.max = 255 := rfl
  refine ⟨UInt8.ofNat z.toNat, ?_⟩
  rw [UInt8.toNat_ofNat']
  omega
theorem intsV_bytes : ∀ (zs : List Int), (∀ z ∈ zs, IntKind.u8.min ≤ z ∧ z ≤ IntKind.u8.max) → ∃ S : List UInt8, intsV .u8 zs = bytesV S ∧ S.length = zs.length
  | [], _ => ⟨[], rfl, rfl⟩
  | z :: zs, h => by
    obtain ⟨S, hS, hl⟩ := intsV_bytes zs fun x hx => h x (List.mem_cons_of_mem _ hx)
    obtain ⟨x, hx⟩ := byte_ofI (h z List.mem_cons_self)
    refine ⟨x :: S, ?_, by simp [hl]⟩
    show Value.int .u8 z :: intsV .u8 zs = Value.int .u8 x.toNat :: bytesV S
    rw [hS, hx]
theorem open_idH {H : Type} {enc : TypeId × Value → H} {W : World} {base fuel : Nat} {v : Value} {x : DataW H × List MemPlace} (hv : Value.okWide Try.prog W .any base 29 v)
    (h : DataW.trod enc Try.prog W 0 (fun _ => true) true fuel 29 v.cells.toList = some x) : ∃ S : List UInt8, v = .agg (bytesV S).toArray ∧ S.length = 32 := by
  obtain ⟨zs, rfl, hl, hz⟩ := open_arr Try.underlying29 Try.underlying5 (by kernel_rfl) (by kernel_rfl) hv h
  obtain ⟨S, hS, hl2⟩ := intsV_bytes zs hz
  exact ⟨S, by rw [hS], by omega⟩
end Go.Proofs.Ytilgjldnlgfehaa
