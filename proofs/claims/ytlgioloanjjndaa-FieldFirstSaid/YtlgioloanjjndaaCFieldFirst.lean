/- PROVED: the law FieldFirst returns true at any input, and nothing that was there has turned. No condition. -/
import Derived.Test.YtlgioloanjjndaaPost
import Derived.Test.YtlgioloanjjndaaOpenA
import Derived.Test.YtlgioloanjjndaaF36
namespace Go.Proofs.Ytlgioloanjjndaa
set_option linter.unusedVariables false
set_option linter.unusedSimpArgs false
open Go.ChangeShapes Go.WideShapes Go.ChangeAt Go.RowKit Hp
set_option maxRecDepth 100000 in
theorem fieldFirst_lifted (os : Os) (started : os.Started) (H : Type) (enc : TypeId × Value → H) :
    ReturnsInHanded {} Try.checked os 4 .any (Rows.fieldFirstSpec.pre6 enc Try.prog Try.f4 Rows.fieldFirstRow.domain false) (Rows.fieldFirstSpec.post enc Try.prog Try.f4 false true false false) := by
  refine returnsInHanded_of_change (C := Try.checked) own started (by kernel_rfl) Try.func4
    (ChangeSpec.witness6 (enc := enc) (C := Try.checked) false ⟨#[], #[.slice none 0 0, .int .i64 0, .slice none 0 0], []⟩ 8 (by kernel_rfl) (by kernel_rfl) (by kernel_rfl) (by kernel_rfl)) ?_
  intro W base args ds gs before hval0 hW hcnd _
  have hval : ∀ (j : Nat) t v, Try.f4.params[j]? = some t → args[j]? = some v → Value.okWide Try.prog W .any base t v := hval0
  have hW' := hW
  obtain ⟨p, q, hAA0, hV, rfl, hfz, hnd⟩ := hW
  have hA : DataW.TrodAll enc Try.prog W 0 (fun _ => true) true Try.f4.params.toList args.toList ds p := hAA0
  rw [Try.params4] at hA hval
  have hk := hA
  obtain ⟨v0, v1, v2, d0, d1, d2, p0, p1, p2, rfl, rfl, rfl, h0, h1, h2⟩ := trodAll_three hA
  obtain ⟨rfl, rfl⟩ := trodVars_none hV
  obtain ⟨n0, h0⟩ := h0
  obtain ⟨ao0, n0, c0, xs0, rfl, hA0, hn0, hk0⟩ := open_acts (hval 0 _ v0 rfl rfl) h0
  obtain ⟨n1, h1⟩ := h1
  obtain ⟨z1, rfl, hl1, hu1⟩ := open_int (hval 1 _ v1 rfl rfl) h1
  obtain ⟨n2, h2⟩ := h2
  obtain ⟨ao2, n2, c2, xs2, rfl, hA2, hn2, hk2⟩ := open_acts (hval 2 _ v2 rfl rfl) h2
  clear hAA0 hval0
  simp only [List.append_nil] at hW'
  refine (first_law ao0 n0 c0 xs0 z1 ao2 n2 c2 xs2 W hA0 hn0 hk0 ⟨hl1, hu1⟩ hA2 hn2 hk2).mono fun e W' ⟨he, hg⟩ => ?_
  subst he
  exact ⟨_, rfl, post_of_kept (pv := []) hW' (fun _ _ _ => (trodAll_cons_mk (shut_bool Try.underlying4 _) trodAll_mk0)) (fun sp hsp => by
      rw [Try.params4]
      exact args_kept (by decide) hk hg.below (fun p hp => hW'.lt p hp) sp hsp) (fun _ _ => rfl) (by simp)
    (hg.below.frame _)⟩
theorem fieldFirst_over : Rows.fieldFirstRow.holds Try.pinned (OpenSpec.ofChange Rows.fieldFirstSpec) :=
  OpenClaim.holds_of_wide 4 Try.f4 rfl rfl rfl rfl rfl rfl rfl ⟨rfl, rfl, rfl, rfl, rfl⟩ rfl rfl rfl rfl rfl (by kernel_rfl) Try.func4 (by kernel_rfl)
    (of_decide_eq_true (by kernel_rfl)) (by unfold Func.isWrapper; first | (rw [if_pos (by decide +kernel)]; kernel_rfl) | (rw [if_neg (by decide +kernel)]; exact ⟨rfl, rfl⟩))
    (fun os started H enc _ => fieldFirst_lifted os started H enc)

theorem fieldFirst_proved : Rows.FieldFirstSaid :=
  fieldFirst_over
end Go.Proofs.Ytlgioloanjjndaa
