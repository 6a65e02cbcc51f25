/- PROVED: the law ArrayFaults returns true at any input, and nothing that was there has turned. No condition. -/
import Derived.Test.YtclleohpmgihaaaPost
import Derived.Test.YtclleohpmgihaaaR28
import Derived.Test.YtclleohpmgihaaaOpenC
namespace Go.Proofs.Ytclleohpmgihaaa
set_option linter.unusedVariables false
set_option linter.unusedSimpArgs false
open Go.ChangeShapes Go.WideShapes Go.ChangeAt Go.RowKit Hp
set_option maxRecDepth 100000 in
theorem arrayFaults_lifted (os : Os) (started : os.Started) (H : Type) (enc : TypeId × Value → H) :
    ReturnsInHanded {} Try.checked os 4 .any (Rows.arrayFaultsSpec.pre6 enc Try.prog Try.f4 Rows.arrayFaultsRow.domain false) (Rows.arrayFaultsSpec.post enc Try.prog Try.f4 false true false false) := by
  refine returnsInHanded_of_change (C := Try.checked) own started (by kernel_rfl) Try.func4
    (ChangeSpec.witness6 (enc := enc) (C := Try.checked) false ⟨#[], #[.int .i64 0, .int .i64 0, .int .u8 0, .int .u8 0, .int .i64 0], []⟩ 8 (by kernel_rfl) (by kernel_rfl) (by kernel_rfl) (by kernel_rfl)) ?_
  intro W base args ds gs before hval0 hW hcnd _
  have hval : ∀ (j : Nat) t v, Try.f4.params[j]? = some t → args[j]? = some v → Value.okWide Try.prog W .any base t v := hval0
  have hW' := hW
  obtain ⟨p, q, hAA0, hV, rfl, hfz, hnd⟩ := hW
  have hA : DataW.TrodAll enc Try.prog W 0 (fun _ => true) true Try.f4.params.toList args.toList ds p := hAA0
  rw [Try.params4] at hA hval
  have hk := hA
  obtain ⟨v0, v1, v2, v3, v4, d0, d1, d2, d3, d4, p0, p1, p2, p3, p4, rfl, rfl, rfl, h0, h1, h2, h3, h4⟩ := trodAll_five hA
  obtain ⟨rfl, rfl⟩ := trodVars_none hV
  obtain ⟨n0, h0⟩ := h0
  obtain ⟨z0, rfl, hl0, hu0⟩ := open_int (hval 0 _ v0 rfl rfl) h0
  obtain ⟨n1, h1⟩ := h1
  obtain ⟨z1, rfl, hl1, hu1⟩ := open_int (hval 1 _ v1 rfl rfl) h1
  obtain ⟨n2, h2⟩ := h2
  obtain ⟨b2, rfl⟩ := open_u8 (hval 2 _ v2 rfl rfl) h2
  obtain ⟨n3, h3⟩ := h3
  obtain ⟨b3, rfl⟩ := open_u8 (hval 3 _ v3 rfl rfl) h3
  obtain ⟨n4, h4⟩ := h4
  obtain ⟨z4, rfl, hl4, hu4⟩ := open_int (hval 4 _ v4 rfl rfl) h4
  clear hAA0 hval0
  simp only [List.append_nil] at hW'
  refine (faults_law z0 z1 z4 b2 b3 W ⟨hl0, hu0⟩ ⟨hl1, hu1⟩ ⟨hl4, hu4⟩).mono fun e W' ⟨he, hg⟩ => ?_
  subst he
  exact ⟨_, rfl, post_of_kept (pv := []) hW' (fun _ _ _ => (trodAll_cons_mk (shut_bool Try.underlying4 _) trodAll_mk0)) (fun sp hsp => by
      rw [Try.params4]
      exact args_kept (by decide) hk hg.below (fun p hp => hW'.lt p hp) sp hsp) (fun _ _ => rfl) (by simp)
    (hg.below.frame _)⟩
theorem arrayFaults_over : Rows.arrayFaultsRow.holds Try.pinned (OpenSpec.ofChange Rows.arrayFaultsSpec) :=
  OpenClaim.holds_of_wide 4 Try.f4 rfl rfl rfl rfl rfl rfl rfl ⟨rfl, rfl, rfl, rfl, rfl⟩ rfl rfl rfl rfl rfl (by kernel_rfl) Try.func4 (by kernel_rfl)
    (of_decide_eq_true (by kernel_rfl)) (by unfold Func.isWrapper; first | (rw [if_pos (by decide +kernel)]; kernel_rfl) | (rw [if_neg (by decide +kernel)]; exact ⟨rfl, rfl⟩))
    (fun os started H enc _ => arrayFaults_lifted os started H enc)

theorem arrayFaults_proved : Rows.ArrayFaultsSaid :=
  arrayFaults_over
end Go.Proofs.Ytclleohpmgihaaa
