/- PROVED: the law DirKeeps returns true at any input, and nothing that was there has turned. No condition. -/
import Derived.Test.YtifajcblbedcoaaGreatPost
import Derived.Test.YtifajcblbedcoaaGreatJDirKeepsh
import Derived.Test.YtifajcblbedcoaaGreatJDirKeepsi
namespace Go.Proofs.YtifajcblbedcoaaGreat
set_option linter.unusedVariables false
set_option linter.unusedSimpArgs false
open Go.ChangeShapes Go.WideShapes Go.ChangeAt Go.RowKit Hp
set_option maxRecDepth 100000 in
theorem dirKeeps_lifted (os : Os) (started : os.Started) (H : Type) (enc : TypeId × Value → H) :
    ReturnsInHanded {} Tryz.checked os 5 .any (Rows.dirKeepsSpec.pre6 enc Tryz.prog Tryz.f5 Rows.dirKeepsRow.domain false) (Rows.dirKeepsSpec.post enc Tryz.prog Tryz.f5 false true false false) := by
  refine returnsInHanded_of_change (C := Tryz.checked) own started (by kernel_rfl) Tryz.func5
    (ChangeSpec.witness6 (enc := enc) (C := Tryz.checked) false ⟨#[], #[.int .i64 0, .slice none 0 0], []⟩ 8 (by kernel_rfl) (by kernel_rfl) (by kernel_rfl) (by kernel_rfl)) ?_
  intro W base args ds gs before hval0 hW hcnd _
  have hval : ∀ (j : Nat) t v, Tryz.f5.params[j]? = some t → args[j]? = some v → Value.okWide Tryz.prog W .any base t v := hval0
  have hW' := hW
  obtain ⟨p, q, hAA0, hV, rfl, hfz, hnd⟩ := hW
  have hA : DataW.TrodAll enc Tryz.prog W 0 (fun _ => true) true Tryz.f5.params.toList args.toList ds p := hAA0
  rw [Tryz.params5] at hA hval
  have hk := hA
  obtain ⟨v0, v1, d0, d1, p0, p1, rfl, rfl, rfl, h0, h1⟩ := trodAll_two hA
  obtain ⟨rfl, rfl⟩ := trodVars_none hV
  obtain ⟨n0, h0⟩ := h0
  obtain ⟨z0, rfl, hl0, hu0⟩ := open_int (hval 0 _ v0 rfl rfl) h0
  obtain ⟨n1, h1⟩ := h1
  obtain ⟨ao1, n1, c1, xs1, rfl, hA1, hn1, hk1, hm1⟩ := open_actsD (hval 1 _ v1 rfl rfl) h1
  clear hAA0 hval0
  simp only [List.append_nil] at hW'
  refine (keeps13_any z0 ⟨hl0, hu0⟩ ao1 n1 c1 xs1 W hA1 hn1 hk1 hm1).mono fun e W' ⟨he, hg⟩ => ?_
  subst he
  exact ⟨_, rfl, post_of_kept (pv := []) hW' (fun _ _ _ => (trodAll_cons_mk (shut_bool Tryz.underlying4 _) trodAll_mk0)) (fun sp hsp => by
      rw [Tryz.params5]
      exact args_kept (by decide) hk hg.below (fun p hp => hW'.lt p hp) sp hsp) (fun _ _ => rfl) (by simp)
    (hg.below.frame _)⟩
theorem dirKeeps_over : Rows.dirKeepsRow.holds Tryz.pinned (OpenSpec.ofChange Rows.dirKeepsSpec) :=
  OpenClaim.holds_of_wide 5 Tryz.f5 rfl rfl rfl rfl rfl rfl rfl ⟨rfl, rfl, rfl, rfl, rfl⟩ rfl rfl rfl rfl rfl (by kernel_rfl) Tryz.func5 (by kernel_rfl)
    (of_decide_eq_true (by kernel_rfl)) (by unfold Func.isWrapper; first | (rw [if_pos (by decide +kernel)]; kernel_rfl) | (rw [if_neg (by decide +kernel)]; exact ⟨rfl, rfl⟩))
    (fun os started H enc _ => dirKeeps_lifted os started H enc)

theorem dirKeeps_proved : Rows.DirKeepsSaid :=
  dirKeeps_over
end Go.Proofs.YtifajcblbedcoaaGreat
