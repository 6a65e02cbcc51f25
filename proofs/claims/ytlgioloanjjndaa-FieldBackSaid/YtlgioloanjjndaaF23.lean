import Derived.Test.YtlgioloanjjndaaF22
namespace Go.Proofs.Ytlgioloanjjndaa
set_option linter.unusedVariables false
set_option linter.unusedSimpArgs false
open Go.RowKit Hp
attribute [local irreducible] Go.Calls
set_option maxRecDepth 100000
set_option maxHeartbeats 4000000
theorem fails_any (e : Int) (ao : Option Addr) (N c : Nat) (xs : List AV) (w : World) (hv : Rd w (.slice ao N c) 5 N (xs.flatMap AV.cells)) (hN : xs.length = N) (hx : ∀ x ∈ xs, x.Ok w) (hN1 : N ≤ 100000) (he : (foldS (0, []) xs N).1 = e) (he0 : e ≠ 0) :
    Calls Try.prog 21 #[.int .i64 e, .slice ao N c] w fun en w' => en = .returned (.bool true) ∧ St w [] w' [] := by
  have hst := St.refl w
  have HO := hid (show outW (foldS (0, []) xs N) = [] by unfold outW; rw [if_neg (by rw [he]; exact he0)])
  have HE := hid he
  have HX := hid hx
  have HN := hid hN
  clear he hx hN he0
  go_enter Try.func21, Try.ntmps21
  go_wp2_with (first | go_big_skip | go_big_guard | (go_at_call 40; refine (told_any ao N c xs _ (Rd.old hst hv) HN.out (fun x hx => (HX.out x hx).old hst) hN1).mono ?_; rintro _ w2 ⟨u, he, h4⟩; rw [HO.out] at h4; rw [HE.out] at he; subst he; have hst2 := St.call hst h4; clear h4 hst; obtain ⟨au, cu, rfl⟩ := St.rowPSliceF [] hst2))
  go_ret
  exact ⟨by simp, hst2.nil⟩
end Go.Proofs.Ytlgioloanjjndaa
