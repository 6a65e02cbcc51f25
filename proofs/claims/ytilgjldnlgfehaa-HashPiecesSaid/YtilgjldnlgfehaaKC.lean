import Derived.Test.YtilgjldnlgfehaaKB
namespace Go.Proofs.Ytilgjldnlgfehaa
open Go.RowKit Hp
attribute [local irreducible] Go.Calls
set_option maxHeartbeats 1000000
theorem copyBytes_any (v : Value) (n : Nat) (l : List UInt8) (w : World) (hv : Rd w v 1 n (bytesV l)) (hb : n ≤ 100000000) :
    Calls Try.prog 25 #[v] w fun e w' => ∃ u, e = .returned u ∧ St w [] w' [.rowP isB u 5 1 n (bytesV l)] := by
  have hst := St.refl w
  go_enter Try.func25, Try.ntmps25
  go_wp2_with (first | go_big_skip | go_big_guard | (apply wl_bsX [] [] hst; rfl; rfl; exact rfl; exact rfl; infer_instance; infer_instance; rfl; rfl; rfl; intro g w1 hst1; clear hst; have hst2 := St.toRowP (n := 0) (cap := 0) (sz := 1) isB hst1 rfl (Nat.le_refl _) (by decide) rfl; clear hst1) | (apply wl_appP (p := isB) [] hst2; rfl; rfl; exact rfl; exact rfl; infer_instance; infer_instance; infer_instance; infer_instance; exact Rd.old hst2 hv; exact ones_bytesV l; rfl; exact isB_bytes l; (refine ⟨by decide, by unfold maxLen; omega, by omega⟩); intro v2 w2 hst3 _; clear hst2))
  go_ret
  refine ⟨v2, rfl, ?_⟩
  rw [Nat.zero_add] at hst3
  exact hst3
end Go.Proofs.Ytilgjldnlgfehaa
