import Derived.Test.YtilgjldnlgfehaaH7
import Derived.Test.YtilgjldnlgfehaaSepG
import Derived.Test.YtilgjldnlgfehaaSepP
import Derived.Test.YtilgjldnlgfehaaPtrR
namespace Go.Proofs.Ytilgjldnlgfehaa
set_option linter.unusedVariables false
set_option linter.unusedSimpArgs false
open Go.RowKit Go.Shelf Hp
attribute [local irreducible] Go.Calls
set_option maxRecDepth 100000
set_option maxHeartbeats 4000000
theorem Hp.St.nilP {w0 w : World} {M : List Nat} {L : List HA} (p : Value → Bool) (T : TypeId) (sz : Nat) (h : St w0 M w L) : St w0 M w (.rowP p (.slice none 0 0) T sz 0 [] :: L) :=
  St.toP (L1 := []) (St.nilRow T sz h) (fun g cs hg _ => by cases hg)
theorem eqNil (ao : Option Addr) (n c : Nat) (w : World) : (binOp .eql 22 (.slice ao n c) (.slice none 0 0)).run Try.prog w = .ok (.bool ao.isNone) w :=
  eqSliceNil w _ _ ao n c (show Try.prog.underlying 22 = some (.slice 5) by kernel_rfl)
attribute [local go_sem ↓] eqNil
theorem clone_any (ao : Option Addr) (n c : Nat) (bs : List UInt8) (w : World) (hA : Rd w (.slice ao n c) 1 n (bytesV bs)) (hn : bs.length = n) (hb : n ≤ 100000) :
    Calls Try.prog 34 #[.slice ao n c] w fun e w' => ∃ v, e = .returned v ∧ St w [] w' [.rowP isB v 5 1 n (bytesV bs)] := by
  have hst := St.refl w
  have Hn := hid hn
  rcases hA.casesF with ⟨he, h0, hb0⟩ | ⟨A, c', he, _⟩
  · cases he
    have e0 : bs = [] := by simpa [bytesV] using hb0
    subst e0
    clear hA hn hb Hn h0 hb0
    go_enter Try.func34, Try.ntmps34
    go_wp2_with (first | go_big_skip | go_big_guard | fail)
    go_ret
    exact ⟨_, rfl, St.nilP isB _ 1 hst⟩
  · cases he
    clear hn
    go_enter Try.func34, Try.ntmps34
    go_wp2_with (first | go_big_skip | go_big_guard | (apply wl_bsX [] [] hst; rfl; rfl; exact rfl; exact rfl; infer_instance; infer_instance; rfl; rfl; rfl; intro g3 w3 hst3; clear hst; have hst4 := St.toRowP isB (n := 0) (cap := 0) (sz := 1) hst3 rfl (by decide) (by decide) rfl; clear hst3) | (apply wl_appP [] hst4; rfl; rfl; exact rfl; exact rfl; infer_instance; infer_instance; infer_instance; infer_instance; exact Rd.old hst4 hA; exact ones_bytesV bs; rfl; exact isB_bytes bs; (unfold maxLen; omega); intro v9 w9 hst9 _; clear hst4))
    go_ret
    rw [Nat.zero_add] at hst9
    exact ⟨v9, rfl, hst9⟩
end Go.Proofs.Ytilgjldnlgfehaa
