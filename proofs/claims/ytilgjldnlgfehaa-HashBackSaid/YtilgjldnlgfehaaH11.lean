import Derived.Test.YtilgjldnlgfehaaH10
import Derived.Test.YtilgjldnlgfehaaHsK
import Derived.Test.YtilgjldnlgfehaaKB
namespace Go.Proofs.Ytilgjldnlgfehaa
set_option linter.unusedVariables false
set_option linter.unusedSimpArgs false
open Go.RowKit Go.Shelf Hp
attribute [local irreducible] Go.Calls
set_option maxRecDepth 100000
set_option maxHeartbeats 4000000
theorem Rd_take4 {w0 w : World} {M : List Nat} {L : List HA} {T : TypeId} {g : Nat} {l : List UInt8} (hst : St w0 M w (.blk g T (bytesV l) :: L)) (hl : l.length = 32) : Rd w (.slice (some ⟨g, 0, none⟩) 4 32) 1 4 (bytesV (l.take 4)) :=
  Rd.blk hst (.head _) (by decide) (by decide) (by simp [length_bytesV, hl]) (by simp [bytesV, hl])
theorem Rd_drop28 {w0 w : World} {M : List Nat} {L : List HA} {T : TypeId} {g : Nat} {l : List UInt8} (hst : St w0 M w (.blk g T (bytesV l) :: L)) (hl : l.length = 32) : Rd w (.slice (some ⟨g, 28, none⟩) 4 4) 1 4 (bytesV (l.drop 28)) :=
  Rd.blk hst (.head _) (by decide) (by decide) (by simp [length_bytesV, hl]) (by
    have h : (bytesV (l.drop 28)).length = 4 := by simp [length_bytesV, hl]
    rw [h, List.take_of_length_le]
    · simp [bytesV]
    · simp [length_bytesV, hl])
theorem ends_any (l k1 k2 : List UInt8) (v u : Value) (n m : Nat) (w : World) (hl : l.length = 32) (hv : Rd w v 1 n (bytesV k1)) (hu : Rd w u 1 m (bytesV k2)) :
    Calls Try.prog 28 #[.agg (bytesV l).toArray, v, u] w fun e w' => e = .returned (.bool (l.take 4 == k1 && l.drop 28 == k2)) ∧ St w [] w' [] := by
  have hst := St.refl w
  have HL := hid hl
  have H32 := hid (show (bytesV l).length = 32 by rw [length_bytesV, hl])
  clear hl
  cases hb : (l.take 4 == k1) with
  | false =>
    go_enter Try.func28, Try.ntmps28
    go_wp2_with (first | go_big_skip | go_big_guard | (refine wl_boxA hst rfl rfl rfl ?_; intro g w1 hst1; clear hst) | (go_at_call 26; refine (sameBytes_any _ v 4 n (l.take 4) k1 _ (Rd_take4 hst1 HL.out) (Rd.old hst1 hv)).mono ?_; rw [hb]; rintro _ _ ⟨rfl, h4⟩; have hst2 := St.call0 hst1 h4; clear h4 hst1))
    go_ret
    exact ⟨rfl, hst2.nil⟩
  | true =>
    go_enter Try.func28, Try.ntmps28
    go_wp2_with (first | go_big_skip | go_big_guard | (refine wl_boxA hst rfl rfl rfl ?_; intro g w1 hst1; clear hst) | (go_at_call 26; refine (sameBytes_any _ v 4 n (l.take 4) k1 _ (Rd_take4 hst1 HL.out) (Rd.old hst1 hv)).mono ?_; rw [hb]; rintro _ _ ⟨rfl, h4⟩; have hst2 := St.call0 hst1 h4; clear h4 hst1) | (go_at_call 26; refine (sameBytes_any _ u 4 m (l.drop 28) k2 _ (Rd_drop28 hst2 HL.out) (Rd.old hst2 hu)).mono ?_; rintro _ _ ⟨rfl, h4⟩; have hst3 := St.call0 hst2 h4; clear h4 hst2))
    go_ret
    exact ⟨rfl, hst3.nil⟩
end Go.Proofs.Ytilgjldnlgfehaa
