import Derived.Test.YthjafocnfpphlaaT33
namespace Go.Proofs.Ythjafocnfpphlaa
open Go.RowKit Hp
attribute [local irreducible] Go.Calls
set_option maxHeartbeats 4000000
theorem pick_any (z : Int) (w : World) (hl : -9223372036854775808 ≤ z) (hu : z ≤ 9223372036854775807) : Calls Try.prog 49 #[.int .i64 z, .int .i64 4] w fun e w' => ∃ k : Nat, k < 4 ∧ e = .returned (.int .i64 k) ∧ St w [] w' [] := by
  have hst := St.refl w
  have h1 := hid (Int.tmod_lt_of_pos z (show (0 : Int) < 4 by decide))
  have h2 := hid (Int.lt_tmod_of_pos z (show (0 : Int) < 4 by decide))
  by_cases hn : Int.tmod z 4 < 0
  · go_enter Try.func49, Try.ntmps49
    go_wp2_with (first | go_big_skip | go_big_guard | fail)
    go_ret
    have h1 := h1.out
    have h2 := h2.out
    refine ⟨(z.tmod 4 + 4).toNat, by omega, ?_, hst⟩
    rw [show (((z.tmod 4 + 4).toNat : Nat) : Int) = z.tmod 4 + 4 by omega, show wrap64 (z.tmod 4 + 4) = z.tmod 4 + 4 from IntWalk.wrap64_in _ (by omega)]
    rfl
  · go_enter Try.func49, Try.ntmps49
    go_wp2_with (first | go_big_skip | go_big_guard | fail)
    go_ret
    have h1 := h1.out
    refine ⟨(z.tmod 4).toNat, by omega, ?_, hst⟩
    rw [show (((z.tmod 4).toNat : Nat) : Int) = z.tmod 4 by omega]
    rfl
/-- the same, the number ahead of the call (so that a walk can be split by it) -/
theorem pick_k (z : Int) (hl : -9223372036854775808 ≤ z) (hu : z ≤ 9223372036854775807) : ∃ k : Nat, k < 4 ∧ ∀ w : World, Calls Try.prog 49 #[.int .i64 z, .int .i64 4] w fun e w' => e = .returned (.int .i64 k) ∧ St w [] w' [] := by
  have q1 := Int.tmod_lt_of_pos z (show (0 : Int) < 4 by decide)
  have q2 := Int.lt_tmod_of_pos z (show (0 : Int) < 4 by decide)
  have h1 := hid q1
  have h2 := hid q2
  by_cases hn : Int.tmod z 4 < 0
  · obtain ⟨k, hk⟩ : ∃ k : Nat, (k : Int) = z.tmod 4 + 4 := ⟨(z.tmod 4 + 4).toNat, by omega⟩
    refine ⟨k, by omega, fun w => ?_⟩
    have Hk := hid hk
    clear q1 q2 hk
    have hst := St.refl w
    go_enter Try.func49, Try.ntmps49
    go_wp2_with (first | go_big_skip | go_big_guard | fail)
    go_ret
    have h1 := h1.out
    have h2 := h2.out
    refine ⟨?_, hst⟩
    rw [Hk.out, show wrap64 (z.tmod 4 + 4) = z.tmod 4 + 4 from IntWalk.wrap64_in _ (by omega)]
    rfl
  · obtain ⟨k, hk⟩ : ∃ k : Nat, (k : Int) = z.tmod 4 := ⟨(z.tmod 4).toNat, by omega⟩
    refine ⟨k, by omega, fun w => ?_⟩
    have Hk := hid hk
    clear q1 q2 hk
    have hst := St.refl w
    go_enter Try.func49, Try.ntmps49
    go_wp2_with (first | go_big_skip | go_big_guard | fail)
    go_ret
    refine ⟨?_, hst⟩
    rw [Hk.out]
    rfl
end Go.Proofs.Ythjafocnfpphlaa
