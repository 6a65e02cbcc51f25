import Derived.Test.YtilgjldnlgfehaaH23
namespace Go.Proofs.Ytilgjldnlgfehaa
set_option linter.unusedVariables false
set_option linter.unusedSimpArgs false
open Go.RowKit Hp
attribute [local irreducible] Go.Calls
set_option maxRecDepth 100000
set_option maxHeartbeats 4000000
theorem ixlite_any (c : UInt8) (w : World) :
    Calls Try.prog 49 #[.string ⟨hexD.toArray⟩, .int .u8 (c.toNat : Int)] w fun e w' => e = .returned (.int .i64 (halfI c)) ∧ w' = w := by
  have hc : (c.toNat : Int).toNat.toUInt8 = c := by simp
  go_enter Try.func49, Try.ntmps49
  go_wp2
  rw [run_callFunc_extern Try.func53 (by kernel_rfl) (by kernel_rfl) (by kernel_rfl) (e := Extern.BytealgIndexByte.indexByte) (by kernel_rfl), Lib.run_indexByteString]
  simp only [Result.andThen]
  rw [Oper.upon_value]
  go_wp2
  go_ret
  exact ⟨rfl, rfl⟩
theorem ixbyte_any (c : UInt8) (w : World) :
    Calls Try.prog 40 #[.string ⟨hexD.toArray⟩, .int .u8 (c.toNat : Int)] w fun e w' => e = .returned (.int .i64 (halfI c)) ∧ w' = w := by
  go_enter Try.func40, Try.ntmps40
  go_wp2_with (first | go_big_skip | go_big_guard | (go_at_call 49; refine (ixlite_any c _).mono ?_; rintro _ _ ⟨rfl, rfl⟩))
  go_ret
  exact ⟨rfl, rfl⟩
theorem half_first {c : UInt8} {k : Nat} (hk : k < 16) (h : hexD.getD k 0 = c) (h0 : ∀ j, j < k → hexD.getD j 0 ≠ c) : halfI c = k := by
  rcases half_in c with h1 | ⟨m, hm, h1, h2, h3⟩
  · exact absurd h (half_none h1 k hk)
  · rcases Nat.lt_trichotomy m k with h4 | h4 | h4
    · exact absurd h2 (h0 m h4)
    · rw [h1, h4]
    · exact absurd h (h3 k h4)
theorem half_no {c : UInt8} (h0 : ∀ j, j < 16 → hexD.getD j 0 ≠ c) : halfI c = -1 := by
  rcases half_in c with h1 | ⟨m, hm, h1, h2, h3⟩
  · exact h1
  · exact absurd h2 (h0 m hm)
theorem half_any (c : UInt8) (w : World) :
    Calls Try.prog 42 #[.int .u8 (c.toNat : Int)] w fun e w' => e = .returned (.int .i64 (halfI c)) ∧ w' = w := by
  go_enter Try.func42, Try.ntmps42
  go_wp2_with (first | go_big_skip | go_big_guard | fail)
  go_loop [3] (fun q => ∃ k : Nat, k ≤ 16 ∧ q = .int .i64 k ∧ Hid (∀ j, j < k → hexD.getD j 0 ≠ c)) (fun q => 16 - (intOf q).toNat)
  case atStart => exact ⟨0, by omega, rfl, hid (fun j hj => absurd hj (Nat.not_lt_zero _))⟩
  case round =>
    obtain ⟨k, hk, rfl, hall⟩ := hrel
    by_cases hk16 : k < 16
    · have d1 : decide ((k : Int) < 16) = true := decide_eq_true (by omega)
      obtain ⟨y, hy⟩ : ∃ y, y = hexD.getD k 0 := ⟨_, rfl⟩
      have HY := hid hy
      have hkl : k < hexD.length := hk16
      by_cases h : y = c
      · have e1 : ((y.toNat : Int) == (c.toNat : Int)) = true := by rw [h]; exact beq_self_eq_true _
        have hr := hid (half_first hk16 (by rw [← hy]; exact h) hall.out)
        clear hy h
        go_wp2_with (first | go_big_skip | go_big_guard | (refine wl_strIxQ (k := k) hexD rfl rfl rfl rfl Try.underlying9 hkl ?_; rw [← HY.out]))
        go_ret
        exact ⟨by rw [hr.out]; rfl, rfl⟩
      · have e1 : ((y.toNat : Int) == (c.toNat : Int)) = false := by
          have : y.toNat ≠ c.toNat := fun e => h (UInt8.toNat_inj.1 e)
          simp; omega
        have hall2 := hid (show ∀ j, j < k + 1 → hexD.getD j 0 ≠ c from fun j hj => by
          rcases Nat.lt_succ_iff_lt_or_eq.1 hj with h1 | h1
          · exact hall.out j h1
          · rw [h1, ← hy]; exact h)
        clear hy h
        go_wp2_with (first | go_big_skip | go_big_guard | (refine wl_strIxQ (k := k) hexD rfl rfl rfl rfl Try.underlying9 hkl ?_; rw [← HY.out]))
        go_round
        case rel => exact ⟨k + 1, by omega, by go_num, hall2⟩
        case measure => simp [intOf]; omega
    · have e : k = 16 := by omega
      subst e
      have hr := hid (half_no hall.out)
      go_wp2_with (first | go_big_skip | go_big_guard | fail)
      go_ret
      exact ⟨by rw [hr.out]; rfl, rfl⟩
theorem ext1 {X : Nat} (h : X < 16) : (⟨#[48, 49, 50, 51, 52, 53, 54, 55, 56, 57, 97, 98, 99, 100, 101, 102]⟩ : ByteArray).extract X (X + 1) = ⟨[hexD.getD X 0].toArray⟩ := by
  have := extract_l hexD X (X + 1)
  have e2 : (hexD.take (X + 1)).drop X = [hexD.getD X 0] := by
    rw [List.take_add_one, List.drop_append, List.drop_eq_nil_of_le (by rw [List.length_take]; omega)]
    have hx : X < hexD.length := h
    rw [List.length_take, Nat.min_eq_left (by omega), Nat.sub_self, List.getElem?_eq_getElem hx]
    simp [List.getD, hx]
  rw [e2] at this
  exact this
end Go.Proofs.Ytilgjldnlgfehaa
