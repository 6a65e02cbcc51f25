import Derived.Test.YtjfgfdnehlgadaaNT6
namespace Go.Proofs.Ytjfgfdnehlgadaa
open Go.RowKit Hp
attribute [local irreducible] Go.Calls
set_option maxHeartbeats 2000000
theorem bq (a : Bool) : (a == a) = true := by simp
theorem tells_any (a b : List UInt8) (w : World) : Calls Try.prog 3 #[str a, str b] w fun e w' => e = .returned (.bool true) ∧ St w [] w' [] := by
  have hst := St.refl w
  by_cases hb : (100 : Int) < a.length ∨ (100 : Int) < b.length
  · rcases hb with hb | hb
    all_goals
      go_enter Try.func3, Try.ntmps3
      go_wp2_with (first | go_big_skip | go_big_guard | (go_at_call 8; first | (refine (awake_any _).mono ?_; rintro _ _ ⟨rfl, h4⟩; replace hst := St.call0 hst h4; clear h4)))
      all_goals (go_ret; exact ⟨rfl, hst⟩)
  · have ha : a.length ≤ 100 := by omega
    have hc : b.length ≤ 100 := by omega
    have d1 : decide ((100 : Int) < a.length) = false := by simp; omega
    have d2 : decide ((100 : Int) < b.length) = false := by simp; omega
    clear hb
    rcases hs : splitL a with ⟨x, y, f⟩
    rcases hj : joinL a b with ⟨j, g⟩
    have Hs := hid hs; clear hs
    have Hj := hid hj; clear hj
    have b1 := bq (partB a)
    have b2 := bq (lessL a b)
    have b3 := bq f
    have b4 := bq g
    go_enter Try.func3, Try.ntmps3
    go_wp2_with (first | go_big_skip | go_big_guard | (go_at_call 8; first | (refine (awake_any _).mono ?_; rintro _ _ ⟨rfl, h4⟩; replace hst := St.call0 hst h4; clear h4)) | (go_at_call 9; first | (refine (split_at Hs.out _ (by omega)).mono ?_; rintro _ _ ⟨rfl, h4⟩; replace hst := St.call0 hst h4; clear h4)) | (go_at_call 10; first | (refine (refSplit_at Hs.out _ (by omega)).mono ?_; rintro _ _ ⟨rfl, h4⟩; replace hst := St.call0 hst h4; clear h4)) | (go_at_call 11; first | (refine (join_at Hj.out _ (by omega) (by omega)).mono ?_; rintro _ _ ⟨rfl, h4⟩; replace hst := St.call0 hst h4; clear h4)) | (go_at_call 12; first | (refine (refJoin_at Hj.out _ (by omega) (by omega)).mono ?_; rintro _ _ ⟨rfl, h4⟩; replace hst := St.call0 hst h4; clear h4)) | (go_at_call 13; first | (refine (part_any a _ (by omega)).mono ?_; rintro _ _ ⟨rfl, h4⟩; replace hst := St.call0 hst h4; clear h4)) | (go_at_call 14; first | (refine (refPart_any a _ (by omega)).mono ?_; rintro _ _ ⟨rfl, h4⟩; replace hst := St.call0 hst h4; clear h4)) | (go_at_call 15; first | (refine (volume_any a _ (by omega)).mono ?_; rintro _ _ ⟨rfl, h4⟩; replace hst := St.call0 hst h4; clear h4)) | (go_at_call 16; first | (refine (refVolume_any a _ (by omega)).mono ?_; rintro _ _ ⟨rfl, h4⟩; replace hst := St.call0 hst h4; clear h4)) | (go_at_call 17; first | (refine (snap_at Hs.out _ (by omega)).mono ?_; rintro _ _ ⟨rfl, h4⟩; replace hst := St.call0 hst h4; clear h4)) | (go_at_call 18; first | (refine (refSnap_at Hs.out _ (by omega)).mono ?_; rintro _ _ ⟨rfl, h4⟩; replace hst := St.call0 hst h4; clear h4)) | (go_at_call 19; first | (refine (less_any a b _ (by omega) (by omega)).mono ?_; rintro _ _ ⟨rfl, h4⟩; replace hst := St.call0 hst h4; clear h4)) | (go_at_call 20; first | (refine (refLess_any a b _ (by omega) (by omega)).mono ?_; rintro _ _ ⟨rfl, h4⟩; replace hst := St.call0 hst h4; clear h4)))
    go_goals
    all_goals (go_ret; exact ⟨rfl, hst⟩)
theorem order_law (a b c : List UInt8) (w : World) : Calls Try.prog 6 #[str a, str b, str c] w fun e w' => e = .returned (.bool true) ∧ St w [] w' [] := by
  have hst := St.refl w
  by_cases hb : (100 : Int) < a.length ∨ (100 : Int) < b.length ∨ (100 : Int) < c.length
  · rcases hb with hb | hb | hb
    all_goals
      go_enter Try.func6, Try.ntmps6
      go_wp2_with (first | go_big_skip | go_big_guard | (go_at_call 4; first | (refine (known_any _).mono ?_; rintro _ _ ⟨rfl, h4⟩; replace hst := St.call0 hst h4; clear h4)))
      all_goals (go_ret; exact ⟨rfl, hst⟩)
  · have ha : a.length ≤ 100 := by omega
    have hb' : b.length ≤ 100 := by omega
    have hc : c.length ≤ 100 := by omega
    have d1 : decide ((100 : Int) < a.length) = false := by simp; omega
    have d2 : decide ((100 : Int) < b.length) = false := by simp; omega
    have d3 : decide ((100 : Int) < c.length) = false := by simp; omega
    clear hb
    have k0 := less_self a
    rcases less_tri a b with ⟨k1, k2, k3⟩ | ⟨k1, k2, k3⟩ | ⟨rfl, k1, k2⟩
    · have q1 : (a == b) = false := by simpa using k3
      have q2 : (!a == b) = true := by simpa using k3
      clear k3
      cases k4 : lessL b c with
      | false =>
        go_enter Try.func6, Try.ntmps6
        go_wp2_with (first | go_big_skip | go_big_guard | (go_at_call 4; first | (refine (known_any _).mono ?_; rintro _ _ ⟨rfl, h4⟩; replace hst := St.call0 hst h4; clear h4)) | (go_at_call 19; first | (refine (less_any _ _ _ (by omega) (by omega)).mono ?_; rintro _ _ ⟨rfl, h4⟩; replace hst := St.call0 hst h4; clear h4)))
        all_goals (go_ret; exact ⟨rfl, hst⟩)
      | true =>
        have k5 := less_trans k1 k4
        go_enter Try.func6, Try.ntmps6
        go_wp2_with (first | go_big_skip | go_big_guard | (go_at_call 4; first | (refine (known_any _).mono ?_; rintro _ _ ⟨rfl, h4⟩; replace hst := St.call0 hst h4; clear h4)) | (go_at_call 19; first | (refine (less_any _ _ _ (by omega) (by omega)).mono ?_; rintro _ _ ⟨rfl, h4⟩; replace hst := St.call0 hst h4; clear h4)))
        all_goals (go_ret; exact ⟨rfl, hst⟩)
    · have q1 : (a == b) = false := by simpa using k3
      have q2 : (!a == b) = true := by simpa using k3
      clear k3
      go_enter Try.func6, Try.ntmps6
      go_wp2_with (first | go_big_skip | go_big_guard | (go_at_call 4; first | (refine (known_any _).mono ?_; rintro _ _ ⟨rfl, h4⟩; replace hst := St.call0 hst h4; clear h4)) | (go_at_call 19; first | (refine (less_any _ _ _ (by omega) (by omega)).mono ?_; rintro _ _ ⟨rfl, h4⟩; replace hst := St.call0 hst h4; clear h4)))
      all_goals (go_ret; exact ⟨rfl, hst⟩)
    · go_enter Try.func6, Try.ntmps6
      go_wp2_with (first | go_big_skip | go_big_guard | (go_at_call 4; first | (refine (known_any _).mono ?_; rintro _ _ ⟨rfl, h4⟩; replace hst := St.call0 hst h4; clear h4)) | (go_at_call 19; first | (refine (less_any _ _ _ (by omega) (by omega)).mono ?_; rintro _ _ ⟨rfl, h4⟩; replace hst := St.call0 hst h4; clear h4)))
      all_goals (go_ret; exact ⟨rfl, hst⟩)
end Go.Proofs.Ytjfgfdnehlgadaa
