import Derived.Test.YtjfgfdnehlgadaaNT5
namespace Go.Proofs.Ytjfgfdnehlgadaa
open Go.RowKit Hp
attribute [local irreducible] Go.Calls
set_option maxHeartbeats 2000000
theorem split_at {l a b : List UInt8} {f : Bool} (hx : splitL l = (a, b, f)) (w : World) (hl : l.length ≤ 9223372036854775807) :
    Calls Try.prog 9 #[str l] w fun e w' => e = .returned (.tuple #[str a, str b, .bool f]) ∧ St w [] w' [] := by
  have := split_any l w hl
  rwa [hx] at this
theorem refSplit_at {l a b : List UInt8} {f : Bool} (hx : splitL l = (a, b, f)) (w : World) (hl : l.length ≤ 9223372036854775807) :
    Calls Try.prog 10 #[str l] w fun e w' => e = .returned (.tuple #[str a, str b, .bool f]) ∧ St w [] w' [] := by
  have := refSplit_any l w hl
  rwa [hx] at this
theorem snap_at {l a b : List UInt8} {f : Bool} (hx : splitL l = (a, b, f)) (w : World) (hl : l.length ≤ 9223372036854775807) :
    Calls Try.prog 17 #[str l] w fun e w' => e = .returned (.bool f) ∧ St w [] w' [] := by
  have := snap_any l w hl
  rwa [snapB, hx] at this
theorem refSnap_at {l a b : List UInt8} {f : Bool} (hx : splitL l = (a, b, f)) (w : World) (hl : l.length ≤ 9223372036854775807) :
    Calls Try.prog 18 #[str l] w fun e w' => e = .returned (.bool f) ∧ St w [] w' [] := by
  have := refSnap_any l w hl
  rwa [snapB, hx] at this
theorem join_at {a b j : List UInt8} {g : Bool} (hx : joinL a b = (j, g)) (w : World) (ha : a.length ≤ 9223372036854775807) (hb : b.length ≤ 9223372036854775807) :
    Calls Try.prog 11 #[str a, str b] w fun e w' => e = .returned (.tuple #[str j, .bool g]) ∧ St w [] w' [] := by
  have := join_any a b w ha hb
  rwa [hx] at this
theorem refJoin_at {a b j : List UInt8} {g : Bool} (hx : joinL a b = (j, g)) (w : World) (ha : a.length ≤ 9223372036854775807) (hb : b.length ≤ 9223372036854775807) :
    Calls Try.prog 12 #[str a, str b] w fun e w' => e = .returned (.tuple #[str j, .bool g]) ∧ St w [] w' [] := by
  have := refJoin_any a b w ha hb
  rwa [hx] at this
theorem splits_at {l a b v p : List UInt8} {f g r : Bool} (hx : splitL l = (a, b, f)) (hr : ((a, b, f) == (v, p, g)) = r) (w : World) (hl : l.length ≤ 9223372036854775807) :
    Calls Try.prog 21 #[str l, str v, str p, .bool g] w fun e w' => e = .returned (.bool r) ∧ St w [] w' [] := by
  have := splits_any l v p g w hl
  rwa [hx, hr] at this
theorem awake_any (w : World) : Calls Try.prog 8 #[] w fun e w' => e = .returned (.bool true) ∧ St w [] w' [] := by
  have hst := St.refl w
  have j1 := hid (show joinL [97] [98] = ([97, 64, 98], true) by decide)
  have p1 : partB [97, 46, 49] = true := by decide
  have p2 : partB [49, 97] = false := by decide
  have s1 := hid (show splitL [97, 64, 98] = ([97], [98], true) by decide)
  have l1 : lessL [97, 64, 98] [97, 45, 49] = true := by decide
  go_enter Try.func8, Try.ntmps8
  go_wp2_with (first | go_big_skip | go_big_guard | (go_at_call 11; first | (refine (join_at j1.out _ (by simp) (by simp)).mono ?_; rintro _ _ ⟨rfl, h4⟩; replace hst := St.call0 hst h4; clear h4)) | (go_at_call 15; first | (refine (volume_any [97, 46, 49] _ (by simp)).mono ?_; rintro _ _ ⟨rfl, h4⟩; replace hst := St.call0 hst h4; clear h4) | (refine (volume_any [49, 97] _ (by simp)).mono ?_; rintro _ _ ⟨rfl, h4⟩; replace hst := St.call0 hst h4; clear h4)) | (go_at_call 17; first | (refine (snap_at s1.out _ (by simp)).mono ?_; rintro _ _ ⟨rfl, h4⟩; replace hst := St.call0 hst h4; clear h4)) | (go_at_call 21; first | (refine (splits_at (r := true) s1.out (by decide) _ (by simp)).mono ?_; rintro _ _ ⟨rfl, h4⟩; replace hst := St.call0 hst h4; clear h4)) | (go_at_call 19; first | (refine (less_any [97, 64, 98] [97, 45, 49] _ (by simp) (by simp)).mono ?_; rintro _ _ ⟨rfl, h4⟩; replace hst := St.call0 hst h4; clear h4)))
  go_goals
  go_ret
  exact ⟨rfl, hst⟩
theorem known_any (w : World) : Calls Try.prog 4 #[] w fun e w' => e = .returned (.bool true) ∧ St w [] w' [] := by
  have hst := St.refl w
  have j1 := hid (show joinL [97] [66] = ([], false) by decide)
  have p1 : partB [97, 64, 98] = false := by decide
  have s1 := hid (show splitL [97, 64] = ([], [], false) by decide)
  have s2 := hid (show splitL [97, 64, 98, 64, 99] = ([], [], false) by decide)
  have s3 := hid (show splitL [97] = ([], [], false) by decide)
  have l0 : lessL [97] [97, 64, 98] = true := by decide
  have l1 : lessL [97, 64, 98] [98] = true := by decide
  have l2 : lessL [97, 64, 98] [97, 64, 98] = false := by decide
  go_enter Try.func4, Try.ntmps4
  go_wp2_with (first | go_big_skip | go_big_guard | (go_at_call 11; first | (refine (join_at j1.out _ (by simp) (by simp)).mono ?_; rintro _ _ ⟨rfl, h4⟩; replace hst := St.call0 hst h4; clear h4)) | (go_at_call 8; first | (refine (awake_any _).mono ?_; rintro _ _ ⟨rfl, h4⟩; replace hst := St.call0 hst h4; clear h4)) | (go_at_call 15; first | (refine (volume_any [97, 64, 98] _ (by simp)).mono ?_; rintro _ _ ⟨rfl, h4⟩; replace hst := St.call0 hst h4; clear h4)) | (go_at_call 17; first | (refine (snap_at s1.out _ (by simp)).mono ?_; rintro _ _ ⟨rfl, h4⟩; replace hst := St.call0 hst h4; clear h4) | (refine (snap_at s2.out _ (by simp)).mono ?_; rintro _ _ ⟨rfl, h4⟩; replace hst := St.call0 hst h4; clear h4)) | (go_at_call 21; first | (refine (splits_at (r := true) s3.out (by decide) _ (by simp)).mono ?_; rintro _ _ ⟨rfl, h4⟩; replace hst := St.call0 hst h4; clear h4)) | (go_at_call 19; first | (refine (less_any [97] [97, 64, 98] _ (by simp) (by simp)).mono ?_; rintro _ _ ⟨rfl, h4⟩; replace hst := St.call0 hst h4; clear h4) | (refine (less_any [97, 64, 98] [98] _ (by simp) (by simp)).mono ?_; rintro _ _ ⟨rfl, h4⟩; replace hst := St.call0 hst h4; clear h4) | (refine (less_any [97, 64, 98] [97, 64, 98] _ (by simp) (by simp)).mono ?_; rintro _ _ ⟨rfl, h4⟩; replace hst := St.call0 hst h4; clear h4)))
  go_goals
  go_ret
  exact ⟨rfl, hst⟩
end Go.Proofs.Ytjfgfdnehlgadaa
