import Derived.Test.YtjfgfdnehlgadaaNT7
namespace Go.Proofs.Ytjfgfdnehlgadaa
open Go.RowKit Hp
attribute [local irreducible] Go.Calls
set_option maxHeartbeats 2000000
theorem lself (a : List UInt8) : (a == a) = true := by simp
theorem back_law (v p s : List UInt8) (w : World) : Calls Try.prog 5 #[str v, str p, str s] w fun e w' => e = .returned (.bool true) ∧ St w [] w' [] := by
  have hst := St.refl w
  by_cases hb : (100 : Int) < v.length ∨ (100 : Int) < p.length ∨ (100 : Int) < s.length
  · rcases hb with hb | hb | hb
    all_goals
      go_enter Try.func5, Try.ntmps5
      go_wp2_with (first | go_big_skip | go_big_guard | (go_at_call 4; first | (refine (known_any _).mono ?_; rintro _ _ ⟨rfl, h4⟩; replace hst := St.call0 hst h4; clear h4)))
      all_goals (go_ret; exact ⟨rfl, hst⟩)
  · have ha : v.length ≤ 100 := by omega
    have hb' : p.length ≤ 100 := by omega
    have hc : s.length ≤ 100 := by omega
    have d1 : decide ((100 : Int) < v.length) = false := by simp; omega
    have d2 : decide ((100 : Int) < p.length) = false := by simp; omega
    have d3 : decide ((100 : Int) < s.length) = false := by simp; omega
    clear hb
    rcases hj : joinL v p with ⟨j, g⟩
    rcases hs : splitL s with ⟨x, y, f⟩
    cases g with
    | true =>
      obtain ⟨pv, pp, rfl⟩ := join_true hj
      have Hj := hid hj; clear hj
      have hsj := hid (split_joined pv pp)
      have pj := part_joined v p
      have lj := less_joined p pv
      obtain ⟨lv1, lv⟩ := part_bd pv
      obtain ⟨lp1, lp⟩ := part_bd pp
      cases f with
      | false =>
        obtain ⟨rfl, rfl⟩ := split_false hs
        have Hs := hid hs; clear hs
        go_enter Try.func5, Try.ntmps5
        go_wp2_with (first | go_big_skip | go_big_guard | (go_at_call 4; first | (refine (known_any _).mono ?_; rintro _ _ ⟨rfl, h4⟩; replace hst := St.call0 hst h4; clear h4)) | (go_at_call 11; first | (refine (join_at Hj.out _ (by omega) (by omega)).mono ?_; rintro _ _ ⟨rfl, h4⟩; replace hst := St.call0 hst h4; clear h4) | (refine (join_at (join_of px.out py.out) _ (by omega) (by omega)).mono ?_; rintro _ _ ⟨rfl, h4⟩; replace hst := St.call0 hst h4; clear h4)) | (go_at_call 21; first | (refine (splits_at (r := true) hsj.out (by simp) _ (by simp; omega)).mono ?_; rintro _ _ ⟨rfl, h4⟩; replace hst := St.call0 hst h4; clear h4)) | (go_at_call 9; first | (refine (split_at Hs.out _ (by omega)).mono ?_; rintro _ _ ⟨rfl, h4⟩; replace hst := St.call0 hst h4; clear h4)) | (go_at_call 17; first | (refine (snap_at Hs.out _ (by omega)).mono ?_; rintro _ _ ⟨rfl, h4⟩; replace hst := St.call0 hst h4; clear h4) | (refine (snap_at hsj.out _ (by simp; omega)).mono ?_; rintro _ _ ⟨rfl, h4⟩; replace hst := St.call0 hst h4; clear h4)) | (go_at_call 15; first | (refine (volume_any s _ (by omega)).mono ?_; rintro _ _ ⟨rfl, h4⟩; replace hst := St.call0 hst h4; clear h4) | (refine (volume_any (v ++ 64 :: p) _ (by simp; omega)).mono ?_; rintro _ _ ⟨rfl, h4⟩; replace hst := St.call0 hst h4; clear h4) | (refine (volume_any x _ (by omega)).mono ?_; rintro _ _ ⟨rfl, h4⟩; replace hst := St.call0 hst h4; clear h4)) | (go_at_call 13; first | (refine (part_any v _ (by omega)).mono ?_; rintro _ _ ⟨rfl, h4⟩; replace hst := St.call0 hst h4; clear h4) | (refine (part_any p _ (by omega)).mono ?_; rintro _ _ ⟨rfl, h4⟩; replace hst := St.call0 hst h4; clear h4) | (refine (part_any y _ (by omega)).mono ?_; rintro _ _ ⟨rfl, h4⟩; replace hst := St.call0 hst h4; clear h4)) | (go_at_call 19; first | (refine (less_any v (v ++ 64 :: p) _ (by omega) (by simp; omega)).mono ?_; rintro _ _ ⟨rfl, h4⟩; replace hst := St.call0 hst h4; clear h4)))
        all_goals (go_ret; exact ⟨rfl, hst⟩)
      | true =>
        obtain ⟨e, px, py⟩ := split_true hs
        have Hs := hid hs; clear hs
        have ps : partB s = false := by rw [e]; exact part_joined x y
        have es := hid e; clear e
        obtain ⟨lx1, lx⟩ := part_bd px
        obtain ⟨ly1, ly⟩ := part_bd py
        have qx := px
        have qy := py
        replace px := hid px
        replace py := hid py
        have jq := lself s
        have jr : ((x ++ 64 :: y) == s) = true := by rw [es.out]; simp
        go_enter Try.func5, Try.ntmps5
        go_wp2_with (first | go_big_skip | go_big_guard | (go_at_call 4; first | (refine (known_any _).mono ?_; rintro _ _ ⟨rfl, h4⟩; replace hst := St.call0 hst h4; clear h4)) | (go_at_call 11; first | (refine (join_at Hj.out _ (by omega) (by omega)).mono ?_; rintro _ _ ⟨rfl, h4⟩; replace hst := St.call0 hst h4; clear h4) | (refine (join_at (join_of px.out py.out) _ (by omega) (by omega)).mono ?_; rintro _ _ ⟨rfl, h4⟩; replace hst := St.call0 hst h4; clear h4)) | (go_at_call 21; first | (refine (splits_at (r := true) hsj.out (by simp) _ (by simp; omega)).mono ?_; rintro _ _ ⟨rfl, h4⟩; replace hst := St.call0 hst h4; clear h4)) | (go_at_call 9; first | (refine (split_at Hs.out _ (by omega)).mono ?_; rintro _ _ ⟨rfl, h4⟩; replace hst := St.call0 hst h4; clear h4)) | (go_at_call 17; first | (refine (snap_at Hs.out _ (by omega)).mono ?_; rintro _ _ ⟨rfl, h4⟩; replace hst := St.call0 hst h4; clear h4) | (refine (snap_at hsj.out _ (by simp; omega)).mono ?_; rintro _ _ ⟨rfl, h4⟩; replace hst := St.call0 hst h4; clear h4)) | (go_at_call 15; first | (refine (volume_any s _ (by omega)).mono ?_; rintro _ _ ⟨rfl, h4⟩; replace hst := St.call0 hst h4; clear h4) | (refine (volume_any (v ++ 64 :: p) _ (by simp; omega)).mono ?_; rintro _ _ ⟨rfl, h4⟩; replace hst := St.call0 hst h4; clear h4) | (refine (volume_any x _ (by omega)).mono ?_; rintro _ _ ⟨rfl, h4⟩; replace hst := St.call0 hst h4; clear h4)) | (go_at_call 13; first | (refine (part_any v _ (by omega)).mono ?_; rintro _ _ ⟨rfl, h4⟩; replace hst := St.call0 hst h4; clear h4) | (refine (part_any p _ (by omega)).mono ?_; rintro _ _ ⟨rfl, h4⟩; replace hst := St.call0 hst h4; clear h4) | (refine (part_any y _ (by omega)).mono ?_; rintro _ _ ⟨rfl, h4⟩; replace hst := St.call0 hst h4; clear h4)) | (go_at_call 19; first | (refine (less_any v (v ++ 64 :: p) _ (by omega) (by simp; omega)).mono ?_; rintro _ _ ⟨rfl, h4⟩; replace hst := St.call0 hst h4; clear h4)))
        all_goals (go_ret; exact ⟨rfl, hst⟩)
    | false =>
      obtain ⟨pvp, rfl⟩ := join_false hj
      have Hj := hid hj; clear hj
      cases pv : partB v with
      | false =>
        cases f with
        | false =>
          obtain ⟨rfl, rfl⟩ := split_false hs
          have Hs := hid hs; clear hs
          clear pvp
          go_enter Try.func5, Try.ntmps5
          go_wp2_with (first | go_big_skip | go_big_guard | (go_at_call 4; first | (refine (known_any _).mono ?_; rintro _ _ ⟨rfl, h4⟩; replace hst := St.call0 hst h4; clear h4)) | (go_at_call 11; first | (refine (join_at Hj.out _ (by omega) (by omega)).mono ?_; rintro _ _ ⟨rfl, h4⟩; replace hst := St.call0 hst h4; clear h4) | (refine (join_at (join_of px.out py.out) _ (by omega) (by omega)).mono ?_; rintro _ _ ⟨rfl, h4⟩; replace hst := St.call0 hst h4; clear h4)) | (go_at_call 21; first | (refine (splits_at (r := true) hsj.out (by simp) _ (by simp; omega)).mono ?_; rintro _ _ ⟨rfl, h4⟩; replace hst := St.call0 hst h4; clear h4)) | (go_at_call 9; first | (refine (split_at Hs.out _ (by omega)).mono ?_; rintro _ _ ⟨rfl, h4⟩; replace hst := St.call0 hst h4; clear h4)) | (go_at_call 17; first | (refine (snap_at Hs.out _ (by omega)).mono ?_; rintro _ _ ⟨rfl, h4⟩; replace hst := St.call0 hst h4; clear h4) | (refine (snap_at hsj.out _ (by simp; omega)).mono ?_; rintro _ _ ⟨rfl, h4⟩; replace hst := St.call0 hst h4; clear h4)) | (go_at_call 15; first | (refine (volume_any s _ (by omega)).mono ?_; rintro _ _ ⟨rfl, h4⟩; replace hst := St.call0 hst h4; clear h4) | (refine (volume_any (v ++ 64 :: p) _ (by simp; omega)).mono ?_; rintro _ _ ⟨rfl, h4⟩; replace hst := St.call0 hst h4; clear h4) | (refine (volume_any x _ (by omega)).mono ?_; rintro _ _ ⟨rfl, h4⟩; replace hst := St.call0 hst h4; clear h4)) | (go_at_call 13; first | (refine (part_any v _ (by omega)).mono ?_; rintro _ _ ⟨rfl, h4⟩; replace hst := St.call0 hst h4; clear h4) | (refine (part_any p _ (by omega)).mono ?_; rintro _ _ ⟨rfl, h4⟩; replace hst := St.call0 hst h4; clear h4) | (refine (part_any y _ (by omega)).mono ?_; rintro _ _ ⟨rfl, h4⟩; replace hst := St.call0 hst h4; clear h4)) | (go_at_call 19; first | (refine (less_any v (v ++ 64 :: p) _ (by omega) (by simp; omega)).mono ?_; rintro _ _ ⟨rfl, h4⟩; replace hst := St.call0 hst h4; clear h4)))
          all_goals (go_ret; exact ⟨rfl, hst⟩)
        | true =>
          obtain ⟨e, px, py⟩ := split_true hs
          have Hs := hid hs; clear hs
          have ps : partB s = false := by rw [e]; exact part_joined x y
          have es := hid e; clear e
          obtain ⟨lx1, lx⟩ := part_bd px
          obtain ⟨ly1, ly⟩ := part_bd py
          have qx := px
          have qy := py
          replace px := hid px
          replace py := hid py
          have jq := lself s
          have jr : ((x ++ 64 :: y) == s) = true := by rw [es.out]; simp
          clear pvp
          go_enter Try.func5, Try.ntmps5
          go_wp2_with (first | go_big_skip | go_big_guard | (go_at_call 4; first | (refine (known_any _).mono ?_; rintro _ _ ⟨rfl, h4⟩; replace hst := St.call0 hst h4; clear h4)) | (go_at_call 11; first | (refine (join_at Hj.out _ (by omega) (by omega)).mono ?_; rintro _ _ ⟨rfl, h4⟩; replace hst := St.call0 hst h4; clear h4) | (refine (join_at (join_of px.out py.out) _ (by omega) (by omega)).mono ?_; rintro _ _ ⟨rfl, h4⟩; replace hst := St.call0 hst h4; clear h4)) | (go_at_call 21; first | (refine (splits_at (r := true) hsj.out (by simp) _ (by simp; omega)).mono ?_; rintro _ _ ⟨rfl, h4⟩; replace hst := St.call0 hst h4; clear h4)) | (go_at_call 9; first | (refine (split_at Hs.out _ (by omega)).mono ?_; rintro _ _ ⟨rfl, h4⟩; replace hst := St.call0 hst h4; clear h4)) | (go_at_call 17; first | (refine (snap_at Hs.out _ (by omega)).mono ?_; rintro _ _ ⟨rfl, h4⟩; replace hst := St.call0 hst h4; clear h4) | (refine (snap_at hsj.out _ (by simp; omega)).mono ?_; rintro _ _ ⟨rfl, h4⟩; replace hst := St.call0 hst h4; clear h4)) | (go_at_call 15; first | (refine (volume_any s _ (by omega)).mono ?_; rintro _ _ ⟨rfl, h4⟩; replace hst := St.call0 hst h4; clear h4) | (refine (volume_any (v ++ 64 :: p) _ (by simp; omega)).mono ?_; rintro _ _ ⟨rfl, h4⟩; replace hst := St.call0 hst h4; clear h4) | (refine (volume_any x _ (by omega)).mono ?_; rintro _ _ ⟨rfl, h4⟩; replace hst := St.call0 hst h4; clear h4)) | (go_at_call 13; first | (refine (part_any v _ (by omega)).mono ?_; rintro _ _ ⟨rfl, h4⟩; replace hst := St.call0 hst h4; clear h4) | (refine (part_any p _ (by omega)).mono ?_; rintro _ _ ⟨rfl, h4⟩; replace hst := St.call0 hst h4; clear h4) | (refine (part_any y _ (by omega)).mono ?_; rintro _ _ ⟨rfl, h4⟩; replace hst := St.call0 hst h4; clear h4)) | (go_at_call 19; first | (refine (less_any v (v ++ 64 :: p) _ (by omega) (by simp; omega)).mono ?_; rintro _ _ ⟨rfl, h4⟩; replace hst := St.call0 hst h4; clear h4)))
          all_goals (go_ret; exact ⟨rfl, hst⟩)
      | true =>
        rw [pv] at pvp
        have pp : partB p = false := by simpa using pvp
        clear pvp
        cases f with
        | false =>
          obtain ⟨rfl, rfl⟩ := split_false hs
          have Hs := hid hs; clear hs
          go_enter Try.func5, Try.ntmps5
          go_wp2_with (first | go_big_skip | go_big_guard | (go_at_call 4; first | (refine (known_any _).mono ?_; rintro _ _ ⟨rfl, h4⟩; replace hst := St.call0 hst h4; clear h4)) | (go_at_call 11; first | (refine (join_at Hj.out _ (by omega) (by omega)).mono ?_; rintro _ _ ⟨rfl, h4⟩; replace hst := St.call0 hst h4; clear h4) | (refine (join_at (join_of px.out py.out) _ (by omega) (by omega)).mono ?_; rintro _ _ ⟨rfl, h4⟩; replace hst := St.call0 hst h4; clear h4)) | (go_at_call 21; first | (refine (splits_at (r := true) hsj.out (by simp) _ (by simp; omega)).mono ?_; rintro _ _ ⟨rfl, h4⟩; replace hst := St.call0 hst h4; clear h4)) | (go_at_call 9; first | (refine (split_at Hs.out _ (by omega)).mono ?_; rintro _ _ ⟨rfl, h4⟩; replace hst := St.call0 hst h4; clear h4)) | (go_at_call 17; first | (refine (snap_at Hs.out _ (by omega)).mono ?_; rintro _ _ ⟨rfl, h4⟩; replace hst := St.call0 hst h4; clear h4) | (refine (snap_at hsj.out _ (by simp; omega)).mono ?_; rintro _ _ ⟨rfl, h4⟩; replace hst := St.call0 hst h4; clear h4)) | (go_at_call 15; first | (refine (volume_any s _ (by omega)).mono ?_; rintro _ _ ⟨rfl, h4⟩; replace hst := St.call0 hst h4; clear h4) | (refine (volume_any (v ++ 64 :: p) _ (by simp; omega)).mono ?_; rintro _ _ ⟨rfl, h4⟩; replace hst := St.call0 hst h4; clear h4) | (refine (volume_any x _ (by omega)).mono ?_; rintro _ _ ⟨rfl, h4⟩; replace hst := St.call0 hst h4; clear h4)) | (go_at_call 13; first | (refine (part_any v _ (by omega)).mono ?_; rintro _ _ ⟨rfl, h4⟩; replace hst := St.call0 hst h4; clear h4) | (refine (part_any p _ (by omega)).mono ?_; rintro _ _ ⟨rfl, h4⟩; replace hst := St.call0 hst h4; clear h4) | (refine (part_any y _ (by omega)).mono ?_; rintro _ _ ⟨rfl, h4⟩; replace hst := St.call0 hst h4; clear h4)) | (go_at_call 19; first | (refine (less_any v (v ++ 64 :: p) _ (by omega) (by simp; omega)).mono ?_; rintro _ _ ⟨rfl, h4⟩; replace hst := St.call0 hst h4; clear h4)))
          all_goals (go_ret; exact ⟨rfl, hst⟩)
        | true =>
          obtain ⟨e, px, py⟩ := split_true hs
          have Hs := hid hs; clear hs
          have ps : partB s = false := by rw [e]; exact part_joined x y
          have es := hid e; clear e
          obtain ⟨lx1, lx⟩ := part_bd px
          obtain ⟨ly1, ly⟩ := part_bd py
          have qx := px
          have qy := py
          replace px := hid px
          replace py := hid py
          have jq := lself s
          have jr : ((x ++ 64 :: y) == s) = true := by rw [es.out]; simp
          go_enter Try.func5, Try.ntmps5
          go_wp2_with (first | go_big_skip | go_big_guard | (go_at_call 4; first | (refine (known_any _).mono ?_; rintro _ _ ⟨rfl, h4⟩; replace hst := St.call0 hst h4; clear h4)) | (go_at_call 11; first | (refine (join_at Hj.out _ (by omega) (by omega)).mono ?_; rintro _ _ ⟨rfl, h4⟩; replace hst := St.call0 hst h4; clear h4) | (refine (join_at (join_of px.out py.out) _ (by omega) (by omega)).mono ?_; rintro _ _ ⟨rfl, h4⟩; replace hst := St.call0 hst h4; clear h4)) | (go_at_call 21; first | (refine (splits_at (r := true) hsj.out (by simp) _ (by simp; omega)).mono ?_; rintro _ _ ⟨rfl, h4⟩; replace hst := St.call0 hst h4; clear h4)) | (go_at_call 9; first | (refine (split_at Hs.out _ (by omega)).mono ?_; rintro _ _ ⟨rfl, h4⟩; replace hst := St.call0 hst h4; clear h4)) | (go_at_call 17; first | (refine (snap_at Hs.out _ (by omega)).mono ?_; rintro _ _ ⟨rfl, h4⟩; replace hst := St.call0 hst h4; clear h4) | (refine (snap_at hsj.out _ (by simp; omega)).mono ?_; rintro _ _ ⟨rfl, h4⟩; replace hst := St.call0 hst h4; clear h4)) | (go_at_call 15; first | (refine (volume_any s _ (by omega)).mono ?_; rintro _ _ ⟨rfl, h4⟩; replace hst := St.call0 hst h4; clear h4) | (refine (volume_any (v ++ 64 :: p) _ (by simp; omega)).mono ?_; rintro _ _ ⟨rfl, h4⟩; replace hst := St.call0 hst h4; clear h4) | (refine (volume_any x _ (by omega)).mono ?_; rintro _ _ ⟨rfl, h4⟩; replace hst := St.call0 hst h4; clear h4)) | (go_at_call 13; first | (refine (part_any v _ (by omega)).mono ?_; rintro _ _ ⟨rfl, h4⟩; replace hst := St.call0 hst h4; clear h4) | (refine (part_any p _ (by omega)).mono ?_; rintro _ _ ⟨rfl, h4⟩; replace hst := St.call0 hst h4; clear h4) | (refine (part_any y _ (by omega)).mono ?_; rintro _ _ ⟨rfl, h4⟩; replace hst := St.call0 hst h4; clear h4)) | (go_at_call 19; first | (refine (less_any v (v ++ 64 :: p) _ (by omega) (by simp; omega)).mono ?_; rintro _ _ ⟨rfl, h4⟩; replace hst := St.call0 hst h4; clear h4)))
          all_goals (go_ret; exact ⟨rfl, hst⟩)
theorem together_law (v p s : List UInt8) (w : World) (hv : v.length ≤ 9223372036854775807) (hp : p.length ≤ 9223372036854775807) : Calls Try.prog 7 #[str v, str p, str s] w fun e w' => e = .returned (.bool true) ∧ St w [] w' [] := by
  have hst := St.refl w
  replace hv := hid hv
  replace hp := hid hp
  rcases hj : joinL v p with ⟨j, g⟩
  by_cases hb : (100 : Int) < s.length
  · have Hj := hid hj; clear hj
    go_enter Try.func7, Try.ntmps7
    go_wp2_with (first | go_big_skip | go_big_guard | (go_at_call 8; first | (refine (awake_any _).mono ?_; rintro _ _ ⟨rfl, h4⟩; replace hst := St.call0 hst h4; clear h4)) | (go_at_call 11; first | (refine (join_at Hj.out _ hv.out hp.out).mono ?_; rintro _ _ ⟨rfl, h4⟩; replace hst := St.call0 hst h4; clear h4)) | (go_at_call 19; first | (refine (less_any s v _ (by omega) hv.out).mono ?_; rintro _ _ ⟨rfl, h4⟩; replace hst := St.call0 hst h4; clear h4) | (refine (less_any s (v ++ 64 :: p) _ (by omega) (by simp; omega)).mono ?_; rintro _ _ ⟨rfl, h4⟩; replace hst := St.call0 hst h4; clear h4)))
    all_goals (go_ret; exact ⟨rfl, hst⟩)
  · have hc : s.length ≤ 100 := by omega
    have d1 : decide ((100 : Int) < s.length) = false := by simp; omega
    clear hb
    cases g with
    | false =>
      have Hj := hid hj; clear hj
      go_enter Try.func7, Try.ntmps7
      go_wp2_with (first | go_big_skip | go_big_guard | (go_at_call 8; first | (refine (awake_any _).mono ?_; rintro _ _ ⟨rfl, h4⟩; replace hst := St.call0 hst h4; clear h4)) | (go_at_call 11; first | (refine (join_at Hj.out _ hv.out hp.out).mono ?_; rintro _ _ ⟨rfl, h4⟩; replace hst := St.call0 hst h4; clear h4)) | (go_at_call 19; first | (refine (less_any s v _ (by omega) hv.out).mono ?_; rintro _ _ ⟨rfl, h4⟩; replace hst := St.call0 hst h4; clear h4) | (refine (less_any s (v ++ 64 :: p) _ (by omega) (by simp; omega)).mono ?_; rintro _ _ ⟨rfl, h4⟩; replace hst := St.call0 hst h4; clear h4)))
      all_goals (go_ret; exact ⟨rfl, hst⟩)
    | true =>
      obtain ⟨pv, pp, rfl⟩ := join_true hj
      have Hj := hid hj; clear hj
      obtain ⟨lv1, lv⟩ := part_bd pv
      obtain ⟨lp1, lp⟩ := part_bd pp
      cases k1 : lessL s v with
      | true =>
        go_enter Try.func7, Try.ntmps7
        go_wp2_with (first | go_big_skip | go_big_guard | (go_at_call 8; first | (refine (awake_any _).mono ?_; rintro _ _ ⟨rfl, h4⟩; replace hst := St.call0 hst h4; clear h4)) | (go_at_call 11; first | (refine (join_at Hj.out _ hv.out hp.out).mono ?_; rintro _ _ ⟨rfl, h4⟩; replace hst := St.call0 hst h4; clear h4)) | (go_at_call 19; first | (refine (less_any s v _ (by omega) hv.out).mono ?_; rintro _ _ ⟨rfl, h4⟩; replace hst := St.call0 hst h4; clear h4) | (refine (less_any s (v ++ 64 :: p) _ (by omega) (by simp; omega)).mono ?_; rintro _ _ ⟨rfl, h4⟩; replace hst := St.call0 hst h4; clear h4)))
        all_goals (go_ret; exact ⟨rfl, hst⟩)
      | false =>
        cases k2 : lessL s (v ++ 64 :: p) with
        | false =>
          go_enter Try.func7, Try.ntmps7
          go_wp2_with (first | go_big_skip | go_big_guard | (go_at_call 8; first | (refine (awake_any _).mono ?_; rintro _ _ ⟨rfl, h4⟩; replace hst := St.call0 hst h4; clear h4)) | (go_at_call 11; first | (refine (join_at Hj.out _ hv.out hp.out).mono ?_; rintro _ _ ⟨rfl, h4⟩; replace hst := St.call0 hst h4; clear h4)) | (go_at_call 19; first | (refine (less_any s v _ (by omega) hv.out).mono ?_; rintro _ _ ⟨rfl, h4⟩; replace hst := St.call0 hst h4; clear h4) | (refine (less_any s (v ++ 64 :: p) _ (by omega) (by simp; omega)).mono ?_; rintro _ _ ⟨rfl, h4⟩; replace hst := St.call0 hst h4; clear h4)))
          all_goals (go_ret; exact ⟨rfl, hst⟩)
        | true =>
          by_cases e : s = v
          · have q1 : (s == v) = true := by simpa using e
            clear e
            go_enter Try.func7, Try.ntmps7
            go_wp2_with (first | go_big_skip | go_big_guard | (go_at_call 8; first | (refine (awake_any _).mono ?_; rintro _ _ ⟨rfl, h4⟩; replace hst := St.call0 hst h4; clear h4)) | (go_at_call 11; first | (refine (join_at Hj.out _ hv.out hp.out).mono ?_; rintro _ _ ⟨rfl, h4⟩; replace hst := St.call0 hst h4; clear h4)) | (go_at_call 19; first | (refine (less_any s v _ (by omega) hv.out).mono ?_; rintro _ _ ⟨rfl, h4⟩; replace hst := St.call0 hst h4; clear h4) | (refine (less_any s (v ++ 64 :: p) _ (by omega) (by simp; omega)).mono ?_; rintro _ _ ⟨rfl, h4⟩; replace hst := St.call0 hst h4; clear h4)))
            all_goals (go_ret; exact ⟨rfl, hst⟩)
          · have q1 : (s == v) = false := by simpa using e
            have hT := hid ((together pv k1 k2).resolve_left e)
            clear e
            have q2 : v.length < s.length := hT.out.1
            have q3 := hid hT.out.2
            clear hT
            go_enter Try.func7, Try.ntmps7
            go_wp2_with (first | go_big_skip | go_big_guard | (go_at_call 8; first | (refine (awake_any _).mono ?_; rintro _ _ ⟨rfl, h4⟩; replace hst := St.call0 hst h4; clear h4)) | (go_at_call 11; first | (refine (join_at Hj.out _ hv.out hp.out).mono ?_; rintro _ _ ⟨rfl, h4⟩; replace hst := St.call0 hst h4; clear h4)) | (go_at_call 19; first | (refine (less_any s v _ (by omega) hv.out).mono ?_; rintro _ _ ⟨rfl, h4⟩; replace hst := St.call0 hst h4; clear h4) | (refine (less_any s (v ++ 64 :: p) _ (by omega) (by simp; omega)).mono ?_; rintro _ _ ⟨rfl, h4⟩; replace hst := St.call0 hst h4; clear h4)))
            go_ret
            refine ⟨ret_boolv ?_, hst⟩
            rw [extract_l, append_l v [64], List.drop_zero, q3.out]
            exact lself _
end Go.Proofs.Ytjfgfdnehlgadaa
