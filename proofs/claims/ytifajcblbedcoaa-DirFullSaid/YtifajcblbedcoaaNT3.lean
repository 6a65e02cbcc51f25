import Derived.Test.YtifajcblbedcoaaNT2
namespace Go.Proofs.Ytifajcblbedcoaa
set_option linter.unusedVariables false
set_option linter.unusedSimpArgs false
open Go.RowKit Hp
attribute [local irreducible] Go.Calls
set_option maxHeartbeats 1000000
theorem volume_any (l : List UInt8) (w : World) (hl : l.length ≤ 9223372036854775807) :
    Calls Try.prog 26 #[str l] w fun e w' => e = .returned (.bool (partB l)) ∧ St w [] w' [] := by
  have hst := St.refl w
  have Hl := hid hl; clear hl
  go_enter Try.func26, Try.ntmps26
  go_wp2_with (first | go_big_skip | go_big_guard | (go_at_call 63; refine (part_any l _ Hl.out).mono ?_; rintro _ _ ⟨rfl, h4⟩; replace hst := St.call0 hst h4; clear h4))
  go_ret
  exact ⟨rfl, hst⟩
theorem cutL_len (l : List UInt8) : (cutL l).1.length ≤ l.length ∧ (cutL l).2.1.length ≤ l.length := by
  cases h : (cutL l).2.2
  · obtain ⟨h1, h2⟩ := cutL_false h
    rw [h1, h2]; simp
  · have := congrArg List.length (cutL_true h)
    simp at this
    omega
theorem split_to {l a b : List UInt8} {f : Bool} (hx : cutL l = (a, b, f)) : splitL l = if f && (partB a && partB b) then (a, b, true) else ([], [], false) := by rw [splitL, hx]
theorem cut_to {l a b : List UInt8} {f : Bool} (hx : cutL l = (a, b, f)) (w : World) (hl : l.length ≤ 9223372036854775807) :
    Calls Try.prog 66 #[str l, .string ⟨#[64]⟩] w fun e w' => e = .returned (.tuple #[str a, str b, .bool f]) ∧ St w [] w' [] := by
  have := cut_any l w hl
  rwa [hx] at this
theorem split_any (l : List UInt8) (w : World) (hl : l.length ≤ 9223372036854775807) :
    Calls Try.prog 39 #[str l] w fun e w' => e = .returned (.tuple #[str (splitL l).1, str (splitL l).2.1, .bool (splitL l).2.2]) ∧ St w [] w' [] := by
  have hst := St.refl w
  rcases hx : cutL l with ⟨a, b, f⟩
  have hq := hid (split_to hx)
  obtain ⟨h1, h2⟩ := cutL_len l
  rw [hx] at h1 h2
  have Ha := hid (Nat.le_trans h1 hl)
  have Hb := hid (Nat.le_trans h2 hl)
  have Hx := hid hx
  have Hl := hid hl; clear hl h1 h2 hx
  clear hq
  cases f with
  | false =>
    go_enter Try.func39, Try.ntmps39
    go_wp2_with (first | go_big_skip | go_big_guard | (go_at_call 66; refine (cut_to Hx.out _ Hl.out).mono ?_; rintro _ _ ⟨rfl, h4⟩; replace hst := St.call0 hst h4; clear h4))
    go_ret3
    exact ⟨by rw [split_to Hx.out]; rfl, hst⟩
  | true =>
    by_cases pa : partB a = true
    · by_cases pb : partB b = true
      · go_enter Try.func39, Try.ntmps39
        go_wp2_with (first | go_big_skip | go_big_guard | (go_at_call 66; refine (cut_to Hx.out _ Hl.out).mono ?_; rintro _ _ ⟨rfl, h4⟩; replace hst := St.call0 hst h4; clear h4) | (go_at_call 26; refine (volume_any a _ Ha.out).mono ?_; rintro _ _ ⟨rfl, h4⟩; replace hst := St.call0 hst h4; clear h4) | (go_at_call 63; refine (part_any b _ Hb.out).mono ?_; rintro _ _ ⟨rfl, h4⟩; replace hst := St.call0 hst h4; clear h4))
        go_ret3
        exact ⟨by rw [split_to Hx.out, pa, pb]; rfl, hst⟩
      · replace pb : partB b = false := by simpa using pb
        go_enter Try.func39, Try.ntmps39
        go_wp2_with (first | go_big_skip | go_big_guard | (go_at_call 66; refine (cut_to Hx.out _ Hl.out).mono ?_; rintro _ _ ⟨rfl, h4⟩; replace hst := St.call0 hst h4; clear h4) | (go_at_call 26; refine (volume_any a _ Ha.out).mono ?_; rintro _ _ ⟨rfl, h4⟩; replace hst := St.call0 hst h4; clear h4) | (go_at_call 63; refine (part_any b _ Hb.out).mono ?_; rintro _ _ ⟨rfl, h4⟩; replace hst := St.call0 hst h4; clear h4))
        go_ret3
        exact ⟨by rw [split_to Hx.out, pa, pb]; rfl, hst⟩
    · replace pa : partB a = false := by simpa using pa
      go_enter Try.func39, Try.ntmps39
      go_wp2_with (first | go_big_skip | go_big_guard | (go_at_call 66; refine (cut_to Hx.out _ Hl.out).mono ?_; rintro _ _ ⟨rfl, h4⟩; replace hst := St.call0 hst h4; clear h4) | (go_at_call 26; refine (volume_any a _ Ha.out).mono ?_; rintro _ _ ⟨rfl, h4⟩; replace hst := St.call0 hst h4; clear h4))
      go_ret3
      exact ⟨by rw [split_to Hx.out, pa]; rfl, hst⟩
theorem snap_any (l : List UInt8) (w : World) (hl : l.length ≤ 9223372036854775807) :
    Calls Try.prog 55 #[str l] w fun e w' => e = .returned (.bool (snapB l)) ∧ St w [] w' [] := by
  have hst := St.refl w
  have Hl := hid hl; clear hl
  go_enter Try.func55, Try.ntmps55
  go_wp2_with (first | go_big_skip | go_big_guard | (go_at_call 39; refine (split_any l _ Hl.out).mono ?_; rintro _ _ ⟨rfl, h4⟩; replace hst := St.call0 hst h4; clear h4))
  go_ret
  exact ⟨rfl, hst⟩
theorem join_any (a b : List UInt8) (w : World) (ha : a.length ≤ 9223372036854775807) (hb : b.length ≤ 9223372036854775807) :
    Calls Try.prog 40 #[str a, str b] w fun e w' => e = .returned (.tuple #[str (joinL a b).1, .bool (joinL a b).2]) ∧ St w [] w' [] := by
  have hst := St.refl w
  have Ha := hid ha; clear ha
  have Hb := hid hb; clear hb
  have Hf := hid (fun (h : partB a = true) (h' : partB b = true) => show joinL a b = ((a ++ [64]) ++ b, true) by rw [joinL, h, h']; rfl)
  have Hf2 := hid (fun (h : (partB a && partB b) = false) => show joinL a b = ([], false) by rw [joinL, h]; rfl)
  by_cases pa : partB a = true
  · by_cases pb : partB b = true
    · obtain ⟨la1, la⟩ := part_bd pa
      obtain ⟨lb1, lb⟩ := part_bd pb
      go_enter Try.func40, Try.ntmps40
      go_wp2_with (first | go_big_skip | go_big_guard | (go_at_call 26; refine (volume_any a _ Ha.out).mono ?_; rintro _ _ ⟨rfl, h4⟩; replace hst := St.call0 hst h4; clear h4) | (go_at_call 63; refine (part_any b _ Hb.out).mono ?_; rintro _ _ ⟨rfl, h4⟩; replace hst := St.call0 hst h4; clear h4))
      go_goals
      go_ret2
      exact ⟨by rw [Hf.out pa pb]; exact tup2 (by show Value.string _ = _; rw [append_l a [64], append_l]) rfl, hst⟩
    · replace pb : partB b = false := by simpa using pb
      go_enter Try.func40, Try.ntmps40
      go_wp2_with (first | go_big_skip | go_big_guard | (go_at_call 26; refine (volume_any a _ Ha.out).mono ?_; rintro _ _ ⟨rfl, h4⟩; replace hst := St.call0 hst h4; clear h4) | (go_at_call 63; refine (part_any b _ Hb.out).mono ?_; rintro _ _ ⟨rfl, h4⟩; replace hst := St.call0 hst h4; clear h4))
      go_ret2
      exact ⟨by rw [Hf2.out (by simp [pb])]; rfl, hst⟩
  · replace pa : partB a = false := by simpa using pa
    go_enter Try.func40, Try.ntmps40
    go_wp2_with (first | go_big_skip | go_big_guard | (go_at_call 26; refine (volume_any a _ Ha.out).mono ?_; rintro _ _ ⟨rfl, h4⟩; replace hst := St.call0 hst h4; clear h4))
    go_ret2
    exact ⟨by rw [Hf2.out (by simp [pa])]; rfl, hst⟩
end Go.Proofs.Ytifajcblbedcoaa
