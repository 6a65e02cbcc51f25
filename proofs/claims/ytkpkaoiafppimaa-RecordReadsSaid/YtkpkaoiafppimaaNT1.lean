import Derived.Test.YtkpkaoiafppimaaNm
import Derived.Test.YtkpkaoiafppimaaStr
import Derived.Test.YtkpkaoiafppimaaShelf
import Derived.Outline
namespace Go.Proofs.Ytkpkaoiafppimaa
set_option linter.unusedVariables false
set_option linter.unusedSimpArgs false
open Go.RowKit Hp
attribute [local irreducible] Go.Calls
set_option maxHeartbeats 1000000
abbrev str (l : List UInt8) : Value := .string ⟨l.toArray⟩
theorem slcut_any (l : List UInt8) (w : World) (hl : l.length ≤ 9223372036854775807) :
    Calls Try.prog 94 #[str l, .string ⟨#[64]⟩] w fun e w' => e = .returned (.tuple #[str (cutL l).1, str (cutL l).2.1, .bool (cutL l).2.2]) ∧ St w [] w' [] := by
  have hi := index_cut l
  cases hc : (cutL l).2.2 with
  | false =>
    rw [hc] at hi
    obtain ⟨h1, h2⟩ := cutL_false hc
    rw [h1, h2]
    simp only [Bool.false_eq_true, if_false] at hi
    have Hi := hid hi; clear hi hc h1 h2
    go_enter Try.func94, Try.ntmps94
    go_wp2_with (first | go_big_skip | go_big_guard | (go_at_call 107; refine (Try.stringslite_Index_one _ _ _).mono ?_; rw [show (⟨l.toArray⟩ : ByteArray).data.toList = l from rfl, Hi.out]; rintro _ _ ⟨rfl, rfl⟩))
    go_ret3
    exact ⟨rfl, St.refl _⟩
  | true =>
    rw [hc] at hi
    have e := cutL_true hc
    obtain ⟨a, ha⟩ : ∃ a, a = (cutL l).1 := ⟨_, rfl⟩
    obtain ⟨b, hb⟩ : ∃ b, b = (cutL l).2.1 := ⟨_, rfl⟩
    rw [← ha, ← hb] at e ⊢
    rw [← ha] at hi
    simp only [if_true] at hi
    have Hi := hid hi; clear hi hc ha hb
    subst e
    simp only [List.length_append, List.length_cons] at hl
    go_enter Try.func94, Try.ntmps94
    go_wp2_with (first | go_big_skip | go_big_guard | (go_at_call 107; refine (Try.stringslite_Index_one _ _ _).mono ?_; rw [show (⟨(a ++ 64 :: b).toArray⟩ : ByteArray).data.toList = a ++ 64 :: b from rfl, Hi.out]; rintro _ _ ⟨rfl, rfl⟩))
    go_quiet (fail)
    go_wp2_with (first | go_big_skip | go_big_guard | fail)
    go_ret3
    exact ⟨tup3 (by show Value.string _ = _; rw [extract_l]; simp) (by show Value.string _ = _; rw [extract_l, List.take_of_length_le (by simp)]; simp [List.drop_append]) rfl, (St.refl _).drewN _⟩
theorem cut_any (l : List UInt8) (w : World) (hl : l.length ≤ 9223372036854775807) :
    Calls Try.prog 74 #[str l, .string ⟨#[64]⟩] w fun e w' => e = .returned (.tuple #[str (cutL l).1, str (cutL l).2.1, .bool (cutL l).2.2]) ∧ St w [] w' [] := by
  have Hl := hid hl; clear hl
  have hst := St.refl w
  go_enter Try.func74, Try.ntmps74
  go_wp2_with (first | go_big_skip | go_big_guard | (go_at_call 94; refine (slcut_any l _ Hl.out).mono ?_; rintro _ _ ⟨rfl, h4⟩; replace hst := St.call0 hst h4; clear h4))
  go_ret3
  exact ⟨rfl, hst⟩
instance tyStr9 : TyStr Try.prog 9 := ⟨by kernel_rfl⟩
theorem u8ne {c : UInt8} (h : ((c.toNat : Int) == 64) = false) : c ≠ 64 := by rintro rfl; simp at h
theorem u8eq {c : UInt8} (h : ((c.toNat : Int) == 64) = true) : c = 64 := UInt8.toNat_inj.1 (by have h2 := eq_of_beq h; show c.toNat = 64; omega)
theorem refcut_any (l : List UInt8) (w : World) (hl : l.length ≤ 9223372036854775807) :
    Calls Try.prog 100 #[str l] w fun e w' => e = .returned (.tuple #[str (cutL l).1, str (cutL l).2.1, .bool (cutL l).2.2]) ∧ St w [] w' [] := by
  go_enter Try.func100, Try.ntmps100
  go_wp2_with (first | go_big_skip | go_big_guard | fail)
  go_loop [5] (fun i => ∃ k : Nat, k ≤ l.length ∧ i = .int .i64 k ∧ Hid (∀ j, j < k → l.getD j 0 ≠ 64)) (fun i => l.length - (intOf i).toNat)
  case atStart => exact ⟨0, Nat.zero_le _, rfl, hid (fun j hj => absurd hj (Nat.not_lt_zero _))⟩
  case round =>
    obtain ⟨k, hk, rfl, hno⟩ := hrel
    by_cases hlt : k < l.length
    · go_wp2_with (first | go_big_skip | go_big_guard | (refine wl_strIx rfl rfl rfl rfl hlt ?_; intro c hc))
      · have hx : c = 64 := u8eq (by assumption)
        have hq := hid (cutL_at hlt hno.out (hc.out.trans hx))
        clear hno
        go_quiet (fail)
        go_wp2_with (first | go_big_skip | go_big_guard | fail)
        go_ret3
        refine ⟨?_, (St.refl _).drewN _⟩
        rw [hq.out]
        exact tup3 (by show Value.string _ = _; rw [extract_l]; simp) (by show Value.string _ = _; rw [extract_l, List.take_of_length_le (by simp)]) rfl
      · have hx : c ≠ 64 := u8ne (by assumption)
        go_round
        case rel =>
          refine ⟨k + 1, by omega, by go_num, hid fun j hj => ?_⟩
          by_cases e : j = k
          · rw [e, hc.out]; exact hx
          · exact hno.out j (by omega)
        case measure => simp [intOf]; omega
    · have hc := hid (cutL_end (l := l) (fun j hj => hno.out j (by omega)))
      clear hno
      go_wp2_with (first | go_big_skip | go_big_guard | fail)
      go_ret3
      exact ⟨by rw [hc.out]; rfl, St.refl _⟩
end Go.Proofs.Ytkpkaoiafppimaa
