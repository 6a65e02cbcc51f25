import Derived.Test.YtifajcblbedcoaaNm
import Derived.Test.YtifajcblbedcoaaStr
import Derived.Test.YtifajcblbedcoaaShelf
import Derived.Outline
namespace Go.Proofs.Ytifajcblbedcoaa
set_option linter.unusedVariables false
set_option linter.unusedSimpArgs false
open Go.RowKit Hp
attribute [local irreducible] Go.Calls
set_option maxHeartbeats 1000000
abbrev str (l : List UInt8) : Value := .string ⟨l.toArray⟩
theorem slcut_any (l : List UInt8) (w : World) (hl : l.length ≤ 9223372036854775807) :
    Calls Try.prog 82 #[str l, .string ⟨#[64]⟩] w fun e w' => e = .returned (.tuple #[str (cutL l).1, str (cutL l).2.1, .bool (cutL l).2.2]) ∧ St w [] w' [] := by
  have hi := index_cut l
  cases hc : (cutL l).2.2 with
  | false =>
    rw [hc] at hi
    obtain ⟨h1, h2⟩ := cutL_false hc
    rw [h1, h2]
    simp only [Bool.false_eq_true, if_false] at hi
    have Hi := hid hi; clear hi hc h1 h2
    go_enter Try.func82, Try.ntmps82
    go_wp2_with (first | go_big_skip | go_big_guard | (go_at_call 93; refine (Try.stringslite_Index_one _ _ _).mono ?_; rw [show (⟨l.toArray⟩ : ByteArray).data.toList = l from rfl, Hi.out]; rintro _ _ ⟨rfl, rfl⟩))
    go_ret3
    exact ⟨rfl, St.refl _⟩
  | true =>
    rw [hc] at hi
    have e := cutL_true hc
    obtain ⟨a, ha⟩ : ∃ a, a = (cutL l).1 := ⟨_, rfl⟩
    obtain ⟨b, hb⟩ : ∃ b, b = (cutL l).2.1 := ⟨_, rfl⟩
    rw [← ha, ← hb] at e ⊢
    rw [← ha] at hi
    simp only [if_true] at hi
    have Hi := hid hi; clear hi hc ha hb
    subst e
    simp only [List.length_append, List.length_cons] at hl
    go_enter Try.func82, Try.ntmps82
    go_wp2_with (first | go_big_skip | go_big_guard | (go_at_call 93; refine (Try.stringslite_Index_one _ _ _).mono ?_; rw [show (⟨(a ++ 64 :: b).toArray⟩ : ByteArray).data.toList = a ++ 64 :: b from rfl, Hi.out]; rintro _ _ ⟨rfl, rfl⟩))
    go_quiet (fail)
    go_wp2_with (first | go_big_skip | go_big_guard | fail)
    go_ret3
    exact ⟨tup3 (by show Value.string _ = _; rw [extract_l]; simp) (by show Value.string _ = _; rw [extract_l, List.take_of_length_le (by simp)]; simp [List.drop_append]) rfl, (St.refl _).drewN _⟩
theorem cut_any (l : List UInt8) (w : World) (hl : l.length ≤ 9223372036854775807) :
    Calls Try.prog 66 #[str l, .string ⟨#[64]⟩] w fun e w' => e = .returned (.tuple #[str (cutL l).1, str (cutL l).2.1, .bool (cutL l).2.2]) ∧ St w [] w' [] := by
  have Hl := hid hl; clear hl
  have hst := St.refl w
  go_enter Try.func66, Try.ntmps66
  go_wp2_with (first | go_big_skip | go_big_guard | (go_at_call 82; refine (slcut_any l _ Hl.out).mono ?_; rintro _ _ ⟨rfl, h4⟩; replace hst := St.call0 hst h4; clear h4))
  go_ret3
  exact ⟨rfl, hst⟩
instance tyStr9 : TyStr Try.prog 9 := ⟨by kernel_rfl⟩
theorem u8ne {c : UInt8} (h : ((c.toNat : Int) == 64) = false) : c ≠ 64 := by rintro rfl; simp at h
theorem u8eq {c : UInt8} (h : ((c.toNat : Int) == 64) = true) : c = 64 := UInt8.toNat_inj.1 (by have h2 := eq_of_beq h; show c.toNat = 64; omega)
end Go.Proofs.Ytifajcblbedcoaa
