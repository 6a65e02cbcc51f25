import Derived.Test.YtkpkaoiafppimaaNT4
import Derived.Test.YtkpkaoiafppimaaNmL
namespace Go.Proofs.Ytkpkaoiafppimaa
set_option linter.unusedVariables false
set_option linter.unusedSimpArgs false
open Go.RowKit Hp
attribute [local irreducible] Go.Calls
set_option maxHeartbeats 1000000
theorem bytesLess_lt : ∀ (x y : List UInt8), Op.bytesLess x y = decide (x < y)
  | [], [] => by simp [Op.bytesLess]
  | _ :: _, [] => by simp [Op.bytesLess]
  | [], _ :: _ => by simp [Op.bytesLess]
  | a :: x, b :: y => by
    rw [Op.bytesLess, bytesLess_lt x y]
    simp only [List.cons_lt_cons_iff]
    by_cases h1 : a < b <;> by_cases h2 : a = b <;> by_cases h3 : x < y <;> simp [h1, h2, h3]
theorem bl (a b : List UInt8) : Op.bytesLess a b = decide (Lib.compareBytes a b < 0) := by
  rw [bytesLess_lt, Bool.eq_iff_iff]; simp [cb_lt]
theorem ref_val {p q a b a' b' : List UInt8} {f f' : Bool} (hx : cutL p = (a, b, f)) (hy : cutL q = (a', b', f')) :
    lessL p q = if a = a' then (if (!f || !f') then (!f && f') else Op.bytesLess b b') else Op.bytesLess a a' := by
  simp only [bl, lessL, cmp3, hx, hy]
  by_cases h : a = a'
  · subst h
    rw [if_pos rfl]
    cases f <;> cases f'
    · have h1 := (cutL_false (l := p) (by rw [hx])).2
      have h2 := (cutL_false (l := q) (by rw [hy])).2
      rw [hx] at h1; rw [hy] at h2
      simp only at h1 h2
      simp [cb_self, orI, ordL, h1, h2]
    · simp [cb_self, orI, ordL, Lib.compareBytes]
    · simp [cb_self, orI, ordL, Lib.compareBytes]
    · simp [cb_self, orI]
  · rw [if_neg h]
    have : Lib.compareBytes a a' ≠ 0 := fun e => h (cb_eq e)
    simp [orI, this]
theorem refLess_any (p q : List UInt8) (w : World) (hp : p.length ≤ 9223372036854775807) (hq : q.length ≤ 9223372036854775807) :
    Calls Try.prog 83 #[str p, str q] w fun e w' => e = .returned (.bool (lessL p q)) ∧ St w [] w' [] := by
  have hst := St.refl w
  have Hp := hid hp; clear hp
  have Hq := hid hq; clear hq
  rcases hx : cutL p with ⟨a, b, f⟩
  rcases hy : cutL q with ⟨a', b', f'⟩
  have Hx := hid hx; clear hx
  have Hy := hid hy; clear hy
  go_enter Try.func83, Try.ntmps83
  go_wp2_with (first | go_big_skip | go_big_guard | (go_at_call 100; first | (refine (refcut_to Hx.out _ Hp.out).mono ?_; rintro _ _ ⟨rfl, h4⟩; replace hst := St.call0 hst h4; clear h4) | (refine (refcut_to Hy.out _ Hq.out).mono ?_; rintro _ _ ⟨rfl, h4⟩; replace hst := St.call0 hst h4; clear h4)))
  all_goals
    go_ret
    exact ⟨(ret_boolv (by rw [ref_val Hx.out Hy.out]; simp_all)).symm, hst⟩
end Go.Proofs.Ytkpkaoiafppimaa
