import Derived.Test.YtifajcblbedcoaaGreatNm
namespace Go.Proofs.YtifajcblbedcoaaGreat
set_option linter.unusedVariables false
set_option linter.unusedSimpArgs false
open Go
theorem orI_neg (x y : Int) : orI (-x) (-y) = - orI x y := by unfold orI; split <;> split <;> omega
theorem orI_zero {x y : Int} (h : orI x y = 0) : x = 0 ∧ y = 0 := by unfold orI at h; split at h <;> omega
theorem cmp3_anti (a b : List UInt8) : cmp3 b a = - cmp3 a b := by
  unfold cmp3
  rw [cb_anti (cutL a).1 (cutL b).1, cb_anti (ordL (cutL a).2.2) (ordL (cutL b).2.2), cb_anti (cutL a).2.1 (cutL b).2.1, orI_neg, orI_neg]
theorem ordL_inj {f g : Bool} (h : ordL f = ordL g) : f = g := by revert h; cases f <;> cases g <;> simp [ordL]
theorem cutL_inj {a b : List UInt8} (h : cutL a = cutL b) : a = b := by
  cases hf : (cutL a).2.2
  · have h1 := (cutL_false hf).1
    have h2 := (cutL_false (l := b) (by rw [← h]; exact hf)).1
    rw [← h1, ← h2, h]
  · have h1 := cutL_true hf
    have h2 := cutL_true (l := b) (by rw [← h]; exact hf)
    rw [h1, h2, h]
theorem cmp3_zero {a b : List UInt8} (h : cmp3 a b = 0) : a = b := by
  obtain ⟨h1, h2⟩ := orI_zero h
  obtain ⟨h2, h3⟩ := orI_zero h2
  exact cutL_inj (Prod.ext (cb_eq h1) (Prod.ext (cb_eq h3) (ordL_inj (cb_eq h2))))
theorem cmp3_self (a : List UInt8) : cmp3 a a = 0 := by simp [cmp3, cb_self, orI]
theorem lex {x y z : Int} (h : x < 0 ∨ x = 0 ∧ y < 0) : orI x y < 0 := by unfold orI; split <;> omega
theorem lex' {x y : Int} (h : orI x y < 0) : x < 0 ∨ x = 0 ∧ y < 0 := by unfold orI at h; split at h <;> omega
theorem cb_trans0 {a b c : List UInt8} (h : Lib.compareBytes a b < 0 ∨ Lib.compareBytes a b = 0) (h' : Lib.compareBytes b c < 0 ∨ Lib.compareBytes b c = 0) :
    Lib.compareBytes a c < 0 ∨ (Lib.compareBytes a c = 0 ∧ Lib.compareBytes a b = 0 ∧ Lib.compareBytes b c = 0) := by
  rcases h with h | h
  · rcases h' with h' | h'
    · exact .inl (cb_trans h h')
    · rw [← cb_eq h']; exact .inl h
  · rw [cb_eq h]
    rcases h' with h' | h'
    · exact .inl h'
    · exact .inr ⟨h', cb_self _, h'⟩
theorem lex2 {x1 x2 x3 y1 y2 y3 : Int} (h : orI x1 y1 < 0) (h' : orI x2 y2 < 0) (hx : (x1 < 0 ∨ x1 = 0) → (x2 < 0 ∨ x2 = 0) → x3 < 0 ∨ (x3 = 0 ∧ x1 = 0 ∧ x2 = 0)) (hy : x1 = 0 → x2 = 0 → y1 < 0 → y2 < 0 → y3 < 0) : orI x3 y3 < 0 := by
  rcases lex' h with a | ⟨a, b⟩ <;> rcases lex' h' with c | ⟨c, d⟩
  · rcases hx (.inl a) (.inl c) with k | ⟨k, k1, k2⟩ <;> first | exact lex (z := 0) (.inl k) | omega
  · rcases hx (.inl a) (.inr c) with k | ⟨k, k1, k2⟩ <;> first | exact lex (z := 0) (.inl k) | omega
  · rcases hx (.inr a) (.inl c) with k | ⟨k, k1, k2⟩ <;> first | exact lex (z := 0) (.inl k) | omega
  · rcases hx (.inr a) (.inr c) with k | ⟨k, k1, k2⟩
    · exact lex (z := 0) (.inl k)
    · exact lex (z := 0) (.inr ⟨k, hy a c b d⟩)
theorem cmp3_trans {a b c : List UInt8} (h : cmp3 a b < 0) (h' : cmp3 b c < 0) : cmp3 a c < 0 :=
  lex2 h h' cb_trans0 fun _ _ k k' => lex2 k k' cb_trans0 fun _ _ k k' => cb_trans k k'
theorem less_self (a : List UInt8) : lessL a a = false := by simp [lessL, cmp3_self]
theorem less_tri (a b : List UInt8) : (lessL a b = true ∧ lessL b a = false ∧ a ≠ b) ∨ (lessL a b = false ∧ lessL b a = true ∧ a ≠ b) ∨ (a = b ∧ lessL a b = false ∧ lessL b a = false) := by
  have h := cmp3_anti a b
  unfold lessL
  rw [h]
  by_cases h0 : cmp3 a b = 0
  · refine .inr (.inr ⟨cmp3_zero h0, ?_, ?_⟩) <;> simp <;> omega
  · have hne : a ≠ b := by rintro rfl; exact h0 (cmp3_self a)
    by_cases h1 : cmp3 a b < 0
    · exact .inl ⟨by simpa using h1, by simp; omega, hne⟩
    · exact .inr (.inl ⟨by simpa using h1, by simp; omega, hne⟩)
theorem less_trans {a b c : List UInt8} (h : lessL a b = true) (h' : lessL b c = true) : lessL a c = true := by
  simp only [lessL, decide_eq_true_eq] at h h' ⊢
  exact cmp3_trans h h'
theorem split_joined {a b : List UInt8} (ha : partB a = true) (hb : partB b = true) : splitL (a ++ 64 :: b) = (a, b, true) := by
  rw [splitL, cutL_of (part_no ha)]
  simp [ha, hb]
theorem part_joined (a b : List UInt8) : partB (a ++ 64 :: b) = false := by
  rw [← Bool.not_eq_true]
  intro h
  exact part_no h (by simp)
theorem split_true {s a b : List UInt8} (h : splitL s = (a, b, true)) : s = a ++ 64 :: b ∧ partB a = true ∧ partB b = true := by
  unfold splitL at h
  split at h
  · rename_i hp
    simp only [Bool.and_eq_true] at hp
    have h1 := congrArg Prod.fst h
    have h2 := congrArg (fun x => x.2.1) h
    simp only at h1 h2
    have h3 := cutL_true hp.1
    rw [h1, h2] at h3
    rw [h1, h2] at hp
    exact ⟨h3, hp.2.1, hp.2.2⟩
  · cases h
theorem join_of {a b : List UInt8} (ha : partB a = true) (hb : partB b = true) : joinL a b = (a ++ 64 :: b, true) := by simp [joinL, ha, hb]
end Go.Proofs.YtifajcblbedcoaaGreat
