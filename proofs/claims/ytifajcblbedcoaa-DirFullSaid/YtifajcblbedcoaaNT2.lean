import Derived.Test.YtifajcblbedcoaaNT1
namespace Go.Proofs.Ytifajcblbedcoaa
set_option linter.unusedVariables false
set_option linter.unusedSimpArgs false
open Go.RowKit Hp
attribute [local irreducible] Go.Calls
set_option maxHeartbeats 1000000
theorem ixb (c : UInt8) : Lib.indexByte [46, 45, 95] c = if c = 46 then 0 else if c = 45 then 1 else if c = 95 then 2 else -1 := by
  simp only [Lib.indexByte, beq_iff_eq, eq_comm (b := c)]
  split
  · rfl
  · split
    · simp
    · split <;> simp
theorem u8n (c : UInt8) (n : Nat) (hn : n < 256) : c = UInt8.ofNat n ↔ (c.toNat : Int) = n := by
  rw [← UInt8.toNat_inj, UInt8.toNat_ofNat']
  omega
theorem ixb_iff (c : UInt8) : Lib.indexByte [46, 45, 95] c < 0 ↔ ¬ ((c.toNat : Int) = 46 ∨ (c.toNat : Int) = 45 ∨ (c.toNat : Int) = 95) := by
  rw [ixb]
  have h1 := u8n c 46 (by decide)
  have h2 := u8n c 45 (by decide)
  have h3 := u8n c 95 (by decide)
  simp only [show UInt8.ofNat 46 = 46 from rfl, show UInt8.ofNat 45 = 45 from rfl, show UInt8.ofNat 95 = 95 from rfl] at h1 h2 h3
  simp only [h1, h2, h3]
  split
  · simp; omega
  · split
    · simp; omega
    · split <;> simp <;> omega
theorem okAt_iff {l : List UInt8} {k : Nat} {c : UInt8} (h : l.getD k 0 = c) : okAt l k = true ↔ (97 ≤ (c.toNat : Int) ∧ (c.toNat : Int) ≤ 122) ∨ (k ≠ 0 ∧ ((48 ≤ (c.toNat : Int) ∧ (c.toNat : Int) ≤ 57) ∨ (c.toNat : Int) = 46 ∨ (c.toNat : Int) = 45 ∨ (c.toNat : Int) = 95)) := by
  have h1 := u8n c 46 (by decide)
  have h2 := u8n c 45 (by decide)
  have h3 := u8n c 95 (by decide)
  simp only [show UInt8.ofNat 46 = 46 from rfl, show UInt8.ofNat 45 = 45 from rfl, show UInt8.ofNat 95 = 95 from rfl] at h1 h2 h3
  rw [okAt, h, okc]
  simp only [Bool.or_eq_true, Bool.and_eq_true, decide_eq_true_eq, Bool.not_eq_true', beq_eq_false_iff_ne, beq_iff_eq, h1, h2, h3, UInt8.le_iff_toNat_le, ne_eq]
  simp only [show (97 : UInt8).toNat = 97 from rfl, show (122 : UInt8).toNat = 122 from rfl, show (48 : UInt8).toNat = 48 from rfl, show (57 : UInt8).toNat = 57 from rfl]
  omega
theorem okAt_bad {l : List UInt8} {k : Nat} {c : UInt8} (h : l.getD k 0 = c) (hb : ¬ ((97 ≤ (c.toNat : Int) ∧ (c.toNat : Int) ≤ 122) ∨ (k ≠ 0 ∧ ((48 ≤ (c.toNat : Int) ∧ (c.toNat : Int) ≤ 57) ∨ (c.toNat : Int) = 46 ∨ (c.toNat : Int) = 45 ∨ (c.toNat : Int) = 95)))) : okAt l k = false := by
  rw [← Bool.not_eq_true, okAt_iff h]; exact hb
theorem okAt_step {l : List UInt8} {k : Nat} (hno : ∀ j, j < k → okAt l j = true) (h : okAt l k = true) : ∀ j, j < k + 1 → okAt l j = true := fun j hj => by
  by_cases e : j = k
  · rw [e]; exact h
  · exact hno j (by omega)
theorem part_any (l : List UInt8) (w : World) (hl : l.length ≤ 9223372036854775807) :
    Calls Try.prog 63 #[str l] w fun e w' => e = .returned (.bool (partB l)) ∧ St w [] w' [] := by
  by_cases hn : 1 ≤ l.length ∧ l.length ≤ 20
  · obtain ⟨hn1, hn2⟩ := hn
    go_enter Try.func63, Try.ntmps63
    go_wp2_with (first | go_big_skip | go_big_guard | fail)
    go_loop [16] (fun i => ∃ k : Nat, k ≤ l.length ∧ i = .int .i64 k ∧ Hid (∀ j, j < k → okAt l j = true)) (fun i => l.length - (intOf i).toNat)
    case atStart => exact ⟨0, Nat.zero_le _, rfl, hid (fun j hj => absurd hj (Nat.not_lt_zero _))⟩
    case round =>
      obtain ⟨k, hk, rfl, hno⟩ := hrel
      by_cases hlt : k < l.length
      · go_wp2_with (first | go_big_skip | go_big_guard | (refine wl_strIx rfl rfl rfl rfl hlt ?_; intro c hc) | (go_at_call 81; refine (Try.strings_IndexByte _ _ _).mono ?_; rintro _ _ ⟨rfl, rfl⟩))
        all_goals
          have e := ixb_iff c
          first
            | (go_ret; exact ⟨(ret_boolv (part_bad hlt (okAt_bad hc.out (by omega)))).symm, St.refl _⟩)
            | (go_round; (case rel => exact ⟨k + 1, by omega, by go_num, hid (okAt_step hno.out ((okAt_iff hc.out).2 (by omega)))⟩); (case measure => simp [intOf]; omega))
      · have hq := hid (part_all hn1 hn2 (fun j hj => hno.out j (by omega)))
        clear hno
        go_wp2_with (first | go_big_skip | go_big_guard | fail)
        go_ret
        exact ⟨(ret_boolv hq.out).symm, St.refl _⟩
  · have hq := hid (part_len hn)
    go_enter Try.func63, Try.ntmps63
    go_wp2_with (first | go_big_skip | go_big_guard | fail)
    all_goals (go_ret; exact ⟨(ret_boolv hq.out).symm, St.refl _⟩)
end Go.Proofs.Ytifajcblbedcoaa
