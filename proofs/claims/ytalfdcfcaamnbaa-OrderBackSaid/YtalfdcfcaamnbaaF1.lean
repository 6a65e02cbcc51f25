import Derived.Test.YtalfdcfcaamnbaaFTy
import Derived.Test.YtalfdcfcaamnbaaKB
namespace Go.Proofs.Ytalfdcfcaamnbaa
set_option linter.unusedVariables false
set_option linter.unusedSimpArgs false
open Go.RowKit Hp
attribute [local irreducible] Go.Calls
set_option maxRecDepth 100000
set_option maxHeartbeats 4000000
/-- What a closure tells: an error's number and bytes, which lie apart from F. -/
def Told (w : World) (F : List Nat) (r : WR) (e : Ending) (w' : World) : Prop := ∃ u L, e = .returned (.tuple #[u, .int .i64 r.1]) ∧ St w [] w' L ∧ Rd w' u 1 r.2.length (bytesV r.2) ∧ Off u F
theorem Told.no {w w' : World} {F : List Nat} {e : Int} (h : St w [] w' []) : Told w F (e, []) (.returned (.tuple #[.slice none 0 0, .int .i64 e])) w' := ⟨_, [], rfl, h, Rd.nil _ _, Off.nil _ _ _⟩
theorem new_any (w : World) : Calls Try.prog 54 #[] w fun e w' => ∃ g, e = .returned (.pointer (some ⟨g, 0, none⟩)) ∧ St w [] w' (wP g (.slice none 0 0) (0, [])) := by
  have hst := St.refl w
  go_enter Try.func54, Try.ntmps54
  go_wp2_with (first | go_big_skip | go_big_guard | (refine wl_buildS (cs := [.bool true, .slice none 0 0, .int .i64 0]) rfl rfl (by kernel_rfl) ?_) | (refine wl_boxA hst rfl rfl rfl ?_; intro g _ hst1; clear hst))
  go_ret
  exact ⟨g, rfl, St.perm (St.nilPQ isB 5 1 hst1) (List.Perm.swap _ _ _)⟩
theorem raw1_any (p : Addr) (u : Value) (m : Nat) (b : List UInt8) (F : List Nat) (w : World) (hp : w.cell? p = some u) (hu : Rd w u 1 m (bytesV b)) (ho : Off u F) :
    Calls Try.prog 97 #[.pointer (some p)] w (Told w F (0, b)) := by
  have hst := St.refl w
  have hm := hu.1
  rw [length_bytesV, Nat.mul_one] at hm
  subst hm
  go_enter Try.func97, Try.ntmps97
  go_wp2_with (first | go_big_skip | go_big_guard | (refine wl_loadE rfl rfl rfl ?_; first | refine ⟨_, Loads.old hst (hp), ?_⟩))
  go_ret2
  exact ⟨u, [], rfl, hst, hu, ho⟩
theorem num1_arg (p q : Addr) (n size : Int) (F : List Nat) (w : World) (hp : w.cell? p = some (.int .i64 size)) (hq : w.cell? q = some (.int .i64 n)) (hF : ∀ k ∈ F, k < w.heap.size) (hs : -9223372036854775808 ≤ size ∧ size ≤ 9223372036854775807) (hn : -9223372036854775808 ≤ n ∧ n ≤ 9223372036854775807) (h1 : size < 1 ∨ 7 < size) :
    Calls Try.prog 91 #[.pointer (some p), .pointer (some q)] w (Told w F (numR n size)) := by
  have hst := St.refl w
  rcases h1 with h1 | h1
  · have d1 : decide (size < 1) = true := decide_eq_true h1
    go_enter Try.func91, Try.ntmps91
    go_wp2_with (first | go_big_skip | go_big_guard | (refine wl_loadE rfl rfl rfl ?_; first | refine ⟨_, Loads.old hst (hp), ?_⟩ | refine ⟨_, Loads.old hst (hq), ?_⟩))
    go_ret2
    rw [show numR n size = (2, []) from by unfold numR; rw [if_pos (.inl h1)]]
    exact Told.no hst
  · have d1 : decide (size < 1) = false := decide_eq_false (by omega)
    have d2 : decide (7 < size) = true := decide_eq_true h1
    go_enter Try.func91, Try.ntmps91
    go_wp2_with (first | go_big_skip | go_big_guard | (refine wl_loadE rfl rfl rfl ?_; first | refine ⟨_, Loads.old hst (hp), ?_⟩ | refine ⟨_, Loads.old hst (hq), ?_⟩))
    go_ret2
    rw [show numR n size = (2, []) from by unfold numR; rw [if_pos (.inr h1)]]
    exact Told.no hst
theorem num1_range (p q : Addr) (n size : Int) (F : List Nat) (w : World) (hp : w.cell? p = some (.int .i64 size)) (hq : w.cell? q = some (.int .i64 n)) (hF : ∀ k ∈ F, k < w.heap.size) (hs : -9223372036854775808 ≤ size ∧ size ≤ 9223372036854775807) (hn : -9223372036854775808 ≤ n ∧ n ≤ 9223372036854775807) (h1 : ¬ (size < 1 ∨ 7 < size)) (h2 : n < 0 ∨ n / 2 ^ (8 * size).toNat ≠ 0) :
    Calls Try.prog 91 #[.pointer (some p), .pointer (some q)] w (Told w F (numR n size)) := by
  have hst := St.refl w
  have d1 : decide (size < 1) = false := decide_eq_false (by omega)
  have d2 : decide (7 < size) = false := decide_eq_false (by omega)
  have hR : numR n size = (5, []) := by unfold numR; rw [if_neg h1, if_pos h2]
  by_cases h3 : n < 0
  · have d3 : decide (n < 0) = true := decide_eq_true h3
    clear h1 h2
    go_enter Try.func91, Try.ntmps91
    go_wp2_with (first | go_big_skip | go_big_guard | (refine wl_loadE rfl rfl rfl ?_; first | refine ⟨_, Loads.old hst (hp), ?_⟩ | refine ⟨_, Loads.old hst (hq), ?_⟩))
    go_ret2
    rw [hR]
    exact Told.no hst
  · have d3 : decide (n < 0) = false := decide_eq_false (by omega)
    have h4 := h2.resolve_left h3
    have hb : 1 ≤ size ∧ size ≤ 7 := by omega
    obtain ⟨Q, hQ⟩ : ∃ Q : Int, Q = n / 2 ^ (8 * size).toNat := ⟨_, rfl⟩
    have z0 : IntKind.i64.wrap (8 * size) = 8 * size := IntWalk.i64_in _ (by omega)
    have f1 : ∀ T, binOp .shr T (.int .i64 n) (.int .i64 (8 * size)) = pure (.int .i64 Q) := by
      intro T
      show Op.shift .shr .i64 n .i64 (8 * size) = _
      rw [shift_shr .i64 .i64 n _ (by omega) (by show _ ≤ (64 : Int); omega), hQ]
    rw [← hQ] at h4
    have d4 : (Q != 0) = true := by simpa using h4
    clear h1 h2 hQ h4 hb h3
    go_enter Try.func91, Try.ntmps91
    go_wp2_with (first | go_big_skip | go_big_guard | (refine wl_loadE rfl rfl rfl ?_; first | refine ⟨_, Loads.old hst (hp), ?_⟩ | refine ⟨_, Loads.old hst (hq), ?_⟩))
    go_ret2
    rw [hR]
    exact Told.no hst
theorem num1_ok (p q : Addr) (n size : Int) (F : List Nat) (w : World) (hp : w.cell? p = some (.int .i64 size)) (hq : w.cell? q = some (.int .i64 n)) (hF : ∀ k ∈ F, k < w.heap.size) (hs : -9223372036854775808 ≤ size ∧ size ≤ 9223372036854775807) (hn : -9223372036854775808 ≤ n ∧ n ≤ 9223372036854775807) (h1 : ¬ (size < 1 ∨ 7 < size)) (h2 : ¬ (n < 0 ∨ n / 2 ^ (8 * size).toNat ≠ 0)) :
    Calls Try.prog 91 #[.pointer (some p), .pointer (some q)] w (Told w F (numR n size)) := by
  have hst := St.refl w
  have hR : numR n size = (0, numB n size.toNat) := by unfold numR; rw [if_neg h1, if_neg h2]
  rw [hR]
  clear hR
  obtain ⟨k, rfl⟩ : ∃ k : Nat, size = (k : Int) := ⟨size.toNat, by omega⟩
  have hk1 : 1 ≤ k := by omega
  have hk7 : k ≤ 7 := by omega
  have d1 : decide ((k : Int) < 1) = false := decide_eq_false (by omega)
  have d2 : decide (7 < (k : Int)) = false := decide_eq_false (by omega)
  have d3 : decide (n < 0) = false := decide_eq_false (by omega)
  have h4 : n / 2 ^ (8 * (k : Int)).toNat = 0 := by
    rcases Decidable.em (n / 2 ^ (8 * (k : Int)).toNat = 0) with h | h
    · exact h
    · exact absurd (.inr h) h2
  have z0 : IntKind.i64.wrap (8 * (k : Int)) = 8 * (k : Int) := IntWalk.i64_in _ (by omega)
  have f1 : ∀ T, binOp .shr T (.int .i64 n) (.int .i64 (8 * (k : Int))) = pure (.int .i64 0) := by
    intro T
    show Op.shift .shr .i64 n .i64 (8 * (k : Int)) = _
    rw [shift_shr .i64 .i64 n _ (by omega) (by show _ ≤ (64 : Int); omega), h4]
  clear h1 h2 h4
  go_enter Try.func91, Try.ntmps91
  go_wp2_with (first | go_big_skip | go_big_guard | (refine wl_loadE rfl rfl rfl ?_; first | refine ⟨_, Loads.old hst (hp), ?_⟩ | refine ⟨_, Loads.old hst (hq), ?_⟩))
  have hst1 : St w [] w [.rowP isB (.slice none 0 0) 5 1 (k - k) (bytesV ((numB n k).take (k - k)))] := by rw [Nat.sub_self]; exact St.nilPQ isB 5 1 hst
  clear hst f1 z0
  go_loopw [4, 5] (fun u i wr => ∃ j : Nat, j ≤ k ∧ i = .int .i64 (j : Int) ∧ St w [] wr [.rowP isB u 5 1 (k - j) (bytesV ((numB n k).take (k - j)))]) (fun _ i _ => (intOf i).toNat)
  case atStart => exact ⟨k, Nat.le_refl _, rfl, hst1⟩
  case round =>
    clear hst1
    obtain ⟨j, hj, rfl, hst⟩ := hrel
    by_cases hlt : 0 < j
    · obtain ⟨Q, hQ⟩ : ∃ Q : Int, Q = n / 2 ^ (8 * ((j : Int) - 1)).toNat := ⟨_, rfl⟩
      have z0 : IntKind.i64.wrap (8 * ((j : Int) - 1)) = 8 * ((j : Int) - 1) := IntWalk.i64_in _ (by omega)
      have z1 : IntKind.i64.wrap ((j : Int) - 1) = (j : Int) - 1 := IntWalk.i64_in _ (by omega)
      have f1 : ∀ T, binOp .shr T (.int .i64 n) (.int .i64 (8 * ((j : Int) - 1))) = pure (.int .i64 Q) := by
        intro T
        show Op.shift .shr .i64 n .i64 (8 * ((j : Int) - 1)) = _
        rw [shift_shr .i64 .i64 n _ (by omega) (by show _ ≤ (64 : Int); omega), hQ]
      have f3 : Q % 256 = ((byteAt n (j - 1)).toNat : Int) := by
        rw [hQ, byteAt_int, show (8 * ((j : Int) - 1)).toNat = 8 * (j - 1) by omega]
      have f2 : IntKind.u8.wrap Q = ((byteAt n (j - 1)).toNat : Int) := f3
      obtain ⟨Y, hY⟩ : ∃ Y, Y = byteAt n (j - 1) := ⟨_, rfl⟩
      rw [← hY] at f2 f3
      have HY := hid hY
      have g0 : decide ((0 : Int) < (j : Int)) = true := decide_eq_true (by omega)
      clear hY hQ
      go_wp2_with (first | go_big_skip | go_big_guard | (refine wl_loadE rfl rfl rfl ?_; first | refine ⟨_, Loads.old hst (hp), ?_⟩ | refine ⟨_, Loads.old hst (hq), ?_⟩ | refine ⟨_, Loads.old hst2 (hq), ?_⟩) | (apply wl_bsX [.int _ _] [.int _ _] hst; rfl; rfl; exact rfl; exact rfl; infer_instance; infer_instance; rfl; rfl; rfl; intro gb _ hst2; clear hst) | (apply wl_appP (ys := bytesV [Y]) [_] hst2; rfl; rfl; exact rfl; exact rfl; infer_instance; infer_instance; infer_instance; infer_instance; exact (Rd.blk0 hst2 rfl (by decide)); exact rfl; rfl; exact isB_bytes _; (unfold maxLen; omega); intro v1 w9 hst3 _; clear hst2))
      have hst5 : St w [] w9 [.rowP isB v1 5 1 (k - (j - 1)) (bytesV ((numB n k).take (k - (j - 1))))] := by
        have h := St.sub hst3 (.cons _ (List.Sublist.refl _))
        rw [show k - (j - 1) = (k - j) + 1 by omega, numB_take _ _ _ (by omega), bytesV_append _ [_], show k - 1 - (k - j) = j - 1 by omega, ← HY.out]
        exact h
      clear hst3
      go_roundw
      case rel => exact ⟨j - 1, by omega, by (congr 1; omega), hst5⟩
      case measure => simp [intOf]; omega
    · have hj0 : j = 0 := by omega
      subst hj0
      go_wp2_with (first | go_big_skip | go_big_guard | fail)
      go_ret2
      have e : (numB n k).take (k - 0) = numB n k := by rw [List.take_of_length_le]; rw [length_numB]; omega
      rw [e] at hst
      have hr := Rd.rowP hst (.head _)
      refine ⟨u4, _, rfl, hst, ?_, Off.rowP hst (.head _) hF⟩
      show Rd wr u4 1 (numB n (k : Int).toNat).length (bytesV (numB n (k : Int).toNat))
      rw [Int.toNat_natCast, length_numB]
      exact hr
theorem num1_any (p q : Addr) (n size : Int) (F : List Nat) (w : World) (hp : w.cell? p = some (.int .i64 size)) (hq : w.cell? q = some (.int .i64 n)) (hF : ∀ k ∈ F, k < w.heap.size) (hs : -9223372036854775808 ≤ size ∧ size ≤ 9223372036854775807) (hn : -9223372036854775808 ≤ n ∧ n ≤ 9223372036854775807)  :
    Calls Try.prog 91 #[.pointer (some p), .pointer (some q)] w (Told w F (numR n size)) := by
  by_cases h1 : size < 1 ∨ 7 < size
  · exact num1_arg p q n size F w hp hq hF hs hn h1
  · by_cases h2 : n < 0 ∨ n / 2 ^ (8 * size).toNat ≠ 0
    · exact num1_range p q n size F w hp hq hF hs hn h1 h2
    · exact num1_ok p q n size F w hp hq hF hs hn h1 h2
end Go.Proofs.Ytalfdcfcaamnbaa
