/- Crash whole; what the statements call: of, made, reads, peeks. -/
import Derived.Test.YtclleohpmgihaaaGreatR23
import Derived.Test.YtclleohpmgihaaaGreatKB
namespace Go.Proofs.YtclleohpmgihaaaGreat
set_option linter.unusedVariables false
set_option linter.unusedSimpArgs false
open Go.RowKit Hp
attribute [local irreducible] Go.Calls Go.wpList
set_option maxRecDepth 100000
set_option maxHeartbeats 4000000
theorem crashM_any {w : World} {ga : Nat} {x : GA} {a : AR} (hS : St w (arF ga x a) w (arP ga x a)) (ok : a.Ok) (hll : a.loose.length < 1000000) (kao : Option Addr) (kn kc : Nat) (keep : List Bool) (hr : Rd w (.slice kao kn kc) 1 kn (boolsV keep)) (hn : keep.length = kn) (ho : Off (.slice kao kn kc) (arF ga x a)) (torn : Int) :
    Calls Tryz.prog 15 #[.pointer (some ⟨ga, 0, none⟩), .slice kao kn kc, .int .i64 torn] w fun e w' => e = .returned (.int .i64 (a.crashE torn)) ∧ ∃ x', St w (arF ga x a) w' (arP ga x' (a.crash keep torn)) := by
  cases h1 : (decide (0 ≤ torn) && decide (torn < 256))
  · exact crash_odd hS ok hll kao kn kc keep hr hn ho torn h1
  · simp only [Bool.and_eq_true, decide_eq_true_eq] at h1
    obtain ⟨t, rfl⟩ : ∃ t : Nat, torn = t := ⟨torn.toNat, by omega⟩
    exact crash_fine hS ok hll kao kn kc keep hr hn ho t (by omega)
theorem rep_put (j n : Nat) (b z : Value) (h : j < n) : putAt (List.replicate j b ++ List.replicate (n - j) z) j [b] = List.replicate (j + 1) b ++ List.replicate (n - (j + 1)) z := by
  have key : n - j = (n - (j + 1)) + 1 := by omega
  rw [putAt_many, key, List.replicate_succ]
  rw [List.take_append_of_le_length (by simp), List.take_of_length_le (by simp), List.drop_append, List.drop_of_length_le (by simp), List.nil_append, List.length_replicate, List.length_singleton, show j + 1 - j = 1 by omega, List.drop_one, List.tail_cons, ← List.append_assoc, List.replicate_succ']
theorem of_any (b : UInt8) (w : World) : Calls Tryz.prog 12 #[.int .u8 b.toNat] w fun e w' => ∃ g, e = .returned (.slice (some ⟨g, 0, none⟩) 256 256) ∧ St w [] w' [.blk g 5 (bytesV (List.replicate 256 b))] := by
  have hst0 := St.refl w
  go_enter Tryz.func12, Tryz.ntmps12
  go_wp2_with (first | go_big_skip | go_big_guard | (apply wl_make 256 256 hst0; rfl; rfl; exact rfl; exact rfl; infer_instance; infer_instance; infer_instance; exact rfl; exact rfl; decide; decide; intro g _ hst1; clear hst0))
  go_loopw [4] (fun i wr => ∃ j : Nat, j ≤ 256 ∧ i = .int .i64 (j : Int) ∧ St w [] wr [.blk g 5 (List.replicate j (.int .u8 b.toNat) ++ List.replicate (256 - j) (.int .u8 0))]) (fun i _ => 256 - (intOf i).toNat)
  case atStart => exact ⟨0, by decide, rfl, hst1⟩
  case round =>
    clear hst1
    obtain ⟨j, hj, rfl, hst⟩ := hrel
    by_cases hlj : j < 256
    · have d1 : decide ((j : Int) < 256) = true := decide_eq_true (by omega)
      have z1 : IntKind.i64.wrap ((j : Int) + 1) = (j : Int) + 1 := IntWalk.i64_in _ (by omega)
      have HP := hid (rep_put j 256 (.int .u8 b.toNat) (.int .u8 0) hlj)
      have HL := hid (show j * 1 + 1 ≤ (List.replicate j (Value.int .u8 b.toNat) ++ List.replicate (256 - j) (Value.int .u8 0)).length by rw [List.length_append, List.length_replicate, List.length_replicate]; omega)
      obtain ⟨CS, hCS⟩ : ∃ CS, CS = List.replicate j (Value.int .u8 b.toNat) ++ List.replicate (256 - j) (Value.int .u8 0) := ⟨_, rfl⟩
      rw [← hCS] at hst HP HL
      clear hCS
      go_wp2_with (first | go_big_skip | go_big_guard | (refine wl_index (k := j) rfl rfl rfl rfl hlj ?_) | (refine wl_store [] hst rfl rfl rfl (v := .int _ _) rfl rfl rfl (by rw [Nat.zero_add]; exact HL.out) ?_; intro w5 hst2; clear hst))
      go_roundw
      case rel =>
        refine ⟨j + 1, by omega, rfl, ?_⟩
        rw [← HP.out]
        rw [Nat.zero_add, Nat.mul_one] at hst2
        exact hst2
      case measure => simp [intOf]; omega
    · have d1 : decide ((j : Int) < 256) = false := decide_eq_false (by omega)
      have hjn : j = 256 := by omega
      subst hjn
      go_wp2_with (first | go_big_skip | go_big_guard | fail)
      go_ret
      refine ⟨g, rfl, ?_⟩
      have e : bytesV (List.replicate 256 b) = List.replicate 256 (.int .u8 b.toNat) := by simp [bytesV]
      rw [e]
      have := hst
      rw [Nat.sub_self, List.replicate_zero, List.append_nil] at this
      exact this
theorem made2_any (w : World) : Calls Tryz.prog 10 #[] w fun e w' => ∃ ga x gs, e = .returned (.pointer (some ⟨ga, 0, none⟩)) ∧ gs.length = 2 ∧ St w [] w' (arP ga x (newA 8 gs)) := by
  have hst0 := St.refl w
  go_enter Tryz.func10, Tryz.ntmps10
  go_wp2_with (first | go_big_skip | go_big_guard | (go_at_call 6; refine (newM_any 2 8 (by decide) (by decide) _).mono ?_; rintro _ w2 ⟨ga, x, gs, rfl, hg, h4⟩; have HG := hid hg; have hst1 := St.call hst0 h4; clear h4 hg hst0))
  go_ret
  rw [List.append_nil] at hst1
  exact ⟨ga, x, gs, rfl, HG.out, hst1⟩
theorem reads_ok {w : World} {ga : Nat} {x : GA} {a : AR} (hS : St w (arF ga x a) w (arP ga x a)) (ok : a.Ok) (hll : a.loose.length < 1000000) (dev pl : Int) (v : Value) (n : Nat) (ws : List UInt8) (hr : Rd w v 1 n (bytesV ws)) (hn : ws.length = n) (ho : Off v (arF ga x a)) (h1 : a.readE dev pl = 0) :
    Calls Tryz.prog 13 #[.pointer (some ⟨ga, 0, none⟩), .int .i64 dev, .int .i64 pl, v] w fun e w' => e = .returned (.bool ((a.readE dev pl == 0) && (a.readB dev pl == ws))) ∧ St w (arF ga x a) w' (arP ga x (a.read dev pl)) := by
  have HC := hid (readM_any hS ok hll dev pl)
  have HR := hid hr
  have HO := hid ho
  obtain ⟨R, hR⟩ : ∃ R, R = a.readB dev pl := ⟨_, rfl⟩
  obtain ⟨E, hE⟩ : ∃ E, E = a.readE dev pl := ⟨_, rfl⟩
  rw [← hR, ← hE] at HC ⊢
  rw [← hE] at h1
  subst h1
  clear hS ok hr ho hR hE
  go_enter Tryz.func13, Tryz.ntmps13
  go_wp2_with (first | go_big_skip | go_big_guard | (go_at_call 25; refine HC.out.mono ?_; rintro _ w2 ⟨u, rfl, h4⟩; have hst1 := h4; clear h4) | (go_at_call 27; refine (sameBytes_any u v R.length n R ws _ (Rd.row hst1 (.head _)) (Rd.oldM hst1 HR.out HO.out)).mono ?_; rintro _ w3 ⟨rfl, h4⟩; have hst2 := St.call0 hst1 h4; clear h4 hst1))
  go_ret
  exact ⟨rfl, St.sub hst2 (List.sublist_cons_self _ _)⟩
theorem reads_no {w : World} {ga : Nat} {x : GA} {a : AR} (hS : St w (arF ga x a) w (arP ga x a)) (ok : a.Ok) (hll : a.loose.length < 1000000) (dev pl : Int) (v : Value) (n : Nat) (ws : List UInt8) (hr : Rd w v 1 n (bytesV ws)) (hn : ws.length = n) (ho : Off v (arF ga x a)) (h1 : a.readE dev pl ≠ 0) :
    Calls Tryz.prog 13 #[.pointer (some ⟨ga, 0, none⟩), .int .i64 dev, .int .i64 pl, v] w fun e w' => e = .returned (.bool ((a.readE dev pl == 0) && (a.readB dev pl == ws))) ∧ St w (arF ga x a) w' (arP ga x (a.read dev pl)) := by
  have HC := hid (readM_any hS ok hll dev pl)
  have HR := hid hr
  have HO := hid ho
  obtain ⟨R, hR⟩ : ∃ R, R = a.readB dev pl := ⟨_, rfl⟩
  obtain ⟨E, hE⟩ : ∃ E, E = a.readE dev pl := ⟨_, rfl⟩
  rw [← hR, ← hE] at HC ⊢
  rw [← hE] at h1
  have d0 : (E == 0) = false := by simpa using h1
  rw [d0, Bool.false_and]
  clear hS ok hr ho hR hE
  go_enter Tryz.func13, Tryz.ntmps13
  go_wp2_with (first | go_big_skip | go_big_guard | (go_at_call 25; refine HC.out.mono ?_; rintro _ w2 ⟨u, rfl, h4⟩; have hst1 := h4; clear h4) | (go_at_call 27; refine (sameBytes_any u v R.length n R ws _ (Rd.row hst1 (.head _)) (Rd.oldM hst1 HR.out HO.out)).mono ?_; rintro _ w3 ⟨rfl, h4⟩; have hst2 := St.call0 hst1 h4; clear h4 hst1))
  go_ret
  exact ⟨rfl, St.sub hst1 (List.sublist_cons_self _ _)⟩
theorem reads_any {w : World} {ga : Nat} {x : GA} {a : AR} (hS : St w (arF ga x a) w (arP ga x a)) (ok : a.Ok) (hll : a.loose.length < 1000000) (dev pl : Int) (v : Value) (n : Nat) (ws : List UInt8) (hr : Rd w v 1 n (bytesV ws)) (hn : ws.length = n) (ho : Off v (arF ga x a)) :
    Calls Tryz.prog 13 #[.pointer (some ⟨ga, 0, none⟩), .int .i64 dev, .int .i64 pl, v] w fun e w' => e = .returned (.bool ((a.readE dev pl == 0) && (a.readB dev pl == ws))) ∧ St w (arF ga x a) w' (arP ga x (a.read dev pl)) := by
  by_cases h1 : a.readE dev pl = 0
  · exact reads_ok hS ok hll dev pl v n ws hr hn ho h1
  · exact reads_no hS ok hll dev pl v n ws hr hn ho h1
end Go.Proofs.YtclleohpmgihaaaGreat
