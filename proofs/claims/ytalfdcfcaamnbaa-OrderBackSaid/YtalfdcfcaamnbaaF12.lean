import Derived.Test.YtalfdcfcaamnbaaF11
import Derived.Deep.DeepCutAuto
namespace Go.Proofs.Ytalfdcfcaamnbaa
set_option linter.unusedVariables false
set_option linter.unusedSimpArgs false
open Go.RowKit Hp
attribute [local irreducible] Go.Calls
set_option maxRecDepth 100000
set_option maxHeartbeats 4000000
attribute [local go_sem ↓] loadedInt loadedRp loadedSl
theorem rraw_arg (g : Nat) (bv : Value) (B : List UInt8) (s : RS) (gs gw go : Nat) (size : Int) (F : List Nat) (w : World) (h : St w F w (rL g bv B s [.blk go 23 [.slice none 0 0]])) (hp : s.pos ≤ B.length) (hB : B.length ≤ 100000)
    (c0 : w.cell? ⟨gs, 0, none⟩ = some (.int .i64 size)) (c1 : w.cell? ⟨gw, 0, none⟩ = some (.pointer (some ⟨g, 0, none⟩))) (n0 : gs ∉ F) (n1 : gw ∉ F) (h1 : size < 0) :
    Calls Try.prog 98 #[.pointer (some ⟨gs, 0, none⟩), .pointer (some ⟨gw, 0, none⟩), .pointer (some ⟨go, 0, none⟩)] w
      (ReadP w F 115 (rawRR B s.pos size) (rL g bv B s [.blk go 23 [.slice none 0 0]]) (fun v p w' => ∃ u, St w F w' (rL g bv B ⟨p, s.e, s.fa⟩ [.blk go 23 [u], .rowP isB u 5 1 v.length (bytesV v)]))) := by
  have hR : rawRR B s.pos size = .stop 2 s.pos := by unfold rawRR; rw [if_pos h1]
  rw [hR]
  clear hR
  have hst := h
  have d1 : decide (size < 0) = true := decide_eq_true h1
  go_enter Try.func98, Try.ntmps98
  go_wp2_with (first | go_big_skip | go_big_guard | (refine wl_loadE rfl rfl rfl ?_; first | refine ⟨_, Loads.oldM hst c0 n0, ?_⟩ | refine ⟨_, Loads.oldM hst c1 n1, ?_⟩ | refine ⟨_, Loads.at [] hst rfl, ?_⟩) | (refine wl_buildS (cs := [.int .i64 2, .int .i64 (s.pos : Int)]) rfl rfl (by kernel_rfl) ?_))
  exact ⟨rfl, rfl, hst⟩
theorem rraw_short (g : Nat) (bv : Value) (B : List UInt8) (s : RS) (gs gw go : Nat) (size : Int) (F : List Nat) (w : World) (h : St w F w (rL g bv B s [.blk go 23 [.slice none 0 0]])) (hp : s.pos ≤ B.length) (hB : B.length ≤ 100000)
    (c0 : w.cell? ⟨gs, 0, none⟩ = some (.int .i64 size)) (c1 : w.cell? ⟨gw, 0, none⟩ = some (.pointer (some ⟨g, 0, none⟩))) (n0 : gs ∉ F) (n1 : gw ∉ F) (h1 : ¬ size < 0) (h2 : (B.length : Int) - s.pos < size) :
    Calls Try.prog 98 #[.pointer (some ⟨gs, 0, none⟩), .pointer (some ⟨gw, 0, none⟩), .pointer (some ⟨go, 0, none⟩)] w
      (ReadP w F 115 (rawRR B s.pos size) (rL g bv B s [.blk go 23 [.slice none 0 0]]) (fun v p w' => ∃ u, St w F w' (rL g bv B ⟨p, s.e, s.fa⟩ [.blk go 23 [u], .rowP isB u 5 1 v.length (bytesV v)]))) := by
  have hR : rawRR B s.pos size = .stop 4 B.length := by unfold rawRR; rw [if_neg h1, if_pos h2]
  rw [hR]
  clear hR
  obtain ⟨k, rfl⟩ : ∃ k : Nat, size = (k : Int) := ⟨size.toNat, by omega⟩
  have d1 : decide ((k : Int) < 0) = false := decide_eq_false (by omega)
  have hst := h
  have H2 := hid h2
  clear h1 h2
  go_enter Try.func98, Try.ntmps98
  go_wp2_with (first | go_big_skip | go_big_guard | (refine wl_loadE rfl rfl rfl ?_; first | refine ⟨_, Loads.oldM hst c0 n0, ?_⟩ | refine ⟨_, Loads.oldM hst c1 n1, ?_⟩ | refine ⟨_, Loads.at [] hst rfl, ?_⟩) | (go_at_call 94; refine (need_no g bv B s _ (rL_sub hst) k hp (by omega) (by have := H2.out; omega)).mono ?_; rintro _ _ ⟨he, h4⟩; unfold stopE at he; subst he; have hst2 := St.call0 hst h4; clear h4 hst))
  exact ⟨rfl, rfl, hst2⟩
theorem rraw_ok (g : Nat) (bv : Value) (B : List UInt8) (s : RS) (gs gw go : Nat) (size : Int) (F : List Nat) (w : World) (h : St w F w (rL g bv B s [.blk go 23 [.slice none 0 0]])) (hp : s.pos ≤ B.length) (hB : B.length ≤ 100000)
    (c0 : w.cell? ⟨gs, 0, none⟩ = some (.int .i64 size)) (c1 : w.cell? ⟨gw, 0, none⟩ = some (.pointer (some ⟨g, 0, none⟩))) (n0 : gs ∉ F) (n1 : gw ∉ F) (h1 : ¬ size < 0) (h2 : ¬ (B.length : Int) - s.pos < size) :
    Calls Try.prog 98 #[.pointer (some ⟨gs, 0, none⟩), .pointer (some ⟨gw, 0, none⟩), .pointer (some ⟨go, 0, none⟩)] w
      (ReadP w F 115 (rawRR B s.pos size) (rL g bv B s [.blk go 23 [.slice none 0 0]]) (fun v p w' => ∃ u, St w F w' (rL g bv B ⟨p, s.e, s.fa⟩ [.blk go 23 [u], .rowP isB u 5 1 v.length (bytesV v)]))) := by
  have hR : rawRR B s.pos size = .ok ((B.drop s.pos).take size.toNat) (s.pos + size.toNat) := by unfold rawRR; rw [if_neg h1, if_neg h2]
  rw [hR]
  clear hR
  obtain ⟨k, rfl⟩ : ∃ k : Nat, size = (k : Int) := ⟨size.toNat, by omega⟩
  have d1 : decide ((k : Int) < 0) = false := decide_eq_false (by omega)
  have hst := h
  obtain ⟨Y, hY⟩ : ∃ Y, Y = (B.drop s.pos).take k := ⟨_, rfl⟩
  have hYl : Y.length = k := by rw [hY, List.length_take, List.length_drop]; omega
  rw [Int.toNat_natCast, ← hY]
  have HY := hid hY
  have HYl := hid hYl
  have H2 := hid h2
  have hk1 : k ≤ 100000 := by omega
  have zz : IntKind.i64.wrap ((s.pos : Int) + (k : Int)) = ((s.pos + k : Nat) : Int) := by rw [IntWalk.i64_in _ (by omega)]; omega
  clear h1 h2 hY hYl
  go_enter Try.func98, Try.ntmps98
  go_wp2_with (first | go_big_skip | go_big_guard | (refine wl_loadE rfl rfl rfl ?_; first | refine ⟨_, Loads.oldM hst c0 n0, ?_⟩ | refine ⟨_, Loads.oldM hst c1 n1, ?_⟩ | refine ⟨_, Loads.at [] hst rfl, ?_⟩) | (go_at_call 94; refine (need_any g bv B s _ (rL_sub hst) k hp (by omega) (by have := H2.out; omega)).mono ?_; rw [← HY.out]; rintro _ w2 ⟨u, rfl, h4, hu⟩; have hst2 := St.call0 hst h4; clear h4 hst; obtain ⟨ao, m, c, rfl, hm⟩ := Rd.form hu; subst hm) | (go_at_call 71; refine (bclone_any ao m c Y _ hu HYl.out (by omega)).mono ?_; rintro _ _ ⟨v, rfl, h4⟩; have hst3 := St.call hst2 h4; clear h4 hst2; obtain ⟨av, cv, rfl⟩ := St.rowPSliceF [] hst3) | (refine wl_store [_, _, _] hst3 rfl rfl rfl (v := .slice _ _ _) rfl rfl rfl (Nat.le_refl _) ?_; intro w5 hst4; clear hst3))
  have hst5 : St w F w5 (.rowP isB (.slice av m cv) 5 1 m (bytesV Y) :: .blk g 111 [.bool true, bv, .int .i64 s.pos, .int .i64 s.e, .int .i64 s.fa] :: .rowP isB bv 5 1 B.length (bytesV B) :: .blk go 23 [.slice av m cv] :: []) := hst4
  clear hst4
  have hD := hst5.drew
  clear hst5
  refine wp_region_held_drew (S := (fun w' => (loadVarH 99 ⟨gw, 0, none⟩).run Try.prog w' = .ok (.pointer (some ⟨g, 0, none⟩)) w' ∧ (loadVarH 3 ⟨gs, 0, none⟩).run Try.prog w' = .ok (.int .i64 (m : Int)) w')) (by kernel_rfl) (by exact ⟨ldOMx hD c1 n1, ldOMx hD c0 n0⟩) (fun hHeld => ?_)
  refine wpAnyH_take (i := 0) (oi := ⟨some 15, _, _, _, _, _⟩) (v := ?_) rfl (by kernel_rfl) (by kernel_rfl) (by kernel_rfl) (fun _ _ _ h => h) (Or.inl ⟨by rfl, ?_⟩) (by assumption) ?_
  rotate_left
  · intro w hSw; (try dsimp only at hSw); go_simp; try with_reducible rfl
  (try simp only [Act.put, List.setIfInBounds_toArray, List.set_cons_zero, List.set_cons_succ])
  refine wpAnyH_take (i := 4) (oi := ⟨some 19, _, _, _, _, _⟩) (v := ?_) rfl (by kernel_rfl) (by kernel_rfl) (by kernel_rfl) (fun _ _ _ h => h) (Or.inl ⟨by rfl, ?_⟩) (by assumption) ?_
  rotate_left
  · intro w hSw; (try dsimp only at hSw); go_simp; try with_reducible rfl
  (try simp only [Act.put, List.setIfInBounds_toArray, List.set_cons_zero, List.set_cons_succ])
  refine wpAnyH_take (i := 1) (oi := ⟨some 16, _, _, _, _, _⟩) (v := ?_) rfl (by kernel_rfl) (by kernel_rfl) (by kernel_rfl) (fun _ _ _ h => h) (Or.inl ⟨by rfl, ?_⟩) (by assumption) ?_
  rotate_left
  · intro w hSw; (try dsimp only at hSw); go_simp; try with_reducible rfl
  (try simp only [Act.put, List.setIfInBounds_toArray, List.set_cons_zero, List.set_cons_succ])
  refine wpAnyH_take (i := 2) (oi := ⟨some 17, _, _, _, _, _⟩) (v := ?_) rfl (by kernel_rfl) (by kernel_rfl) (by kernel_rfl) (fun _ _ _ h => h) (Or.inl ⟨by rfl, ?_⟩) (by assumption) ?_
  rotate_left
  · intro w hSw; (try dsimp only at hSw); go_simp; try with_reducible rfl
  (try simp only [Act.put, List.setIfInBounds_toArray, List.set_cons_zero, List.set_cons_succ])
  refine wpAnyH_ready (rs := [3]) (by kernel_rfl) (by simp) ?_
  refine (AllReadyH.cons (o := ⟨some 18, _, _, _, _, _⟩) rfl (fun K hK => ?_) AllReadyH.nil)
  rw [if_pos (by rfl)]
  refine ow_of_wl (ops := #[]) (by rfl) ?_
  refine wl_loadE rfl rfl rfl ?_
  refine ⟨_, Loads.at [_] hD rfl, ?_⟩
  refine q0_nil ?_
  refine hK.out _ _ ?_ (fun hHeld => ?_)
  · exact ⟨ldOMx hD c1 n1, ldOMx hD c0 n0⟩
  clear hK K
  (try simp only [Act.put, List.setIfInBounds_toArray, List.set_cons_zero, List.set_cons_succ])
  refine wpAnyH_take (i := 5) (oi := ⟨some 20, _, _, _, _, _⟩) (v := ?_) rfl (by kernel_rfl) (by kernel_rfl) (by kernel_rfl) (fun _ _ _ h => h) (Or.inl ⟨by rfl, ?_⟩) (by assumption) ?_
  rotate_left
  · intro w hSw; (try dsimp only at hSw); go_simp; try with_reducible rfl
  (try simp only [Act.put, List.setIfInBounds_toArray, List.set_cons_zero, List.set_cons_succ])
  refine wpAnyH_take (i := 6) (oi := ⟨some 21, _, _, _, _, _⟩) (v := ?_) rfl (by kernel_rfl) (by kernel_rfl) (by kernel_rfl) (fun _ _ _ h => h) (Or.inl ⟨by rfl, ?_⟩) (by assumption) ?_
  rotate_left
  · intro w hSw; (try dsimp only at hSw); go_simp; try with_reducible rfl
  (try simp only [Act.put, List.setIfInBounds_toArray, List.set_cons_zero, List.set_cons_succ])
  refine wpAnyH_take (i := 7) (oi := ⟨some 22, _, _, _, _, _⟩) (v := ?_) rfl (by kernel_rfl) (by kernel_rfl) (by kernel_rfl) (fun _ _ _ h => h) (Or.inl ⟨by rfl, ?_⟩) (by assumption) ?_
  rotate_left
  · intro w hSw; (try dsimp only at hSw); go_simp; try with_reducible rfl
  (try simp only [Act.put, List.setIfInBounds_toArray, List.set_cons_zero, List.set_cons_succ])
  refine wpAnyH_ready (rs := [8]) (by kernel_rfl) (by simp) ?_
  refine (AllReadyH.cons (o := ⟨none, _, _, _, _, _⟩) rfl (fun K hK => ?_) AllReadyH.nil)
  rw [if_pos (by rfl)]
  refine ow_storeS (off := 2) (v := .int .i64 ((s.pos + m : Nat) : Int)) [_] hD rfl rfl rfl inferInstance rfl rfl (by show (3 : Nat) ≤ 5; decide) ?_
  intro _ hN1
  refine hK.out _ _ ?_ (fun hHeld => ?_)
  · exact ⟨ldOMx hN1 c1 n1, ldOMx hN1 c0 n0⟩
  clear hK K
  (try simp only [Act.put, List.setIfInBounds_toArray, List.set_cons_zero, List.set_cons_succ])
  refine wpAnyH_done (by kernel_rfl) ?_ _
  clear hHeld
  go_wp2_with (first | go_big_skip | go_big_guard | fail)
  go_end0
  refine ⟨rfl, .slice av m cv, ?_⟩
  rw [HYl.out]
  exact St.perm (L := _ :: _ :: _ :: _ :: []) hN1 ((List.Perm.swap _ _ _).trans (List.Perm.cons _ ((List.Perm.swap _ _ _).trans (List.Perm.cons _ (List.Perm.swap _ _ _)))))
theorem rraw_any (g : Nat) (bv : Value) (B : List UInt8) (s : RS) (gs gw go : Nat) (size : Int) (F : List Nat) (w : World) (h : St w F w (rL g bv B s [.blk go 23 [.slice none 0 0]])) (hp : s.pos ≤ B.length) (hB : B.length ≤ 100000)
    (c0 : w.cell? ⟨gs, 0, none⟩ = some (.int .i64 size)) (c1 : w.cell? ⟨gw, 0, none⟩ = some (.pointer (some ⟨g, 0, none⟩))) (n0 : gs ∉ F) (n1 : gw ∉ F) (hz : -9223372036854775808 ≤ size ∧ size ≤ 9223372036854775807) :
    Calls Try.prog 98 #[.pointer (some ⟨gs, 0, none⟩), .pointer (some ⟨gw, 0, none⟩), .pointer (some ⟨go, 0, none⟩)] w
      (ReadP w F 115 (rawRR B s.pos size) (rL g bv B s [.blk go 23 [.slice none 0 0]]) (fun v p w' => ∃ u, St w F w' (rL g bv B ⟨p, s.e, s.fa⟩ [.blk go 23 [u], .rowP isB u 5 1 v.length (bytesV v)]))) := by
  by_cases h1 : size < 0
  · exact rraw_arg g bv B s gs gw go size F w h hp hB c0 c1 n0 n1 h1
  · by_cases h2 : (B.length : Int) - s.pos < size
    · exact rraw_short g bv B s gs gw go size F w h hp hB c0 c1 n0 n1 h1 h2
    · exact rraw_ok g bv B s gs gw go size F w h hp hB c0 c1 n0 n1 h1 h2
/-- A reader's bytes from some place on. -/
theorem Hp.Rd.from0 {w : World} {p : Nat} {B : List UInt8} {c : Nat} (h : Rd w (.slice none B.length c) 1 B.length (bytesV B)) (hp : p ≤ B.length) : B = [] ∧ c = 0 ∧ p = 0 := by
  rcases h.casesF with ⟨he, h0, hb⟩ | ⟨_, _, he, _⟩
  · have : B = [] := by simpa [bytesV] using hb
    subst this
    cases he
    exact ⟨rfl, rfl, by simpa using hp⟩
  · cases he
end Go.Proofs.Ytalfdcfcaamnbaa
