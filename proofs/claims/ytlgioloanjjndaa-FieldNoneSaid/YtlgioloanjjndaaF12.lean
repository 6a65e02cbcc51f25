import Derived.Test.YtlgioloanjjndaaF11
import Derived.Deep.DeepCutAuto
namespace Go.Proofs.Ytlgioloanjjndaa
set_option linter.unusedVariables false
set_option linter.unusedSimpArgs false
open Go.RowKit Hp
attribute [local irreducible] Go.Calls
set_option maxRecDepth 100000
set_option maxHeartbeats 4000000
attribute [local go_sem ↓] loadedInt loadedRp loadedSl
theorem rraw_arg (g : Nat) (bv : Value) (B : List UInt8) (s : RS) (gs gw go : Nat) (size : Int) (F : List Nat) (w : World) (h : St w F w (rL g bv B s [.blk go 26 [.slice none 0 0]])) (hp : s.pos ≤ B.length) (hB : B.length ≤ 100000)
    (c0 : w.cell? ⟨gs, 0, none⟩ = some (.int .i64 size)) (c1 : w.cell? ⟨gw, 0, none⟩ = some (.pointer (some ⟨g, 0, none⟩))) (n0 : gs ∉ F) (n1 : gw ∉ F) (h1 : size < 0) :
    Calls Try.prog 59 #[.pointer (some ⟨gs, 0, none⟩), .pointer (some ⟨gw, 0, none⟩), .pointer (some ⟨go, 0, none⟩)] w
      (ReadP w F 79 (rawRR B s.pos size) (rL g bv B s [.blk go 26 [.slice none 0 0]]) (fun v p w' => ∃ u, St w F w' (rL g bv B ⟨p, s.e, s.fa⟩ [.blk go 26 [u], .rowP isB u 5 1 v.length (bytesV v)]))) := by
  have hR : rawRR B s.pos size = .stop 2 s.pos := by unfold rawRR; rw [if_pos h1]
  rw [hR]
  clear hR
  have hst := h
  have d1 : decide (size < 0) = true := decide_eq_true h1
  go_enter Try.func59, Try.ntmps59
  go_wp2_with (first | go_big_skip | go_big_guard | (refine wl_loadE rfl rfl rfl ?_; first | refine ⟨_, Loads.oldM hst c0 n0, ?_⟩ | refine ⟨_, Loads.oldM hst c1 n1, ?_⟩ | refine ⟨_, Loads.at [] hst rfl, ?_⟩) | (refine wl_buildS (cs := [.int .i64 2, .int .i64 (s.pos : Int)]) rfl rfl (by kernel_rfl) ?_))
  exact ⟨rfl, rfl, hst⟩
theorem rraw_short (g : Nat) (bv : Value) (B : List UInt8) (s : RS) (gs gw go : Nat) (size : Int) (F : List Nat) (w : World) (h : St w F w (rL g bv B s [.blk go 26 [.slice none 0 0]])) (hp : s.pos ≤ B.length) (hB : B.length ≤ 100000)
    (c0 : w.cell? ⟨gs, 0, none⟩ = some (.int .i64 size)) (c1 : w.cell? ⟨gw, 0, none⟩ = some (.pointer (some ⟨g, 0, none⟩))) (n0 : gs ∉ F) (n1 : gw ∉ F) (h1 : ¬ size < 0) (h2 : (B.length : Int) - s.pos < size) :
    Calls Try.prog 59 #[.pointer (some ⟨gs, 0, none⟩), .pointer (some ⟨gw, 0, none⟩), .pointer (some ⟨go, 0, none⟩)] w
      (ReadP w F 79 (rawRR B s.pos size) (rL g bv B s [.blk go 26 [.slice none 0 0]]) (fun v p w' => ∃ u, St w F w' (rL g bv B ⟨p, s.e, s.fa⟩ [.blk go 26 [u], .rowP isB u 5 1 v.length (bytesV v)]))) := by
  have hR : rawRR B s.pos size = .stop 4 B.length := by unfold rawRR; rw [if_neg h1, if_pos h2]
  rw [hR]
  clear hR
  obtain ⟨k, rfl⟩ : ∃ k : Nat, size = (k : Int) := ⟨size.toNat, by omega⟩
  have d1 : decide ((k : Int) < 0) = false := decide_eq_false (by omega)
  have hst := h
  have H2 := hid h2
  clear h1 h2
  go_enter Try.func59, Try.ntmps59
  go_wp2_with (first | go_big_skip | go_big_guard | (refine wl_loadE rfl rfl rfl ?_; first | refine ⟨_, Loads.oldM hst c0 n0, ?_⟩ | refine ⟨_, Loads.oldM hst c1 n1, ?_⟩ | refine ⟨_, Loads.at [] hst rfl, ?_⟩) | (go_at_call 51; refine (need_no g bv B s _ (rL_sub hst) k hp (by omega) (by have := H2.out; omega)).mono ?_; rintro _ _ ⟨he, h4⟩; unfold stopE at he; subst he; have hst2 := St.call0 hst h4; clear h4 hst))
  exact ⟨rfl, rfl, hst2⟩
theorem rraw_ok (g : Nat) (bv : Value) (B : List UInt8) (s : RS) (gs gw go : Nat) (size : Int) (F : List Nat) (w : World) (h : St w F w (rL g bv B s [.blk go 26 [.slice none 0 0]])) (hp : s.pos ≤ B.length) (hB : B.length ≤ 100000)
    (c0 : w.cell? ⟨gs, 0, none⟩ = some (.int .i64 size)) (c1 : w.cell? ⟨gw, 0, none⟩ = some (.pointer (some ⟨g, 0, none⟩))) (n0 : gs ∉ F) (n1 : gw ∉ F) (h1 : ¬ size < 0) (h2 : ¬ (B.length : Int) - s.pos < size) :
    Calls Try.prog 59 #[.pointer (some ⟨gs, 0, none⟩), .pointer (some ⟨gw, 0, none⟩), .pointer (some ⟨go, 0, none⟩)] w
      (ReadP w F 79 (rawRR B s.pos size) (rL g bv B s [.blk go 26 [.slice none 0 0]]) (fun v p w' => ∃ u, St w F w' (rL g bv B ⟨p, s.e, s.fa⟩ [.blk go 26 [u], .rowP isB u 5 1 v.length (bytesV v)]))) := by
  have hR : rawRR B s.pos size = .ok ((B.drop s.pos).take size.toNat) (s.pos + size.toNat) := by unfold rawRR; rw [if_neg h1, if_neg h2]
  rw [hR]
  clear hR
  obtain ⟨k, rfl⟩ : ∃ k : Nat, size = (k : Int) := ⟨size.toNat, by omega⟩
  have d1 : decide ((k : Int) < 0) = false := decide_eq_false (by omega)
  have hst := h
  obtain ⟨Y, hY⟩ : ∃ Y, Y = (B.drop s.pos).take k := ⟨_, rfl⟩
  have hYl : Y.length = k := by rw [hY, List.length_take, List.length_drop]; omega
  rw [Int.toNat_natCast, ← hY]
  have HY := hid hY
  have HYl := hid hYl
  have H2 := hid h2
  have hk1 : k ≤ 100000 := by omega
  have zz : IntKind.i64.wrap ((s.pos : Int) + (k : Int)) = ((s.pos + k : Nat) : Int) := by rw [IntWalk.i64_in _ (by omega)]; omega
  clear h1 h2 hY hYl
  go_enter Try.func59, Try.ntmps59
  go_wp2_with (first | go_big_skip | go_big_guard | (refine wl_loadE rfl rfl rfl ?_; first | refine ⟨_, Loads.oldM hst c0 n0, ?_⟩ | refine ⟨_, Loads.oldM hst c1 n1, ?_⟩ | refine ⟨_, Loads.at [] hst rfl, ?_⟩) | (go_at_call 51; refine (need_any g bv B s _ (rL_sub hst) k hp (by omega) (by have := H2.out; omega)).mono ?_; rw [← HY.out]; rintro _ w2 ⟨u, rfl, h4, hu⟩; have hst2 := St.call0 hst h4; clear h4 hst; obtain ⟨ao, m, c, rfl, hm⟩ := Rd.form hu; subst hm) | (go_at_call 48; refine (bclone_any ao m c Y _ hu HYl.out (by omega)).mono ?_; rintro _ _ ⟨v, rfl, h4⟩; have hst3 := St.call hst2 h4; clear h4 hst2; obtain ⟨av, cv, rfl⟩ := St.rowPSliceF [] hst3) | (refine wl_store [_, _, _] hst3 rfl rfl rfl (v := .slice _ _ _) rfl rfl rfl (Nat.le_refl _) ?_; intro w5 hst4; clear hst3))
  have hst5 : St w F w5 (.rowP isB (.slice av m cv) 5 1 m (bytesV Y) :: .blk g 67 [.bool true, bv, .int .i64 s.pos, .int .i64 s.e, .int .i64 s.fa] :: .rowP isB bv 5 1 B.length (bytesV B) :: .blk go 26 [.slice av m cv] :: []) := hst4
  clear hst4
  have hD := hst5.drew
  clear hst5
  refine wp_region_held_drew (S := (fun w' => (loadVarH 45 ⟨gw, 0, none⟩).run Try.prog w' = .ok (.pointer (some ⟨g, 0, none⟩)) w' ∧ (loadVarH 3 ⟨gs, 0, none⟩).run Try.prog w' = .ok (.int .i64 (m : Int)) w')) (by kernel_rfl) (by exact ⟨ldOMx hD c1 n1, ldOMx hD c0 n0⟩) (fun hHeld => ?_)
  refine wpAnyH_take (i := 0) (oi := ⟨some 15, _, _, _, _, _⟩) (v := ?_) rfl (by kernel_rfl) (by kernel_rfl) (by kernel_rfl) (fun _ _ _ h => h) (Or.inl ⟨by rfl, ?_⟩) (by assumption) ?_
  rotate_left
  · intro w hSw; (try dsimp only at hSw); go_simp; try with_reducible rfl
  (try simp only [Act.put, List.setIfInBounds_toArray, List.set_cons_zero, List.set_cons_succ])
  refine wpAnyH_take (i := 4) (oi := ⟨some 19, _, _, _, _, _⟩) (v := ?_) rfl (by kernel_rfl) (by kernel_rfl) (by kernel_rfl) (fun _ _ _ h => h) (Or.inl ⟨by rfl, ?_⟩) (by assumption) ?_
  rotate_left
  · intro w hSw; (try dsimp only at hSw); go_simp; try with_reducible rfl
  (try simp only [Act.put, List.setIfInBounds_toArray, List.set_cons_zero, List.set_cons_succ])
  refine wpAnyH_take (i := 1) (oi := ⟨some 16, _, _, _, _, _⟩) (v := ?_) rfl (by kernel_rfl) (by kernel_rfl) (by kernel_rfl) (fun _ _ _ h => h) (Or.inl ⟨by rfl, ?_⟩) (by assumption) ?_
  rotate_left
  · intro w hSw; (try dsimp only at hSw); go_simp; try with_reducible rfl
  (try simp only [Act.put, List.setIfInBounds_toArray, List.set_cons_zero, List.set_cons_succ])
  refine wpAnyH_take (i := 2) (oi := ⟨some 17, _, _, _, _, _⟩) (v := ?_) rfl (by kernel_rfl) (by kernel_rfl) (by kernel_rfl) (fun _ _ _ h => h) (Or.inl ⟨by rfl, ?_⟩) (by assumption) ?_
  rotate_left
  · intro w hSw; (try dsimp only at hSw); go_simp; try with_reducible rfl
  (try simp only [Act.put, List.setIfInBounds_toArray, List.set_cons_zero, List.set_cons_succ])
  refine wpAnyH_ready (rs := [3]) (by kernel_rfl) (by simp) ?_
  refine (AllReadyH.cons (o := ⟨some 18, _, _, _, _, _⟩) rfl (fun K hK => ?_) AllReadyH.nil)
  rw [if_pos (by rfl)]
  refine ow_of_wl (ops := #[]) (by rfl) ?_
  refine wl_loadE rfl rfl rfl ?_
  refine ⟨_, Loads.at [_] hD rfl, ?_⟩
  refine q0_nil ?_
  refine hK.out _ _ ?_ (fun hHeld => ?_)
  · exact ⟨ldOMx hD c1 n1, ldOMx hD c0 n0⟩
  clear hK K
  (try simp only [Act.put, List.setIfInBounds_toArray, List.set_cons_zero, List.set_cons_succ])
  refine wpAnyH_take (i := 5) (oi := ⟨some 20, _, _, _, _, _⟩) (v := ?_) rfl (by kernel_rfl) (by kernel_rfl) (by kernel_rfl) (fun _ _ _ h => h) (Or.inl ⟨by rfl, ?_⟩) (by assumption) ?_
  rotate_left
  · intro w hSw; (try dsimp only at hSw); go_simp; try with_reducible rfl
  (try simp only [Act.put, List.setIfInBounds_toArray, List.set_cons_zero, List.set_cons_succ])
  refine wpAnyH_take (i := 6) (oi := ⟨some 21, _, _, _, _, _⟩) (v := ?_) rfl (by kernel_rfl) (by kernel_rfl) (by kernel_rfl) (fun _ _ _ h => h) (Or.inl ⟨by rfl, ?_⟩) (by assumption) ?_
  rotate_left
  · intro w hSw; (try dsimp only at hSw); go_simp; try with_reducible rfl
  (try simp only [Act.put, List.setIfInBounds_toArray, List.set_cons_zero, List.set_cons_succ])
  refine wpAnyH_take (i := 7) (oi := ⟨some 22, _, _, _, _, _⟩) (v := ?_) rfl (by kernel_rfl) (by kernel_rfl) (by kernel_rfl) (fun _ _ _ h => h) (Or.inl ⟨by rfl, ?_⟩) (by assumption) ?_
  rotate_left
  · intro w hSw; (try dsimp only at hSw); go_simp; try with_reducible rfl
  (try simp only [Act.put, List.setIfInBounds_toArray, List.set_cons_zero, List.set_cons_succ])
  refine wpAnyH_ready (rs := [8]) (by kernel_rfl) (by simp) ?_
  refine (AllReadyH.cons (o := ⟨none, _, _, _, _, _⟩) rfl (fun K hK => ?_) AllReadyH.nil)
  rw [if_pos (by rfl)]
  refine ow_storeS (off := 2) (v := .int .i64 ((s.pos + m : Nat) : Int)) [_] hD rfl rfl rfl inferInstance rfl rfl (by show (3 : Nat) ≤ 5; decide) ?_
  intro _ hN1
  refine hK.out _ _ ?_ (fun hHeld => ?_)
  · exact ⟨ldOMx hN1 c1 n1, ldOMx hN1 c0 n0⟩
  clear hK K
  (try simp only [Act.put, List.setIfInBounds_toArray, List.set_cons_zero, List.set_cons_succ])
  refine wpAnyH_done (by kernel_rfl) ?_ _
  clear hHeld
  go_wp2_with (first | go_big_skip | go_big_guard | fail)
  go_end0
  refine ⟨rfl, .slice av m cv, ?_⟩
  rw [HYl.out]
  exact St.perm (L := _ :: _ :: _ :: _ :: []) hN1 ((List.Perm.swap _ _ _).trans (List.Perm.cons _ ((List.Perm.swap _ _ _).trans (List.Perm.cons _ (List.Perm.swap _ _ _)))))
theorem rraw_any (g : Nat) (bv : Value) (B : List UInt8) (s : RS) (gs gw go : Nat) (size : Int) (F : List Nat) (w : World) (h : St w F w (rL g bv B s [.blk go 26 [.slice none 0 0]])) (hp : s.pos ≤ B.length) (hB : B.length ≤ 100000)
    (c0 : w.cell? ⟨gs, 0, none⟩ = some (.int .i64 size)) (c1 : w.cell? ⟨gw, 0, none⟩ = some (.pointer (some ⟨g, 0, none⟩))) (n0 : gs ∉ F) (n1 : gw ∉ F) (hz : -9223372036854775808 ≤ size ∧ size ≤ 9223372036854775807) :
    Calls Try.prog 59 #[.pointer (some ⟨gs, 0, none⟩), .pointer (some ⟨gw, 0, none⟩), .pointer (some ⟨go, 0, none⟩)] w
      (ReadP w F 79 (rawRR B s.pos size) (rL g bv B s [.blk go 26 [.slice none 0 0]]) (fun v p w' => ∃ u, St w F w' (rL g bv B ⟨p, s.e, s.fa⟩ [.blk go 26 [u], .rowP isB u 5 1 v.length (bytesV v)]))) := by
  by_cases h1 : size < 0
  · exact rraw_arg g bv B s gs gw go size F w h hp hB c0 c1 n0 n1 h1
  · by_cases h2 : (B.length : Int) - s.pos < size
    · exact rraw_short g bv B s gs gw go size F w h hp hB c0 c1 n0 n1 h1 h2
    · exact rraw_ok g bv B s gs gw go size F w h hp hB c0 c1 n0 n1 h1 h2
/-- A reader's bytes from some place on. -/
theorem Hp.Rd.from0 {w : World} {p : Nat} {B : List UInt8} {c : Nat} (h : Rd w (.slice none B.length c) 1 B.length (bytesV B)) (hp : p ≤ B.length) : B = [] ∧ c = 0 ∧ p = 0 := by
  rcases h.casesF with ⟨he, h0, hb⟩ | ⟨_, _, he, _⟩
  · have : B = [] := by simpa [bytesV] using hb
    subst this
    cases he
    exact ⟨rfl, rfl, by simpa using hp⟩
  · cases he
theorem rrest_any (g : Nat) (bv : Value) (B : List UInt8) (s : RS) (gw : Nat) (F : List Nat) (w : World) (h : St w F w (rL g bv B s [])) (hp : s.pos ≤ B.length) (hB : B.length ≤ 100000) (c1 : w.cell? ⟨gw, 0, none⟩ = some (.pointer (some ⟨g, 0, none⟩))) (n1 : gw ∉ F) :
    Calls Try.prog 53 #[.pointer (some ⟨gw, 0, none⟩)] w
      (ReadP w F 79 (restRR B s.pos) (rL g bv B s []) (fun _ p w' => St w F w' (rL g bv B ⟨p, s.e, s.fa⟩ []))) := by
  have hrow9 := hid (h.ownsP (.tail _ (.head _))).1.2
  have hrd := Rd.rowP h (.tail _ (.head _))
  obtain ⟨ab, c, hbv, hc1, hc2⟩ := rP_form (rL_sub h)
  subst hbv
  have hst : St w F w (rP g (.slice ab B.length c) B s ++ []) := h
  unfold rP at hst
  obtain ⟨N, hN⟩ : ∃ N, N = B.length := ⟨_, rfl⟩
  obtain ⟨p, hpp⟩ : ∃ p, p = s.pos := ⟨_, rfl⟩
  obtain ⟨X, hX⟩ : ∃ X, X = B.drop p := ⟨_, rfl⟩
  have HX := hid hX
  have hXl : X.length = N - p := by rw [hX, List.length_drop, hN]
  have HXl := hid hXl
  have HN := hid hN
  have HP := hid hpp
  rw [← hN] at hst hp hB hc1
  rw [← hpp] at hst hp ⊢
  obtain ⟨K, hK⟩ : ∃ K, K = N - p := ⟨_, rfl⟩
  have HK := hid hK
  rw [← hK] at hXl
  have hstL : St w F w (rL g (.slice ab N c) B s []) := by rw [hN]; exact h
  clear h hN hpp hX hK
  go_enter Try.func53, Try.ntmps53
  go_wp2_with (first | go_big_skip | go_big_guard | fail)
  go_cut [11, 12, 13] (fun a b2 c2 wx => ∃ au cu, a = .slice au K cu ∧ b2 = .int .i64 K ∧ c2 = .int .i64 0 ∧ Rd wx (.slice au K cu) 1 K (bytesV X) ∧ St w F wx (rL g (.slice ab N c) B s []))
  case first =>
    clear hstL
    rcases ab with _ | ⟨bb, oo, sp⟩
    · have hrd2 := hrd
      obtain ⟨hB0, hc0, hp0⟩ := Rd.from0 (p := p) hrd2 (by rw [← HN.out]; exact hp)
      have hN0 : N = 0 := by rw [HN.out, hB0]; rfl
      have hK0 : K = 0 := by rw [HK.out, hN0]; omega
      have hX0 : X = [] := by rw [HX.out, hB0]; simp
      subst hN0 hc0 hp0 hK0 hX0
      have zw : IntKind.i64.wrap 0 = 0 := rfl
      have hD := hst.drew
      clear hst
      refine wp_region_held_drew (S := (fun w' => (loadVarH 45 ⟨gw, 0, none⟩).run Try.prog w' = .ok (.pointer (some ⟨g, 0, none⟩)) w' ∧ (loadVarH 26 ⟨g, 1, none⟩).run Try.prog w' = .ok (.slice none 0 0) w' ∧ (loadVarH 3 ⟨g, 2, none⟩).run Try.prog w' = .ok (.int .i64 0) w')) (by kernel_rfl) (by exact ⟨ldOMx hD c1 n1, ldS [] hD rfl, ldS [] hD rfl⟩) (fun hHeld => ?_)
      refine wpAnyH_take (i := 0) (oi := ⟨some 3, _, _, _, _, _⟩) (v := ?_) rfl (by kernel_rfl) (by kernel_rfl) (by kernel_rfl) (fun _ _ _ h => h) (Or.inl ⟨by rfl, ?_⟩) (by assumption) ?_
      rotate_left
      · intro w hSw; (try dsimp only at hSw); go_simp; try with_reducible rfl
      (try simp only [Act.put, List.setIfInBounds_toArray, List.set_cons_zero, List.set_cons_succ])
      refine wpAnyH_take (i := 4) (oi := ⟨some 7, _, _, _, _, _⟩) (v := ?_) rfl (by kernel_rfl) (by kernel_rfl) (by kernel_rfl) (fun _ _ _ h => h) (Or.inl ⟨by rfl, ?_⟩) (by assumption) ?_
      rotate_left
      · intro w hSw; (try dsimp only at hSw); go_simp; try with_reducible rfl
      (try simp only [Act.put, List.setIfInBounds_toArray, List.set_cons_zero, List.set_cons_succ])
      refine wpAnyH_take (i := 10) (oi := ⟨some 13, _, _, _, _, _⟩) (v := ?_) rfl (by kernel_rfl) (by kernel_rfl) (by kernel_rfl) (fun _ _ _ h => h) (Or.inl ⟨by rfl, ?_⟩) (by assumption) ?_
      rotate_left
      · intro w hSw; (try dsimp only at hSw); go_simp; try with_reducible rfl
      (try simp only [Act.put, List.setIfInBounds_toArray, List.set_cons_zero, List.set_cons_succ])
      refine wpAnyH_take (i := 1) (oi := ⟨some 4, _, _, _, _, _⟩) (v := ?_) rfl (by kernel_rfl) (by kernel_rfl) (by kernel_rfl) (fun _ _ _ h => h) (Or.inl ⟨by rfl, ?_⟩) (by assumption) ?_
      rotate_left
      · intro w hSw; (try dsimp only at hSw); go_simp; try with_reducible rfl
      (try simp only [Act.put, List.setIfInBounds_toArray, List.set_cons_zero, List.set_cons_succ])
      refine wpAnyH_take (i := 5) (oi := ⟨some 8, _, _, _, _, _⟩) (v := ?_) rfl (by kernel_rfl) (by kernel_rfl) (by kernel_rfl) (fun _ _ _ h => h) (Or.inl ⟨by rfl, ?_⟩) (by assumption) ?_
      rotate_left
      · intro w hSw; (try dsimp only at hSw); go_simp; try with_reducible rfl
      (try simp only [Act.put, List.setIfInBounds_toArray, List.set_cons_zero, List.set_cons_succ])
      refine wpAnyH_take (i := 2) (oi := ⟨some 5, _, _, _, _, _⟩) (v := ?_) rfl (by kernel_rfl) (by kernel_rfl) (by kernel_rfl) (fun _ _ _ h => h) (Or.inl ⟨by rfl, ?_⟩) (by assumption) ?_
      rotate_left
      · intro w hSw; (try dsimp only at hSw); go_simp; try with_reducible rfl
      (try simp only [Act.put, List.setIfInBounds_toArray, List.set_cons_zero, List.set_cons_succ])
      refine wpAnyH_take (i := 6) (oi := ⟨some 9, _, _, _, _, _⟩) (v := ?_) rfl (by kernel_rfl) (by kernel_rfl) (by kernel_rfl) (fun _ _ _ h => h) (Or.inl ⟨by rfl, ?_⟩) (by assumption) ?_
      rotate_left
      · intro w hSw; (try dsimp only at hSw); go_simp; try with_reducible rfl
      (try simp only [Act.put, List.setIfInBounds_toArray, List.set_cons_zero, List.set_cons_succ])
      refine wpAnyH_take (i := 3) (oi := ⟨some 6, _, _, _, _, _⟩) (v := ?_) rfl (by kernel_rfl) (by kernel_rfl) (by kernel_rfl) (fun _ _ _ h => h) (Or.inl ⟨by rfl, ?_⟩) (by assumption) ?_
      rotate_left
      · intro w hSw; (try dsimp only at hSw); go_simp; try with_reducible rfl
      (try simp only [Act.put, List.setIfInBounds_toArray, List.set_cons_zero, List.set_cons_succ])
      refine wpAnyH_take (i := 7) (oi := ⟨some 10, _, _, _, _, _⟩) (v := ?_) rfl (by kernel_rfl) (by kernel_rfl) (by kernel_rfl) (fun _ _ _ h => h) (Or.inl ⟨by rfl, ?_⟩) (by assumption) ?_
      rotate_left
      · intro w hSw; (try dsimp only at hSw); go_simp; try with_reducible rfl
      (try simp only [Act.put, List.setIfInBounds_toArray, List.set_cons_zero, List.set_cons_succ])
      refine wpAnyH_take (i := 8) (oi := ⟨some 11, _, _, _, _, _⟩) (v := ?_) rfl (by kernel_rfl) (by kernel_rfl) (by kernel_rfl) (fun _ _ _ h => h) (Or.inl ⟨by rfl, ?_⟩) (by assumption) ?_
      rotate_left
      · intro w hSw; (try dsimp only at hSw); go_simp; try with_reducible rfl
      (try simp only [Act.put, List.setIfInBounds_toArray, List.set_cons_zero, List.set_cons_succ])
      refine wpAnyH_take (i := 9) (oi := ⟨some 12, _, _, _, _, _⟩) (v := ?_) rfl (by kernel_rfl) (by kernel_rfl) (by kernel_rfl) (fun _ _ _ h => h) (Or.inl ⟨by rfl, ?_⟩) (by assumption) ?_
      rotate_left
      · intro w hSw; (try dsimp only at hSw); go_simp; try with_reducible rfl
      (try simp only [Act.put, List.setIfInBounds_toArray, List.set_cons_zero, List.set_cons_succ])
      refine wpAnyH_done (by kernel_rfl) ?_ _
      clear hHeld
      go_wp2_with (first | go_big_skip | go_big_guard | fail)
      go_meet
      refine ⟨none, 0, rfl, rfl, rfl, Rd.nil _ _, ?_⟩
      unfold rL rP
      rw [← HN.out, ← HP.out]
      exact hD
    · obtain ⟨rfl, hrr⟩ : sp = none ∧ True := by
        rcases hrow9.out with ⟨he, _⟩ | ⟨g9, cap9, cur9, he, _⟩
        · cases he
        · cases he
          exact ⟨rfl, trivial⟩
      have z1 : IntKind.i64.wrap (p : Int) = (p : Int) := IntWalk.i64_in _ (by omega)
      have n1' : (p : Int).toNat = p := by omega
      have n3 : (p : Int) ≤ (N : Int) := by omega
      have n5 : 0 ≤ (p : Int) := by omega
      by_cases hcp : c = p
      · have hNp : N = p := by omega
        have hK0 : K = 0 := by rw [HK.out]; omega
        have hX0 : X = [] := List.eq_nil_of_length_eq_zero (by rw [HXl.out]; omega)
        subst hcp hNp hK0 hX0
        have hD := hst.drew
        clear hst
        refine wp_region_held_drew (S := (fun w' => (loadVarH 45 ⟨gw, 0, none⟩).run Try.prog w' = .ok (.pointer (some ⟨g, 0, none⟩)) w' ∧ (loadVarH 26 ⟨g, 1, none⟩).run Try.prog w' = .ok (.slice (some ⟨bb, oo, none⟩) N N) w' ∧ (loadVarH 3 ⟨g, 2, none⟩).run Try.prog w' = .ok (.int .i64 (N : Int)) w')) (by kernel_rfl) (by exact ⟨ldOMx hD c1 n1, ldS [] hD rfl, ldS [] hD rfl⟩) (fun hHeld => ?_)
        refine wpAnyH_take (i := 0) (oi := ⟨some 3, _, _, _, _, _⟩) (v := ?_) rfl (by kernel_rfl) (by kernel_rfl) (by kernel_rfl) (fun _ _ _ h => h) (Or.inl ⟨by rfl, ?_⟩) (by assumption) ?_
        rotate_left
        · intro w hSw; (try dsimp only at hSw); go_simp; try with_reducible rfl
        (try simp only [Act.put, List.setIfInBounds_toArray, List.set_cons_zero, List.set_cons_succ])
        refine wpAnyH_take (i := 4) (oi := ⟨some 7, _, _, _, _, _⟩) (v := ?_) rfl (by kernel_rfl) (by kernel_rfl) (by kernel_rfl) (fun _ _ _ h => h) (Or.inl ⟨by rfl, ?_⟩) (by assumption) ?_
        rotate_left
        · intro w hSw; (try dsimp only at hSw); go_simp; try with_reducible rfl
        (try simp only [Act.put, List.setIfInBounds_toArray, List.set_cons_zero, List.set_cons_succ])
        refine wpAnyH_take (i := 10) (oi := ⟨some 13, _, _, _, _, _⟩) (v := ?_) rfl (by kernel_rfl) (by kernel_rfl) (by kernel_rfl) (fun _ _ _ h => h) (Or.inl ⟨by rfl, ?_⟩) (by assumption) ?_
        rotate_left
        · intro w hSw; (try dsimp only at hSw); go_simp; try with_reducible rfl
        (try simp only [Act.put, List.setIfInBounds_toArray, List.set_cons_zero, List.set_cons_succ])
        refine wpAnyH_take (i := 1) (oi := ⟨some 4, _, _, _, _, _⟩) (v := ?_) rfl (by kernel_rfl) (by kernel_rfl) (by kernel_rfl) (fun _ _ _ h => h) (Or.inl ⟨by rfl, ?_⟩) (by assumption) ?_
        rotate_left
        · intro w hSw; (try dsimp only at hSw); go_simp; try with_reducible rfl
        (try simp only [Act.put, List.setIfInBounds_toArray, List.set_cons_zero, List.set_cons_succ])
        refine wpAnyH_take (i := 5) (oi := ⟨some 8, _, _, _, _, _⟩) (v := ?_) rfl (by kernel_rfl) (by kernel_rfl) (by kernel_rfl) (fun _ _ _ h => h) (Or.inl ⟨by rfl, ?_⟩) (by assumption) ?_
        rotate_left
        · intro w hSw; (try dsimp only at hSw); go_simp; try with_reducible rfl
        (try simp only [Act.put, List.setIfInBounds_toArray, List.set_cons_zero, List.set_cons_succ])
        refine wpAnyH_take (i := 2) (oi := ⟨some 5, _, _, _, _, _⟩) (v := ?_) rfl (by kernel_rfl) (by kernel_rfl) (by kernel_rfl) (fun _ _ _ h => h) (Or.inl ⟨by rfl, ?_⟩) (by assumption) ?_
        rotate_left
        · intro w hSw; (try dsimp only at hSw); go_simp; try with_reducible rfl
        (try simp only [Act.put, List.setIfInBounds_toArray, List.set_cons_zero, List.set_cons_succ])
        refine wpAnyH_take (i := 6) (oi := ⟨some 9, _, _, _, _, _⟩) (v := ?_) rfl (by kernel_rfl) (by kernel_rfl) (by kernel_rfl) (fun _ _ _ h => h) (Or.inl ⟨by rfl, ?_⟩) (by assumption) ?_
        rotate_left
        · intro w hSw; (try dsimp only at hSw); go_simp; try with_reducible rfl
        (try simp only [Act.put, List.setIfInBounds_toArray, List.set_cons_zero, List.set_cons_succ])
        refine wpAnyH_take (i := 3) (oi := ⟨some 6, _, _, _, _, _⟩) (v := ?_) rfl (by kernel_rfl) (by kernel_rfl) (by kernel_rfl) (fun _ _ _ h => h) (Or.inl ⟨by rfl, ?_⟩) (by assumption) ?_
        rotate_left
        · intro w hSw; (try dsimp only at hSw); go_simp; try with_reducible rfl
        (try simp only [Act.put, List.setIfInBounds_toArray, List.set_cons_zero, List.set_cons_succ])
        refine wpAnyH_take (i := 7) (oi := ⟨some 10, _, _, _, _, _⟩) (v := ?_) rfl (by kernel_rfl) (by kernel_rfl) (by kernel_rfl) (fun _ _ _ h => h) (Or.inl ⟨by rfl, ?_⟩) (by assumption) ?_
        rotate_left
        · intro w hSw; (try dsimp only at hSw); go_simp; try with_reducible rfl
        (try simp only [Act.put, List.setIfInBounds_toArray, List.set_cons_zero, List.set_cons_succ])
        refine wpAnyH_take (i := 8) (oi := ⟨some 11, _, _, _, _, _⟩) (v := ?_) rfl (by kernel_rfl) (by kernel_rfl) (by kernel_rfl) (fun _ _ _ h => h) (Or.inl ⟨by rfl, ?_⟩) (by assumption) ?_
        rotate_left
        · intro w hSw; (try dsimp only at hSw); go_simp; try with_reducible rfl
        (try simp only [Act.put, List.setIfInBounds_toArray, List.set_cons_zero, List.set_cons_succ])
        refine wpAnyH_take (i := 9) (oi := ⟨some 12, _, _, _, _, _⟩) (v := ?_) rfl (by kernel_rfl) (by kernel_rfl) (by kernel_rfl) (fun _ _ _ h => h) (Or.inl ⟨by rfl, ?_⟩) (by assumption) ?_
        rotate_left
        · intro w hSw; (try dsimp only at hSw); go_simp; try with_reducible rfl
        (try simp only [Act.put, List.setIfInBounds_toArray, List.set_cons_zero, List.set_cons_succ])
        refine wpAnyH_done (by kernel_rfl) ?_ _
        clear hHeld
        go_wp2_with (first | go_big_skip | go_big_guard | fail)
        go_meet
        refine ⟨some ⟨bb, oo, none⟩, 0, rfl, rfl, rfl, ?_, ?_⟩
        · exact Rd.mk (Nat.le_refl _) (by unfold maxLen; omega) (by simp) (fun j v hv => by simp [bytesV] at hv)
        · unfold rL rP
          rw [← HN.out, ← HP.out]
          exact hD
      · have hNK : ((N - p : Nat) : Int) = (K : Int) := by rw [HK.out]
        have hNK2 : N - p = K := HK.out.symm
        have hD := hst.drew
        clear hst
        refine wp_region_held_drew (S := (fun w' => (loadVarH 45 ⟨gw, 0, none⟩).run Try.prog w' = .ok (.pointer (some ⟨g, 0, none⟩)) w' ∧ (loadVarH 26 ⟨g, 1, none⟩).run Try.prog w' = .ok (.slice (some ⟨bb, oo, none⟩) N c) w' ∧ (loadVarH 3 ⟨g, 2, none⟩).run Try.prog w' = .ok (.int .i64 (p : Int)) w')) (by kernel_rfl) (by exact ⟨ldOMx hD c1 n1, ldS [] hD rfl, ldS [] hD rfl⟩) (fun hHeld => ?_)
        refine wpAnyH_take (i := 0) (oi := ⟨some 3, _, _, _, _, _⟩) (v := ?_) rfl (by kernel_rfl) (by kernel_rfl) (by kernel_rfl) (fun _ _ _ h => h) (Or.inl ⟨by rfl, ?_⟩) (by assumption) ?_
        rotate_left
        · intro w hSw; (try dsimp only at hSw); go_simp; try with_reducible rfl
        (try simp only [Act.put, List.setIfInBounds_toArray, List.set_cons_zero, List.set_cons_succ])
        refine wpAnyH_take (i := 4) (oi := ⟨some 7, _, _, _, _, _⟩) (v := ?_) rfl (by kernel_rfl) (by kernel_rfl) (by kernel_rfl) (fun _ _ _ h => h) (Or.inl ⟨by rfl, ?_⟩) (by assumption) ?_
        rotate_left
        · intro w hSw; (try dsimp only at hSw); go_simp; try with_reducible rfl
        (try simp only [Act.put, List.setIfInBounds_toArray, List.set_cons_zero, List.set_cons_succ])
        refine wpAnyH_take (i := 10) (oi := ⟨some 13, _, _, _, _, _⟩) (v := ?_) rfl (by kernel_rfl) (by kernel_rfl) (by kernel_rfl) (fun _ _ _ h => h) (Or.inl ⟨by rfl, ?_⟩) (by assumption) ?_
        rotate_left
        · intro w hSw; (try dsimp only at hSw); go_simp; try with_reducible rfl
        (try simp only [Act.put, List.setIfInBounds_toArray, List.set_cons_zero, List.set_cons_succ])
        refine wpAnyH_take (i := 1) (oi := ⟨some 4, _, _, _, _, _⟩) (v := ?_) rfl (by kernel_rfl) (by kernel_rfl) (by kernel_rfl) (fun _ _ _ h => h) (Or.inl ⟨by rfl, ?_⟩) (by assumption) ?_
        rotate_left
        · intro w hSw; (try dsimp only at hSw); go_simp; try with_reducible rfl
        (try simp only [Act.put, List.setIfInBounds_toArray, List.set_cons_zero, List.set_cons_succ])
        refine wpAnyH_take (i := 5) (oi := ⟨some 8, _, _, _, _, _⟩) (v := ?_) rfl (by kernel_rfl) (by kernel_rfl) (by kernel_rfl) (fun _ _ _ h => h) (Or.inl ⟨by rfl, ?_⟩) (by assumption) ?_
        rotate_left
        · intro w hSw; (try dsimp only at hSw); go_simp; try with_reducible rfl
        (try simp only [Act.put, List.setIfInBounds_toArray, List.set_cons_zero, List.set_cons_succ])
        refine wpAnyH_take (i := 2) (oi := ⟨some 5, _, _, _, _, _⟩) (v := ?_) rfl (by kernel_rfl) (by kernel_rfl) (by kernel_rfl) (fun _ _ _ h => h) (Or.inl ⟨by rfl, ?_⟩) (by assumption) ?_
        rotate_left
        · intro w hSw; (try dsimp only at hSw); go_simp; try with_reducible rfl
        (try simp only [Act.put, List.setIfInBounds_toArray, List.set_cons_zero, List.set_cons_succ])
        refine wpAnyH_take (i := 6) (oi := ⟨some 9, _, _, _, _, _⟩) (v := ?_) rfl (by kernel_rfl) (by kernel_rfl) (by kernel_rfl) (fun _ _ _ h => h) (Or.inl ⟨by rfl, ?_⟩) (by assumption) ?_
        rotate_left
        · intro w hSw; (try dsimp only at hSw); go_simp; try with_reducible rfl
        (try simp only [Act.put, List.setIfInBounds_toArray, List.set_cons_zero, List.set_cons_succ])
        refine wpAnyH_take (i := 3) (oi := ⟨some 6, _, _, _, _, _⟩) (v := ?_) rfl (by kernel_rfl) (by kernel_rfl) (by kernel_rfl) (fun _ _ _ h => h) (Or.inl ⟨by rfl, ?_⟩) (by assumption) ?_
        rotate_left
        · intro w hSw; (try dsimp only at hSw); go_simp; try with_reducible rfl
        (try simp only [Act.put, List.setIfInBounds_toArray, List.set_cons_zero, List.set_cons_succ])
        refine wpAnyH_take (i := 7) (oi := ⟨some 10, _, _, _, _, _⟩) (v := ?_) rfl (by kernel_rfl) (by kernel_rfl) (by kernel_rfl) (fun _ _ _ h => h) (Or.inl ⟨by rfl, ?_⟩) (by assumption) ?_
        rotate_left
        · intro w hSw; (try dsimp only at hSw); go_simp; try with_reducible rfl
        (try simp only [Act.put, List.setIfInBounds_toArray, List.set_cons_zero, List.set_cons_succ])
        refine wpAnyH_take (i := 8) (oi := ⟨some 11, _, _, _, _, _⟩) (v := ?_) rfl (by kernel_rfl) (by kernel_rfl) (by kernel_rfl) (fun _ _ _ h => h) (Or.inl ⟨by rfl, ?_⟩) (by assumption) ?_
        rotate_left
        · intro w hSw; (try dsimp only at hSw); go_simp; try with_reducible rfl
        (try simp only [Act.put, List.setIfInBounds_toArray, List.set_cons_zero, List.set_cons_succ])
        refine wpAnyH_take (i := 9) (oi := ⟨some 12, _, _, _, _, _⟩) (v := ?_) rfl (by kernel_rfl) (by kernel_rfl) (by kernel_rfl) (fun _ _ _ h => h) (Or.inl ⟨by rfl, ?_⟩) (by assumption) ?_
        rotate_left
        · intro w hSw; (try dsimp only at hSw); go_simp; try with_reducible rfl
        (try simp only [Act.put, List.setIfInBounds_toArray, List.set_cons_zero, List.set_cons_succ])
        refine wpAnyH_done (by kernel_rfl) ?_ _
        clear hHeld
        go_wp2_with (first | go_big_skip | go_big_guard | fail)
        go_meet
        refine ⟨some ⟨bb, oo + p, none⟩, c - p, rfl, rfl, rfl, ?_, ?_⟩
        · have hq := Rd.rowP hD (.tail _ (.head _))
          have hq2 := Rd.win (m := K) (off' := oo + p) (c' := c - p) p hq rfl (by omega) (by omega)
          rw [List.take_of_length_le (by rw [← HX.out, HXl.out]; omega), ← HX.out] at hq2
          exact hq2
        · unfold rL rP
          rw [← HN.out, ← HP.out]
          exact hD
  case rest =>
    clear hst
    obtain ⟨au, cu, rfl, rfl, rfl, hu, hst⟩ := hcut
    have hKN : K ≤ 100000 := by rw [HK.out]; omega
    have hKp : p + K ≤ 100000 := by rw [HK.out]; omega
    go_wp2_with (first | go_big_skip | go_big_guard | fail)
    go_loopw [13] (fun i wr => ∃ j : Nat, j ≤ K ∧ i = .int .i64 j ∧ Hid (∀ i, i < j → X.getD i 0 = 0) ∧ St wc [] wr []) (fun i _ => K - (intOf i).toNat)
    case atStart => exact ⟨0, Nat.zero_le _, rfl, hid (fun i hi => by omega), St.refl _⟩
    case round =>
      obtain ⟨j, hj, rfl, hz, hL⟩ := hrel
      by_cases hlt : j < K
      · obtain ⟨b, off, rfl, _⟩ := hu.at hlt
        have hx := byte_at hu (k := j) (by omega)
        obtain ⟨x, hxx⟩ : ∃ x, x = X.getD j 0 := ⟨_, rfl⟩
        rw [← hxx] at hx
        have HX0 := hid hx
        have Hxx := hid hxx
        have hjK : (j : Int) < (K : Int) := by omega
        have dj : decide ((j : Int) < (K : Int)) = true := decide_eq_true hjK
        have hst2 := St.of hL hst
        clear hx hxx
        by_cases h0 : x = 0
        · have d0 : ((x.toNat : Int) != 0) = false := by rw [h0]; rfl
          have hz2 := hid (show ∀ i, i < j + 1 → X.getD i 0 = 0 by
            intro i hi
            rcases Nat.lt_succ_iff_lt_or_eq.1 hi with h | h
            · exact hz.out i h
            · rw [h, ← Hxx.out, h0])
          clear h0
          go_wp2_with (first | go_big_skip | go_big_guard | (refine wl_loadE rfl rfl rfl ?_; first | refine ⟨_, Loads.old hL (HX0.out), ?_⟩))
          go_roundw
          case rel => exact ⟨j + 1, by omega, by go_num, hz2, hL⟩
          case measure => simp [intOf]; omega
        · have d0 : ((x.toNat : Int) != 0) = true := by
            have : x.toNat ≠ 0 := fun hh => h0 (UInt8.toNat_inj.1 hh)
            simp; omega
          have hR := hid (show restRR B p = .stop 4 ((p + j : Nat) : Int) by
            unfold restRR
            rw [← HX.out, nz_eq_some (k := j) (by omega) (by rw [← Hxx.out]; exact h0) hz.out])
          have z1 : IntKind.i64.wrap ((p : Int) + (j : Int)) = ((p + j : Nat) : Int) := by rw [IntWalk.i64_in _ (by omega)]; omega
          have hst3 : St w F _ (rP g (.slice ab N c) B s ++ []) := hst2
          unfold rP at hst3
          rw [← HP.out] at hst3
          clear h0
          go_wp2_with (first | go_big_skip | go_big_guard | (refine wl_loadE rfl rfl rfl ?_; first | refine ⟨_, Loads.old hL (HX0.out), ?_⟩ | refine ⟨_, Loads.at [] hst3 rfl, ?_⟩) | (refine wl_loadE rfl rfl rfl ?_; refine ⟨_, Loads.oldM hst2 c1 n1, ?_⟩) | (refine wl_buildS (cs := [.int .i64 4, .int .i64 ((p + j : Nat) : Int)]) rfl rfl (by kernel_rfl) ?_))
          refine ⟨rfl, ?_⟩
          rw [hR.out]
          exact ⟨by unfold stopE; push_cast; rfl, by rw [← HN.out]; exact hst2⟩
      · have hjk : j = K := by omega
        subst hjk
        have dj : decide ((j : Int) < (j : Int)) = false := by simp
        have hR := hid (show restRR B p = .ok () B.length by
          unfold restRR
          rw [← HX.out, nz_eq_none (fun i hi => hz.out i (by omega))])
        have hst2 := St.of hL hst
        have hst3 : St w F _ (rP g (.slice ab N c) B s ++ []) := hst2
        unfold rP at hst3
        clear hst2 hst
        go_wp2_with (first | go_big_skip | go_big_guard | fail)
        have hD := hst3.drew
        clear hst3
        refine wp_region_held_drew (S := (fun w' => (loadVarH 45 ⟨gw, 0, none⟩).run Try.prog w' = .ok (.pointer (some ⟨g, 0, none⟩)) w' ∧ (loadVarH 26 ⟨g, 1, none⟩).run Try.prog w' = .ok (.slice ab N c) w')) (by kernel_rfl) (by exact ⟨ldOMx hD c1 n1, ldS [] hD rfl⟩) (fun hHeld => ?_)
        refine wpAnyH_take (i := 0) (oi := ⟨some 29, _, _, _, _, _⟩) (v := ?_) rfl (by kernel_rfl) (by kernel_rfl) (by kernel_rfl) (fun _ _ _ h => h) (Or.inl ⟨by rfl, ?_⟩) (by assumption) ?_
        rotate_left
        · intro w hSw; (try dsimp only at hSw); go_simp; try with_reducible rfl
        (try simp only [Act.put, List.setIfInBounds_toArray, List.set_cons_zero, List.set_cons_succ])
        refine wpAnyH_take (i := 1) (oi := ⟨some 30, _, _, _, _, _⟩) (v := ?_) rfl (by kernel_rfl) (by kernel_rfl) (by kernel_rfl) (fun _ _ _ h => h) (Or.inl ⟨by rfl, ?_⟩) (by assumption) ?_
        rotate_left
        · intro w hSw; (try dsimp only at hSw); go_simp; try with_reducible rfl
        (try simp only [Act.put, List.setIfInBounds_toArray, List.set_cons_zero, List.set_cons_succ])
        refine wpAnyH_take (i := 2) (oi := ⟨some 31, _, _, _, _, _⟩) (v := ?_) rfl (by kernel_rfl) (by kernel_rfl) (by kernel_rfl) (fun _ _ _ h => h) (Or.inl ⟨by rfl, ?_⟩) (by assumption) ?_
        rotate_left
        · intro w hSw; (try dsimp only at hSw); go_simp; try with_reducible rfl
        (try simp only [Act.put, List.setIfInBounds_toArray, List.set_cons_zero, List.set_cons_succ])
        refine wpAnyH_take (i := 3) (oi := ⟨some 32, _, _, _, _, _⟩) (v := ?_) rfl (by kernel_rfl) (by kernel_rfl) (by kernel_rfl) (fun _ _ _ h => h) (Or.inl ⟨by rfl, ?_⟩) (by assumption) ?_
        rotate_left
        · intro w hSw; (try dsimp only at hSw); go_simp; try with_reducible rfl
        (try simp only [Act.put, List.setIfInBounds_toArray, List.set_cons_zero, List.set_cons_succ])
        refine wpAnyH_take (i := 4) (oi := ⟨some 33, _, _, _, _, _⟩) (v := ?_) rfl (by kernel_rfl) (by kernel_rfl) (by kernel_rfl) (fun _ _ _ h => h) (Or.inl ⟨by rfl, ?_⟩) (by assumption) ?_
        rotate_left
        · intro w hSw; (try dsimp only at hSw); go_simp; try with_reducible rfl
        (try simp only [Act.put, List.setIfInBounds_toArray, List.set_cons_zero, List.set_cons_succ])
        refine wpAnyH_take (i := 5) (oi := ⟨some 34, _, _, _, _, _⟩) (v := ?_) rfl (by kernel_rfl) (by kernel_rfl) (by kernel_rfl) (fun _ _ _ h => h) (Or.inl ⟨by rfl, ?_⟩) (by assumption) ?_
        rotate_left
        · intro w hSw; (try dsimp only at hSw); go_simp; try with_reducible rfl
        (try simp only [Act.put, List.setIfInBounds_toArray, List.set_cons_zero, List.set_cons_succ])
        refine wpAnyH_take (i := 6) (oi := ⟨some 35, _, _, _, _, _⟩) (v := ?_) rfl (by kernel_rfl) (by kernel_rfl) (by kernel_rfl) (fun _ _ _ h => h) (Or.inl ⟨by rfl, ?_⟩) (by assumption) ?_
        rotate_left
        · intro w hSw; (try dsimp only at hSw); go_simp; try with_reducible rfl
        (try simp only [Act.put, List.setIfInBounds_toArray, List.set_cons_zero, List.set_cons_succ])
        refine wpAnyH_take (i := 7) (oi := ⟨some 36, _, _, _, _, _⟩) (v := ?_) rfl (by kernel_rfl) (by kernel_rfl) (by kernel_rfl) (fun _ _ _ h => h) (Or.inl ⟨by rfl, ?_⟩) (by assumption) ?_
        rotate_left
        · intro w hSw; (try dsimp only at hSw); go_simp; try with_reducible rfl
        (try simp only [Act.put, List.setIfInBounds_toArray, List.set_cons_zero, List.set_cons_succ])
        refine wpAnyH_ready (rs := [8]) (by kernel_rfl) (by simp) ?_
        refine (AllReadyH.cons (o := ⟨none, _, _, _, _, _⟩) rfl (fun K hK => ?_) AllReadyH.nil)
        rw [if_pos (by rfl)]
        refine ow_storeS (off := 2) (v := .int .i64 (N : Int)) [] hD rfl rfl rfl inferInstance rfl rfl (by show (3 : Nat) ≤ 5; decide) ?_
        intro _ hN2
        refine hK.out _ _ ?_ (fun hHeld => ?_)
        · exact ⟨ldOMx hN2 c1 n1, ldS [] hN2 rfl⟩
        clear hK K
        (try simp only [Act.put, List.setIfInBounds_toArray, List.set_cons_zero, List.set_cons_succ])
        refine wpAnyH_done (by kernel_rfl) ?_ _
        clear hHeld
        go_wp2_with (first | go_big_skip | go_big_guard | fail)
        go_end0
        rw [hR.out]
        refine ⟨rfl, ?_⟩
        unfold rL rP
        rw [← HN.out] at hN2 ⊢
        exact hN2
end Go.Proofs.Ytlgioloanjjndaa
