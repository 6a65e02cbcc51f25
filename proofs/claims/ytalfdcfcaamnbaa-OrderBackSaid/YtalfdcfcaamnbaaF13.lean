import Derived.Test.YtalfdcfcaamnbaaF12
namespace Go.Proofs.Ytalfdcfcaamnbaa
set_option linter.unusedVariables false
set_option linter.unusedSimpArgs false
open Go.RowKit Hp
attribute [local irreducible] Go.Calls
set_option maxRecDepth 100000
set_option maxHeartbeats 4000000
attribute [local go_sem ↓] loadedInt loadedRp loadedSl
theorem text_tail (B : List UInt8) (p k n : Nat) (hn : n ≤ k) : ((B.drop p).take (1 + k)).drop (1 + n) = (B.drop (p + 1 + n)).take (k - n) := by
  rw [List.drop_take, List.drop_drop, show 1 + k - (1 + n) = k - n by omega, show p + (1 + n) = p + 1 + n by omega]
theorem text_mid (B : List UInt8) (p k n : Nat) (hn : n ≤ k) : (((B.drop p).take (1 + k)).drop 1).take n = (B.drop (p + 1)).take n := by
  rw [List.drop_take, List.drop_drop, List.take_take, Nat.min_eq_left (by omega)]
theorem text_head (B : List UInt8) (p k : Nat) (h : p < B.length) : ((B.drop p).take (1 + k)).getD 0 0 = B.getD p 0 := by
  rw [List.drop_eq_getElem_cons h, Nat.add_comm 1 k, List.take_succ_cons]
  simp [List.getD, h]
theorem rtext_arg (g : Nat) (bv : Value) (B : List UInt8) (s : RS) (gs gw go : Nat) (most : Int) (F : List Nat) (w : World) (h : St w F w (rL g bv B s [.blk go 9 [.string ⟨#[]⟩]])) (hp : s.pos ≤ B.length) (hB : B.length ≤ 100000)
    (c0 : w.cell? ⟨gs, 0, none⟩ = some (.int .i64 most)) (c1 : w.cell? ⟨gw, 0, none⟩ = some (.pointer (some ⟨g, 0, none⟩))) (n0 : gs ∉ F) (n1 : gw ∉ F) (h1 : most < 0 ∨ 255 < most) :
    Calls Try.prog 96 #[.pointer (some ⟨gs, 0, none⟩), .pointer (some ⟨gw, 0, none⟩), .pointer (some ⟨go, 0, none⟩)] w
      (ReadP w F 115 (textRR B s.pos most) (rL g bv B s [.blk go 9 [.string ⟨#[]⟩]]) (fun v p w' => St w F w' (rL g bv B ⟨p, s.e, s.fa⟩ [.blk go 9 [.string ⟨v.toArray⟩]]))) := by
  have hR : textRR B s.pos most = .stop 2 s.pos := by unfold textRR; rw [if_pos h1]
  rw [hR]
  clear hR
  have hst := h
  rcases h1 with h1 | h1
  · have d1 : decide (most < 0) = true := decide_eq_true h1
    go_enter Try.func96, Try.ntmps96
    go_wp2_with (first | go_big_skip | go_big_guard | (refine wl_loadE rfl rfl rfl ?_; first | refine ⟨_, Loads.oldM hst c0 n0, ?_⟩ | refine ⟨_, Loads.oldM hst c1 n1, ?_⟩ | refine ⟨_, Loads.at [] hst rfl, ?_⟩) | (refine wl_buildS (cs := [.int .i64 2, .int .i64 (s.pos : Int)]) rfl rfl (by kernel_rfl) ?_))
    exact ⟨rfl, rfl, hst⟩
  · have d1 : decide (most < 0) = false := decide_eq_false (by omega)
    have d2 : decide (255 < most) = true := decide_eq_true h1
    go_enter Try.func96, Try.ntmps96
    go_wp2_with (first | go_big_skip | go_big_guard | (refine wl_loadE rfl rfl rfl ?_; first | refine ⟨_, Loads.oldM hst c0 n0, ?_⟩ | refine ⟨_, Loads.oldM hst c1 n1, ?_⟩ | refine ⟨_, Loads.at [] hst rfl, ?_⟩) | (refine wl_buildS (cs := [.int .i64 2, .int .i64 (s.pos : Int)]) rfl rfl (by kernel_rfl) ?_))
    exact ⟨rfl, rfl, hst⟩
theorem rtext_short (g : Nat) (bv : Value) (B : List UInt8) (s : RS) (gs gw go : Nat) (most : Int) (F : List Nat) (w : World) (h : St w F w (rL g bv B s [.blk go 9 [.string ⟨#[]⟩]])) (hp : s.pos ≤ B.length) (hB : B.length ≤ 100000)
    (c0 : w.cell? ⟨gs, 0, none⟩ = some (.int .i64 most)) (c1 : w.cell? ⟨gw, 0, none⟩ = some (.pointer (some ⟨g, 0, none⟩))) (n0 : gs ∉ F) (n1 : gw ∉ F) (h1 : ¬ (most < 0 ∨ 255 < most)) (h2 : (B.length : Int) - s.pos < 1 + most) :
    Calls Try.prog 96 #[.pointer (some ⟨gs, 0, none⟩), .pointer (some ⟨gw, 0, none⟩), .pointer (some ⟨go, 0, none⟩)] w
      (ReadP w F 115 (textRR B s.pos most) (rL g bv B s [.blk go 9 [.string ⟨#[]⟩]]) (fun v p w' => St w F w' (rL g bv B ⟨p, s.e, s.fa⟩ [.blk go 9 [.string ⟨v.toArray⟩]]))) := by
  have hR : textRR B s.pos most = .stop 4 B.length := by unfold textRR; rw [if_neg h1, if_pos h2]
  rw [hR]
  clear hR
  obtain ⟨k, rfl⟩ : ∃ k : Nat, most = (k : Int) := ⟨most.toNat, by omega⟩
  have hk7 : k ≤ 255 := by omega
  have d1 : decide ((k : Int) < 0) = false := decide_eq_false (by omega)
  have d2 : decide (255 < (k : Int)) = false := decide_eq_false (by omega)
  have z0 : IntKind.i64.wrap (1 + (k : Int)) = ((1 + k : Nat) : Int) := by rw [IntWalk.i64_in _ (by omega)]; omega
  have hst := h
  have H2 := hid h2
  clear h1 h2
  go_enter Try.func96, Try.ntmps96
  go_wp2_with (first | go_big_skip | go_big_guard | (refine wl_loadE rfl rfl rfl ?_; first | refine ⟨_, Loads.oldM hst c0 n0, ?_⟩ | refine ⟨_, Loads.oldM hst c1 n1, ?_⟩ | refine ⟨_, Loads.at [] hst rfl, ?_⟩) | (go_at_call 94; refine (need_no g bv B s _ (rL_sub hst) (1 + k) hp (by omega) (by have := H2.out; omega)).mono ?_; rintro _ _ ⟨he, h4⟩; unfold stopE at he; subst he; have hst2 := St.call0 hst h4; clear h4 hst))
  exact ⟨rfl, rfl, hst2⟩
theorem rtext_long (g : Nat) (bv : Value) (B : List UInt8) (s : RS) (gs gw go : Nat) (most : Int) (F : List Nat) (w : World) (h : St w F w (rL g bv B s [.blk go 9 [.string ⟨#[]⟩]])) (hp : s.pos ≤ B.length) (hB : B.length ≤ 100000)
    (c0 : w.cell? ⟨gs, 0, none⟩ = some (.int .i64 most)) (c1 : w.cell? ⟨gw, 0, none⟩ = some (.pointer (some ⟨g, 0, none⟩))) (n0 : gs ∉ F) (n1 : gw ∉ F) (h1 : ¬ (most < 0 ∨ 255 < most)) (h2 : ¬ (B.length : Int) - s.pos < 1 + most) (h3 : most < (B.getD s.pos 0).toNat) :
    Calls Try.prog 96 #[.pointer (some ⟨gs, 0, none⟩), .pointer (some ⟨gw, 0, none⟩), .pointer (some ⟨go, 0, none⟩)] w
      (ReadP w F 115 (textRR B s.pos most) (rL g bv B s [.blk go 9 [.string ⟨#[]⟩]]) (fun v p w' => St w F w' (rL g bv B ⟨p, s.e, s.fa⟩ [.blk go 9 [.string ⟨v.toArray⟩]]))) := by
  have hR : textRR B s.pos most = .stop 3 s.pos := by unfold textRR; rw [if_neg h1, if_neg h2, if_pos h3]
  rw [hR]
  clear hR
  obtain ⟨k, rfl⟩ : ∃ k : Nat, most = (k : Int) := ⟨most.toNat, by omega⟩
  have hk7 : k ≤ 255 := by omega
  have d1 : decide ((k : Int) < 0) = false := decide_eq_false (by omega)
  have d2 : decide (255 < (k : Int)) = false := decide_eq_false (by omega)
  have z0 : IntKind.i64.wrap (1 + (k : Int)) = ((1 + k : Nat) : Int) := by rw [IntWalk.i64_in _ (by omega)]; omega
  have hst := h
  obtain ⟨Y, hY⟩ : ∃ Y, Y = (B.drop s.pos).take (1 + k) := ⟨_, rfl⟩
  have hYl : Y.length = 1 + k := by rw [hY, List.length_take, List.length_drop]; omega
  obtain ⟨x, hx⟩ : ∃ x, x = B.getD s.pos 0 := ⟨_, rfl⟩
  have hx0 : Y.getD 0 0 = x := by rw [hY, hx, text_head _ _ _ (by omega)]
  obtain ⟨n, hn⟩ : ∃ n, n = x.toNat := ⟨_, rfl⟩
  rw [← hx, ← hn] at h3
  have HY := hid hY
  have HYl := hid hYl
  have H2 := hid h2
  have Hx0 := hid hx0
  have Hxx := hid hx
  have Hnx := hid hn
  have z4 : IntKind.i64.wrap ((x.toNat : Nat) : Int) = (n : Int) := by rw [← hn]; exact IntWalk.i64_in _ (by have := x.toNat_lt; omega)
  have hnx : (x.toNat : Int) = (n : Int) := by rw [hn]
  have hn255 : n ≤ 255 := by have := x.toNat_lt; omega
  clear h1 h2 hY hYl hx hx0 hn
  have d3 : decide ((k : Int) < (n : Int)) = true := decide_eq_true h3
  have d3n : decide (k < n) = true := decide_eq_true (by omega)
  go_enter Try.func96, Try.ntmps96
  go_wp2_with (first | go_big_skip | go_big_guard | (go_at_call 94; refine (need_any g bv B s _ (rL_sub hst) (1 + k) hp (by omega) (by have := H2.out; omega)).mono ?_; rw [← HY.out]; rintro _ w2 ⟨u, rfl, h4, hu⟩; have hst2 := St.call0 hst h4; clear h4 hst; obtain ⟨ao, m, c, rfl, hm⟩ := Rd.form hu; subst hm; obtain ⟨b, off, rfl, _⟩ := hu.at (k := 0) (by omega); have hb0 := byte_at hu (k := 0) (by rw [HYl.out]; omega); rw [Hx0.out] at hb0; have HB0 := hid hb0; clear hb0; have hcc := hu.bd.1; have hcc2 := hu.bd.2.1) | (refine wl_loadE rfl rfl rfl ?_; first | refine ⟨_, Loads.oldM hst c0 n0, ?_⟩ | refine ⟨_, Loads.oldM hst c1 n1, ?_⟩ | refine ⟨_, Loads.at [] hst rfl, ?_⟩) | (refine wl_loadE rfl rfl rfl ?_; first | refine ⟨_, Loads.oldM hst2 c0 n0, ?_⟩ | refine ⟨_, Loads.oldM hst2 c1 n1, ?_⟩ | refine ⟨_, Loads.at [] hst2 rfl, ?_⟩) | (refine wl_loadE rfl rfl rfl ?_; refine ⟨_, Loads.cell (TyS.out) HB0.out, ?_⟩) | (refine wl_buildS (cs := [.int .i64 3, .int .i64 (s.pos : Int)]) rfl rfl (by kernel_rfl) ?_))
  exact ⟨rfl, rfl, hst2⟩
theorem rtext_ok (g : Nat) (bv : Value) (B : List UInt8) (s : RS) (gs gw go : Nat) (most : Int) (F : List Nat) (w : World) (h : St w F w (rL g bv B s [.blk go 9 [.string ⟨#[]⟩]])) (hp : s.pos ≤ B.length) (hB : B.length ≤ 100000)
    (c0 : w.cell? ⟨gs, 0, none⟩ = some (.int .i64 most)) (c1 : w.cell? ⟨gw, 0, none⟩ = some (.pointer (some ⟨g, 0, none⟩))) (n0 : gs ∉ F) (n1 : gw ∉ F) (h1 : ¬ (most < 0 ∨ 255 < most)) (h2 : ¬ (B.length : Int) - s.pos < 1 + most) (h3 : ¬ most < (B.getD s.pos 0).toNat) :
    Calls Try.prog 96 #[.pointer (some ⟨gs, 0, none⟩), .pointer (some ⟨gw, 0, none⟩), .pointer (some ⟨go, 0, none⟩)] w
      (ReadP w F 115 (textRR B s.pos most) (rL g bv B s [.blk go 9 [.string ⟨#[]⟩]]) (fun v p w' => St w F w' (rL g bv B ⟨p, s.e, s.fa⟩ [.blk go 9 [.string ⟨v.toArray⟩]]))) := by
  have hR : textRR B s.pos most = (match nz ((B.drop (s.pos + 1 + (B.getD s.pos 0).toNat)).take (most.toNat - (B.getD s.pos 0).toNat)) with
    | some i => .stop 4 (s.pos + 1 + (B.getD s.pos 0).toNat + i : Nat)
    | none => .ok ((B.drop (s.pos + 1)).take (B.getD s.pos 0).toNat) (s.pos + 1 + most.toNat)) := by
    conv => lhs; unfold textRR
    rw [if_neg h1, if_neg h2, if_neg h3]
    rfl
  obtain ⟨k, rfl⟩ : ∃ k : Nat, most = (k : Int) := ⟨most.toNat, by omega⟩
  have hk7 : k ≤ 255 := by omega
  have d1 : decide ((k : Int) < 0) = false := decide_eq_false (by omega)
  have d2 : decide (255 < (k : Int)) = false := decide_eq_false (by omega)
  have z0 : IntKind.i64.wrap (1 + (k : Int)) = ((1 + k : Nat) : Int) := by rw [IntWalk.i64_in _ (by omega)]; omega
  have hst := h
  obtain ⟨Y, hY⟩ : ∃ Y, Y = (B.drop s.pos).take (1 + k) := ⟨_, rfl⟩
  have hYl : Y.length = 1 + k := by rw [hY, List.length_take, List.length_drop]; omega
  obtain ⟨x, hx⟩ : ∃ x, x = B.getD s.pos 0 := ⟨_, rfl⟩
  have hx0 : Y.getD 0 0 = x := by rw [hY, hx, text_head _ _ _ (by omega)]
  obtain ⟨n, hn⟩ : ∃ n, n = x.toNat := ⟨_, rfl⟩
  rw [← hx, ← hn] at h3
  have HY := hid hY
  have HYl := hid hYl
  have H2 := hid h2
  have Hx0 := hid hx0
  have Hxx := hid hx
  have Hnx := hid hn
  have z4 : IntKind.i64.wrap ((x.toNat : Nat) : Int) = (n : Int) := by rw [← hn]; exact IntWalk.i64_in _ (by have := x.toNat_lt; omega)
  have hnx : (x.toNat : Int) = (n : Int) := by rw [hn]
  have hn255 : n ≤ 255 := by have := x.toNat_lt; omega
  clear h1 h2 hY hYl hx hx0 hn
  have hnk : n ≤ k := by omega
  rw [Int.toNat_natCast, ← Hxx.out, ← Hnx.out] at hR
  obtain ⟨X, hX⟩ : ∃ X, X = (B.drop (s.pos + 1 + n)).take (k - n) := ⟨_, rfl⟩
  rw [← hX] at hR
  have HX := hid (show Y.drop (1 + n) = X by rw [HY.out, text_tail _ _ _ _ hnk, hX])
  have HT := hid (show (Y.drop 1).take n = (B.drop (s.pos + 1)).take n by rw [HY.out, text_mid _ _ _ _ hnk])
  obtain ⟨t, ht⟩ : ∃ t, t = (B.drop (s.pos + 1)).take n := ⟨_, rfl⟩
  rw [← ht] at hR HT
  have HR := hid hR
  have hXl : X.length = k - n := by rw [← HX.out, List.length_drop, HYl.out]; omega
  obtain ⟨K, hK⟩ : ∃ K, K = k - n := ⟨_, rfl⟩
  rw [← hK] at hXl
  have HK := hid hK
  have HXl := hid hXl
  have hKk : K + n = k := by omega
  have d3 : decide ((k : Int) < (n : Int)) = false := decide_eq_false (by omega)
  have d3n : decide (k < n) = false := decide_eq_false (by omega)
  have z5 : IntKind.i64.wrap (1 + (n : Int)) = ((1 + n : Nat) : Int) := by rw [IntWalk.i64_in _ (by omega)]; omega
  have e5 : ((1 + n : Nat) : Int).toNat = 1 + n := by omega
  have e6 : (0 : Int) ≤ ((1 + n : Nat) : Int) := by omega
  have e7 : ((1 + n : Nat) : Int) ≤ ((1 + k : Nat) : Int) := by omega
  have e8 : 1 + k - (1 + n) = K := by omega
  clear hR hX hK ht hXl
  go_enter Try.func96, Try.ntmps96
  go_upto_region 6 with (first | go_big_skip | go_big_guard | (go_at_call 94; refine (need_any g bv B s _ (rL_sub hst) (1 + k) hp (by omega) (by have := H2.out; omega)).mono ?_; rw [← HY.out]; rintro _ w2 ⟨u, rfl, h4, hu⟩; have hst2 := St.call0 hst h4; clear h4 hst; obtain ⟨ao, m, c, rfl, hm⟩ := Rd.form hu; subst hm; obtain ⟨b, off, rfl, _⟩ := hu.at (k := 0) (by omega); have hb0 := byte_at hu (k := 0) (by rw [HYl.out]; omega); rw [Hx0.out] at hb0; have HB0 := hid hb0; clear hb0; have hcc := hu.bd.1; have hcc2 := hu.bd.2.1) | (refine wl_loadE rfl rfl rfl ?_; first | refine ⟨_, Loads.oldM hst c0 n0, ?_⟩ | refine ⟨_, Loads.oldM hst c1 n1, ?_⟩ | refine ⟨_, Loads.at [] hst rfl, ?_⟩) | (refine wl_loadE rfl rfl rfl ?_; first | refine ⟨_, Loads.oldM hst2 c0 n0, ?_⟩ | refine ⟨_, Loads.oldM hst2 c1 n1, ?_⟩ | refine ⟨_, Loads.at [] hst2 rfl, ?_⟩) | (refine wl_loadE rfl rfl rfl ?_; refine ⟨_, Loads.cell (TyS.out) HB0.out, ?_⟩))
  (try simp only [Act.put, List.setIfInBounds_toArray, List.set_cons_zero, List.set_cons_succ])
  go_cut [39, 40, 41] (fun a b2 c2 wx => ∃ au cu, a = .slice au K cu ∧ b2 = .int .i64 K ∧ c2 = .int .i64 0 ∧ Rd wx (.slice au K cu) 1 K (bytesV X) ∧ St w2 [] wx [])
  case first =>
    by_cases hcn : c = 1 + n
    · have hK0 : K = 0 := by omega
      have hX0 : X = [] := List.eq_nil_of_length_eq_zero (by rw [HXl.out]; exact hK0)
      have hcz : c - (1 + n) = 0 := by omega
      go_wp2_with (first | go_big_skip | go_big_guard | fail)
      go_meet
      refine ⟨some ⟨b, off, none⟩, 0, by congr 1 <;> omega, by rw [hK0]; rfl, rfl, ?_, St.refl _⟩
      rw [hK0, hX0]
      exact Rd.mk (Nat.le_refl _) (by unfold maxLen; omega) (by simp) (fun j v hv => by simp [bytesV] at hv)
    · go_wp2_with (first | go_big_skip | go_big_guard | fail)
      go_meet
      refine ⟨some ⟨b, off + (1 + n), none⟩, c - (1 + n), by rw [e8], rfl, rfl, ?_, St.refl _⟩
      have hq2 := Rd.win (m := K) (off' := off + (1 + n)) (c' := c - (1 + n)) (1 + n) hu rfl (by omega) (by omega)
      rw [HX.out, List.take_of_length_le (by rw [HXl.out]; exact Nat.le_refl _)] at hq2
      exact hq2
  case rest =>
    obtain ⟨au, cu, rfl, rfl, rfl, hq, hL0⟩ := hcut
    have hpk : s.pos + 1 + k ≤ 100000 := by have := H2.out; omega
    go_wp2_with (first | go_big_skip | go_big_guard | fail)
    go_loopw [41] (fun i wr => ∃ j : Nat, j ≤ K ∧ i = .int .i64 j ∧ Hid (∀ i, i < j → X.getD i 0 = 0) ∧ St wc [] wr []) (fun i _ => K - (intOf i).toNat)
    case atStart => exact ⟨0, Nat.zero_le _, rfl, hid (fun i hi => by omega), St.refl _⟩
    case round =>
      obtain ⟨j, hj, rfl, hz, hL⟩ := hrel
      have hst3 := St.of hL (St.of hL0 hst2)
      by_cases hlt : j < K
      · obtain ⟨b9, off9, rfl, _⟩ := hq.at hlt
        have hx := byte_at hq (k := j) (by rw [HXl.out]; exact hlt)
        obtain ⟨y, hyy⟩ : ∃ y, y = X.getD j 0 := ⟨_, rfl⟩
        rw [← hyy] at hx
        have HX0 := hid hx
        have Hyy := hid hyy
        have hjK : (j : Int) < (K : Int) := by omega
        have dj : decide ((j : Int) < (K : Int)) = true := decide_eq_true hjK
        clear hx hyy
        by_cases h0 : y = 0
        · have d0 : ((y.toNat : Int) != 0) = false := by rw [h0]; rfl
          have hz2 := hid (show ∀ i, i < j + 1 → X.getD i 0 = 0 by
            intro i hi
            rcases Nat.lt_succ_iff_lt_or_eq.1 hi with h | h
            · exact hz.out i h
            · rw [h, ← Hyy.out, h0])
          clear h0
          go_wp2_with (first | go_big_skip | go_big_guard | (refine wl_loadE rfl rfl rfl ?_; first | refine ⟨_, Loads.old hL (HX0.out), ?_⟩))
          go_roundw
          case rel => exact ⟨j + 1, by omega, by go_num, hz2, hL⟩
          case measure => simp [intOf]; omega
        · have d0 : ((y.toNat : Int) != 0) = true := by
            have : y.toNat ≠ 0 := fun hh => h0 (UInt8.toNat_inj.1 hh)
            simp; omega
          have hR := hid (show textRR B s.pos k = .stop 4 ((s.pos + 1 + n + j : Nat) : Int) by
            rw [HR.out, nz_eq_some (k := j) (by rw [HXl.out]; exact hlt) (by rw [← Hyy.out]; exact h0) hz.out])
          have z1 : IntKind.i64.wrap ((s.pos : Int) + 1) = ((s.pos + 1 : Nat) : Int) := by rw [IntWalk.i64_in _ (by omega)]; omega
          have z2 : IntKind.i64.wrap (((s.pos + 1 : Nat) : Int) + (n : Int)) = ((s.pos + 1 + n : Nat) : Int) := by rw [IntWalk.i64_in _ (by omega)]; omega
          have z3 : IntKind.i64.wrap (((s.pos + 1 + n : Nat) : Int) + (j : Int)) = ((s.pos + 1 + n + j : Nat) : Int) := by rw [IntWalk.i64_in _ (by omega)]; omega
          have z2' : IntKind.i64.wrap ((s.pos : Int) + 1 + (n : Int)) = ((s.pos + 1 + n : Nat) : Int) := by rw [IntWalk.i64_in _ (by omega)]; omega
          have z3' : IntKind.i64.wrap ((s.pos : Int) + 1 + (n : Int) + (j : Int)) = ((s.pos + 1 + n + j : Nat) : Int) := by rw [IntWalk.i64_in _ (by omega)]; omega
          have hst4 : St w F _ (rP g bv B s ++ [.blk go 9 [.string ⟨#[]⟩]]) := hst3
          unfold rP at hst4
          clear h0
          go_wp2_with (first | go_big_skip | go_big_guard | (refine wl_loadE rfl rfl rfl ?_; first | refine ⟨_, Loads.old hL (HX0.out), ?_⟩ | refine ⟨_, Loads.at [] hst4 rfl, ?_⟩) | (refine wl_loadE rfl rfl rfl ?_; refine ⟨_, Loads.oldM hst3 c1 n1, ?_⟩) | (refine wl_buildS (cs := [.int .i64 4, .int .i64 ((s.pos + 1 + n + j : Nat) : Int)]) rfl rfl (by kernel_rfl) ?_))
          refine ⟨rfl, ?_⟩
          rw [hR.out]
          exact ⟨by unfold stopE; push_cast; rfl, hst3⟩
      · have hjk : j = K := by omega
        subst hjk
        have dj : decide ((j : Int) < (j : Int)) = false := by simp
        have hR := hid (show textRR B s.pos k = .ok t (s.pos + 1 + k) by
          rw [HR.out, nz_eq_none (fun i hi => hz.out i (by rw [HXl.out] at hi; exact hi))])
        have hL2 := (St.of hL hL0).drew
        have hst4 : St w F _ (rP g bv B s ++ [.blk go 9 [.string ⟨#[]⟩]]) := hst3
        unfold rP at hst4
        have z1 : IntKind.i64.wrap ((s.pos : Int) + 1) = ((s.pos + 1 : Nat) : Int) := by rw [IntWalk.i64_in _ (by omega)]; omega
        have z2 : IntKind.i64.wrap (((s.pos + 1 : Nat) : Int) + (k : Int)) = ((s.pos + 1 + k : Nat) : Int) := by rw [IntWalk.i64_in _ (by omega)]; omega
        have z2' : IntKind.i64.wrap ((s.pos : Int) + 1 + (k : Int)) = ((s.pos + 1 + k : Nat) : Int) := by rw [IntWalk.i64_in _ (by omega)]; omega
        have g1 : (1 : Int) ≤ ((1 + n : Nat) : Int) := by omega
        have g2 : ((1 + n : Nat) : Int) ≤ (c : Int) := by omega
        have g3 : 1 + n - 1 = n := by omega
        have y1 : (0 : Int) ≤ 1 + (n : Int) := by omega
        have y2 : 1 + (n : Int) ≤ (c : Int) := by omega
        have y3 : max (1 + (n : Int)) 0 = 1 + (n : Int) := by omega
        have y4 : (1 : Int) ≤ 1 + (n : Int) := by omega
        have y5 : (1 + (n : Int)).toNat = 1 + n := by omega
        have zw : IntKind.i64.wrap 1 = 1 := rfl
        clear hst2 hst3 hz
        go_wp2_with (first | go_big_skip | go_big_guard | fail)
        by_cases hc1 : c = 1
        · have hn0 : n = 0 := by omega
          have ht0 : t = [] := by rw [← HT.out, hn0]; rfl
          have e10 : ((1 + n : Nat) : Int).toNat = 1 := by omega
          have hD := hst4.drew
          clear hst4
          refine wp_region_held_drew (S := (fun w' => (loadVarH 99 ⟨gw, 0, none⟩).run Try.prog w' = .ok (.pointer (some ⟨g, 0, none⟩)) w' ∧ (loadVarH 3 ⟨gs, 0, none⟩).run Try.prog w' = .ok (.int .i64 (k : Int)) w')) (by kernel_rfl) (by exact ⟨ldOMx hD c1 n1, ldOMx hD c0 n0⟩) (fun hHeld => ?_)
          refine wpAnyH_take (i := 0) (oi := ⟨some 60, _, _, _, _, _⟩) (v := ?_) rfl (by kernel_rfl) (by kernel_rfl) (by kernel_rfl) (fun _ _ _ h => h) (Or.inl ⟨by rfl, ?_⟩) (by assumption) ?_
          rotate_left
          · intro w hSw; (try dsimp only at hSw); go_simp; try with_reducible rfl
          (try simp only [Act.put, List.setIfInBounds_toArray, List.set_cons_zero, List.set_cons_succ])
          refine wpAnyH_take (i := 1) (oi := ⟨some 61, _, _, _, _, _⟩) (v := ?_) rfl (by kernel_rfl) (by kernel_rfl) (by kernel_rfl) (fun _ _ _ h => h) (Or.inl ⟨by rfl, ?_⟩) (by assumption) ?_
          rotate_left
          · intro w hSw; (try dsimp only at hSw); go_simp; try with_reducible rfl
          (try simp only [Act.put, List.setIfInBounds_toArray, List.set_cons_zero, List.set_cons_succ])
          refine wpAnyH_take (i := 2) (oi := ⟨some 62, _, _, _, _, _⟩) (v := ?_) rfl (by kernel_rfl) (by kernel_rfl) (by kernel_rfl) (fun _ _ _ h => h) (Or.inl ⟨by rfl, ?_⟩) (by assumption) ?_
          rotate_left
          · intro w hSw; (try dsimp only at hSw); go_simp; try with_reducible rfl
          (try simp only [Act.put, List.setIfInBounds_toArray, List.set_cons_zero, List.set_cons_succ])
          refine wpAnyH_take (i := 6) (oi := ⟨some 66, _, _, _, _, _⟩) (v := ?_) rfl (by kernel_rfl) (by kernel_rfl) (by kernel_rfl) (fun _ _ _ h => h) (Or.inl ⟨by rfl, ?_⟩) (by assumption) ?_
          rotate_left
          · intro w hSw; (try dsimp only at hSw); go_simp; try with_reducible rfl
          (try simp only [Act.put, List.setIfInBounds_toArray, List.set_cons_zero, List.set_cons_succ])
          refine wpAnyH_take (i := 11) (oi := ⟨some 71, _, _, _, _, _⟩) (v := ?_) rfl (by kernel_rfl) (by kernel_rfl) (by kernel_rfl) (fun _ _ _ h => h) (Or.inl ⟨by rfl, ?_⟩) (by assumption) ?_
          rotate_left
          · intro w hSw; (try dsimp only at hSw); go_simp; try with_reducible rfl
          (try simp only [Act.put, List.setIfInBounds_toArray, List.set_cons_zero, List.set_cons_succ])
          refine wpAnyH_take (i := 3) (oi := ⟨some 63, _, _, _, _, _⟩) (v := ?_) rfl (by kernel_rfl) (by kernel_rfl) (by kernel_rfl) (fun _ _ _ h => h) (Or.inl ⟨by rfl, ?_⟩) (by assumption) ?_
          rotate_left
          · intro w hSw; (try dsimp only at hSw); go_simp; try with_reducible rfl
          (try simp only [Act.put, List.setIfInBounds_toArray, List.set_cons_zero, List.set_cons_succ])
          refine wpAnyH_take (i := 7) (oi := ⟨some 67, _, _, _, _, _⟩) (v := ?_) rfl (by kernel_rfl) (by kernel_rfl) (by kernel_rfl) (fun _ _ _ h => h) (Or.inl ⟨by rfl, ?_⟩) (by assumption) ?_
          rotate_left
          · intro w hSw; (try dsimp only at hSw); go_simp; try with_reducible rfl
          (try simp only [Act.put, List.setIfInBounds_toArray, List.set_cons_zero, List.set_cons_succ])
          refine wpAnyH_take (i := 4) (oi := ⟨some 64, _, _, _, _, _⟩) (v := ?_) rfl (by kernel_rfl) (by kernel_rfl) (by kernel_rfl) (fun _ _ _ h => h) (Or.inl ⟨by rfl, ?_⟩) (by assumption) ?_
          rotate_left
          · intro w hSw; (try dsimp only at hSw); go_simp; try with_reducible rfl
          (try simp only [Act.put, List.setIfInBounds_toArray, List.set_cons_zero, List.set_cons_succ])
          refine wpAnyH_take (i := 8) (oi := ⟨some 68, _, _, _, _, _⟩) (v := ?_) rfl (by kernel_rfl) (by kernel_rfl) (by kernel_rfl) (fun _ _ _ h => h) (Or.inl ⟨by rfl, ?_⟩) (by assumption) ?_
          rotate_left
          · intro w hSw; (try dsimp only at hSw); go_simp; try with_reducible rfl
          (try simp only [Act.put, List.setIfInBounds_toArray, List.set_cons_zero, List.set_cons_succ])
          refine wpAnyH_ready (rs := [5, 9]) (by kernel_rfl) (by simp) ?_
          refine (AllReadyH.cons (o := ⟨some 65, _, _, _, _, _⟩) rfl (fun K hK => ?_) (AllReadyH.cons (o := ⟨some 69, _, _, _, _, _⟩) rfl (fun K hK => ?_) AllReadyH.nil))
          · rw [if_pos (by rfl)]
            refine ow_of_wl (ops := #[]) (by rfl) ?_
            refine wl_bytes_string (n := n) (l := t) rfl rfl rfl ?_ ?_
            · rw [ht0, hn0]
              show Rd _ (.slice (some ⟨b, off, none⟩) 0 0) 1 0 (bytesV [])
              exact Rd.mk (Nat.le_refl _) (by unfold maxLen; omega) (by simp) (fun j v hv => by simp [bytesV] at hv)
            refine q0_nil ?_
            refine hK.out _ _ ?_ (fun hHeld => ?_)
            · exact ⟨ldOMx hD c1 n1, ldOMx hD c0 n0⟩
            clear hK K
            (try simp only [Act.put, List.setIfInBounds_toArray, List.set_cons_zero, List.set_cons_succ])
            refine wpAnyH_ready (rs := [9]) (by kernel_rfl) (by simp) ?_
            refine (AllReadyH.cons (o := ⟨some 69, _, _, _, _, _⟩) rfl (fun K hK => ?_) AllReadyH.nil)
            rw [if_pos (by rfl)]
            refine ow_of_wl (ops := #[]) (by rfl) ?_
            refine wl_loadE rfl rfl rfl ?_
            refine ⟨_, Loads.at [] hD rfl, ?_⟩
            refine q0_nil ?_
            refine hK.out _ _ ?_ (fun hHeld => ?_)
            · exact ⟨ldOMx hD c1 n1, ldOMx hD c0 n0⟩
            clear hK K
            (try simp only [Act.put, List.setIfInBounds_toArray, List.set_cons_zero, List.set_cons_succ])
            refine wpAnyH_take (i := 10) (oi := ⟨some 70, _, _, _, _, _⟩) (v := ?_) rfl (by kernel_rfl) (by kernel_rfl) (by kernel_rfl) (fun _ _ _ h => h) (Or.inl ⟨by rfl, ?_⟩) (by assumption) ?_
            rotate_left
            · intro w hSw; (try dsimp only at hSw); go_simp; try with_reducible rfl
            (try simp only [Act.put, List.setIfInBounds_toArray, List.set_cons_zero, List.set_cons_succ])
            refine wpAnyH_take (i := 12) (oi := ⟨some 72, _, _, _, _, _⟩) (v := ?_) rfl (by kernel_rfl) (by kernel_rfl) (by kernel_rfl) (fun _ _ _ h => h) (Or.inl ⟨by rfl, ?_⟩) (by assumption) ?_
            rotate_left
            · intro w hSw; (try dsimp only at hSw); go_simp; try with_reducible rfl
            (try simp only [Act.put, List.setIfInBounds_toArray, List.set_cons_zero, List.set_cons_succ])
            refine wpAnyH_ready (rs := [13]) (by kernel_rfl) (by simp) ?_
            refine (AllReadyH.cons (o := ⟨none, _, _, _, _, _⟩) rfl (fun K hK => ?_) AllReadyH.nil)
            rw [if_pos (by rfl)]
            refine ow_storeS (off := 0) (v := .string ⟨t.toArray⟩) [_, _] hD rfl rfl rfl inferInstance rfl rfl (by decide) ?_
            intro _ hN1
            refine hK.out _ _ ?_ (fun hHeld => ?_)
            · exact ⟨ldOMx hN1 c1 n1, ldOMx hN1 c0 n0⟩
            clear hK K
            (try simp only [Act.put, List.setIfInBounds_toArray, List.set_cons_zero, List.set_cons_succ])
            refine wpAnyH_take (i := 14) (oi := ⟨some 73, _, _, _, _, _⟩) (v := ?_) rfl (by kernel_rfl) (by kernel_rfl) (by kernel_rfl) (fun _ _ _ h => h) (Or.inl ⟨by rfl, ?_⟩) (by assumption) ?_
            rotate_left
            · intro w hSw; (try dsimp only at hSw); go_simp; try with_reducible rfl
            (try simp only [Act.put, List.setIfInBounds_toArray, List.set_cons_zero, List.set_cons_succ])
            refine wpAnyH_take (i := 15) (oi := ⟨some 74, _, _, _, _, _⟩) (v := ?_) rfl (by kernel_rfl) (by kernel_rfl) (by kernel_rfl) (fun _ _ _ h => h) (Or.inl ⟨by rfl, ?_⟩) (by assumption) ?_
            rotate_left
            · intro w hSw; (try dsimp only at hSw); go_simp; try with_reducible rfl
            (try simp only [Act.put, List.setIfInBounds_toArray, List.set_cons_zero, List.set_cons_succ])
            refine wpAnyH_ready (rs := [16]) (by kernel_rfl) (by simp) ?_
            refine (AllReadyH.cons (o := ⟨none, _, _, _, _, _⟩) rfl (fun K hK => ?_) AllReadyH.nil)
            rw [if_pos (by rfl)]
            refine ow_storeS (off := 2) (v := .int .i64 ((s.pos + 1 + k : Nat) : Int)) [] hN1 rfl rfl rfl inferInstance rfl rfl (by show (3 : Nat) ≤ 5; decide) ?_
            intro _ hN2
            refine hK.out _ _ ?_ (fun hHeld => ?_)
            · exact ⟨ldOMx hN2 c1 n1, ldOMx hN2 c0 n0⟩
            clear hK K
            (try simp only [Act.put, List.setIfInBounds_toArray, List.set_cons_zero, List.set_cons_succ])
            refine wpAnyH_done (by kernel_rfl) ?_ _
            clear hHeld
            go_wp2_with (first | go_big_skip | go_big_guard | fail)
            go_end0
            rw [hR.out]
            exact ⟨rfl, hN2⟩
          · rw [if_pos (by rfl)]
            refine ow_of_wl (ops := #[]) (by rfl) ?_
            refine wl_loadE rfl rfl rfl ?_
            refine ⟨_, Loads.at [] hD rfl, ?_⟩
            refine q0_nil ?_
            refine hK.out _ _ ?_ (fun hHeld => ?_)
            · exact ⟨ldOMx hD c1 n1, ldOMx hD c0 n0⟩
            clear hK K
            (try simp only [Act.put, List.setIfInBounds_toArray, List.set_cons_zero, List.set_cons_succ])
            refine wpAnyH_take (i := 10) (oi := ⟨some 70, _, _, _, _, _⟩) (v := ?_) rfl (by kernel_rfl) (by kernel_rfl) (by kernel_rfl) (fun _ _ _ h => h) (Or.inl ⟨by rfl, ?_⟩) (by assumption) ?_
            rotate_left
            · intro w hSw; (try dsimp only at hSw); go_simp; try with_reducible rfl
            (try simp only [Act.put, List.setIfInBounds_toArray, List.set_cons_zero, List.set_cons_succ])
            refine wpAnyH_take (i := 12) (oi := ⟨some 72, _, _, _, _, _⟩) (v := ?_) rfl (by kernel_rfl) (by kernel_rfl) (by kernel_rfl) (fun _ _ _ h => h) (Or.inl ⟨by rfl, ?_⟩) (by assumption) ?_
            rotate_left
            · intro w hSw; (try dsimp only at hSw); go_simp; try with_reducible rfl
            (try simp only [Act.put, List.setIfInBounds_toArray, List.set_cons_zero, List.set_cons_succ])
            refine wpAnyH_ready (rs := [5]) (by kernel_rfl) (by simp) ?_
            refine (AllReadyH.cons (o := ⟨some 65, _, _, _, _, _⟩) rfl (fun K hK => ?_) AllReadyH.nil)
            rw [if_pos (by rfl)]
            refine ow_of_wl (ops := #[]) (by rfl) ?_
            refine wl_bytes_string (n := n) (l := t) rfl rfl rfl ?_ ?_
            · rw [ht0, hn0]
              show Rd _ (.slice (some ⟨b, off, none⟩) 0 0) 1 0 (bytesV [])
              exact Rd.mk (Nat.le_refl _) (by unfold maxLen; omega) (by simp) (fun j v hv => by simp [bytesV] at hv)
            refine q0_nil ?_
            refine hK.out _ _ ?_ (fun hHeld => ?_)
            · exact ⟨ldOMx hD c1 n1, ldOMx hD c0 n0⟩
            clear hK K
            (try simp only [Act.put, List.setIfInBounds_toArray, List.set_cons_zero, List.set_cons_succ])
            refine wpAnyH_ready (rs := [13]) (by kernel_rfl) (by simp) ?_
            refine (AllReadyH.cons (o := ⟨none, _, _, _, _, _⟩) rfl (fun K hK => ?_) AllReadyH.nil)
            rw [if_pos (by rfl)]
            refine ow_storeS (off := 0) (v := .string ⟨t.toArray⟩) [_, _] hD rfl rfl rfl inferInstance rfl rfl (by decide) ?_
            intro _ hN3
            refine hK.out _ _ ?_ (fun hHeld => ?_)
            · exact ⟨ldOMx hN3 c1 n1, ldOMx hN3 c0 n0⟩
            clear hK K
            (try simp only [Act.put, List.setIfInBounds_toArray, List.set_cons_zero, List.set_cons_succ])
            refine wpAnyH_take (i := 14) (oi := ⟨some 73, _, _, _, _, _⟩) (v := ?_) rfl (by kernel_rfl) (by kernel_rfl) (by kernel_rfl) (fun _ _ _ h => h) (Or.inl ⟨by rfl, ?_⟩) (by assumption) ?_
            rotate_left
            · intro w hSw; (try dsimp only at hSw); go_simp; try with_reducible rfl
            (try simp only [Act.put, List.setIfInBounds_toArray, List.set_cons_zero, List.set_cons_succ])
            refine wpAnyH_take (i := 15) (oi := ⟨some 74, _, _, _, _, _⟩) (v := ?_) rfl (by kernel_rfl) (by kernel_rfl) (by kernel_rfl) (fun _ _ _ h => h) (Or.inl ⟨by rfl, ?_⟩) (by assumption) ?_
            rotate_left
            · intro w hSw; (try dsimp only at hSw); go_simp; try with_reducible rfl
            (try simp only [Act.put, List.setIfInBounds_toArray, List.set_cons_zero, List.set_cons_succ])
            refine wpAnyH_ready (rs := [16]) (by kernel_rfl) (by simp) ?_
            refine (AllReadyH.cons (o := ⟨none, _, _, _, _, _⟩) rfl (fun K hK => ?_) AllReadyH.nil)
            rw [if_pos (by rfl)]
            refine ow_storeS (off := 2) (v := .int .i64 ((s.pos + 1 + k : Nat) : Int)) [] hN3 rfl rfl rfl inferInstance rfl rfl (by show (3 : Nat) ≤ 5; decide) ?_
            intro _ hN4
            refine hK.out _ _ ?_ (fun hHeld => ?_)
            · exact ⟨ldOMx hN4 c1 n1, ldOMx hN4 c0 n0⟩
            clear hK K
            (try simp only [Act.put, List.setIfInBounds_toArray, List.set_cons_zero, List.set_cons_succ])
            refine wpAnyH_done (by kernel_rfl) ?_ _
            clear hHeld
            go_wp2_with (first | go_big_skip | go_big_guard | fail)
            go_end0
            rw [hR.out]
            exact ⟨rfl, hN4⟩
        · have e10 : ((1 + n : Nat) : Int).toNat = 1 + n := by omega
          have hD := hst4.drew
          clear hst4
          refine wp_region_held_drew (S := (fun w' => (loadVarH 99 ⟨gw, 0, none⟩).run Try.prog w' = .ok (.pointer (some ⟨g, 0, none⟩)) w' ∧ (loadVarH 3 ⟨gs, 0, none⟩).run Try.prog w' = .ok (.int .i64 (k : Int)) w')) (by kernel_rfl) (by exact ⟨ldOMx hD c1 n1, ldOMx hD c0 n0⟩) (fun hHeld => ?_)
          refine wpAnyH_take (i := 0) (oi := ⟨some 60, _, _, _, _, _⟩) (v := ?_) rfl (by kernel_rfl) (by kernel_rfl) (by kernel_rfl) (fun _ _ _ h => h) (Or.inl ⟨by rfl, ?_⟩) (by assumption) ?_
          rotate_left
          · intro w hSw; (try dsimp only at hSw); go_simp; try with_reducible rfl
          (try simp only [Act.put, List.setIfInBounds_toArray, List.set_cons_zero, List.set_cons_succ])
          refine wpAnyH_take (i := 1) (oi := ⟨some 61, _, _, _, _, _⟩) (v := ?_) rfl (by kernel_rfl) (by kernel_rfl) (by kernel_rfl) (fun _ _ _ h => h) (Or.inl ⟨by rfl, ?_⟩) (by assumption) ?_
          rotate_left
          · intro w hSw; (try dsimp only at hSw); go_simp; try with_reducible rfl
          (try simp only [Act.put, List.setIfInBounds_toArray, List.set_cons_zero, List.set_cons_succ])
          refine wpAnyH_take (i := 2) (oi := ⟨some 62, _, _, _, _, _⟩) (v := ?_) rfl (by kernel_rfl) (by kernel_rfl) (by kernel_rfl) (fun _ _ _ h => h) (Or.inl ⟨by rfl, ?_⟩) (by assumption) ?_
          rotate_left
          · intro w hSw; (try dsimp only at hSw); go_simp; try with_reducible rfl
          (try simp only [Act.put, List.setIfInBounds_toArray, List.set_cons_zero, List.set_cons_succ])
          refine wpAnyH_take (i := 6) (oi := ⟨some 66, _, _, _, _, _⟩) (v := ?_) rfl (by kernel_rfl) (by kernel_rfl) (by kernel_rfl) (fun _ _ _ h => h) (Or.inl ⟨by rfl, ?_⟩) (by assumption) ?_
          rotate_left
          · intro w hSw; (try dsimp only at hSw); go_simp; try with_reducible rfl
          (try simp only [Act.put, List.setIfInBounds_toArray, List.set_cons_zero, List.set_cons_succ])
          refine wpAnyH_take (i := 11) (oi := ⟨some 71, _, _, _, _, _⟩) (v := ?_) rfl (by kernel_rfl) (by kernel_rfl) (by kernel_rfl) (fun _ _ _ h => h) (Or.inl ⟨by rfl, ?_⟩) (by assumption) ?_
          rotate_left
          · intro w hSw; (try dsimp only at hSw); go_simp; try with_reducible rfl
          (try simp only [Act.put, List.setIfInBounds_toArray, List.set_cons_zero, List.set_cons_succ])
          refine wpAnyH_take (i := 3) (oi := ⟨some 63, _, _, _, _, _⟩) (v := ?_) rfl (by kernel_rfl) (by kernel_rfl) (by kernel_rfl) (fun _ _ _ h => h) (Or.inl ⟨by rfl, ?_⟩) (by assumption) ?_
          rotate_left
          · intro w hSw; (try dsimp only at hSw); go_simp; try with_reducible rfl
          (try simp only [Act.put, List.setIfInBounds_toArray, List.set_cons_zero, List.set_cons_succ])
          refine wpAnyH_take (i := 7) (oi := ⟨some 67, _, _, _, _, _⟩) (v := ?_) rfl (by kernel_rfl) (by kernel_rfl) (by kernel_rfl) (fun _ _ _ h => h) (Or.inl ⟨by rfl, ?_⟩) (by assumption) ?_
          rotate_left
          · intro w hSw; (try dsimp only at hSw); go_simp; try with_reducible rfl
          (try simp only [Act.put, List.setIfInBounds_toArray, List.set_cons_zero, List.set_cons_succ])
          refine wpAnyH_take (i := 4) (oi := ⟨some 64, _, _, _, _, _⟩) (v := ?_) rfl (by kernel_rfl) (by kernel_rfl) (by kernel_rfl) (fun _ _ _ h => h) (Or.inl ⟨by rfl, ?_⟩) (by assumption) ?_
          rotate_left
          · intro w hSw; (try dsimp only at hSw); go_simp; try with_reducible rfl
          (try simp only [Act.put, List.setIfInBounds_toArray, List.set_cons_zero, List.set_cons_succ])
          refine wpAnyH_take (i := 8) (oi := ⟨some 68, _, _, _, _, _⟩) (v := ?_) rfl (by kernel_rfl) (by kernel_rfl) (by kernel_rfl) (fun _ _ _ h => h) (Or.inl ⟨by rfl, ?_⟩) (by assumption) ?_
          rotate_left
          · intro w hSw; (try dsimp only at hSw); go_simp; try with_reducible rfl
          (try simp only [Act.put, List.setIfInBounds_toArray, List.set_cons_zero, List.set_cons_succ])
          refine wpAnyH_ready (rs := [5, 9]) (by kernel_rfl) (by simp) ?_
          refine (AllReadyH.cons (o := ⟨some 65, _, _, _, _, _⟩) rfl (fun K hK => ?_) (AllReadyH.cons (o := ⟨some 69, _, _, _, _, _⟩) rfl (fun K hK => ?_) AllReadyH.nil))
          · rw [if_pos (by rfl)]
            refine ow_of_wl (ops := #[]) (by rfl) ?_
            refine wl_bytes_string (n := n) (l := t) rfl rfl rfl ?_ ?_
            · have hw := Rd.win (m := n) (off' := off + 1) (c' := c - 1) 1 (Rd.old hL2 hu) rfl (by omega) (by omega)
              rw [HT.out] at hw
              exact hw
            refine q0_nil ?_
            refine hK.out _ _ ?_ (fun hHeld => ?_)
            · exact ⟨ldOMx hD c1 n1, ldOMx hD c0 n0⟩
            clear hK K
            (try simp only [Act.put, List.setIfInBounds_toArray, List.set_cons_zero, List.set_cons_succ])
            refine wpAnyH_ready (rs := [9]) (by kernel_rfl) (by simp) ?_
            refine (AllReadyH.cons (o := ⟨some 69, _, _, _, _, _⟩) rfl (fun K hK => ?_) AllReadyH.nil)
            rw [if_pos (by rfl)]
            refine ow_of_wl (ops := #[]) (by rfl) ?_
            refine wl_loadE rfl rfl rfl ?_
            refine ⟨_, Loads.at [] hD rfl, ?_⟩
            refine q0_nil ?_
            refine hK.out _ _ ?_ (fun hHeld => ?_)
            · exact ⟨ldOMx hD c1 n1, ldOMx hD c0 n0⟩
            clear hK K
            (try simp only [Act.put, List.setIfInBounds_toArray, List.set_cons_zero, List.set_cons_succ])
            refine wpAnyH_take (i := 10) (oi := ⟨some 70, _, _, _, _, _⟩) (v := ?_) rfl (by kernel_rfl) (by kernel_rfl) (by kernel_rfl) (fun _ _ _ h => h) (Or.inl ⟨by rfl, ?_⟩) (by assumption) ?_
            rotate_left
            · intro w hSw; (try dsimp only at hSw); go_simp; try with_reducible rfl
            (try simp only [Act.put, List.setIfInBounds_toArray, List.set_cons_zero, List.set_cons_succ])
            refine wpAnyH_take (i := 12) (oi := ⟨some 72, _, _, _, _, _⟩) (v := ?_) rfl (by kernel_rfl) (by kernel_rfl) (by kernel_rfl) (fun _ _ _ h => h) (Or.inl ⟨by rfl, ?_⟩) (by assumption) ?_
            rotate_left
            · intro w hSw; (try dsimp only at hSw); go_simp; try with_reducible rfl
            (try simp only [Act.put, List.setIfInBounds_toArray, List.set_cons_zero, List.set_cons_succ])
            refine wpAnyH_ready (rs := [13]) (by kernel_rfl) (by simp) ?_
            refine (AllReadyH.cons (o := ⟨none, _, _, _, _, _⟩) rfl (fun K hK => ?_) AllReadyH.nil)
            rw [if_pos (by rfl)]
            refine ow_storeS (off := 0) (v := .string ⟨t.toArray⟩) [_, _] hD rfl rfl rfl inferInstance rfl rfl (by decide) ?_
            intro _ hN5
            refine hK.out _ _ ?_ (fun hHeld => ?_)
            · exact ⟨ldOMx hN5 c1 n1, ldOMx hN5 c0 n0⟩
            clear hK K
            (try simp only [Act.put, List.setIfInBounds_toArray, List.set_cons_zero, List.set_cons_succ])
            refine wpAnyH_take (i := 14) (oi := ⟨some 73, _, _, _, _, _⟩) (v := ?_) rfl (by kernel_rfl) (by kernel_rfl) (by kernel_rfl) (fun _ _ _ h => h) (Or.inl ⟨by rfl, ?_⟩) (by assumption) ?_
            rotate_left
            · intro w hSw; (try dsimp only at hSw); go_simp; try with_reducible rfl
            (try simp only [Act.put, List.setIfInBounds_toArray, List.set_cons_zero, List.set_cons_succ])
            refine wpAnyH_take (i := 15) (oi := ⟨some 74, _, _, _, _, _⟩) (v := ?_) rfl (by kernel_rfl) (by kernel_rfl) (by kernel_rfl) (fun _ _ _ h => h) (Or.inl ⟨by rfl, ?_⟩) (by assumption) ?_
            rotate_left
            · intro w hSw; (try dsimp only at hSw); go_simp; try with_reducible rfl
            (try simp only [Act.put, List.setIfInBounds_toArray, List.set_cons_zero, List.set_cons_succ])
            refine wpAnyH_ready (rs := [16]) (by kernel_rfl) (by simp) ?_
            refine (AllReadyH.cons (o := ⟨none, _, _, _, _, _⟩) rfl (fun K hK => ?_) AllReadyH.nil)
            rw [if_pos (by rfl)]
            refine ow_storeS (off := 2) (v := .int .i64 ((s.pos + 1 + k : Nat) : Int)) [] hN5 rfl rfl rfl inferInstance rfl rfl (by show (3 : Nat) ≤ 5; decide) ?_
            intro _ hN6
            refine hK.out _ _ ?_ (fun hHeld => ?_)
            · exact ⟨ldOMx hN6 c1 n1, ldOMx hN6 c0 n0⟩
            clear hK K
            (try simp only [Act.put, List.setIfInBounds_toArray, List.set_cons_zero, List.set_cons_succ])
            refine wpAnyH_done (by kernel_rfl) ?_ _
            clear hHeld
            go_wp2_with (first | go_big_skip | go_big_guard | fail)
            go_end0
            rw [hR.out]
            exact ⟨rfl, hN6⟩
          · rw [if_pos (by rfl)]
            refine ow_of_wl (ops := #[]) (by rfl) ?_
            refine wl_loadE rfl rfl rfl ?_
            refine ⟨_, Loads.at [] hD rfl, ?_⟩
            refine q0_nil ?_
            refine hK.out _ _ ?_ (fun hHeld => ?_)
            · exact ⟨ldOMx hD c1 n1, ldOMx hD c0 n0⟩
            clear hK K
            (try simp only [Act.put, List.setIfInBounds_toArray, List.set_cons_zero, List.set_cons_succ])
            refine wpAnyH_take (i := 10) (oi := ⟨some 70, _, _, _, _, _⟩) (v := ?_) rfl (by kernel_rfl) (by kernel_rfl) (by kernel_rfl) (fun _ _ _ h => h) (Or.inl ⟨by rfl, ?_⟩) (by assumption) ?_
            rotate_left
            · intro w hSw; (try dsimp only at hSw); go_simp; try with_reducible rfl
            (try simp only [Act.put, List.setIfInBounds_toArray, List.set_cons_zero, List.set_cons_succ])
            refine wpAnyH_take (i := 12) (oi := ⟨some 72, _, _, _, _, _⟩) (v := ?_) rfl (by kernel_rfl) (by kernel_rfl) (by kernel_rfl) (fun _ _ _ h => h) (Or.inl ⟨by rfl, ?_⟩) (by assumption) ?_
            rotate_left
            · intro w hSw; (try dsimp only at hSw); go_simp; try with_reducible rfl
            (try simp only [Act.put, List.setIfInBounds_toArray, List.set_cons_zero, List.set_cons_succ])
            refine wpAnyH_ready (rs := [5]) (by kernel_rfl) (by simp) ?_
            refine (AllReadyH.cons (o := ⟨some 65, _, _, _, _, _⟩) rfl (fun K hK => ?_) AllReadyH.nil)
            rw [if_pos (by rfl)]
            refine ow_of_wl (ops := #[]) (by rfl) ?_
            refine wl_bytes_string (n := n) (l := t) rfl rfl rfl ?_ ?_
            · have hw := Rd.win (m := n) (off' := off + 1) (c' := c - 1) 1 (Rd.old hL2 hu) rfl (by omega) (by omega)
              rw [HT.out] at hw
              exact hw
            refine q0_nil ?_
            refine hK.out _ _ ?_ (fun hHeld => ?_)
            · exact ⟨ldOMx hD c1 n1, ldOMx hD c0 n0⟩
            clear hK K
            (try simp only [Act.put, List.setIfInBounds_toArray, List.set_cons_zero, List.set_cons_succ])
            refine wpAnyH_ready (rs := [13]) (by kernel_rfl) (by simp) ?_
            refine (AllReadyH.cons (o := ⟨none, _, _, _, _, _⟩) rfl (fun K hK => ?_) AllReadyH.nil)
            rw [if_pos (by rfl)]
            refine ow_storeS (off := 0) (v := .string ⟨t.toArray⟩) [_, _] hD rfl rfl rfl inferInstance rfl rfl (by decide) ?_
            intro _ hN7
            refine hK.out _ _ ?_ (fun hHeld => ?_)
            · exact ⟨ldOMx hN7 c1 n1, ldOMx hN7 c0 n0⟩
            clear hK K
            (try simp only [Act.put, List.setIfInBounds_toArray, List.set_cons_zero, List.set_cons_succ])
            refine wpAnyH_take (i := 14) (oi := ⟨some 73, _, _, _, _, _⟩) (v := ?_) rfl (by kernel_rfl) (by kernel_rfl) (by kernel_rfl) (fun _ _ _ h => h) (Or.inl ⟨by rfl, ?_⟩) (by assumption) ?_
            rotate_left
            · intro w hSw; (try dsimp only at hSw); go_simp; try with_reducible rfl
            (try simp only [Act.put, List.setIfInBounds_toArray, List.set_cons_zero, List.set_cons_succ])
            refine wpAnyH_take (i := 15) (oi := ⟨some 74, _, _, _, _, _⟩) (v := ?_) rfl (by kernel_rfl) (by kernel_rfl) (by kernel_rfl) (fun _ _ _ h => h) (Or.inl ⟨by rfl, ?_⟩) (by assumption) ?_
            rotate_left
            · intro w hSw; (try dsimp only at hSw); go_simp; try with_reducible rfl
            (try simp only [Act.put, List.setIfInBounds_toArray, List.set_cons_zero, List.set_cons_succ])
            refine wpAnyH_ready (rs := [16]) (by kernel_rfl) (by simp) ?_
            refine (AllReadyH.cons (o := ⟨none, _, _, _, _, _⟩) rfl (fun K hK => ?_) AllReadyH.nil)
            rw [if_pos (by rfl)]
            refine ow_storeS (off := 2) (v := .int .i64 ((s.pos + 1 + k : Nat) : Int)) [] hN7 rfl rfl rfl inferInstance rfl rfl (by show (3 : Nat) ≤ 5; decide) ?_
            intro _ hN8
            refine hK.out _ _ ?_ (fun hHeld => ?_)
            · exact ⟨ldOMx hN8 c1 n1, ldOMx hN8 c0 n0⟩
            clear hK K
            (try simp only [Act.put, List.setIfInBounds_toArray, List.set_cons_zero, List.set_cons_succ])
            refine wpAnyH_done (by kernel_rfl) ?_ _
            clear hHeld
            go_wp2_with (first | go_big_skip | go_big_guard | fail)
            go_end0
            rw [hR.out]
            exact ⟨rfl, hN8⟩
theorem rtext_any (g : Nat) (bv : Value) (B : List UInt8) (s : RS) (gs gw go : Nat) (most : Int) (F : List Nat) (w : World) (h : St w F w (rL g bv B s [.blk go 9 [.string ⟨#[]⟩]])) (hp : s.pos ≤ B.length) (hB : B.length ≤ 100000)
    (c0 : w.cell? ⟨gs, 0, none⟩ = some (.int .i64 most)) (c1 : w.cell? ⟨gw, 0, none⟩ = some (.pointer (some ⟨g, 0, none⟩))) (n0 : gs ∉ F) (n1 : gw ∉ F) (hs : -9223372036854775808 ≤ most ∧ most ≤ 9223372036854775807) :
    Calls Try.prog 96 #[.pointer (some ⟨gs, 0, none⟩), .pointer (some ⟨gw, 0, none⟩), .pointer (some ⟨go, 0, none⟩)] w
      (ReadP w F 115 (textRR B s.pos most) (rL g bv B s [.blk go 9 [.string ⟨#[]⟩]]) (fun v p w' => St w F w' (rL g bv B ⟨p, s.e, s.fa⟩ [.blk go 9 [.string ⟨v.toArray⟩]]))) := by
  by_cases h1 : most < 0 ∨ 255 < most
  · exact rtext_arg g bv B s gs gw go most F w h hp hB c0 c1 n0 n1 h1
  · by_cases h2 : (B.length : Int) - s.pos < 1 + most
    · exact rtext_short g bv B s gs gw go most F w h hp hB c0 c1 n0 n1 h1 h2
    · by_cases h3 : most < (B.getD s.pos 0).toNat
      · exact rtext_long g bv B s gs gw go most F w h hp hB c0 c1 n0 n1 h1 h2 h3
      · exact rtext_ok g bv B s gs gw go most F w h hp hB c0 c1 n0 n1 h1 h2 h3
end Go.Proofs.Ytalfdcfcaamnbaa
