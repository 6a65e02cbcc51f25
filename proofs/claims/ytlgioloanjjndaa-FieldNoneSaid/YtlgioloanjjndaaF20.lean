import Derived.Test.YtlgioloanjjndaaFA
import Derived.Test.YtlgioloanjjndaaKG
namespace Go.Proofs.Ytlgioloanjjndaa
set_option linter.unusedVariables false
set_option linter.unusedSimpArgs false
open Go.RowKit Hp
attribute [local irreducible] Go.Calls
set_option maxRecDepth 100000
set_option maxHeartbeats 4000000
theorem Hp.Off.blkN' {g : Nat} {F : List Nat} (h : g ∉ F) (off n c : Nat) : Off (.slice (some ⟨g, off, none⟩) n c) F := Off.blkN h off n c
theorem kept_g (ao : Option Addr) (g n c : Nat) (bs : List UInt8) (w : World) (hg : w.heap[g]? = some (.cells (bytesV (lentB bs)).toArray 5 (0, 0))) (hA : Rd w (.slice ao n c) 1 n (bytesV bs)) (hn : bs.length = n) (hb : n ≤ 100000) :
    Calls Try.prog 35 #[.slice (some ⟨g, 0, none⟩) n (n + 3), .slice ao n c] w fun e w' => e = .returned (.bool true) ∧ St w [] w' [] :=
  kept_blk ao g n c bs w hg hA hn hb
theorem lwrite_0 (g : Nat) (bv : Value) (s : WR) (x : AV) (w : World) (h : St w (wF g bv s) w (wP g bv s)) (hB : s.2.length ≤ 65536) (hx : x.Ok w) (ho : Off (.slice x.au x.m x.cu) (wF g bv s)) (hk : x.kind = 0) :
    Calls Try.prog 13 #[.pointer (some ⟨g, 0, none⟩), .agg x.cells.toArray] w fun e w' => e = .returned (.bool true) ∧ ∃ bv', St w (wF g bv s) w' (wP g bv' (x.step s)) := by
  have hR : x.step s = putW s (numR x.n x.size) := by simp [AV.step, hk]
  obtain ⟨R, hR0⟩ : ∃ R, R = x.step s := ⟨_, rfl⟩
  rw [← hR0]
  rw [← hR0] at hR
  have HR := hid hR
  clear hR hR0
  have hst := h
  obtain ⟨W0, hW⟩ : ∃ W0, W0 = wP g bv s := ⟨_, rfl⟩
  have HW := hid hW
  rw [← hW] at hst
  obtain ⟨F, hF⟩ : ∃ F, F = wF g bv s := ⟨_, rfl⟩
  have HF := hid hF
  rw [← hF] at hst ho ⊢
  have hxm := hx.m
  have HXL := hid hx.len
  clear h hW hF
  obtain ⟨kd, hkd⟩ : ∃ kd, kd = x.kind := ⟨_, rfl⟩
  have HKD := hid hkd
  have d0 : (x.kind == 0) = true := by rw [hk]; rfl
  clear hk hkd
  show Calls Try.prog 13 #[.pointer (some ⟨g, 0, none⟩), .agg ([.int .i64 x.kind, .int .i64 x.n, .int .i64 x.size, .string ⟨x.s.toArray⟩, .slice x.au x.m x.cu] : List Value).toArray] w _
  go_enter Try.func13, Try.ntmps13
  go_wp2_with (first | go_big_skip | go_big_guard | (refine wl_loadE rfl rfl rfl ?_; first | refine ⟨_, Loads.at [] hst1 rfl, ?_⟩) | (refine wl_boxA hst rfl rfl rfl ?_; intro gx w1 hst1; clear hst) | (go_at_call 41; have hQ := (St.perm hst1 (List.perm_append_comm (l₁ := [_]) (l₂ := W0))); rw [HW.out] at hQ; have hS := (St.sub hQ (List.sublist_append_left _ _)).selfF; refine (wnum_any g bv s x.n x.size _ hS hB hx.size hx.n).mono ?_; rintro _ w9 ⟨rfl, bv', h4⟩; rw [← HR.out] at h4; have hst9 := St.callF (wP g bv s) hQ h4; clear h4))
  go_ret
  exact ⟨rfl, bv', St.sub hst9 (List.sublist_append_left _ _)⟩
theorem lwrite_1 (g : Nat) (bv : Value) (s : WR) (x : AV) (w : World) (h : St w (wF g bv s) w (wP g bv s)) (hB : s.2.length ≤ 65536) (hx : x.Ok w) (ho : Off (.slice x.au x.m x.cu) (wF g bv s)) (hk : x.kind = 1) :
    Calls Try.prog 13 #[.pointer (some ⟨g, 0, none⟩), .agg x.cells.toArray] w fun e w' => e = .returned (.bool true) ∧ ∃ bv', St w (wF g bv s) w' (wP g bv' (x.step s)) := by
  have hR : x.step s = putW s (textR x.s x.size) := by simp [AV.step, hk]
  obtain ⟨R, hR0⟩ : ∃ R, R = x.step s := ⟨_, rfl⟩
  rw [← hR0]
  rw [← hR0] at hR
  have HR := hid hR
  clear hR hR0
  have hst := h
  obtain ⟨W0, hW⟩ : ∃ W0, W0 = wP g bv s := ⟨_, rfl⟩
  have HW := hid hW
  rw [← hW] at hst
  obtain ⟨F, hF⟩ : ∃ F, F = wF g bv s := ⟨_, rfl⟩
  have HF := hid hF
  rw [← hF] at hst ho ⊢
  have hxm := hx.m
  have HXL := hid hx.len
  clear h hW hF
  obtain ⟨kd, hkd⟩ : ∃ kd, kd = x.kind := ⟨_, rfl⟩
  have HKD := hid hkd
  have d0 : (x.kind == 0) = false := by rw [hk]; rfl
  have d1 : (x.kind == 1) = true := by rw [hk]; rfl
  clear hk hkd
  show Calls Try.prog 13 #[.pointer (some ⟨g, 0, none⟩), .agg ([.int .i64 x.kind, .int .i64 x.n, .int .i64 x.size, .string ⟨x.s.toArray⟩, .slice x.au x.m x.cu] : List Value).toArray] w _
  go_enter Try.func13, Try.ntmps13
  go_wp2_with (first | go_big_skip | go_big_guard | (refine wl_loadE rfl rfl rfl ?_; first | refine ⟨_, Loads.at [] hst1 rfl, ?_⟩) | (refine wl_boxA hst rfl rfl rfl ?_; intro gx w1 hst1; clear hst) | (go_at_call 42; have hQ := (St.perm hst1 (List.perm_append_comm (l₁ := [_]) (l₂ := W0))); rw [HW.out] at hQ; have hS := (St.sub hQ (List.sublist_append_left _ _)).selfF; refine (wtext_any g bv s x.s x.size _ hS hB hx.size (by have := hx.s; omega)).mono ?_; rintro _ w9 ⟨rfl, bv', h4⟩; rw [← HR.out] at h4; have hst9 := St.callF (wP g bv s) hQ h4; clear h4))
  go_ret
  exact ⟨rfl, bv', St.sub hst9 (List.sublist_append_left _ _)⟩
theorem lwrite_2 (g : Nat) (bv : Value) (s : WR) (x : AV) (w : World) (h : St w (wF g bv s) w (wP g bv s)) (hB : s.2.length ≤ 65536) (hx : x.Ok w) (ho : Off (.slice x.au x.m x.cu) (wF g bv s)) (hk : x.kind = 2) :
    Calls Try.prog 13 #[.pointer (some ⟨g, 0, none⟩), .agg x.cells.toArray] w fun e w' => e = .returned (.bool true) ∧ ∃ bv', St w (wF g bv s) w' (wP g bv' (x.step s)) := by
  have hR : x.step s = putW s (0, x.B) := by simp [AV.step, hk]
  obtain ⟨R, hR0⟩ : ∃ R, R = x.step s := ⟨_, rfl⟩
  rw [← hR0]
  rw [← hR0] at hR
  have HR := hid hR
  clear hR hR0
  have hst := h
  obtain ⟨W0, hW⟩ : ∃ W0, W0 = wP g bv s := ⟨_, rfl⟩
  have HW := hid hW
  rw [← hW] at hst
  obtain ⟨F, hF⟩ : ∃ F, F = wF g bv s := ⟨_, rfl⟩
  have HF := hid hF
  rw [← hF] at hst ho ⊢
  have hxm := hx.m
  have HXL := hid hx.len
  clear h hW hF
  obtain ⟨kd, hkd⟩ : ∃ kd, kd = x.kind := ⟨_, rfl⟩
  have HKD := hid hkd
  have d0 : (x.kind == 0) = false := by rw [hk]; rfl
  have d1 : (x.kind == 1) = false := by rw [hk]; rfl
  have d2 : (x.kind == 2) = true := by rw [hk]; rfl
  clear hk hkd
  show Calls Try.prog 13 #[.pointer (some ⟨g, 0, none⟩), .agg ([.int .i64 x.kind, .int .i64 x.n, .int .i64 x.size, .string ⟨x.s.toArray⟩, .slice x.au x.m x.cu] : List Value).toArray] w _
  go_enter Try.func13, Try.ntmps13
  go_wp2_with (first | go_big_skip | go_big_guard | (refine wl_loadE rfl rfl rfl ?_; first | refine ⟨_, Loads.at [] hst1 rfl, ?_⟩ | refine ⟨_, Loads.at [_] hst2 rfl, ?_⟩ | refine ⟨_, Loads.at [_] hst9 rfl, ?_⟩) | (refine wl_boxA hst rfl rfl rfl ?_; intro gx w1 hst1; clear hst) | (go_at_call 28; refine (lent_any x.au x.m x.cu x.B _ (Rd.oldM hst1 hx.rd ho) HXL.out (by omega)).mono ?_; rintro _ _ ⟨gl, rfl, h4⟩; have hst2 := St.call hst1 h4; clear h4) | (go_at_call 43; have hQ := (St.perm hst2 (List.perm_append_comm (l₁ := [_, _]) (l₂ := W0))); rw [HW.out] at hQ; have hS := (St.sub hQ (List.sublist_append_left _ _)).selfF; have hnl := St.notFeet (C := wP g bv s) (L1 := []) (hQ.perm List.perm_append_comm) (fun y hy => Or.inr (by simp [hy])); refine (wraw_any g bv s (some ⟨gl, 0, none⟩) x.m (x.m + 3) x.B _ hS hB (Rd.blk hQ (List.mem_append_right _ (.head _)) (by omega) (by unfold maxLen; omega) (by rw [length_bytesV, HXL.out]; omega) (by rw [List.drop_zero, lentB_V, List.take_left' rfl])) (Off.blkN' hnl _ _ _) (by rw [HXL.out]; omega)).mono ?_; rintro _ w9 ⟨rfl, bv', h4⟩; rw [← HR.out] at h4; have hst9 := St.perm (St.callF (wP g bv s) hQ h4) List.perm_append_comm; clear h4 hQ hS) | (go_at_call 35; refine (kept_g x.au gl x.m x.cu x.B _ (hst9.all _ (.head _)) (Rd.oldM hst9 hx.rd ho) HXL.out (by omega)).mono ?_; rintro _ _ ⟨rfl, h4⟩; have hst10 := St.call0 hst9 h4; clear h4 hst9) | (go_at_call 18; refine (over_blkL gl x.m (x.m + 3) (lentB x.B) _ (hst10.all _ (.head _)) (by rw [length_lentB, HXL.out]) (by rw [length_lentB, HXL.out]; omega) (by rw [length_lentB, HXL.out]; omega)).mono ?_; rintro _ _ ⟨rfl, h4⟩; have hst11 := St.callF [_] hst10 h4; clear h4 hst10))
  go_ret
  exact ⟨rfl, bv', St.sub hst11 (.cons _ (.cons _ (List.Sublist.refl _)))⟩
theorem lwrite_3 (g : Nat) (bv : Value) (s : WR) (x : AV) (w : World) (h : St w (wF g bv s) w (wP g bv s)) (hB : s.2.length ≤ 65536) (hx : x.Ok w) (ho : Off (.slice x.au x.m x.cu) (wF g bv s)) (hk : x.kind = 3) :
    Calls Try.prog 13 #[.pointer (some ⟨g, 0, none⟩), .agg x.cells.toArray] w fun e w' => e = .returned (.bool true) ∧ ∃ bv', St w (wF g bv s) w' (wP g bv' (x.step s)) := by
  have hR : x.step s = putW s (padR x.size s.2.length) := by simp [AV.step, hk]
  obtain ⟨R, hR0⟩ : ∃ R, R = x.step s := ⟨_, rfl⟩
  rw [← hR0]
  rw [← hR0] at hR
  have HR := hid hR
  clear hR hR0
  have hst := h
  obtain ⟨W0, hW⟩ : ∃ W0, W0 = wP g bv s := ⟨_, rfl⟩
  have HW := hid hW
  rw [← hW] at hst
  obtain ⟨F, hF⟩ : ∃ F, F = wF g bv s := ⟨_, rfl⟩
  have HF := hid hF
  rw [← hF] at hst ho ⊢
  have hxm := hx.m
  have HXL := hid hx.len
  clear h hW hF
  obtain ⟨kd, hkd⟩ : ∃ kd, kd = x.kind := ⟨_, rfl⟩
  have HKD := hid hkd
  have d0 : (x.kind == 0) = false := by rw [hk]; rfl
  have d1 : (x.kind == 1) = false := by rw [hk]; rfl
  have d2 : (x.kind == 2) = false := by rw [hk]; rfl
  have d3 : (x.kind == 3) = true := by rw [hk]; rfl
  clear hk hkd
  show Calls Try.prog 13 #[.pointer (some ⟨g, 0, none⟩), .agg ([.int .i64 x.kind, .int .i64 x.n, .int .i64 x.size, .string ⟨x.s.toArray⟩, .slice x.au x.m x.cu] : List Value).toArray] w _
  go_enter Try.func13, Try.ntmps13
  go_wp2_with (first | go_big_skip | go_big_guard | (refine wl_loadE rfl rfl rfl ?_; first | refine ⟨_, Loads.at [] hst1 rfl, ?_⟩) | (refine wl_boxA hst rfl rfl rfl ?_; intro gx w1 hst1; clear hst) | (go_at_call 38; have hQ := (St.perm hst1 (List.perm_append_comm (l₁ := [_]) (l₂ := W0))); rw [HW.out] at hQ; have hS := (St.sub hQ (List.sublist_append_left _ _)).selfF; refine (wpad_any g bv s x.size _ hS hB hx.size).mono ?_; rintro _ w9 ⟨rfl, bv', h4⟩; rw [← HR.out] at h4; have hst9 := St.callF (wP g bv s) hQ h4; clear h4))
  go_ret
  exact ⟨rfl, bv', St.sub hst9 (List.sublist_append_left _ _)⟩
theorem lwrite_4 (g : Nat) (bv : Value) (s : WR) (x : AV) (w : World) (h : St w (wF g bv s) w (wP g bv s)) (hB : s.2.length ≤ 65536) (hx : x.Ok w) (ho : Off (.slice x.au x.m x.cu) (wF g bv s)) (hk0 : x.kind ≠ 0) (hk1 : x.kind ≠ 1) (hk2 : x.kind ≠ 2) (hk3 : x.kind ≠ 3) :
    Calls Try.prog 13 #[.pointer (some ⟨g, 0, none⟩), .agg x.cells.toArray] w fun e w' => e = .returned (.bool true) ∧ ∃ bv', St w (wF g bv s) w' (wP g bv' (x.step s)) := by
  have hR : x.step s = s := by simp [AV.step, hk0, hk1, hk2, hk3]
  obtain ⟨R, hR0⟩ : ∃ R, R = x.step s := ⟨_, rfl⟩
  rw [← hR0]
  rw [← hR0] at hR
  have HR := hid hR
  clear hR hR0
  have hst := h
  obtain ⟨W0, hW⟩ : ∃ W0, W0 = wP g bv s := ⟨_, rfl⟩
  have HW := hid hW
  rw [← hW] at hst
  obtain ⟨F, hF⟩ : ∃ F, F = wF g bv s := ⟨_, rfl⟩
  have HF := hid hF
  rw [← hF] at hst ho ⊢
  have hxm := hx.m
  have HXL := hid hx.len
  clear h hW hF
  have d0 : (x.kind == 0) = false := by simpa using hk0
  have d1 : (x.kind == 1) = false := by simpa using hk1
  have d2 : (x.kind == 2) = false := by simpa using hk2
  have d3 : (x.kind == 3) = false := by simpa using hk3
  clear hk0 hk1 hk2 hk3
  show Calls Try.prog 13 #[.pointer (some ⟨g, 0, none⟩), .agg ([.int .i64 x.kind, .int .i64 x.n, .int .i64 x.size, .string ⟨x.s.toArray⟩, .slice x.au x.m x.cu] : List Value).toArray] w _
  go_enter Try.func13, Try.ntmps13
  go_wp2_with (first | go_big_skip | go_big_guard | (refine wl_loadE rfl rfl rfl ?_; first | refine ⟨_, Loads.at [] hst1 rfl, ?_⟩) | (refine wl_boxA hst rfl rfl rfl ?_; intro gx w1 hst1; clear hst))
  go_ret
  refine ⟨rfl, bv, ?_⟩
  rw [HR.out, ← HW.out]
  exact St.sub hst1 (.cons _ (List.Sublist.refl _))
theorem lwrite_any (g : Nat) (bv : Value) (s : WR) (x : AV) (w : World) (h : St w (wF g bv s) w (wP g bv s)) (hB : s.2.length ≤ 65536) (hx : x.Ok w) (ho : Off (.slice x.au x.m x.cu) (wF g bv s)) :
    Calls Try.prog 13 #[.pointer (some ⟨g, 0, none⟩), .agg x.cells.toArray] w fun e w' => e = .returned (.bool true) ∧ ∃ bv', St w (wF g bv s) w' (wP g bv' (x.step s)) := by
  by_cases hk0 : x.kind = 0
  · exact lwrite_0 g bv s x w h hB hx ho hk0
  · by_cases hk1 : x.kind = 1
    · exact lwrite_1 g bv s x w h hB hx ho hk1
    · by_cases hk2 : x.kind = 2
      · exact lwrite_2 g bv s x w h hB hx ho hk2
      · by_cases hk3 : x.kind = 3
        · exact lwrite_3 g bv s x w h hB hx ho hk3
        · exact lwrite_4 g bv s x w h hB hx ho hk0 hk1 hk2 hk3
theorem lsay_0 (g : Nat) (bv : Value) (s : WR) (x : AV) (w : World) (h : St w (vF g bv s) w (vP g bv s)) (hB : s.2.length ≤ 65536) (hx : x.Ok w) (ho : Off (.slice x.au x.m x.cu) (vF g bv s)) (hk : x.kind = 0) :
    Calls Try.prog 14 #[.pointer (some ⟨g, 0, none⟩), .agg x.cells.toArray] w fun e w' => e = .returned (.tuple #[]) ∧ ∃ bv', St w (vF g bv s) w' (vP g bv' (x.step s)) := by
  have hR : x.step s = putW s (numR x.n x.size) := by simp [AV.step, hk]
  obtain ⟨R, hR0⟩ : ∃ R, R = x.step s := ⟨_, rfl⟩
  rw [← hR0]
  rw [← hR0] at hR
  have HR := hid hR
  clear hR hR0
  have hst := h
  obtain ⟨W0, hW⟩ : ∃ W0, W0 = vP g bv s := ⟨_, rfl⟩
  have HW := hid hW
  rw [← hW] at hst
  obtain ⟨F, hF⟩ : ∃ F, F = vF g bv s := ⟨_, rfl⟩
  have HF := hid hF
  rw [← hF] at hst ho ⊢
  have hxm := hx.m
  have HXL := hid hx.len
  clear h hW hF
  obtain ⟨kd, hkd⟩ : ∃ kd, kd = x.kind := ⟨_, rfl⟩
  have HKD := hid hkd
  have d0 : (x.kind == 0) = true := by rw [hk]; rfl
  clear hk hkd
  show Calls Try.prog 14 #[.pointer (some ⟨g, 0, none⟩), .agg ([.int .i64 x.kind, .int .i64 x.n, .int .i64 x.size, .string ⟨x.s.toArray⟩, .slice x.au x.m x.cu] : List Value).toArray] w _
  go_enter Try.func14, Try.ntmps14
  go_wp2_with (first | go_big_skip | go_big_guard | (refine wl_loadE rfl rfl rfl ?_; first | refine ⟨_, Loads.at [] hst1 rfl, ?_⟩) | (refine wl_boxA hst rfl rfl rfl ?_; intro gx w1 hst1; clear hst) | (go_at_call 44; have hQ := (St.perm hst1 (List.perm_append_comm (l₁ := [_]) (l₂ := W0))); rw [HW.out] at hQ; have hS := (St.sub hQ (List.sublist_append_left _ _)).selfF; refine (vnum_any g bv s x.n x.size _ hS hB hx.size hx.n).mono ?_; rintro _ w9 ⟨rfl, bv', h4⟩; rw [← HR.out] at h4; have hst9 := St.callF (vP g bv s) hQ h4; clear h4))
  go_end0
  exact ⟨rfl, bv', St.sub hst9 (List.sublist_append_left _ _)⟩
theorem lsay_1 (g : Nat) (bv : Value) (s : WR) (x : AV) (w : World) (h : St w (vF g bv s) w (vP g bv s)) (hB : s.2.length ≤ 65536) (hx : x.Ok w) (ho : Off (.slice x.au x.m x.cu) (vF g bv s)) (hk : x.kind = 1) :
    Calls Try.prog 14 #[.pointer (some ⟨g, 0, none⟩), .agg x.cells.toArray] w fun e w' => e = .returned (.tuple #[]) ∧ ∃ bv', St w (vF g bv s) w' (vP g bv' (x.step s)) := by
  have hR : x.step s = putW s (textR x.s x.size) := by simp [AV.step, hk]
  obtain ⟨R, hR0⟩ : ∃ R, R = x.step s := ⟨_, rfl⟩
  rw [← hR0]
  rw [← hR0] at hR
  have HR := hid hR
  clear hR hR0
  have hst := h
  obtain ⟨W0, hW⟩ : ∃ W0, W0 = vP g bv s := ⟨_, rfl⟩
  have HW := hid hW
  rw [← hW] at hst
  obtain ⟨F, hF⟩ : ∃ F, F = vF g bv s := ⟨_, rfl⟩
  have HF := hid hF
  rw [← hF] at hst ho ⊢
  have hxm := hx.m
  have HXL := hid hx.len
  clear h hW hF
  obtain ⟨kd, hkd⟩ : ∃ kd, kd = x.kind := ⟨_, rfl⟩
  have HKD := hid hkd
  have d0 : (x.kind == 0) = false := by rw [hk]; rfl
  have d1 : (x.kind == 1) = true := by rw [hk]; rfl
  clear hk hkd
  show Calls Try.prog 14 #[.pointer (some ⟨g, 0, none⟩), .agg ([.int .i64 x.kind, .int .i64 x.n, .int .i64 x.size, .string ⟨x.s.toArray⟩, .slice x.au x.m x.cu] : List Value).toArray] w _
  go_enter Try.func14, Try.ntmps14
  go_wp2_with (first | go_big_skip | go_big_guard | (refine wl_loadE rfl rfl rfl ?_; first | refine ⟨_, Loads.at [] hst1 rfl, ?_⟩) | (refine wl_boxA hst rfl rfl rfl ?_; intro gx w1 hst1; clear hst) | (go_at_call 45; have hQ := (St.perm hst1 (List.perm_append_comm (l₁ := [_]) (l₂ := W0))); rw [HW.out] at hQ; have hS := (St.sub hQ (List.sublist_append_left _ _)).selfF; refine (vtext_any g bv s x.s x.size _ hS hB hx.size (by have := hx.s; omega)).mono ?_; rintro _ w9 ⟨rfl, bv', h4⟩; rw [← HR.out] at h4; have hst9 := St.callF (vP g bv s) hQ h4; clear h4))
  go_end0
  exact ⟨rfl, bv', St.sub hst9 (List.sublist_append_left _ _)⟩
theorem lsay_2 (g : Nat) (bv : Value) (s : WR) (x : AV) (w : World) (h : St w (vF g bv s) w (vP g bv s)) (hB : s.2.length ≤ 65536) (hx : x.Ok w) (ho : Off (.slice x.au x.m x.cu) (vF g bv s)) (hk : x.kind = 2) :
    Calls Try.prog 14 #[.pointer (some ⟨g, 0, none⟩), .agg x.cells.toArray] w fun e w' => e = .returned (.tuple #[]) ∧ ∃ bv', St w (vF g bv s) w' (vP g bv' (x.step s)) := by
  have hR : x.step s = putW s (0, x.B) := by simp [AV.step, hk]
  obtain ⟨R, hR0⟩ : ∃ R, R = x.step s := ⟨_, rfl⟩
  rw [← hR0]
  rw [← hR0] at hR
  have HR := hid hR
  clear hR hR0
  have hst := h
  obtain ⟨W0, hW⟩ : ∃ W0, W0 = vP g bv s := ⟨_, rfl⟩
  have HW := hid hW
  rw [← hW] at hst
  obtain ⟨F, hF⟩ : ∃ F, F = vF g bv s := ⟨_, rfl⟩
  have HF := hid hF
  rw [← hF] at hst ho ⊢
  have hxm := hx.m
  have HXL := hid hx.len
  clear h hW hF
  obtain ⟨kd, hkd⟩ : ∃ kd, kd = x.kind := ⟨_, rfl⟩
  have HKD := hid hkd
  have d0 : (x.kind == 0) = false := by rw [hk]; rfl
  have d1 : (x.kind == 1) = false := by rw [hk]; rfl
  have d2 : (x.kind == 2) = true := by rw [hk]; rfl
  clear hk hkd
  show Calls Try.prog 14 #[.pointer (some ⟨g, 0, none⟩), .agg ([.int .i64 x.kind, .int .i64 x.n, .int .i64 x.size, .string ⟨x.s.toArray⟩, .slice x.au x.m x.cu] : List Value).toArray] w _
  go_enter Try.func14, Try.ntmps14
  go_wp2_with (first | go_big_skip | go_big_guard | (refine wl_loadE rfl rfl rfl ?_; first | refine ⟨_, Loads.at [] hst1 rfl, ?_⟩) | (refine wl_boxA hst rfl rfl rfl ?_; intro gx w1 hst1; clear hst) | (go_at_call 46; have hQ := (St.perm hst1 (List.perm_append_comm (l₁ := [_]) (l₂ := W0))); rw [HW.out] at hQ; have hS := (St.sub hQ (List.sublist_append_left _ _)).selfF; refine (vraw_any g bv s x.au x.m x.cu x.B _ hS hB (Rd.oldM hst1 hx.rd ho) (by rw [HF.out] at ho; exact ho) HXL.out (by omega)).mono ?_; rintro _ w9 ⟨rfl, bv', h4⟩; rw [← HR.out] at h4; have hst9 := St.callF (vP g bv s) hQ h4; clear h4))
  go_end0
  exact ⟨rfl, bv', St.sub hst9 (List.sublist_append_left _ _)⟩
theorem lsay_3 (g : Nat) (bv : Value) (s : WR) (x : AV) (w : World) (h : St w (vF g bv s) w (vP g bv s)) (hB : s.2.length ≤ 65536) (hx : x.Ok w) (ho : Off (.slice x.au x.m x.cu) (vF g bv s)) (hk : x.kind = 3) :
    Calls Try.prog 14 #[.pointer (some ⟨g, 0, none⟩), .agg x.cells.toArray] w fun e w' => e = .returned (.tuple #[]) ∧ ∃ bv', St w (vF g bv s) w' (vP g bv' (x.step s)) := by
  have hR : x.step s = putW s (padR x.size s.2.length) := by simp [AV.step, hk]
  obtain ⟨R, hR0⟩ : ∃ R, R = x.step s := ⟨_, rfl⟩
  rw [← hR0]
  rw [← hR0] at hR
  have HR := hid hR
  clear hR hR0
  have hst := h
  obtain ⟨W0, hW⟩ : ∃ W0, W0 = vP g bv s := ⟨_, rfl⟩
  have HW := hid hW
  rw [← hW] at hst
  obtain ⟨F, hF⟩ : ∃ F, F = vF g bv s := ⟨_, rfl⟩
  have HF := hid hF
  rw [← hF] at hst ho ⊢
  have hxm := hx.m
  have HXL := hid hx.len
  clear h hW hF
  obtain ⟨kd, hkd⟩ : ∃ kd, kd = x.kind := ⟨_, rfl⟩
  have HKD := hid hkd
  have d0 : (x.kind == 0) = false := by rw [hk]; rfl
  have d1 : (x.kind == 1) = false := by rw [hk]; rfl
  have d2 : (x.kind == 2) = false := by rw [hk]; rfl
  have d3 : (x.kind == 3) = true := by rw [hk]; rfl
  clear hk hkd
  show Calls Try.prog 14 #[.pointer (some ⟨g, 0, none⟩), .agg ([.int .i64 x.kind, .int .i64 x.n, .int .i64 x.size, .string ⟨x.s.toArray⟩, .slice x.au x.m x.cu] : List Value).toArray] w _
  go_enter Try.func14, Try.ntmps14
  go_wp2_with (first | go_big_skip | go_big_guard | (refine wl_loadE rfl rfl rfl ?_; first | refine ⟨_, Loads.at [] hst1 rfl, ?_⟩) | (refine wl_boxA hst rfl rfl rfl ?_; intro gx w1 hst1; clear hst) | (go_at_call 47; have hQ := (St.perm hst1 (List.perm_append_comm (l₁ := [_]) (l₂ := W0))); rw [HW.out] at hQ; have hS := (St.sub hQ (List.sublist_append_left _ _)).selfF; refine (vpad_any g bv s x.size _ hS hB hx.size).mono ?_; rintro _ w9 ⟨rfl, bv', h4⟩; rw [← HR.out] at h4; have hst9 := St.callF (vP g bv s) hQ h4; clear h4))
  go_end0
  exact ⟨rfl, bv', St.sub hst9 (List.sublist_append_left _ _)⟩
theorem lsay_4 (g : Nat) (bv : Value) (s : WR) (x : AV) (w : World) (h : St w (vF g bv s) w (vP g bv s)) (hB : s.2.length ≤ 65536) (hx : x.Ok w) (ho : Off (.slice x.au x.m x.cu) (vF g bv s)) (hk0 : x.kind ≠ 0) (hk1 : x.kind ≠ 1) (hk2 : x.kind ≠ 2) (hk3 : x.kind ≠ 3) :
    Calls Try.prog 14 #[.pointer (some ⟨g, 0, none⟩), .agg x.cells.toArray] w fun e w' => e = .returned (.tuple #[]) ∧ ∃ bv', St w (vF g bv s) w' (vP g bv' (x.step s)) := by
  have hR : x.step s = s := by simp [AV.step, hk0, hk1, hk2, hk3]
  obtain ⟨R, hR0⟩ : ∃ R, R = x.step s := ⟨_, rfl⟩
  rw [← hR0]
  rw [← hR0] at hR
  have HR := hid hR
  clear hR hR0
  have hst := h
  obtain ⟨W0, hW⟩ : ∃ W0, W0 = vP g bv s := ⟨_, rfl⟩
  have HW := hid hW
  rw [← hW] at hst
  obtain ⟨F, hF⟩ : ∃ F, F = vF g bv s := ⟨_, rfl⟩
  have HF := hid hF
  rw [← hF] at hst ho ⊢
  have hxm := hx.m
  have HXL := hid hx.len
  clear h hW hF
  have d0 : (x.kind == 0) = false := by simpa using hk0
  have d1 : (x.kind == 1) = false := by simpa using hk1
  have d2 : (x.kind == 2) = false := by simpa using hk2
  have d3 : (x.kind == 3) = false := by simpa using hk3
  clear hk0 hk1 hk2 hk3
  show Calls Try.prog 14 #[.pointer (some ⟨g, 0, none⟩), .agg ([.int .i64 x.kind, .int .i64 x.n, .int .i64 x.size, .string ⟨x.s.toArray⟩, .slice x.au x.m x.cu] : List Value).toArray] w _
  go_enter Try.func14, Try.ntmps14
  go_wp2_with (first | go_big_skip | go_big_guard | (refine wl_loadE rfl rfl rfl ?_; first | refine ⟨_, Loads.at [] hst1 rfl, ?_⟩) | (refine wl_boxA hst rfl rfl rfl ?_; intro gx w1 hst1; clear hst))
  go_end0
  refine ⟨rfl, bv, ?_⟩
  rw [HR.out, ← HW.out]
  exact St.sub hst1 (.cons _ (List.Sublist.refl _))
theorem lsay_any (g : Nat) (bv : Value) (s : WR) (x : AV) (w : World) (h : St w (vF g bv s) w (vP g bv s)) (hB : s.2.length ≤ 65536) (hx : x.Ok w) (ho : Off (.slice x.au x.m x.cu) (vF g bv s)) :
    Calls Try.prog 14 #[.pointer (some ⟨g, 0, none⟩), .agg x.cells.toArray] w fun e w' => e = .returned (.tuple #[]) ∧ ∃ bv', St w (vF g bv s) w' (vP g bv' (x.step s)) := by
  by_cases hk0 : x.kind = 0
  · exact lsay_0 g bv s x w h hB hx ho hk0
  · by_cases hk1 : x.kind = 1
    · exact lsay_1 g bv s x w h hB hx ho hk1
    · by_cases hk2 : x.kind = 2
      · exact lsay_2 g bv s x w h hB hx ho hk2
      · by_cases hk3 : x.kind = 3
        · exact lsay_3 g bv s x w h hB hx ho hk3
        · exact lsay_4 g bv s x w h hB hx ho hk0 hk1 hk2 hk3
end Go.Proofs.Ytlgioloanjjndaa
