import Derived.Test.YtmdfbdfijnmhkaaGreatR25
namespace Go.Proofs.YtmdfbdfijnmhkaaGreat
set_option linter.unusedVariables false
set_option linter.unusedSimpArgs false
open Go.RowKit Hp
attribute [local irreducible] Go.Calls Go.wpList
set_option maxRecDepth 100000
set_option maxHeartbeats 4000000
def fuseL (a : AR) : List Int := [0, orE (!a.out) 10]
theorem fuseL_isE (a : AR) : ∀ e ∈ fuseL a, e = 0 ∨ isE e := by
  intro e he
  unfold fuseL at he
  simp only [List.mem_cons, List.not_mem_nil, or_false] at he
  rcases he with rfl | rfl
  · exact .inl rfl
  · exact orE_isE _ _ (by unfold isE; decide)
theorem fuse_eq {a : AR} (h0 : a.devs ≠ []) (n : Int) : a.fuseE n = if firstE (fuseL a) = 0 then orE (decide (0 ≤ n)) 2 else firstE (fuseL a) := by
  unfold AR.fuseE fuseL
  rw [if_neg h0]
  cases a.out
  · show (if False then (10 : Int) else if n < 0 then 2 else 0) = orE (decide (0 ≤ n)) 2
    rw [if_neg (fun h => h)]
    by_cases hn : 0 ≤ n
    · rw [if_neg (by omega), decide_eq_true hn]; rfl
    · rw [if_pos (by omega), decide_eq_false hn]; rfl
  · rfl
theorem AR.Ok.fused {a : AR} (ok : a.Ok) {n : Int} (hn : n ≤ 9223372036854775807) : (a.fused n).Ok := by
  unfold AR.fused
  split
  · rename_i h
    have h0 : 0 ≤ n := by
      unfold AR.fuseE at h
      split at h
      · cases h
      · split at h
        · cases h
        · split at h
          · cases h
          · omega
    exact ⟨ok.d0, ok.dn, ok.sn, ok.fm, ok.lw, by show -1 ≤ n ∧ n ≤ _; omega⟩
  · exact ok
theorem fuse_bad {w : World} {ga : Nat} {x : GA} {a : AR} (hS : St w (arF ga x a) w (arP ga x a)) (ok : a.Ok) (n : Int) (h1 : firstE (fuseL a) ≠ 0) :
    Calls Tryz.prog 54 #[.pointer (some ⟨ga, 0, none⟩), .int .i64 n] w fun e w' => e = .returned (.int .i64 (a.fuseE n)) ∧ St w (arF ga x a) w' (arP ga x (a.fused n)) := by
  have he : a.fuseE n = firstE (fuseL a) := by rw [fuse_eq ok.d0, if_neg h1]
  have hc : a.fused n = a := by unfold AR.fused; rw [if_neg (by rw [he]; exact h1)]
  rw [he, hc]
  have HE := hid (firstE_isE (fuseL_isE a) h1)
  have H1 := hid h1
  have OK := hid ok
  have hst0 := hS
  have hmf := rmf
  clear he hc h1 ok hS
  go_enter Tryz.func54, Tryz.ntmps54
  go_wp2_with (first | go_big_skip | go_big_guard | (refine wl_box hst0 rfl rfl rfl ?_; intro g3 w1 hst1; clear hst0) | (apply wl_bsX ([methV 46 (ptrV ga), methV 88 (ptrV ga), cloV 104 [ptrV g3]]) ([methV 46 (ptrV ga), methV 88 (ptrV ga), cloV 104 [ptrV g3]]) hst1; rfl; rfl; exact rfl; exact rfl; infer_instance; infer_instance; rfl; rfl; rfl; intro gs w2 hst2; clear hst1) | (go_at_call 45; have hC := checks_any (-1) (v := .slice (some ⟨gs, 0, none⟩) 3 3) (n := 3) (fs := [methV 46 (ptrV ga), methV 88 (ptrV ga)]) (f9 := cloV 104 [ptrV g3]) (es := fuseL a) (e9 := orE (decide (0 ≤ n)) 2) (A := (fun w' => St w (arF ga x a) w' (([HA.blk gs 92 ([methV 46 (ptrV ga), methV 88 (ptrV ga), cloV 104 [ptrV g3]]), .blk g3 3 [.int .i64 n]] : List HA) ++ arP ga x a))) (B := (fun w' => St w (arF ga x a) w' (([HA.blk gs 92 ([methV 46 (ptrV ga), methV 88 (ptrV ga), cloV 104 [ptrV g3]]), .blk g3 3 [.int .i64 n]] : List HA) ++ arP ga x a))) _ (fun _ h => Rd.blk h (.head _) (Nat.le_refl _) (by decide) rfl rfl) rfl rfl (by decide) (fun j f e hf he _ => (match j, hf, he with | 0, hf, he => (by cases hf; cases he; exact probe_made (fun _ h => ArrAt.of h (fun p hp => List.mem_append_right _ hp) OK.out.d0) keeps_st) | 1, hf, he => (by cases hf; cases he; exact probe_runs (fun _ h => ArrAt.of h (fun p hp => List.mem_append_right _ hp) OK.out.d0) keeps_st) | j + 2, hf, _ => (by simp at hf))) (fun _ => probe_clo (fun _ _ => rfl) fun w h => (fuse1_any (St.cell h (off := 0) (.tail _ (.head _)) rfl)).mono fun _ _ ⟨e, h4⟩ => ⟨e, keeps_st _ _ h h4⟩) hst2; refine hC.mono ?_; rintro _ w5 hh; obtain ⟨rfl, h4⟩ := checks_bad H1.out hh; clear hC hh hst2; have hst3 := h4; clear h4; obtain ⟨E, hEE⟩ : ∃ E, E = firstE (fuseL a) := ⟨_, rfl⟩; have HQ := hid hEE; rw [← hEE] at HE H1; rw [← hEE]; clear hEE) | (go_at_call 47; refine (number_isE E (-1) HE.out H1.out _).mono ?_; rintro _ w6 ⟨rfl, h4⟩; have hst6 := St.call0 hst3 h4; clear h4 hst3))
  go_ret
  exact ⟨congrArg _ (congrArg _ HQ.out), St.sub hst6 (List.sublist_append_right _ _)⟩
theorem fuse_neg {w : World} {ga : Nat} {x : GA} {a : AR} (hS : St w (arF ga x a) w (arP ga x a)) (ok : a.Ok) (n : Int) (h1 : firstE (fuseL a) = 0) (h2 : ¬ 0 ≤ n) :
    Calls Tryz.prog 54 #[.pointer (some ⟨ga, 0, none⟩), .int .i64 n] w fun e w' => e = .returned (.int .i64 (a.fuseE n)) ∧ St w (arF ga x a) w' (arP ga x (a.fused n)) := by
  have he : a.fuseE n = 2 := by rw [fuse_eq ok.d0, if_pos h1, decide_eq_false h2]; rfl
  have hc : a.fused n = a := by unfold AR.fused; rw [he]; rfl
  rw [he, hc]
  have HE : Hid (orE (decide (0 ≤ n)) 2 = 2) := hid (by rw [decide_eq_false h2]; rfl)
  have H1 := hid h1
  have OK := hid ok
  have hst0 := hS
  have hmf := rmf
  clear he hc h1 ok hS h2
  go_enter Tryz.func54, Tryz.ntmps54
  go_wp2_with (first | go_big_skip | go_big_guard | (refine wl_box hst0 rfl rfl rfl ?_; intro g3 w1 hst1; clear hst0) | (apply wl_bsX ([methV 46 (ptrV ga), methV 88 (ptrV ga), cloV 104 [ptrV g3]]) ([methV 46 (ptrV ga), methV 88 (ptrV ga), cloV 104 [ptrV g3]]) hst1; rfl; rfl; exact rfl; exact rfl; infer_instance; infer_instance; rfl; rfl; rfl; intro gs w2 hst2; clear hst1) | (go_at_call 45; have hC := checks_any (-1) (v := .slice (some ⟨gs, 0, none⟩) 3 3) (n := 3) (fs := [methV 46 (ptrV ga), methV 88 (ptrV ga)]) (f9 := cloV 104 [ptrV g3]) (es := fuseL a) (e9 := orE (decide (0 ≤ n)) 2) (A := (fun w' => St w (arF ga x a) w' (([HA.blk gs 92 ([methV 46 (ptrV ga), methV 88 (ptrV ga), cloV 104 [ptrV g3]]), .blk g3 3 [.int .i64 n]] : List HA) ++ arP ga x a))) (B := (fun w' => St w (arF ga x a) w' (([HA.blk gs 92 ([methV 46 (ptrV ga), methV 88 (ptrV ga), cloV 104 [ptrV g3]]), .blk g3 3 [.int .i64 n]] : List HA) ++ arP ga x a))) _ (fun _ h => Rd.blk h (.head _) (Nat.le_refl _) (by decide) rfl rfl) rfl rfl (by decide) (fun j f e hf he _ => (match j, hf, he with | 0, hf, he => (by cases hf; cases he; exact probe_made (fun _ h => ArrAt.of h (fun p hp => List.mem_append_right _ hp) OK.out.d0) keeps_st) | 1, hf, he => (by cases hf; cases he; exact probe_runs (fun _ h => ArrAt.of h (fun p hp => List.mem_append_right _ hp) OK.out.d0) keeps_st) | j + 2, hf, _ => (by simp at hf))) (fun _ => probe_clo (fun _ _ => rfl) fun w h => (fuse1_any (St.cell h (off := 0) (.tail _ (.head _)) rfl)).mono fun _ _ ⟨e, h4⟩ => ⟨e, keeps_st _ _ h h4⟩) hst2; rw [HE.out] at hC; refine hC.mono ?_; rintro _ w5 hh; obtain ⟨rfl, h4⟩ := checks_last H1.out (by decide) hh; clear hC hh hst2; have hst3 := h4; clear h4) | (go_at_call 47; refine (number_isE 2 (-1) (by unfold isE; decide) (by decide) _).mono ?_; rintro _ w6 ⟨rfl, h4⟩; have hst6 := St.call0 hst3 h4; clear h4 hst3))
  go_ret
  exact ⟨rfl, St.sub hst6 (List.sublist_append_right _ _)⟩
theorem fuse_fine {w : World} {ga : Nat} {x : GA} {a : AR} (hS : St w (arF ga x a) w (arP ga x a)) (ok : a.Ok) (n : Int) (h1 : firstE (fuseL a) = 0) (h2 : 0 ≤ n) :
    Calls Tryz.prog 54 #[.pointer (some ⟨ga, 0, none⟩), .int .i64 n] w fun e w' => e = .returned (.int .i64 (a.fuseE n)) ∧ St w (arF ga x a) w' (arP ga x (a.fused n)) := by
  have he : a.fuseE n = 0 := by rw [fuse_eq ok.d0, if_pos h1, decide_eq_true h2]; rfl
  have hc : a.fused n = ⟨a.devs, a.loose, n, a.out, a.steps⟩ := by unfold AR.fused; rw [he]; rfl
  rw [he, hc]
  have HE : Hid (orE (decide (0 ≤ n)) 2 = 0) := hid (by rw [decide_eq_true h2]; rfl)
  have H1 := hid h1
  have OK := hid ok
  have hst0 := hS
  have hmf := rmf
  clear he hc h1 ok hS h2
  go_enter Tryz.func54, Tryz.ntmps54
  go_wp2_with (first | go_big_skip | go_big_guard | (refine wl_box hst0 rfl rfl rfl ?_; intro g3 w1 hst1; clear hst0) | (apply wl_bsX ([methV 46 (ptrV ga), methV 88 (ptrV ga), cloV 104 [ptrV g3]]) ([methV 46 (ptrV ga), methV 88 (ptrV ga), cloV 104 [ptrV g3]]) hst1; rfl; rfl; exact rfl; exact rfl; infer_instance; infer_instance; rfl; rfl; rfl; intro gs w2 hst2; clear hst1) | (go_at_call 45; have hC := checks_any (-1) (v := .slice (some ⟨gs, 0, none⟩) 3 3) (n := 3) (fs := [methV 46 (ptrV ga), methV 88 (ptrV ga)]) (f9 := cloV 104 [ptrV g3]) (es := fuseL a) (e9 := orE (decide (0 ≤ n)) 2) (A := (fun w' => St w (arF ga x a) w' (([HA.blk gs 92 ([methV 46 (ptrV ga), methV 88 (ptrV ga), cloV 104 [ptrV g3]]), .blk g3 3 [.int .i64 n]] : List HA) ++ arP ga x a))) (B := (fun w' => St w (arF ga x a) w' (([HA.blk gs 92 ([methV 46 (ptrV ga), methV 88 (ptrV ga), cloV 104 [ptrV g3]]), .blk g3 3 [.int .i64 n]] : List HA) ++ arP ga x a))) _ (fun _ h => Rd.blk h (.head _) (Nat.le_refl _) (by decide) rfl rfl) rfl rfl (by decide) (fun j f e hf he _ => (match j, hf, he with | 0, hf, he => (by cases hf; cases he; exact probe_made (fun _ h => ArrAt.of h (fun p hp => List.mem_append_right _ hp) OK.out.d0) keeps_st) | 1, hf, he => (by cases hf; cases he; exact probe_runs (fun _ h => ArrAt.of h (fun p hp => List.mem_append_right _ hp) OK.out.d0) keeps_st) | j + 2, hf, _ => (by simp at hf))) (fun _ => probe_clo (fun _ _ => rfl) fun w h => (fuse1_any (St.cell h (off := 0) (.tail _ (.head _)) rfl)).mono fun _ _ ⟨e, h4⟩ => ⟨e, keeps_st _ _ h h4⟩) hst2; rw [HE.out] at hC; refine hC.mono ?_; rintro _ w5 hh; obtain ⟨rfl, h4⟩ := checks_fine H1.out hh; clear hC hh hst2; have hst3 := h4; clear h4) | (refine wl_loadE rfl rfl rfl ?_; first | refine ⟨_, Loads.at [_] hst3 rfl, ?_⟩) | (refine wl_store [_, _] hst3 rfl rfl rfl (v := .int _ _) rfl rfl rfl (by show (2 : Nat) + 1 ≤ 5; decide) ?_; intro w7 hst7; clear hst3))
  go_ret
  exact ⟨rfl, St.sub hst7 (.cons _ (.cons _ (List.Sublist.refl _)))⟩
theorem fuseM_any {w : World} {ga : Nat} {x : GA} {a : AR} (hS : St w (arF ga x a) w (arP ga x a)) (ok : a.Ok) (n : Int) :
    Calls Tryz.prog 54 #[.pointer (some ⟨ga, 0, none⟩), .int .i64 n] w fun e w' => e = .returned (.int .i64 (a.fuseE n)) ∧ St w (arF ga x a) w' (arP ga x (a.fused n)) := by
  by_cases h1 : firstE (fuseL a) = 0
  · by_cases h2 : 0 ≤ n
    · exact fuse_fine hS ok n h1 h2
    · exact fuse_neg hS ok n h1 h2
  · exact fuse_bad hS ok n h1
end Go.Proofs.YtmdfbdfijnmhkaaGreat
