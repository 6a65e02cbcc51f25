import Derived.Test.YtmdfbdfijnmhkaaGreatR13
namespace Go.Proofs.YtmdfbdfijnmhkaaGreat
set_option linter.unusedVariables false
set_option linter.unusedSimpArgs false
open Go.RowKit Hp
attribute [local irreducible] Go.Calls Go.wpList
set_option maxRecDepth 100000
set_option maxHeartbeats 4000000
def AR.failE (a : AR) (dev : Int) : Int := if 0 < (a.dv dev).fail then 13 else 0
def AR.failed (a : AR) (dev : Int) : AR := if 0 < (a.dv dev).fail then a.upd dev fun d => { d with fail := d.fail - 1 } else a
def readL (a : AR) (dev pl : Int) : List Int := [0, orE (!a.out) 10, orE (a.inS dev pl) 5, orE (!(a.dv dev).gone) 14]
theorem readL_isE (a : AR) (dev pl : Int) : ∀ e ∈ readL a dev pl, e = 0 ∨ isE e := by
  intro e he
  unfold readL at he
  simp only [List.mem_cons, List.not_mem_nil, or_false] at he
  rcases he with rfl | rfl | rfl | rfl
  · exact .inl rfl
  · exact orE_isE _ _ (by unfold isE; decide)
  · exact orE_isE _ _ (by unfold isE; decide)
  · exact orE_isE _ _ (by unfold isE; decide)
theorem read_bad {a : AR} {dev pl : Int} (h0 : a.devs ≠ []) (h : firstE (readL a dev pl) ≠ 0) : a.readE dev pl = firstE (readL a dev pl) ∧ a.read dev pl = a := by
  have key : a.readE dev pl = firstE (readL a dev pl) ∧ a.readE dev pl ≠ 13 := by
    unfold AR.readE readL orE firstE at *
    rw [if_neg h0]
    cases h1 : a.out <;> cases h2 : a.inS dev pl <;> cases h4 : (a.dv dev).gone <;> simp_all
  refine ⟨key.1, ?_⟩
  unfold AR.read
  rw [if_neg key.2]
theorem read_ok {a : AR} {dev pl : Int} (h0 : a.devs ≠ []) (h : firstE (readL a dev pl) = 0) : a.inS dev pl = true ∧ a.readE dev pl = a.failE dev ∧ a.read dev pl = a.failed dev := by
  have hz := firstE_all h
  unfold readL at hz
  have h1 := orE_zero (by decide) (hz _ (.tail _ (.head _)))
  have h2 := orE_zero (by decide) (hz _ (.tail _ (.tail _ (.head _))))
  have h4 := orE_zero (by decide) (hz _ (.tail _ (.tail _ (.tail _ (.head _)))))
  have h1' : a.out = false := by simpa using h1
  have h4' : (a.dv dev).gone = false := by simpa using h4
  have e : a.readE dev pl = a.failE dev := by
    unfold AR.readE AR.failE
    rw [if_neg h0, h1', h2, h4', if_neg Bool.false_ne_true, if_neg (by decide), if_neg Bool.false_ne_true]
  refine ⟨h2, e, ?_⟩
  unfold AR.read
  rw [e]
  unfold AR.failE AR.failed
  by_cases hf : 0 < (a.dv dev).fail
  · simp [hf]
  · simp [hf]
section
attribute [local go_sem ↓] loadedPA loadedSD loadedIn
theorem read1_any {w : World} {ga g0 g1 k : Nat} {x : GA} {a : AR} (hS : St w [x.gd] w [.blk x.gd 89 (devC a ++ x.rest)]) (hb0 : w.cell? ⟨g0, 0, none⟩ = some (.pointer (some ⟨ga, 0, none⟩))) (hb1 : w.cell? ⟨g1, 0, none⟩ = some (.int .i64 (k : Int))) (ha0 : w.cell? ⟨ga, 0, none⟩ = some (.slice (some ⟨x.gd, 0, none⟩) a.devs.length x.cd))
    (hm0 : g0 ∉ [x.gd]) (hm1 : g1 ∉ [x.gd]) (hma : ga ∉ [x.gd]) (hin : a.inD (k : Int) = true) (hfb : 0 ≤ (a.dv (k : Int)).fail ∧ (a.dv (k : Int)).fail ≤ 9223372036854775807) :
    Calls Tryz.prog 90 #[ptrV g0, ptrV g1] w fun e w' => e = .returned (.int .i64 (a.failE (k : Int))) ∧ St w [x.gd] w' [.blk x.gd 89 (devC (a.failed (k : Int)) ++ x.rest)] := by
  have hlt : k < a.devs.length := by have := (inD_dev hin).2; omega
  have HB0 := hid hb0
  have HB1 := hid hb1
  have HA0 := hid ha0
  have HM0 := hid hm0
  have HM1 := hid hm1
  have HMA := hid hma
  have HF := hid (devC_get (rest := x.rest) hin (i := 4) rfl (by decide))
  replace HF : Hid ((devC a ++ x.rest)[k * 5 + 4]? = some (.int .i64 (a.dv (k : Int)).fail)) := HF
  have HLE := hid (show k * 5 + 4 + 1 ≤ (devC a ++ x.rest).length from (List.getElem?_eq_some_iff.1 HF.out).1)
  have HPUT := hid (devC_put (rest := x.rest) (f := fun d => { d with fail := d.fail - 1 }) (v := .int .i64 ((a.dv (k : Int)).fail - 1)) hin (i := 4) (by decide) rfl)
  unfold AR.failE AR.failed
  obtain ⟨fl, hfl⟩ : ∃ fl, fl = (a.dv (k : Int)).fail := ⟨_, rfl⟩
  rw [← hfl] at HF HPUT hfb ⊢
  clear hb0 hb1 ha0 hm0 hm1 hma hin hfl
  by_cases k1 : 0 < fl
  · rw [if_pos k1, if_pos k1]
    have d1 : decide (fl > 0) = true := decide_eq_true k1
    have d2 : decide (0 < fl) = true := d1
    have z1 : IntKind.i64.wrap (fl - 1) = fl - 1 := IntWalk.i64_in _ (by omega)
    clear k1
    unfold ptrV
    go_enter Tryz.func90, Tryz.ntmps90
    go_wp2_with (first | go_big_skip | go_big_guard | fail)
    have hX := hS.drew
    clear hS
    refine wp_region_held_drew (S := (fun w' => (loadVarH 23 ⟨g0, 0, none⟩).run Tryz.prog w' = .ok (.pointer (some ⟨ga, 0, none⟩)) w' ∧ (loadVarH 3 ⟨g1, 0, none⟩).run Tryz.prog w' = .ok (.int .i64 (k : Int)) w' ∧ (loadVarH 106 ⟨ga, 0, none⟩).run Tryz.prog w' = .ok (.slice (some ⟨x.gd, 0, none⟩) a.devs.length x.cd) w')) (by kernel_rfl) (by exact ⟨ldOMx hX HB0.out HM0.out, ldOMx hX HB1.out HM1.out, ldOMx hX HA0.out HMA.out⟩) (fun hHeld => ?_)
    refine tkH 0 4 ?_ rfl (by kernel_rfl) (fun _ _ _ h => h) (by rfl) (by assumption) ?_ ?_
    rotate_left
    · intro w hSw; (try dsimp only at hSw); go_simp; try with_reducible rfl
    (try simp only [pmL, pnL, sc0, sc1])
    refine tkH 4 8 ?_ rfl (by kernel_rfl) (fun _ _ _ h => h) (by rfl) (by assumption) ?_ ?_
    rotate_left
    · intro w hSw; (try dsimp only at hSw); go_simp; try with_reducible rfl
    (try simp only [pmL, pnL, sc0, sc1])
    refine tkH 1 5 ?_ rfl (by kernel_rfl) (fun _ _ _ h => h) (by rfl) (by assumption) ?_ ?_
    rotate_left
    · intro w hSw; (try dsimp only at hSw); go_simp; try with_reducible rfl
    (try simp only [pmL, pnL, sc0, sc1])
    refine tkH 2 6 ?_ rfl (by kernel_rfl) (fun _ _ _ h => h) (by rfl) (by assumption) ?_ ?_
    rotate_left
    · intro w hSw; (try dsimp only at hSw); go_simp; try with_reducible rfl
    (try simp only [pmL, pnL, sc0, sc1])
    refine tkH 3 7 ?_ rfl (by kernel_rfl) (fun _ _ _ h => h) (by rfl) (by assumption) ?_ ?_
    rotate_left
    · intro w hSw; (try dsimp only at hSw); go_simp; try with_reducible rfl
    (try simp only [pmL, pnL, sc0, sc1])
    refine tkH 5 9 ?_ rfl (by kernel_rfl) (fun _ _ _ h => h) (by rfl) (by assumption) ?_ ?_
    rotate_left
    · intro w hSw; (try dsimp only at hSw); go_simp; try with_reducible rfl
    (try simp only [pmL, pnL, sc0, sc1])
    refine tkH 6 3 ?_ rfl (by kernel_rfl) (fun _ _ _ h => h) (by rfl) (by assumption) ?_ ?_
    rotate_left
    · intro w hSw; (try dsimp only at hSw); go_simp; try with_reducible rfl
    (try simp only [pmL, pnL, sc0, sc1])
    refine wpAnyH_done (by kernel_rfl) ?_ _
    clear hHeld
    go_wp2_with (first | go_big_skip | go_big_guard | (refine wl_loadE rfl rfl rfl ?_; refine ⟨_, Loads.at [] hX HF.out, ?_⟩) | (refine wl_store [] hX rfl rfl rfl (v := .int _ _) rfl rfl rfl HLE.out ?_; intro w3 hs3; clear hX))
    go_ret
    refine ⟨rfl, ?_⟩
    rw [← HPUT.out]
    exact hs3
  · rw [if_neg k1, if_neg k1]
    have d1 : decide (fl > 0) = false := decide_eq_false k1
    have d2 : decide (0 < fl) = false := d1
    clear k1
    unfold ptrV
    go_enter Tryz.func90, Tryz.ntmps90
    go_wp2_with (first | go_big_skip | go_big_guard | fail)
    have hX := hS.drew
    clear hS
    refine wp_region_held_drew (S := (fun w' => (loadVarH 23 ⟨g0, 0, none⟩).run Tryz.prog w' = .ok (.pointer (some ⟨ga, 0, none⟩)) w' ∧ (loadVarH 3 ⟨g1, 0, none⟩).run Tryz.prog w' = .ok (.int .i64 (k : Int)) w' ∧ (loadVarH 106 ⟨ga, 0, none⟩).run Tryz.prog w' = .ok (.slice (some ⟨x.gd, 0, none⟩) a.devs.length x.cd) w')) (by kernel_rfl) (by exact ⟨ldOMx hX HB0.out HM0.out, ldOMx hX HB1.out HM1.out, ldOMx hX HA0.out HMA.out⟩) (fun hHeld => ?_)
    refine tkH 0 4 ?_ rfl (by kernel_rfl) (fun _ _ _ h => h) (by rfl) (by assumption) ?_ ?_
    rotate_left
    · intro w hSw; (try dsimp only at hSw); go_simp; try with_reducible rfl
    (try simp only [pmL, pnL, sc0, sc1])
    refine tkH 4 8 ?_ rfl (by kernel_rfl) (fun _ _ _ h => h) (by rfl) (by assumption) ?_ ?_
    rotate_left
    · intro w hSw; (try dsimp only at hSw); go_simp; try with_reducible rfl
    (try simp only [pmL, pnL, sc0, sc1])
    refine tkH 1 5 ?_ rfl (by kernel_rfl) (fun _ _ _ h => h) (by rfl) (by assumption) ?_ ?_
    rotate_left
    · intro w hSw; (try dsimp only at hSw); go_simp; try with_reducible rfl
    (try simp only [pmL, pnL, sc0, sc1])
    refine tkH 2 6 ?_ rfl (by kernel_rfl) (fun _ _ _ h => h) (by rfl) (by assumption) ?_ ?_
    rotate_left
    · intro w hSw; (try dsimp only at hSw); go_simp; try with_reducible rfl
    (try simp only [pmL, pnL, sc0, sc1])
    refine tkH 3 7 ?_ rfl (by kernel_rfl) (fun _ _ _ h => h) (by rfl) (by assumption) ?_ ?_
    rotate_left
    · intro w hSw; (try dsimp only at hSw); go_simp; try with_reducible rfl
    (try simp only [pmL, pnL, sc0, sc1])
    refine tkH 5 9 ?_ rfl (by kernel_rfl) (fun _ _ _ h => h) (by rfl) (by assumption) ?_ ?_
    rotate_left
    · intro w hSw; (try dsimp only at hSw); go_simp; try with_reducible rfl
    (try simp only [pmL, pnL, sc0, sc1])
    refine tkH 6 3 ?_ rfl (by kernel_rfl) (fun _ _ _ h => h) (by rfl) (by assumption) ?_ ?_
    rotate_left
    · intro w hSw; (try dsimp only at hSw); go_simp; try with_reducible rfl
    (try simp only [pmL, pnL, sc0, sc1])
    refine wpAnyH_done (by kernel_rfl) ?_ _
    clear hHeld
    go_wp2_with (first | go_big_skip | go_big_guard | (refine wl_loadE rfl rfl rfl ?_; refine ⟨_, Loads.at [] hX HF.out, ?_⟩))
    go_ret
    exact ⟨rfl, hX⟩
end
theorem arP_upd (ga : Nat) (x : GA) (a : AR) (dev : Int) {f : DV → DV} (hf : ∀ d, (f d).g = d.g ∧ (f d).firm = d.firm) : arP ga x (a.upd dev f) = .blk ga 109 (arrC x a) :: .blk x.gd 89 (devC (a.upd dev f) ++ x.rest) :: .row x.lv 149 258 a.loose.length (looC a) :: a.devs.map (fun d => .blk d.g 144 (secsV d.firm)) := by
  have h1 := upd_map a dev f (fun d => HA.blk d.g 144 (secsV d.firm)) (fun d => by rw [(hf d).1, (hf d).2])
  unfold arP arrC looC
  rw [h1, upd_len]
  rfl
theorem failed_hdr (ga : Nat) (x : GA) (a : AR) (dev : Int) : arP ga x (a.failed dev) = .blk ga 109 (arrC x a) :: .blk x.gd 89 (devC (a.failed dev) ++ x.rest) :: .row x.lv 149 258 a.loose.length (looC a) :: a.devs.map (fun d => .blk d.g 144 (secsV d.firm)) := by
  unfold AR.failed
  by_cases h : 0 < (a.dv dev).fail
  · rw [if_pos h]
    exact arP_upd ga x a dev (fun d => ⟨rfl, rfl⟩)
  · rw [if_neg h]
    rfl
theorem probe_read {w0 : World} {M : List Nat} {L1 : List HA} {ga g0 g1 k : Nat} {x : GA} {a : AR} (hin : a.inD (k : Int) = true) (hfb : 0 ≤ (a.dv (k : Int)).fail ∧ (a.dv (k : Int)).fail ≤ 9223372036854775807)
    (c0 : .blk g0 23 [.pointer (some ⟨ga, 0, none⟩)] ∈ L1) (c1 : .blk g1 3 [.int .i64 (k : Int)] ∈ L1) :
    Probe (cloV 90 [ptrV g0, ptrV g1]) (a.failE (k : Int)) (fun w => St w0 M w (L1 ++ arP ga x a)) (fun w => St w0 M w (L1 ++ arP ga x (a.failed (k : Int)))) := by
  refine probe_clo (fun _ _ => rfl) fun w h => ?_
  have hgd : HA.blk x.gd 89 (devC a ++ x.rest) ∈ L1 ++ arP ga x a := by simp [arP]
  have h1 : St w [x.gd] w [.blk x.gd 89 (devC a ++ x.rest)] := St.one _ _ _ _ (h.all _ hgd)
  have hap := h.apart
  unfold Apart at hap
  rw [List.pairwise_append] at hap
  have hne : ∀ (g : Nat) (T : TypeId) (cs : List Value), HA.blk g T cs ∈ L1 → g ∉ [x.gd] := by
    intro g T cs hm hq
    simp only [List.mem_singleton] at hq
    subst hq
    exact hap.2.2 _ hm (.blk x.gd 89 (devC a ++ x.rest)) (by simp [arP]) x.gd rfl rfl
  have hga : ga ∉ [x.gd] := by
    intro hq
    simp only [List.mem_singleton] at hq
    have := hap.2.1
    unfold arP at this
    rw [List.pairwise_cons] at this
    exact this.1 (.blk x.gd 89 (devC a ++ x.rest)) (.head _) ga rfl (by rw [hq]; rfl)
  refine (read1_any h1 (St.cell h (off := 0) (List.mem_append_left _ c0) rfl) (St.cell h (off := 0) (List.mem_append_left _ c1) rfl) (St.cell h (off := 0) (g := ga) (T := 109) (cs := arrC x a) (by simp [arP]) rfl) (hne _ _ _ c0) (hne _ _ _ c1) hga hin hfb).mono ?_
  rintro _ w' ⟨rfl, h4⟩
  refine ⟨rfl, ?_⟩
  have h2 : St w0 M w ((L1 ++ [HA.blk ga 109 (arrC x a)]) ++ .blk x.gd 89 (devC a ++ x.rest) :: .row x.lv 149 258 a.loose.length (looC a) :: a.devs.map (fun d => .blk d.g 144 (secsV d.firm))) := by
    rw [List.append_assoc]
    exact h
  have := St.call1 _ h2 h4
  rw [failed_hdr]
  rw [List.nil_append, List.append_assoc] at this
  exact this
theorem read_probes {ga : Nat} {x : GA} {a : AR} {A : World → Prop} (hA : ∀ w, A w → ArrAt w ga x a) (hk : Keeps A) {g0 g1 g2 k0 k1 : Nat} {dev pl : Int}
    (c0 : ∀ w, A w → w.cell? ⟨g0, 0, none⟩ = some (.pointer (some ⟨ga, 0, none⟩))) (c1 : ∀ w, A w → w.cell? ⟨g1, 0, none⟩ = some (.int .i64 dev)) (c2 : ∀ w, A w → w.cell? ⟨g2, 0, none⟩ = some (.int .i64 pl))
    (d0 : ∀ w, A w → w.cell? ⟨k0, 0, none⟩ = some (.pointer (some ⟨ga, 0, none⟩))) (d1 : ∀ w, A w → w.cell? ⟨k1, 0, none⟩ = some (.int .i64 dev)) :
    ∀ (j : Nat) (f : Value) (e : Int), [methV 46 (ptrV ga), methV 88 (ptrV ga), cloV 138 [ptrV g0, ptrV g1, ptrV g2], cloV 139 [ptrV k0, ptrV k1]][j]? = some f →
      (readL a dev pl)[j]? = some e → (∀ i < j, (readL a dev pl).getD i 0 = 0) → Probe f e A A := by
  intro j f e hf he hz
  unfold readL at he hz
  match j, hf, he, hz with
  | 0, hf, he, _ => cases hf; cases he; exact probe_made hA hk
  | 1, hf, he, _ => cases hf; cases he; exact probe_runs hA hk
  | 2, hf, he, _ => cases hf; cases he; exact probe_isSector hA hk c0 c1 c2
  | 3, hf, he, hz =>
    cases hf; cases he
    have h2 : a.inS dev pl = true := orE_zero (by decide) (hz 2 (by decide))
    exact probe_isHere hA hk (inS_inD h2) d0 d1
  | j + 4, hf, _, _ => simp at hf
end Go.Proofs.YtmdfbdfijnmhkaaGreat
