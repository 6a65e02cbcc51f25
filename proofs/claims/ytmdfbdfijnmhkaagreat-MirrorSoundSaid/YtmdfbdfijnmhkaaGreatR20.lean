import Derived.Test.YtmdfbdfijnmhkaaGreatR19
namespace Go.Proofs.YtmdfbdfijnmhkaaGreat
set_option linter.unusedVariables false
set_option linter.unusedSimpArgs false
open Go.RowKit Hp
attribute [local irreducible] Go.Calls Go.wpList
set_option maxRecDepth 100000
set_option maxHeartbeats 4000000
def fLose : DV → DV := fun d => { d with lo := true }
def fStray (pl : Int) : DV → DV := fun d => { d with st := true, to := pl }
def fFail (n : Int) : DV → DV := fun d => { d with fail := n }
def AR.fell (a : AR) (dev : Int) (rs : List Int) (f : DV → DV) : AR := if firstE (rs ++ [orE (!(a.dv dev).gone) 14]) = 0 then a.upd dev f else a
def AR.fellE (a : AR) (dev : Int) (rs : List Int) : Int := firstE (rs ++ [orE (!(a.dv dev).gone) 14])
def AR.lose (a : AR) (dev : Int) : AR := a.fell dev [orE (a.inD dev) 5] fLose
def AR.loseE (a : AR) (dev : Int) : Int := a.fellE dev [orE (a.inD dev) 5]
def AR.stray (a : AR) (dev pl : Int) : AR := a.fell dev [orE (a.inS dev pl) 5] (fStray pl)
def AR.strayE (a : AR) (dev pl : Int) : Int := a.fellE dev [orE (a.inS dev pl) 5]
def AR.fails (a : AR) (dev n : Int) : AR := a.fell dev [orE (a.inD dev) 5, orE (decide (0 ≤ n)) 2] (fFail n)
def AR.failsE (a : AR) (dev n : Int) : Int := a.fellE dev [orE (a.inD dev) 5, orE (decide (0 ≤ n)) 2]
theorem upd_upd (a : AR) (dev : Int) (f g : DV → DV) : (a.upd dev f).upd dev g = a.upd dev fun d => g (f d) := by
  unfold AR.upd
  congr 1
  apply List.ext_getElem?
  intro j
  rw [modify_get, modify_get, modify_get]
  split
  · cases a.devs[j]? <;> rfl
  · rfl
theorem upd_frame {w w' : World} {M : List Nat} {L1 : List HA} {ga : Nat} {x : GA} {a : AR} {dev : Int} {f : DV → DV} (hf : ∀ d, (f d).g = d.g ∧ (f d).firm = d.firm) {fn : Nat} {args : Array Value} (h : St w M w' (L1 ++ arP ga x a))
    (hc : (∀ (g : Nat) (T : TypeId) (cs : List Value), HA.blk g T cs ∈ L1 → g ∉ [x.gd]) → St w' [x.gd] w' [.blk x.gd 89 (devC a ++ x.rest)] → Calls Tryz.prog fn args w' fun e w'' => e = .returned (.tuple #[]) ∧ St w' [x.gd] w'' [.blk x.gd 89 (devC (a.upd dev f) ++ x.rest)]) :
    Calls Tryz.prog fn args w' fun e w'' => e = .returned (.tuple #[]) ∧ St w M w'' (L1 ++ arP ga x (a.upd dev f)) := by
  have hgd : HA.blk x.gd 89 (devC a ++ x.rest) ∈ L1 ++ arP ga x a := by simp [arP]
  have h1 : St w' [x.gd] w' [.blk x.gd 89 (devC a ++ x.rest)] := St.one _ _ _ _ (h.all _ hgd)
  have hap := h.apart
  unfold Apart at hap
  rw [List.pairwise_append] at hap
  refine (hc (fun g T cs hm hq => ?_) h1).mono ?_
  · simp only [List.mem_singleton] at hq
    subst hq
    exact hap.2.2 _ hm (.blk x.gd 89 (devC a ++ x.rest)) (by simp [arP]) x.gd rfl rfl
  · rintro _ w'' ⟨rfl, h4⟩
    refine ⟨rfl, ?_⟩
    have h2 : St w M w' ((L1 ++ [HA.blk ga 109 (arrC x a)]) ++ .blk x.gd 89 (devC a ++ x.rest) :: .row x.lv 149 258 a.loose.length (looC a) :: a.devs.map (fun d => .blk d.g 144 (secsV d.firm))) := by
      rw [List.append_assoc]
      exact h
    have := St.call1 _ h2 h4
    rw [arP_upd ga x a dev hf]
    rw [List.nil_append, List.append_assoc] at this
    exact this
theorem lose1_any {w : World} {x : GA} {a : AR} {k : Nat} (hS : St w [x.gd] w [.blk x.gd 89 (devC a ++ x.rest)]) (hin : a.inD (k : Int) = true) :
    Calls Tryz.prog 105 #[.pointer (some ⟨x.gd, k * 5, none⟩)] w fun e w' => e = .returned (.tuple #[]) ∧ St w [x.gd] w' [.blk x.gd 89 (devC (a.upd (k : Int) fun d => { d with lo := true }) ++ x.rest)] := by
  have HC := hid (devC_get (rest := x.rest) hin (i := 2) (show (a.dv (k : Int)).cells[2]? = some (.int .u8 (b2i (a.dv (k : Int)).lo 1 + b2i (a.dv (k : Int)).st 2)) from rfl) (by decide))
  have HPUT := hid (devC_put (rest := x.rest) (f := fun d => { d with lo := true }) (v := .int .u8 (b2i true 1 + b2i (a.dv (k : Int)).st 2)) hin (i := 2) (by decide) rfl)
  clear hin
  go_enter Tryz.func105, Tryz.ntmps105
  go_wp2_with (first | go_big_skip | go_big_guard | (go_at_call 106; refine (set1_any (a.dv (k : Int)).lo (a.dv (k : Int)).st (off := k * 5 + 2) hS HC.out).mono ?_; rintro _ w3 ⟨rfl, h4⟩; have hs3 := h4; clear h4 hS))
  go_end0
  refine ⟨rfl, ?_⟩
  rw [← HPUT.out]
  exact hs3
theorem stray1_any {w : World} {x : GA} {a : AR} {k g5 : Nat} {pl : Int} (hS : St w [x.gd] w [.blk x.gd 89 (devC a ++ x.rest)]) (hb : w.cell? ⟨g5, 0, none⟩ = some (.int .i64 pl)) (hm : g5 ∉ [x.gd]) (hin : a.inD (k : Int) = true) :
    Calls Tryz.prog 107 #[.pointer (some ⟨x.gd, k * 5, none⟩), .pointer (some ⟨g5, 0, none⟩)] w fun e w' => e = .returned (.tuple #[]) ∧ St w [x.gd] w' [.blk x.gd 89 (devC (a.upd (k : Int) fun d => { d with st := true, to := pl }) ++ x.rest)] := by
  have HC := hid (devC_get (rest := x.rest) hin (i := 2) (show (a.dv (k : Int)).cells[2]? = some (.int .u8 (b2i (a.dv (k : Int)).lo 1 + b2i (a.dv (k : Int)).st 2)) from rfl) (by decide))
  have HPUT := hid (devC_put (rest := x.rest) (f := fun d => { d with st := true }) (v := .int .u8 (b2i (a.dv (k : Int)).lo 1 + b2i true 2)) hin (i := 2) (by decide) rfl)
  have HPU2 := hid (devC_put (a := a.upd (k : Int) fun d => { d with st := true }) (rest := x.rest) (f := fun d => { d with to := pl }) (v := .int .i64 pl) (dev := (k : Int)) (by rw [upd_inD]; exact hin) (i := 3) (by decide) rfl)
  rw [upd_upd] at HPU2
  have HB := hid hb
  have HM := hid hm
  have HL := hid (List.getElem?_eq_some_iff.1 (devC_get (a := a.upd (k : Int) fun d => { d with st := true }) (dev := (k : Int)) (rest := x.rest) (by rw [upd_inD]; exact hin) (i := 3) rfl (by decide))).1
  replace HL : Hid (k * 5 + 3 + 1 ≤ (devC (a.upd (k : Int) fun d => { d with st := true }) ++ x.rest).length) := HL
  clear hin hb hm
  go_enter Tryz.func107, Tryz.ntmps107
  go_wp2_with (first | go_big_skip | go_big_guard | (go_at_call 106; refine (set2_any (a.dv (k : Int)).lo (a.dv (k : Int)).st (off := k * 5 + 2) hS HC.out).mono ?_; rw [show k * 5 = (k : Int).toNat * 5 from rfl, HPUT.out]; rintro _ w3 ⟨rfl, h4⟩; have hs3 := h4; clear h4 hS) | (refine wl_loadE rfl rfl rfl ?_; refine ⟨_, Loads.oldM hs3 HB.out HM.out, ?_⟩) | (refine wl_store [] hs3 rfl rfl rfl (v := .int _ _) rfl rfl rfl HL.out ?_; intro w4 hs4; clear hs3))
  go_end0
  refine ⟨rfl, ?_⟩
  rw [← HPU2.out]
  exact hs4
theorem fail2_any {w : World} {x : GA} {a : AR} {k g5 : Nat} {n : Int} (hS : St w [x.gd] w [.blk x.gd 89 (devC a ++ x.rest)]) (hb : w.cell? ⟨g5, 0, none⟩ = some (.int .i64 n)) (hm : g5 ∉ [x.gd]) (hin : a.inD (k : Int) = true) :
    Calls Tryz.prog 109 #[.pointer (some ⟨x.gd, k * 5, none⟩), .pointer (some ⟨g5, 0, none⟩)] w fun e w' => e = .returned (.tuple #[]) ∧ St w [x.gd] w' [.blk x.gd 89 (devC (a.upd (k : Int) fun d => { d with fail := n }) ++ x.rest)] := by
  have HPU2 := hid (devC_put (rest := x.rest) (f := fun d => { d with fail := n }) (v := .int .i64 n) hin (i := 4) (by decide) rfl)
  have HB := hid hb
  have HM := hid hm
  have HL := hid (List.getElem?_eq_some_iff.1 (devC_get (rest := x.rest) hin (i := 4) rfl (by decide))).1
  replace HL : Hid (k * 5 + 4 + 1 ≤ (devC a ++ x.rest).length) := HL
  clear hin hb hm
  go_enter Tryz.func109, Tryz.ntmps109
  go_wp2_with (first | go_big_skip | go_big_guard | (refine wl_loadE rfl rfl rfl ?_; refine ⟨_, Loads.oldM hS HB.out HM.out, ?_⟩) | (refine wl_store [] hS rfl rfl rfl (v := .int _ _) rfl rfl rfl HL.out ?_; intro w4 hs4; clear hS))
  go_end0
  refine ⟨rfl, ?_⟩
  rw [← HPU2.out]
  exact hs4
theorem befalls_any {w : World} {M : List Nat} {Lb : List HA} {ga : Nat} {x : GA} {a : AR} (hS : St w M w (Lb ++ arP ga x a)) (ok : a.Ok) (dev : Int) (fn : Nat) (cap : List Value) (v : Value) (m : Nat) (ws : List Value) (rs : List Int) (f : DV → DV)
    (hfn : ∀ (a : Array Value) (w : World), (callFunc fn a).run Tryz.prog w = .ok (.enter fn a) w)
    (hr : ∀ (X : List HA) (w' : World), St w M w' (X ++ (Lb ++ arP ga x a)) → Rd w' v 1 m ws) (hw : ws.length = m) (hrs : rs.length = m) (hm : m ≤ 10) (h1c : ws.all (·.oneCell') = true)
    (hp : ∀ (X : List HA) (j : Nat) (f : Value) (e : Int), ws[j]? = some f → rs[j]? = some e → (∀ i < j, rs.getD i 0 = 0) → Probe f e (fun w' => St w M w' (X ++ (Lb ++ arP ga x a))) (fun w' => St w M w' (X ++ (Lb ++ arP ga x a))))
    (hin : firstE rs = 0 → a.inD dev = true) (hE : ∀ e ∈ rs, e = 0 ∨ isE e) (hf : ∀ d, (f d).g = d.g ∧ (f d).firm = d.firm)
    (hD : firstE rs = 0 → (a.dv dev).gone = false → ∀ (X : List HA) (w' : World), (∀ (g : Nat) (T : TypeId) (cs : List Value), HA.blk g T cs ∈ Lb → w'.heap[g]? = some (.cells cs.toArray T (0, 0)) ∧ g ∉ [x.gd]) → St w' [x.gd] w' [.blk x.gd 89 (devC a ++ x.rest)] →
      Calls Tryz.prog fn (List.toArray (.pointer (some ⟨x.gd, dev.toNat * 5, none⟩) :: cap)) w' fun e w'' => e = .returned (.tuple #[]) ∧ St w' [x.gd] w'' [.blk x.gd 89 (devC (a.upd dev f) ++ x.rest)]) :
    Calls Tryz.prog 37 #[.pointer (some ⟨ga, 0, none⟩), .int .i64 dev, .func (.func fn) #[] (List.toArray cap), v] w fun e w' => e = .returned (.int .i64 (a.fellE dev rs)) ∧ ∃ X, St w M w' (X ++ (Lb ++ arP ga x (a.fell dev rs f))) := by
  have hD' : firstE rs = 0 → (a.dv dev).gone = false → ∀ (X : List HA) (w' : World), St w M w' (X ++ (Lb ++ arP ga x a)) → Calls Tryz.prog fn (List.toArray (.pointer (some ⟨x.gd, dev.toNat * 5, none⟩) :: cap)) w' fun e w'' => e = .returned (.tuple #[]) ∧ St w M w'' (X ++ (Lb ++ arP ga x (a.upd dev f))) := by
    intro h1 h2 X w' h
    rw [← List.append_assoc] at h
    refine (upd_frame hf h fun hne h3 => hD h1 h2 X w' (fun g T cs hm => ⟨h.all (.blk g T cs) (List.mem_append_left _ (List.mem_append_right _ hm)), hne g T cs (List.mem_append_right _ hm)⟩) h3).mono ?_
    rintro _ w'' ⟨rfl, h4⟩
    rw [List.append_assoc] at h4
    exact ⟨rfl, h4⟩
  unfold AR.fellE AR.fell
  rw [firstE_snoc]
  by_cases h1 : firstE rs = 0
  · rw [if_pos h1]
    cases h2 : (a.dv dev).gone
    · exact befalls_fine hS ok dev fn cap v m ws rs hfn hr hw hrs hm h1c hp hin hE hD' h1 h2
    · rw [if_neg (by decide)]
      exact befalls_gone hS ok dev fn cap v m ws rs hfn hr hw hrs hm h1c hp hin hE hD' h1 h2
  · rw [if_neg h1, if_neg h1]
    exact befalls_bad hS ok dev fn cap v m ws rs hfn hr hw hrs hm h1c hp hin hE hD' h1
theorem cell_blk {w : World} {g : Nat} {T : TypeId} {v : Value} (h : w.heap[g]? = some (.cells (List.toArray [v]) T (0, 0))) : w.cell? ⟨g, 0, none⟩ = some v := St.cell (St.one w g T [v] h) (off := 0) (.head _) rfl
theorem loseM_any {w : World} {ga : Nat} {x : GA} {a : AR} (hS : St w (arF ga x a) w (arP ga x a)) (ok : a.Ok) (dev : Int) :
    Calls Tryz.prog 55 #[.pointer (some ⟨ga, 0, none⟩), .int .i64 dev] w fun e w' => e = .returned (.int .i64 (a.loseE dev)) ∧ St w (arF ga x a) w' (arP ga x (a.lose dev)) := by
  have hst1 := hS
  have OK := hid ok
  have hmf := rmf
  clear hS ok
  go_enter Tryz.func55, Tryz.ntmps55
  go_wp2_with (first | go_big_skip | go_big_guard | (go_at_call 40; refine (isDevice_any ga dev _).mono ?_; rintro _ w2 ⟨g0, g1, rfl, h4⟩; have hst2 := St.call hst1 h4; clear h4 hst1) | (apply wl_bsX ([cloV 93 [ptrV g0, ptrV g1]]) ([cloV 93 [ptrV g0, ptrV g1]]) hst2; rfl; rfl; exact rfl; exact rfl; infer_instance; infer_instance; rfl; rfl; rfl; intro gs w3 hst3; clear hst2) | (go_at_call 37; have hQ : St w3 (([HA.blk gs 92 [cloV 93 [ptrV g0, ptrV g1]], .blk g1 3 [.int .i64 dev], .blk g0 23 [.pointer (some ⟨ga, 0, none⟩)]] ++ arP ga x a).filterMap HA.foot) w3 ([HA.blk gs 92 [cloV 93 [ptrV g0, ptrV g1]], .blk g1 3 [.int .i64 dev], .blk g0 23 [.pointer (some ⟨ga, 0, none⟩)]] ++ arP ga x a) := St.selfF hst3; refine (befalls_any hQ OK.out dev 105 [] (.slice (some ⟨gs, 0, none⟩) 1 1) 1 [cloV 93 [ptrV g0, ptrV g1]] [orE (a.inD dev) 5] (fLose) (fun _ _ => rfl) (fun X w' h => Rd.blk h (List.mem_append_right _ (.head _)) (Nat.le_refl _) (by decide) rfl rfl) rfl rfl (by decide) rfl (fun X j f e hf he _ => (match j, hf, he with | 0, hf, he => (by cases hf; cases he; exact probe_isDevice (fun _ h => ArrAt.of h (fun p hp => List.mem_append_right _ (List.mem_append_right _ hp)) OK.out.d0) keeps_st (fun _ h => St.cell h (off := 0) (List.mem_append_right _ (.tail _ (.tail _ (.head _)))) rfl) (fun _ h => St.cell h (off := 0) (List.mem_append_right _ (.tail _ (.head _))) rfl)) | j + 1, hf, _ => (by simp at hf))) (fun h => orE_zero (by decide) (firstE_all h _ (.head _))) (fun e he => (by simp only [List.mem_cons, List.not_mem_nil, or_false] at he; rcases he with rfl; exact orE_isE _ _ (by unfold isE; decide))) (fun d => ⟨rfl, rfl⟩) (fun h1 _ X w' hb h9 => (by have hin : a.inD dev = true := (fun (h : firstE [orE (a.inD dev) 5] = 0) => orE_zero (by decide) (firstE_all h _ (.head _))) h1; obtain ⟨k, rfl⟩ : ∃ k : Nat, dev = k := ⟨dev.toNat, by have := (inD_dev hin).1; omega⟩; exact lose1_any h9 hin))).mono ?_; rintro _ w4 ⟨rfl, X, h4⟩; have hst4 := St.thenF hst3 h4; clear h4 hst3 hQ))
  go_ret
  exact ⟨rfl, St.sub hst4 (.trans (List.sublist_append_right _ _) (List.sublist_append_right _ _))⟩
theorem strayM_any {w : World} {ga : Nat} {x : GA} {a : AR} (hS : St w (arF ga x a) w (arP ga x a)) (ok : a.Ok) (dev : Int) (pl : Int) :
    Calls Tryz.prog 56 #[.pointer (some ⟨ga, 0, none⟩), .int .i64 dev, .int .i64 pl] w fun e w' => e = .returned (.int .i64 (a.strayE dev pl)) ∧ St w (arF ga x a) w' (arP ga x (a.stray dev pl)) := by
  have hst0 := hS
  have OK := hid ok
  have hmf := rmf
  clear hS ok
  go_enter Tryz.func56, Tryz.ntmps56
  go_wp2_with (first | go_big_skip | go_big_guard | (refine wl_box hst0 rfl rfl rfl ?_; intro g5 w1 hst1; clear hst0) | (refine wl_loadE rfl rfl rfl ?_; first | refine ⟨_, Loads.at [] hst1 rfl, ?_⟩) | (go_at_call 87; refine (isSector_any ga dev pl _).mono ?_; rintro _ w2 ⟨g0, g1, g2, rfl, h4⟩; have hst2 := St.call hst1 h4; clear h4 hst1) | (apply wl_bsX ([cloV 138 [ptrV g0, ptrV g1, ptrV g2]]) ([cloV 138 [ptrV g0, ptrV g1, ptrV g2]]) hst2; rfl; rfl; exact rfl; exact rfl; infer_instance; infer_instance; rfl; rfl; rfl; intro gs w3 hst3; clear hst2) | (go_at_call 37; have hQ : St w3 (([HA.blk gs 92 [cloV 138 [ptrV g0, ptrV g1, ptrV g2]], .blk g2 3 [.int .i64 pl], .blk g1 3 [.int .i64 dev], .blk g0 23 [.pointer (some ⟨ga, 0, none⟩)], .blk g5 3 [.int .i64 pl]] ++ arP ga x a).filterMap HA.foot) w3 ([HA.blk gs 92 [cloV 138 [ptrV g0, ptrV g1, ptrV g2]], .blk g2 3 [.int .i64 pl], .blk g1 3 [.int .i64 dev], .blk g0 23 [.pointer (some ⟨ga, 0, none⟩)], .blk g5 3 [.int .i64 pl]] ++ arP ga x a) := St.selfF hst3; refine (befalls_any hQ OK.out dev 107 [ptrV g5] (.slice (some ⟨gs, 0, none⟩) 1 1) 1 [cloV 138 [ptrV g0, ptrV g1, ptrV g2]] [orE (a.inS dev pl) 5] (fStray pl) (fun _ _ => rfl) (fun X w' h => Rd.blk h (List.mem_append_right _ (.head _)) (Nat.le_refl _) (by decide) rfl rfl) rfl rfl (by decide) rfl (fun X j f e hf he _ => (match j, hf, he with | 0, hf, he => (by cases hf; cases he; exact probe_isSector (fun _ h => ArrAt.of h (fun p hp => List.mem_append_right _ (List.mem_append_right _ hp)) OK.out.d0) keeps_st (fun _ h => St.cell h (off := 0) (List.mem_append_right _ (.tail _ (.tail _ (.tail _ (.head _))))) rfl) (fun _ h => St.cell h (off := 0) (List.mem_append_right _ (.tail _ (.tail _ (.head _)))) rfl) (fun _ h => St.cell h (off := 0) (List.mem_append_right _ (.tail _ (.head _))) rfl)) | j + 1, hf, _ => (by simp at hf))) (fun h => inS_inD (orE_zero (by decide) (firstE_all h _ (.head _)))) (fun e he => (by simp only [List.mem_cons, List.not_mem_nil, or_false] at he; rcases he with rfl; exact orE_isE _ _ (by unfold isE; decide))) (fun d => ⟨rfl, rfl⟩) (fun h1 _ X w' hb h9 => (by have hin : a.inD dev = true := (fun (h : firstE [orE (a.inS dev pl) 5] = 0) => inS_inD (orE_zero (by decide) (firstE_all h _ (.head _)))) h1; obtain ⟨k, rfl⟩ : ∃ k : Nat, dev = k := ⟨dev.toNat, by have := (inD_dev hin).1; omega⟩; exact stray1_any h9 (cell_blk (hb g5 _ _ (.tail _ (.tail _ (.tail _ (.tail _ (.head _)))))).1) (hb g5 _ _ (.tail _ (.tail _ (.tail _ (.tail _ (.head _)))))).2 hin))).mono ?_; rintro _ w4 ⟨rfl, X, h4⟩; have hst4 := St.thenF hst3 h4; clear h4 hst3 hQ))
  go_ret
  exact ⟨rfl, St.sub hst4 (.trans (List.sublist_append_right _ _) (List.sublist_append_right _ _))⟩
theorem failsM_any {w : World} {ga : Nat} {x : GA} {a : AR} (hS : St w (arF ga x a) w (arP ga x a)) (ok : a.Ok) (dev : Int) (n : Int) :
    Calls Tryz.prog 57 #[.pointer (some ⟨ga, 0, none⟩), .int .i64 dev, .int .i64 n] w fun e w' => e = .returned (.int .i64 (a.failsE dev n)) ∧ St w (arF ga x a) w' (arP ga x (a.fails dev n)) := by
  have hst0 := hS
  have OK := hid ok
  have hmf := rmf
  clear hS ok
  go_enter Tryz.func57, Tryz.ntmps57
  go_wp2_with (first | go_big_skip | go_big_guard | (refine wl_box hst0 rfl rfl rfl ?_; intro g5 w1 hst1; clear hst0) | (go_at_call 40; refine (isDevice_any ga dev _).mono ?_; rintro _ w2 ⟨g0, g1, rfl, h4⟩; have hst2 := St.call hst1 h4; clear h4 hst1) | (apply wl_bsX ([cloV 93 [ptrV g0, ptrV g1], cloV 108 [ptrV g5]]) ([cloV 93 [ptrV g0, ptrV g1], cloV 108 [ptrV g5]]) hst2; rfl; rfl; exact rfl; exact rfl; infer_instance; infer_instance; rfl; rfl; rfl; intro gs w3 hst3; clear hst2) | (go_at_call 37; have hQ : St w3 (([HA.blk gs 92 [cloV 93 [ptrV g0, ptrV g1], cloV 108 [ptrV g5]], .blk g1 3 [.int .i64 dev], .blk g0 23 [.pointer (some ⟨ga, 0, none⟩)], .blk g5 3 [.int .i64 n]] ++ arP ga x a).filterMap HA.foot) w3 ([HA.blk gs 92 [cloV 93 [ptrV g0, ptrV g1], cloV 108 [ptrV g5]], .blk g1 3 [.int .i64 dev], .blk g0 23 [.pointer (some ⟨ga, 0, none⟩)], .blk g5 3 [.int .i64 n]] ++ arP ga x a) := St.selfF hst3; refine (befalls_any hQ OK.out dev 109 [ptrV g5] (.slice (some ⟨gs, 0, none⟩) 2 2) 2 [cloV 93 [ptrV g0, ptrV g1], cloV 108 [ptrV g5]] [orE (a.inD dev) 5, orE (decide (0 ≤ n)) 2] (fFail n) (fun _ _ => rfl) (fun X w' h => Rd.blk h (List.mem_append_right _ (.head _)) (Nat.le_refl _) (by decide) rfl rfl) rfl rfl (by decide) rfl (fun X j f e hf he _ => (match j, hf, he with | 0, hf, he => (by cases hf; cases he; exact probe_isDevice (fun _ h => ArrAt.of h (fun p hp => List.mem_append_right _ (List.mem_append_right _ hp)) OK.out.d0) keeps_st (fun _ h => St.cell h (off := 0) (List.mem_append_right _ (.tail _ (.tail _ (.head _)))) rfl) (fun _ h => St.cell h (off := 0) (List.mem_append_right _ (.tail _ (.head _))) rfl)) | 1, hf, he => (by cases hf; cases he; exact probe_clo (fun _ _ => rfl) fun w h => (fail1_any (St.cell h (off := 0) (List.mem_append_right _ (.tail _ (.tail _ (.tail _ (.head _))))) rfl)).mono fun _ _ ⟨e, h4⟩ => ⟨e, keeps_st _ _ h h4⟩) | j + 2, hf, _ => (by simp at hf))) (fun h => orE_zero (by decide) (firstE_all h _ (.head _))) (fun e he => (by simp only [List.mem_cons, List.not_mem_nil, or_false] at he; rcases he with rfl | rfl <;> exact orE_isE _ _ (by unfold isE; decide))) (fun d => ⟨rfl, rfl⟩) (fun h1 _ X w' hb h9 => (by have hin : a.inD dev = true := (fun (h : firstE [orE (a.inD dev) 5, orE (decide (0 ≤ n)) 2] = 0) => orE_zero (by decide) (firstE_all h _ (.head _))) h1; obtain ⟨k, rfl⟩ : ∃ k : Nat, dev = k := ⟨dev.toNat, by have := (inD_dev hin).1; omega⟩; exact fail2_any h9 (cell_blk (hb g5 _ _ (.tail _ (.tail _ (.tail _ (.head _))))).1) (hb g5 _ _ (.tail _ (.tail _ (.tail _ (.head _))))).2 hin))).mono ?_; rintro _ w4 ⟨rfl, X, h4⟩; have hst4 := St.thenF hst3 h4; clear h4 hst3 hQ))
  go_ret
  exact ⟨rfl, St.sub hst4 (.trans (List.sublist_append_right _ _) (List.sublist_append_right _ _))⟩
end Go.Proofs.YtmdfbdfijnmhkaaGreat
