import Derived.Test.YtmdfbdfijnmhkaaGreatJMirrorScriptc
import Derived.Test.YtmdfbdfijnmhkaaGreatJMirrorScriptb
import Derived.Deep.RegionHeld3
import Derived.Outline
import Derived.IntWalk
namespace Go.Proofs.YtmdfbdfijnmhkaaGreat
set_option linter.unusedVariables false
set_option linter.unusedSimpArgs false
set_option maxRecDepth 100000
set_option maxHeartbeats 4000000
section
open Go.RowKit Hp
attribute [local irreducible] Go.Calls Go.wpList
def fLose : DV → DV := fun d => { d with lo := true }
def fStray (pl : Int) : DV → DV := fun d => { d with st := true, to := pl }
def fFail (n : Int) : DV → DV := fun d => { d with fail := n }
def AR.fell (a : AR) (dev : Int) (rs : List Int) (f : DV → DV) : AR := if yt (rs ++ [y8 (!(a.dv dev).gone) 14]) = 0 then a.upd dev f else a
def AR.fellE (a : AR) (dev : Int) (rs : List Int) : Int := yt (rs ++ [y8 (!(a.dv dev).gone) 14])
def AR.lose (a : AR) (dev : Int) : AR := a.fell dev [y8 (a.inD dev) 5] fLose
def AR.loseE (a : AR) (dev : Int) : Int := a.fellE dev [y8 (a.inD dev) 5]
def AR.stray (a : AR) (dev pl : Int) : AR := a.fell dev [y8 (a.inS dev pl) 5] (fStray pl)
def AR.strayE (a : AR) (dev pl : Int) : Int := a.fellE dev [y8 (a.inS dev pl) 5]
def AR.fails (a : AR) (dev n : Int) : AR := a.fell dev [y8 (a.inD dev) 5, y8 (decide (0 ≤ n)) 2] (fFail n)
def AR.failsE (a : AR) (dev n : Int) : Int := a.fellE dev [y8 (a.inD dev) 5, y8 (decide (0 ≤ n)) 2]
theorem upd_upd (a : AR) (dev : Int) (f g : DV → DV) : (a.upd dev f).upd dev g = a.upd dev fun d => g (f d) := by
 unfold AR.upd
 congr 1
 apply List.ext_getElem?; intro j; rw [yS, yS, yS]; split
 ·cases a.devs[j]? <;> rfl
 ·rfl
theorem upd_frame {w w' : World} {M : List Nat} {L1 : List HA} {ga : Nat} {x : GA} {a : AR} {dev : Int} {f : DV → DV} (hf : ∀ d, (f d).g = d.g ∧ (f d).firm = d.firm) {fn : Nat} {args : Array Value} (h : St w M w' (L1 ++ yj ga x a))
  (hc : (∀ (g : Nat) (T : TypeId) (cs : List Value), HA.blk g T cs ∈ L1 → g ∉ [x.gd]) → St w' [x.gd] w' [.blk x.gd 89 (yI a ++ x.rest)] → Calls Tryz.prog fn args w' fun e w'' => e = .returned (.tuple #[]) ∧ St w' [x.gd] w'' [.blk x.gd 89 (yI (a.upd dev f) ++ x.rest)]) :
  Calls Tryz.prog fn args w' fun e w'' => e = .returned (.tuple #[]) ∧ St w M w'' (L1 ++ yj ga x (a.upd dev f)) := by
 have hgd : HA.blk x.gd 89 (yI a ++ x.rest) ∈ L1 ++ yj ga x a := by simp [yj]
 have h1 : St w' [x.gd] w' [.blk x.gd 89 (yI a ++ x.rest)] := St.one _ _ _ _ (h.all _ hgd); have hap := h.apart; unfold jK at hap; rw [List.pairwise_append] at hap; refine (hc (fun g T cs hm hq => ?_) h1).mono ?_
 ·simp only [List.mem_singleton] at hq; subst hq; exact hap.2.2 _ hm (.blk x.gd 89 (yI a ++ x.rest)) (by simp [yj]) x.gd rfl rfl
 ·rintro _ w'' ⟨rfl, h4⟩; refine ⟨rfl, ?_⟩; have h2 : St w M w' ((L1 ++ [HA.blk ga 109 (js x a)]) ++ .blk x.gd 89 (yI a ++ x.rest) :: .row x.lv 149 258 a.loose.length (qt a) :: a.devs.map (fun d => .blk d.g 144 (yR d.firm))) := by
   rw [List.append_assoc]; exact h
  have := qp _ h2 h4; rw [arP_upd ga x a dev hf]; rw [List.nil_append, List.append_assoc] at this; exact this
theorem lose1_any {w : World} {x : GA} {a : AR} {k : Nat} (hS : St w [x.gd] w [.blk x.gd 89 (yI a ++ x.rest)]) (hin : a.inD (k : Int) = true) :
  Calls Tryz.prog 105 #[.pointer (some ⟨x.gd, k * 5, none⟩)] w fun e w' => e = .returned (.tuple #[]) ∧ St w [x.gd] w' [.blk x.gd 89 (yI (a.upd (k : Int) fun d => { d with lo := true }) ++ x.rest)] := by
 have HC := ya (jk (rest := x.rest) hin (i := 2) (show (a.dv (k : Int)).cells[2]? = some (.int .u8 (jH (a.dv (k : Int)).lo 1 + jH (a.dv (k : Int)).st 2)) from rfl) (by decide)); have HPUT := ya (qb (rest := x.rest) (f := fun d => { d with lo := true }) (v := .int .u8 (jH true 1 + jH (a.dv (k : Int)).st 2)) hin (i := 2) (by decide) rfl); clear hin; go_enter Tryz.func105, Tryz.ntmps105; go_wp2_with (first | (go_at_call 106; refine je (set1_any (a.dv (k : Int)).lo (a.dv (k : Int)).st (off := k * 5 + 2) hS HC.out) fun w3 hs3 => ?_; clear hS)); go_end0; refine ⟨rfl, ?_⟩; rw [← HPUT]; exact hs3
theorem stray1_any {w : World} {x : GA} {a : AR} {k g5 : Nat} {pl : Int} (hS : St w [x.gd] w [.blk x.gd 89 (yI a ++ x.rest)]) (hb : w.cell? ⟨g5, 0, none⟩ = some (.int .i64 pl)) (hm : g5 ∉ [x.gd]) (hin : a.inD (k : Int) = true) :
  Calls Tryz.prog 107 #[.pointer (some ⟨x.gd, k * 5, none⟩), .pointer (some ⟨g5, 0, none⟩)] w fun e w' => e = .returned (.tuple #[]) ∧ St w [x.gd] w' [.blk x.gd 89 (yI (a.upd (k : Int) fun d => { d with st := true, to := pl }) ++ x.rest)] := by
 have HC := ya (jk (rest := x.rest) hin (i := 2) (show (a.dv (k : Int)).cells[2]? = some (.int .u8 (jH (a.dv (k : Int)).lo 1 + jH (a.dv (k : Int)).st 2)) from rfl) (by decide)); have HPUT := ya (qb (rest := x.rest) (f := fun d => { d with st := true }) (v := .int .u8 (jH (a.dv (k : Int)).lo 1 + jH true 2)) hin (i := 2) (by decide) rfl); have HPU2 := ya (qb (a := a.upd (k : Int) fun d => { d with st := true }) (rest := x.rest) (f := fun d => { d with to := pl }) (v := .int .i64 pl) (dev := (k : Int)) (by rw [upd_inD]; exact hin) (i := 3) (by decide) rfl); rw [upd_upd] at HPU2; have HB := ya hb; have HM := ya hm; have HL := ya (List.getElem?_eq_some_iff.1 (jk (a := a.upd (k : Int) fun d => { d with st := true }) (dev := (k : Int)) (rest := x.rest) (by rw [upd_inD]; exact hin) (i := 3) rfl (by decide))).1; replace HL : Hid (k * 5 + 3 + 1 ≤ (yI (a.upd (k : Int) fun d => { d with st := true }) ++ x.rest).length) := HL; clear hin hb hm; go_enter Tryz.func107, Tryz.ntmps107; go_wp2_with (first | (go_at_call 106; refine (set2_any (a.dv (k : Int)).lo (a.dv (k : Int)).st (off := k * 5 + 2) hS HC.out).mono ?_; rw [show k * 5 = (k : Int).toNat * 5 from rfl, HPUT]; rintro _ w3 ⟨rfl, hs3⟩; clear hS) | (refine jl (Loads.oldM hs3 HB.out HM.out) ?_) | (refine ye [] hs3 rfl rfl rfl (v := .int _ _) rfl rfl rfl HL.out ?_; intro w4 hs4; clear hs3)); go_end0; refine ⟨rfl, ?_⟩; rw [← HPU2]; exact hs4
theorem fail2_any {w : World} {x : GA} {a : AR} {k g5 : Nat} {n : Int} (hS : St w [x.gd] w [.blk x.gd 89 (yI a ++ x.rest)]) (hb : w.cell? ⟨g5, 0, none⟩ = some (.int .i64 n)) (hm : g5 ∉ [x.gd]) (hin : a.inD (k : Int) = true) :
  Calls Tryz.prog 109 #[.pointer (some ⟨x.gd, k * 5, none⟩), .pointer (some ⟨g5, 0, none⟩)] w fun e w' => e = .returned (.tuple #[]) ∧ St w [x.gd] w' [.blk x.gd 89 (yI (a.upd (k : Int) fun d => { d with fail := n }) ++ x.rest)] := by
 have HPU2 := ya (qb (rest := x.rest) (f := fun d => { d with fail := n }) (v := .int .i64 n) hin (i := 4) (by decide) rfl); have HB := ya hb; have HM := ya hm; have HL := ya (List.getElem?_eq_some_iff.1 (jk (rest := x.rest) hin (i := 4) rfl (by decide))).1; replace HL : Hid (k * 5 + 4 + 1 ≤ (yI a ++ x.rest).length) := HL; clear hin hb hm; go_enter Tryz.func109, Tryz.ntmps109; go_wp2_with (first | (refine jl (Loads.oldM hS HB.out HM.out) ?_) | (refine ye [] hS rfl rfl rfl (v := .int _ _) rfl rfl rfl HL.out ?_; intro w4 hs4; clear hS)); go_end0; refine ⟨rfl, ?_⟩; rw [← HPU2]; exact hs4
theorem befalls_any {w : World} {M : List Nat} {Lb : List HA} {ga : Nat} {x : GA} {a : AR} (hS : St w M w (Lb ++ yj ga x a)) (ok : a.Ok) (dev : Int) (fn : Nat) (cap : List Value) (v : Value) (m : Nat) (ws : List Value) (rs : List Int) (f : DV → DV)
  (hfn : ∀ (a : Array Value) (w : World), (callFunc fn a).run Tryz.prog w = .ok (.enter fn a) w)
  (hr : ∀ (X : List HA) (w' : World), St w M w' (X ++ (Lb ++ yj ga x a)) → Rd w' v 1 m ws) (hw : ws.length = m) (hrs : rs.length = m) (hm : m ≤ 10) (h1c : ws.all (·.oneCell') = true)
  (hp : ∀ (X : List HA) (j : Nat) (f : Value) (e : Int), ws[j]? = some f → rs[j]? = some e → (∀ i < j, rs.getD i 0 = 0) → jq f e (fun w' => St w M w' (X ++ (Lb ++ yj ga x a))) (fun w' => St w M w' (X ++ (Lb ++ yj ga x a))))
  (hin : yt rs = 0 → a.inD dev = true) (hE : ∀ e ∈ rs, e = 0 ∨ isE e) (hf : ∀ d, (f d).g = d.g ∧ (f d).firm = d.firm)
  (hD : yt rs = 0 → (a.dv dev).gone = false → ∀ (X : List HA) (w' : World), (∀ (g : Nat) (T : TypeId) (cs : List Value), HA.blk g T cs ∈ Lb → w'.heap[g]? = some (.cells cs.toArray T (0, 0)) ∧ g ∉ [x.gd]) → St w' [x.gd] w' [.blk x.gd 89 (yI a ++ x.rest)] →
   Calls Tryz.prog fn (List.toArray (.pointer (some ⟨x.gd, dev.toNat * 5, none⟩) :: cap)) w' fun e w'' => e = .returned (.tuple #[]) ∧ St w' [x.gd] w'' [.blk x.gd 89 (yI (a.upd dev f) ++ x.rest)]) :
  Calls Tryz.prog 37 #[.pointer (some ⟨ga, 0, none⟩), .int .i64 dev, .func (.func fn) #[] (List.toArray cap), v] w fun e w' => e = .returned (.int .i64 (a.fellE dev rs)) ∧ ∃ X, St w M w' (X ++ (Lb ++ yj ga x (a.fell dev rs f))) := by
 have hD' : yt rs = 0 → (a.dv dev).gone = false → ∀ (X : List HA) (w' : World), St w M w' (X ++ (Lb ++ yj ga x a)) → Calls Tryz.prog fn (List.toArray (.pointer (some ⟨x.gd, dev.toNat * 5, none⟩) :: cap)) w' fun e w'' => e = .returned (.tuple #[]) ∧ St w M w'' (X ++ (Lb ++ yj ga x (a.upd dev f))) := by
  intro h1 h2 X w' h; rw [← List.append_assoc] at h; refine (upd_frame hf h fun hne h3 => hD h1 h2 X w' (fun g T cs hm => ⟨h.all (.blk g T cs) (List.mem_append_left _ (zR hm)), hne g T cs (zR hm)⟩) h3).mono ?_; rintro _ w'' ⟨rfl, h4⟩; rw [List.append_assoc] at h4; exact ⟨rfl, h4⟩
 unfold AR.fellE AR.fell; rw [firstE_snoc]
 by_cases h1 : yt rs = 0
 ·rw [if_pos h1]; cases h2 : (a.dv dev).gone
  ·exact befalls_fine hS ok dev fn cap v m ws rs hfn hr hw hrs hm h1c hp hin hE hD' h1 h2
  ·rw [if_neg (by decide)]; exact befalls_gone hS ok dev fn cap v m ws rs hfn hr hw hrs hm h1c hp hin hE hD' h1 h2
 ·rw [if_neg h1, if_neg h1]; exact befalls_bad hS ok dev fn cap v m ws rs hfn hr hw hrs hm h1c hp hin hE hD' h1
theorem ya0 {w : World} {g : Nat} {T : TypeId} {v : Value} (h : w.heap[g]? = some (.cells (List.toArray [v]) T (0, 0))) : w.cell? ⟨g, 0, none⟩ = some v := St.cell (St.one w g T [v] h) (off := 0) zH rfl
theorem loseM_any {w : World} {ga : Nat} {x : GA} {a : AR} (hS : St w (yT ga x a) w (yj ga x a)) (ok : a.Ok) (dev : Int) :
  Calls Tryz.prog 55 #[.pointer (some ⟨ga, 0, none⟩), .int .i64 dev] w fun e w' => e = .returned (.int .i64 (a.loseE dev)) ∧ St w (yT ga x a) w' (yj ga x (a.lose dev)) := by
 have hst1 := hS; have OK := ya ok; have hmf := rmf; clear hS ok; go_enter Tryz.func55, Tryz.ntmps55; go_wp2_with (first | (go_at_call 40; refine (j1 ga dev _).mono ?_; rintro _ w2 ⟨g0, g1, rfl, h4⟩; have hst2 := St.call hst1 h4; clear h4 hst1) | (refine za ([yh 93 [yc g0, yc g1]]) ([yh 93 [yc g0, yc g1]]) hst2 (h:=fun gs w3 hst3 => ?_); clear hst2) | (go_at_call 37; have hQ : St w3 (([HA.blk gs 92 [yh 93 [yc g0, yc g1]], .blk g1 3 [.int .i64 dev], .blk g0 23 [.pointer (some ⟨ga, 0, none⟩)]] ++ yj ga x a).filterMap HA.foot) w3 ([HA.blk gs 92 [yh 93 [yc g0, yc g1]], .blk g1 3 [.int .i64 dev], .blk g0 23 [.pointer (some ⟨ga, 0, none⟩)]] ++ yj ga x a) := St.selfF hst3; refine (befalls_any hQ OK.out dev 105 [] (.slice (some ⟨gs, 0, none⟩) 1 1) 1 [yh 93 [yc g0, yc g1]] [y8 (a.inD dev) 5] (fLose) (fun _ _ => rfl) (fun X w' h => Rd.blk h (zR zH) (Nat.le_refl _) (by decide) rfl rfl) rfl rfl (by decide) rfl (fun X j f e hf he _ => (match j, hf, he with | 0, hf, he => (by cases hf; cases he; exact qm (fun _ h => ArrAt.of h (fun p hp => zR (zR hp)) OK.out.d0) yK (fun _ h => St.cell h (off := 0) (zR (zT (zT zH))) rfl) (fun _ h => St.cell h (off := 0) (zR (zT zH)) rfl)) | j + 1, hf, _ => (by simp at hf))) (fun h => yY (by decide) (zu h _ zH)) (fun e he => (by simp only [List.mem_cons, List.not_mem_nil, or_false] at he; rcases he with rfl; exact jO _ _ (by unfold isE; decide))) (fun d => ⟨rfl, rfl⟩) (fun h1 _ X w' hb h9 => (by have hin : a.inD dev = true := (fun (h : yt [y8 (a.inD dev) 5] = 0) => yY (by decide) (zu h _ zH)) h1; obtain ⟨k, rfl⟩ : ∃ k : Nat, dev = k := ⟨dev.toNat, by have := (yQ hin).1; omega⟩; exact lose1_any h9 hin))).mono ?_; rintro _ w4 ⟨rfl, X, h4⟩; have hst4 := ya1 hst3 h4; clear h4 hst3 hQ)); go_ret; exact ⟨rfl, St.sub hst4 (.trans zA zA)⟩
theorem strayM_any {w : World} {ga : Nat} {x : GA} {a : AR} (hS : St w (yT ga x a) w (yj ga x a)) (ok : a.Ok) (dev : Int) (pl : Int) :
  Calls Tryz.prog 56 #[.pointer (some ⟨ga, 0, none⟩), .int .i64 dev, .int .i64 pl] w fun e w' => e = .returned (.int .i64 (a.strayE dev pl)) ∧ St w (yT ga x a) w' (yj ga x (a.stray dev pl)) := by
 have hst0 := hS; have OK := ya ok; have hmf := rmf; clear hS ok; go_enter Tryz.func56, Tryz.ntmps56; go_wp2_with (first | (refine zbo hst0 fun g5 w1 hst1 => ?_; clear hst0) | (refine jl (Loads.at [] hst1 rfl) ?_) | (go_at_call 87; refine (jy ga dev pl _).mono ?_; rintro _ w2 ⟨g0, g1, g2, rfl, h4⟩; have hst2 := St.call hst1 h4; clear h4 hst1) | (refine za ([yh 138 [yc g0, yc g1, yc g2]]) ([yh 138 [yc g0, yc g1, yc g2]]) hst2 (h:=fun gs w3 hst3 => ?_); clear hst2) | (go_at_call 37; have hQ : St w3 (([HA.blk gs 92 [yh 138 [yc g0, yc g1, yc g2]], .blk g2 3 [.int .i64 pl], .blk g1 3 [.int .i64 dev], .blk g0 23 [.pointer (some ⟨ga, 0, none⟩)], .blk g5 3 [.int .i64 pl]] ++ yj ga x a).filterMap HA.foot) w3 ([HA.blk gs 92 [yh 138 [yc g0, yc g1, yc g2]], .blk g2 3 [.int .i64 pl], .blk g1 3 [.int .i64 dev], .blk g0 23 [.pointer (some ⟨ga, 0, none⟩)], .blk g5 3 [.int .i64 pl]] ++ yj ga x a) := St.selfF hst3; refine (befalls_any hQ OK.out dev 107 [yc g5] (.slice (some ⟨gs, 0, none⟩) 1 1) 1 [yh 138 [yc g0, yc g1, yc g2]] [y8 (a.inS dev pl) 5] (fStray pl) (fun _ _ => rfl) (fun X w' h => Rd.blk h (zR zH) (Nat.le_refl _) (by decide) rfl rfl) rfl rfl (by decide) rfl (fun X j f e hf he _ => (match j, hf, he with | 0, hf, he => (by cases hf; cases he; exact yaT (fun _ h => ArrAt.of h (fun p hp => zR (zR hp)) OK.out.d0) yK (fun _ h => St.cell h (off := 0) (zR (zT (zT (zT zH)))) rfl) (fun _ h => St.cell h (off := 0) (zR (zT (zT zH))) rfl) (fun _ h => St.cell h (off := 0) (zR (zT zH)) rfl)) | j + 1, hf, _ => (by simp at hf))) (fun h => yG (yY (by decide) (zu h _ zH))) (fun e he => (by simp only [List.mem_cons, List.not_mem_nil, or_false] at he; rcases he with rfl; exact jO _ _ (by unfold isE; decide))) (fun d => ⟨rfl, rfl⟩) (fun h1 _ X w' hb h9 => (by have hin : a.inD dev = true := (fun (h : yt [y8 (a.inS dev pl) 5] = 0) => yG (yY (by decide) (zu h _ zH))) h1; obtain ⟨k, rfl⟩ : ∃ k : Nat, dev = k := ⟨dev.toNat, by have := (yQ hin).1; omega⟩; exact stray1_any h9 (ya0 (hb g5 _ _ (zT (zT (zT (zT zH))))).1) (hb g5 _ _ (zT (zT (zT (zT zH))))).2 hin))).mono ?_; rintro _ w4 ⟨rfl, X, h4⟩; have hst4 := ya1 hst3 h4; clear h4 hst3 hQ)); go_ret; exact ⟨rfl, St.sub hst4 (.trans zA zA)⟩
theorem failsM_any {w : World} {ga : Nat} {x : GA} {a : AR} (hS : St w (yT ga x a) w (yj ga x a)) (ok : a.Ok) (dev : Int) (n : Int) :
  Calls Tryz.prog 57 #[.pointer (some ⟨ga, 0, none⟩), .int .i64 dev, .int .i64 n] w fun e w' => e = .returned (.int .i64 (a.failsE dev n)) ∧ St w (yT ga x a) w' (yj ga x (a.fails dev n)) := by
 have hst0 := hS; have OK := ya ok; have hmf := rmf; clear hS ok; go_enter Tryz.func57, Tryz.ntmps57; go_wp2_with (first | (refine zbo hst0 fun g5 w1 hst1 => ?_; clear hst0) | (go_at_call 40; refine (j1 ga dev _).mono ?_; rintro _ w2 ⟨g0, g1, rfl, h4⟩; have hst2 := St.call hst1 h4; clear h4 hst1) | (refine za ([yh 93 [yc g0, yc g1], yh 108 [yc g5]]) ([yh 93 [yc g0, yc g1], yh 108 [yc g5]]) hst2 (h:=fun gs w3 hst3 => ?_); clear hst2) | (go_at_call 37; have hQ : St w3 (([HA.blk gs 92 [yh 93 [yc g0, yc g1], yh 108 [yc g5]], .blk g1 3 [.int .i64 dev], .blk g0 23 [.pointer (some ⟨ga, 0, none⟩)], .blk g5 3 [.int .i64 n]] ++ yj ga x a).filterMap HA.foot) w3 ([HA.blk gs 92 [yh 93 [yc g0, yc g1], yh 108 [yc g5]], .blk g1 3 [.int .i64 dev], .blk g0 23 [.pointer (some ⟨ga, 0, none⟩)], .blk g5 3 [.int .i64 n]] ++ yj ga x a) := St.selfF hst3; refine (befalls_any hQ OK.out dev 109 [yc g5] (.slice (some ⟨gs, 0, none⟩) 2 2) 2 [yh 93 [yc g0, yc g1], yh 108 [yc g5]] [y8 (a.inD dev) 5, y8 (decide (0 ≤ n)) 2] (fFail n) (fun _ _ => rfl) (fun X w' h => Rd.blk h (zR zH) (Nat.le_refl _) (by decide) rfl rfl) rfl rfl (by decide) rfl (fun X j f e hf he _ => (match j, hf, he with | 0, hf, he => (by cases hf; cases he; exact qm (fun _ h => ArrAt.of h (fun p hp => zR (zR hp)) OK.out.d0) yK (fun _ h => St.cell h (off := 0) (zR (zT (zT zH))) rfl) (fun _ h => St.cell h (off := 0) (zR (zT zH)) rfl)) | 1, hf, he => (by cases hf; cases he; exact jQ (fun _ _ => rfl) fun w h => (fail1_any (St.cell h (off := 0) (zR (zT (zT (zT zH)))) rfl)).mono fun _ _ ⟨e, h4⟩ => ⟨e, yK _ _ h h4⟩) | j + 2, hf, _ => (by simp at hf))) (fun h => yY (by decide) (zu h _ zH)) (fun e he => (by simp only [List.mem_cons, List.not_mem_nil, or_false] at he; rcases he with rfl | rfl <;> exact jO _ _ (by unfold isE; decide))) (fun d => ⟨rfl, rfl⟩) (fun h1 _ X w' hb h9 => (by have hin : a.inD dev = true := (fun (h : yt [y8 (a.inD dev) 5, y8 (decide (0 ≤ n)) 2] = 0) => yY (by decide) (zu h _ zH)) h1; obtain ⟨k, rfl⟩ : ∃ k : Nat, dev = k := ⟨dev.toNat, by have := (yQ hin).1; omega⟩; exact fail2_any h9 (ya0 (hb g5 _ _ (zT (zT (zT zH)))).1) (hb g5 _ _ (zT (zT (zT zH)))).2 hin))).mono ?_; rintro _ w4 ⟨rfl, X, h4⟩; have hst4 := ya1 hst3 h4; clear h4 hst3 hQ)); go_ret; exact ⟨rfl, St.sub hst4 (.trans zA zA)⟩
theorem madeCells_rep (v : Value) (sz n : Nat) (hs : 0 < sz) : madeCells (List.replicate sz v).toArray n = (List.replicate n v).toArray := by
 apply Array.ext
 ·simp [madeCells]
 ·intro i h1 h2; have hi : i % sz < sz := Nat.mod_lt _ hs; simp [madeCells, hi]
theorem wl_makeR {ops : Array Oper} {rest : List Oper} {o : Oper} {a : Act} {w0 w : World} {M : List Nat} {L : List HA} {Q : Exit → Act → World → Prop} {T e : TypeId} {x y : Operand} {bytes sz : Nat} {z : Value} {u v : Int} (l c : Nat) (hst : St w0 M w L) (hop : o.op = .makeSlice T x y)
  (hw : Region.wanted o (yielded ops a.tmps) = true) (hx : a.eval x = .int .i64 u) (hy : a.eval y = .int .i64 v) (ht : TySl Tryz.prog T e) (he : TyE Tryz.prog e sz bytes) (hz : TyZ Tryz.prog e (List.replicate sz z)) (hsz : 0 < sz) (hu : u = (l : Int)) (hv : v = (c : Int)) (hlc : l ≤ c) (hb : c * bytes ≤ 281474976710656 ∧ c ≤ 9223372036854775807)
  (h : ∀ g w', St w0 M w' (.blk g e (List.replicate (c * sz) z) :: L) → wpList Tryz.prog ops Q rest (a.put o.dst (.slice (some ⟨g, 0, none⟩) l c)) w') : wpList Tryz.prog ops Q (o :: rest) a w := by
 subst hu hv; obtain ⟨i, zz, hi, hzz, hs, hbs, hzs⟩ := tyE_spec he.out; have hzl : zz.cells = (List.replicate sz z).toArray := by
  have := hz.out; unfold tyZ at this; simp [hi, hzz] at this; exact Array.toList_inj.1 (by simpa using this)
 have hm := run_make (P := Tryz.prog) w T e i zz ht.out hi hzz .i64 .i64 l c (by omega) (by omega) (by rw [hbs, ← Int.natCast_mul, Nat.mul_comm]; have h3 := hb.1; revert h3; generalize c * bytes = q; intro h3; omega) (by have := hb.2; omega); rw [hzl, hs, madeCells_rep _ _ _ hsz] at hm; simp only [Int.toNat_natCast] at hm; refine jW hw ?_ (h _ _ (hst.alloc e (List.replicate (c * sz) z))); unfold execOp; simp only [hop, hx, hy, Sem.run_bind, hm, Sem.run_pure, Result.andThen_ok]
theorem row_open {w0 w : World} {M : List Nat} {L1 L2 : List HA} {v : Value} {T : TypeId} {sz n : Nat} {xs : List Value} (h : St w0 M w (L1 ++ .row v T sz n xs :: L2)) (hn : 0 < n) : ∃ g c rest, v = .slice (some ⟨g, 0, none⟩) n c ∧ St w0 M w (L1 ++ .blk g T (xs ++ rest) :: L2) := by
 obtain ⟨hl, h2⟩ := h.owns (v := v) (T := T) (sz := sz) (n := n) (xs := xs) (by simp); rcases h2 with ⟨_, hz⟩ | ⟨g, cap, cur, rfl, _, hh, _, _, _, hp⟩
 ·omega
 ·refine ⟨g, cap, cur.toList.drop (n * sz), rfl, h.rep (y := .blk g T (xs ++ cur.toList.drop (n * sz))) rfl fun _ => ?_⟩; show w.heap[g]? = _; rw [hh, ← hp, List.take_append_drop]
def yM (s : Nat) (g : Nat) : DV := ⟨g, List.replicate s (List.replicate 256 0), false, false, false, 0, 0⟩
def zX (s : Nat) (gs : List Nat) : AR := ⟨gs.map (yM s), [], -1, false, 0⟩
theorem bytesV_zero (n : Nat) : yb (List.replicate n 0) = List.replicate n (.int .u8 0) := by simp [yb]
theorem ya7 (s : Nat) : yR (List.replicate s (List.replicate 256 0)) = List.replicate (s * 256) (.int .u8 0) := by
 induction s with
 | zero => rfl
 | succ s ih =>
  unfold yR at ih ⊢; rw [List.replicate_succ, List.flatMap_cons, ih, bytesV_zero, List.replicate_append_replicate, Nat.add_mul, Nat.one_mul, Nat.add_comm]
theorem yal (s g : Nat) : (yM s g).firm.length = s := by simp [yM]
theorem newA_ok {s : Nat} {gs : List Nat} (hd : 1 ≤ gs.length ∧ gs.length ≤ 8) (hs : s ≤ 4096) : (zX s gs).Ok := by
 have hsec : (zX s gs).secs = s := by
  unfold AR.secs zX
  match gs, hd.1 with
  | g :: gs, _ => simp [yM]
 refine ⟨?_, ?_, by omega, ?_, ?_, ?_⟩
 ·intro h; have : (zX s gs).devs.length = 0 := by rw [h]; rfl
  simp [zX] at this; rw [this] at hd; simp at hd
 ·simp [zX]; omega
 ·intro d hd2; simp only [zX, List.mem_map] at hd2; obtain ⟨g, _, rfl⟩ := hd2; rw [hsec]; refine ⟨yal s g, fun t ht => ?_, fun h => by simp [yM] at h, by simp [yM], by simp [yM]⟩; rw [(List.mem_replicate.1 ht).2, List.length_replicate]
 ·intro w hw; simp [zX] at hw
 ·simp [zX]
section
theorem newM_any (d s : Nat) (hd : 2 ≤ d ∧ d ≤ 8) (hs : 8 ≤ s ∧ s ≤ 4096) (w : World) :
  Calls Tryz.prog 28 #[.int .i64 (d : Int), .int .i64 (s : Int)] w fun e w' => ∃ ga x gs, e = .returned (.tuple #[.pointer (some ⟨ga, 0, none⟩), .int .i64 0]) ∧ gs.length = d ∧ St w [] w' (yj ga x (zX s gs)) := by
 have hst0 := St.refl w; have d1 : decide ((d : Int) < 2) = false := zF (by omega); have d2 : decide ((d : Int) > 8) = false := zF (by omega); have d2' : decide ((8 : Int) < (d : Int)) = false := d2; have d3 : decide ((s : Int) < 8) = false := zF (by omega); have d4 : decide ((s : Int) > 4096) = false := zF (by omega); have d4' : decide ((4096 : Int) < (s : Int)) = false := d4; have e1 : ¬ d < 2 := by omega
 have e2 : ¬ 8 < d := by omega
 have e3 : ¬ s < 8 := by omega
 have e4 : ¬ 4096 < s := by omega
 go_enter Tryz.func28, Tryz.ntmps28; go_wp2_with (first | (refine yH (cs := [.slice none 0 0, .slice none 0 0, .int .i64 (-1), .bool false, .int .i64 0]) [(2, _)] rfl rfl (by exact rfl) (by kernel_rfl) ?_) | (refine zj hst0 fun ga _ hst1 => ?_; clear hst0)); go_loopw [24] (fun i wr => ∃ (j : Nat) (gs : List Nat) (dv : Value), j ≤ d ∧ i = .int .i64 (j : Int) ∧ gs.length = j ∧ St w [] wr (.blk ga 109 [dv, .slice none 0 0, .int .i64 (-1), .bool false, .int .i64 0] :: .row dv 89 5 j ((gs.map (yM s)).flatMap DV.cells) :: (gs.map (yM s)).map y9)) (fun i _ => d - (intOf i).toNat)
 case atStart =>
  refine ⟨0, [], .slice none 0 0, Nat.zero_le _, rfl, rfl, ?_⟩; exact St.perm (zt 89 5 hst1) (List.Perm.swap _ _ _)
 case round =>
  clear hst1; obtain ⟨j, gs, dv, hj, rfl, hgl, hst⟩ := hrel; by_cases hlj : j < d
  ·have d5 : decide ((j : Int) < (d : Int)) = true := zD (by omega); have z1 : IntKind.i64.wrap ((j : Int) + 1) = (j : Int) + 1 := IntWalk.i64_in _ (by omega); have HGL := ya hgl; obtain ⟨XS, hXS⟩ : ∃ XS, XS = (gs.map (yM s)).flatMap DV.cells := ⟨_, rfl⟩; obtain ⟨FZ, hFS⟩ : ∃ FZ, FZ = (gs.map (yM s)).map y9 := ⟨_, rfl⟩; have HXS := ya hXS; have HFS := ya hFS; rw [← hXS, ← hFS] at hst; clear hgl hXS hFS; go_wp2; have hX := hst.drew; clear hst; refine wD (S := fun w' => True) trivial fun hHeld => ?_; refine jt 0 (h:=jt 1 (h:=jt 5 (h:=jt 2 (h:=jt 3 (h:=?_))))); refine jx2 4 6 (h0:=fun K hK => ?_) (h1:=fun K hK => ?_)
   ·refine oW ?_; refine jl (Loads.at [] hX rfl) ?_; refine kQ hK trivial (h:=fun hHeld => ?_); refine rW 6 (h:=fun K hK => ?_); apply wl_makeR (sz := 256) (z := .int .u8 0) s s hX; rfl; rfl; exact rfl; exact rfl; infer_instance; infer_instance; infer_instance; decide; exact rfl; exact rfl; exact Nat.le_refl _
    (refine ⟨by omega, by omega⟩)
    intro gf w3 hM1; refine kQ hK trivial (h:=fun hHeld => ?_); refine rW 7 (h:=fun K hK => ?_); refine yH (cs := [.slice (some ⟨gf, 0, none⟩) s s, .bool false, .int .u8 0, .int .i64 0, .int .i64 0]) [(0, .slice (some ⟨gf, 0, none⟩) s s)] rfl rfl (by exact rfl) (by kernel_rfl) ?_; refine kQ hK trivial (h:=fun hHeld => ?_); refine rW 8 (h:=fun K hK => ?_); refine za [.agg (List.toArray [.slice (some ⟨gf, 0, none⟩) s s, .bool false, .int .u8 0, .int .i64 0, .int .i64 0])] ([.slice (some ⟨gf, 0, none⟩) s s, .bool false, .int .u8 0, .int .i64 0, .int .i64 0]) hM1 (h:=fun gb w4 hM2 => ?_); refine kQ hK trivial (h:=fun hHeld => ?_); refine rW 9 (h:=fun K hK => ?_); refine jf (m := 1) (ys := [.slice (some ⟨gf, 0, none⟩) s s, .bool false, .int .u8 0, .int .i64 0, .int .i64 0]) [_, _, _] hM2 (hr:=Rd.blk (n := 1) hM2 zH (Nat.le_refl _) (by decide) rfl rfl) (hb:=by refine ⟨by decide, by unfold maxLen; omega, by omega⟩) (h:=fun v9 w5 hM3 _ => ?_); obtain ⟨ao9, c9, rfl, _, _, _⟩ := yV hM3 (zT (zT (zT zH))); refine kQ hK trivial (h:=fun hHeld => ?_); refine jt 10 (h:=jt 11 (h:=?_)); refine rW 12 (h:=fun K hK => ?_); refine ye [_, _] hM3 rfl rfl rfl (v := .slice _ _ _) rfl rfl rfl (by show (0 : Nat) + 1 ≤ 5; decide) ?_; intro w6 hM4; refine kQ hK trivial (h:=fun hHeld => ?_); refine jn ?_; clear hHeld; go_wp2; go_roundw
    case rel =>
     refine ⟨j + 1, gs ++ [gf], .slice ao9 (j + 1) c9, by omega, rfl, by rw [List.length_append, HGL]; rfl, ?_⟩; have e1 : ((gs ++ [gf]).map (yM s)).flatMap DV.cells = XS ++ [.slice (some ⟨gf, 0, none⟩) s s, .bool false, .int .u8 0, .int .i64 0, .int .i64 0] := by
      rw [List.map_append, List.flatMap_append, ← HXS]
      congr 1
      show (yM s gf).cells ++ [] = _; rw [List.append_nil]; unfold DV.cells; rw [yal]; rfl
     have e2 : ((gs ++ [gf]).map (yM s)).map y9 = FZ ++ [.blk gf 144 (List.replicate (s * 256) (.int .u8 0))] := by
      rw [List.map_append, List.map_append, ← HFS]
      congr 1
      show [y9 (yM s gf)] = _; unfold y9; rw [show (yM s gf).firm = List.replicate s (List.replicate 256 0) from rfl, ya7]; rfl
     rw [e1, e2]; have h9 := (yy (L1 := [_, _, _]) (yy (L1 := [_, _, _]) (yy (L1 := [_]) hM4))); refine St.perm (St.sub h9 (.cons_cons _ (.cons_cons _ (.cons_cons _ (.cons _ (List.Sublist.refl _)))))) ?_; exact List.Perm.cons _ (List.Perm.cons _ (List.perm_append_singleton _ _).symm)
    case measure => simp [intOf]; omega
   ·refine oW ?_; apply wl_makeR (sz := 256) (z := .int .u8 0) s s hX; rfl; rfl; exact rfl; exact rfl; infer_instance; infer_instance; infer_instance; decide; exact rfl; exact rfl; exact Nat.le_refl _
    (refine ⟨by omega, by omega⟩)
    intro gf w3 hM1; refine kQ hK trivial (h:=fun hHeld => ?_); refine jx2 4 7 (h0:=fun K hK => ?_) (h1:=fun K hK => ?_)
    ·refine oW ?_; refine jl (Loads.at [_] hM1 rfl) ?_; refine kQ hK trivial (h:=fun hHeld => ?_); refine rW 7 (h:=fun K hK => ?_); refine yH (cs := [.slice (some ⟨gf, 0, none⟩) s s, .bool false, .int .u8 0, .int .i64 0, .int .i64 0]) [(0, .slice (some ⟨gf, 0, none⟩) s s)] rfl rfl (by exact rfl) (by kernel_rfl) ?_; refine kQ hK trivial (h:=fun hHeld => ?_); refine rW 8 (h:=fun K hK => ?_); refine za [.agg (List.toArray [.slice (some ⟨gf, 0, none⟩) s s, .bool false, .int .u8 0, .int .i64 0, .int .i64 0])] ([.slice (some ⟨gf, 0, none⟩) s s, .bool false, .int .u8 0, .int .i64 0, .int .i64 0]) hM1 (h:=fun gb w4 hM2 => ?_); refine kQ hK trivial (h:=fun hHeld => ?_); refine rW 9 (h:=fun K hK => ?_); refine jf (m := 1) (ys := [.slice (some ⟨gf, 0, none⟩) s s, .bool false, .int .u8 0, .int .i64 0, .int .i64 0]) [_, _, _] hM2 (hr:=Rd.blk (n := 1) hM2 zH (Nat.le_refl _) (by decide) rfl rfl) (hb:=by refine ⟨by decide, by unfold maxLen; omega, by omega⟩) (h:=fun v9 w5 hM3 _ => ?_); obtain ⟨ao9, c9, rfl, _, _, _⟩ := yV hM3 (zT (zT (zT zH))); refine kQ hK trivial (h:=fun hHeld => ?_); refine jt 10 (h:=jt 11 (h:=?_)); refine rW 12 (h:=fun K hK => ?_); refine ye [_, _] hM3 rfl rfl rfl (v := .slice _ _ _) rfl rfl rfl (by show (0 : Nat) + 1 ≤ 5; decide) ?_; intro w6 hM4; refine kQ hK trivial (h:=fun hHeld => ?_); refine jn ?_; clear hHeld; go_wp2; go_roundw
     case rel =>
      refine ⟨j + 1, gs ++ [gf], .slice ao9 (j + 1) c9, by omega, rfl, by rw [List.length_append, HGL]; rfl, ?_⟩; have e1 : ((gs ++ [gf]).map (yM s)).flatMap DV.cells = XS ++ [.slice (some ⟨gf, 0, none⟩) s s, .bool false, .int .u8 0, .int .i64 0, .int .i64 0] := by
       rw [List.map_append, List.flatMap_append, ← HXS]
       congr 1
       show (yM s gf).cells ++ [] = _; rw [List.append_nil]; unfold DV.cells; rw [yal]; rfl
      have e2 : ((gs ++ [gf]).map (yM s)).map y9 = FZ ++ [.blk gf 144 (List.replicate (s * 256) (.int .u8 0))] := by
       rw [List.map_append, List.map_append, ← HFS]
       congr 1
       show [y9 (yM s gf)] = _; unfold y9; rw [show (yM s gf).firm = List.replicate s (List.replicate 256 0) from rfl, ya7]; rfl
      rw [e1, e2]; have h9 := (yy (L1 := [_, _, _]) (yy (L1 := [_, _, _]) (yy (L1 := [_]) hM4))); refine St.perm (St.sub h9 (.cons_cons _ (.cons_cons _ (.cons_cons _ (.cons _ (List.Sublist.refl _)))))) ?_; exact List.Perm.cons _ (List.Perm.cons _ (List.perm_append_singleton _ _).symm)
     case measure => simp [intOf]; omega
    ·refine oW ?_; refine yH (cs := [.slice (some ⟨gf, 0, none⟩) s s, .bool false, .int .u8 0, .int .i64 0, .int .i64 0]) [(0, .slice (some ⟨gf, 0, none⟩) s s)] rfl rfl (by exact rfl) (by kernel_rfl) ?_; refine kQ hK trivial (h:=fun hHeld => ?_); refine jx2 4 8 (h0:=fun K hK => ?_) (h1:=fun K hK => ?_)
     ·refine oW ?_; refine jl (Loads.at [_] hM1 rfl) ?_; refine kQ hK trivial (h:=fun hHeld => ?_); refine rW 8 (h:=fun K hK => ?_); refine za [.agg (List.toArray [.slice (some ⟨gf, 0, none⟩) s s, .bool false, .int .u8 0, .int .i64 0, .int .i64 0])] ([.slice (some ⟨gf, 0, none⟩) s s, .bool false, .int .u8 0, .int .i64 0, .int .i64 0]) hM1 (h:=fun gb w4 hM2 => ?_); refine kQ hK trivial (h:=fun hHeld => ?_); refine rW 9 (h:=fun K hK => ?_); refine jf (m := 1) (ys := [.slice (some ⟨gf, 0, none⟩) s s, .bool false, .int .u8 0, .int .i64 0, .int .i64 0]) [_, _, _] hM2 (hr:=Rd.blk (n := 1) hM2 zH (Nat.le_refl _) (by decide) rfl rfl) (hb:=by refine ⟨by decide, by unfold maxLen; omega, by omega⟩) (h:=fun v9 w5 hM3 _ => ?_); obtain ⟨ao9, c9, rfl, _, _, _⟩ := yV hM3 (zT (zT (zT zH))); refine kQ hK trivial (h:=fun hHeld => ?_); refine jt 10 (h:=jt 11 (h:=?_)); refine rW 12 (h:=fun K hK => ?_); refine ye [_, _] hM3 rfl rfl rfl (v := .slice _ _ _) rfl rfl rfl (by show (0 : Nat) + 1 ≤ 5; decide) ?_; intro w6 hM4; refine kQ hK trivial (h:=fun hHeld => ?_); refine jn ?_; clear hHeld; go_wp2; go_roundw
      case rel =>
       refine ⟨j + 1, gs ++ [gf], .slice ao9 (j + 1) c9, by omega, rfl, by rw [List.length_append, HGL]; rfl, ?_⟩; have e1 : ((gs ++ [gf]).map (yM s)).flatMap DV.cells = XS ++ [.slice (some ⟨gf, 0, none⟩) s s, .bool false, .int .u8 0, .int .i64 0, .int .i64 0] := by
        rw [List.map_append, List.flatMap_append, ← HXS]
        congr 1
        show (yM s gf).cells ++ [] = _; rw [List.append_nil]; unfold DV.cells; rw [yal]; rfl
       have e2 : ((gs ++ [gf]).map (yM s)).map y9 = FZ ++ [.blk gf 144 (List.replicate (s * 256) (.int .u8 0))] := by
        rw [List.map_append, List.map_append, ← HFS]
        congr 1
        show [y9 (yM s gf)] = _; unfold y9; rw [show (yM s gf).firm = List.replicate s (List.replicate 256 0) from rfl, ya7]; rfl
       rw [e1, e2]; have h9 := (yy (L1 := [_, _, _]) (yy (L1 := [_, _, _]) (yy (L1 := [_]) hM4))); refine St.perm (St.sub h9 (.cons_cons _ (.cons_cons _ (.cons_cons _ (.cons _ (List.Sublist.refl _)))))) ?_; exact List.Perm.cons _ (List.Perm.cons _ (List.perm_append_singleton _ _).symm)
      case measure => simp [intOf]; omega
     ·refine oW ?_; refine za [.agg (List.toArray [.slice (some ⟨gf, 0, none⟩) s s, .bool false, .int .u8 0, .int .i64 0, .int .i64 0])] ([.slice (some ⟨gf, 0, none⟩) s s, .bool false, .int .u8 0, .int .i64 0, .int .i64 0]) hM1 (h:=fun gb w4 hM2 => ?_); refine kQ hK trivial (h:=fun hHeld => ?_); refine rW 4 (h:=fun K hK => ?_); refine jl (Loads.at [_, _] hM2 rfl) ?_; refine kQ hK trivial (h:=fun hHeld => ?_); refine rW 9 (h:=fun K hK => ?_); refine jf (m := 1) (ys := [.slice (some ⟨gf, 0, none⟩) s s, .bool false, .int .u8 0, .int .i64 0, .int .i64 0]) [_, _, _] hM2 (hr:=Rd.blk (n := 1) hM2 zH (Nat.le_refl _) (by decide) rfl rfl) (hb:=by refine ⟨by decide, by unfold maxLen; omega, by omega⟩) (h:=fun v9 w5 hM3 _ => ?_); obtain ⟨ao9, c9, rfl, _, _, _⟩ := yV hM3 (zT (zT (zT zH))); refine kQ hK trivial (h:=fun hHeld => ?_); refine jt 10 (h:=jt 11 (h:=?_)); refine rW 12 (h:=fun K hK => ?_); refine ye [_, _] hM3 rfl rfl rfl (v := .slice _ _ _) rfl rfl rfl (by show (0 : Nat) + 1 ≤ 5; decide) ?_; intro w6 hM4; refine kQ hK trivial (h:=fun hHeld => ?_); refine jn ?_; clear hHeld; go_wp2; go_roundw
      case rel =>
       refine ⟨j + 1, gs ++ [gf], .slice ao9 (j + 1) c9, by omega, rfl, by rw [List.length_append, HGL]; rfl, ?_⟩; have e1 : ((gs ++ [gf]).map (yM s)).flatMap DV.cells = XS ++ [.slice (some ⟨gf, 0, none⟩) s s, .bool false, .int .u8 0, .int .i64 0, .int .i64 0] := by
        rw [List.map_append, List.flatMap_append, ← HXS]
        congr 1
        show (yM s gf).cells ++ [] = _; rw [List.append_nil]; unfold DV.cells; rw [yal]; rfl
       have e2 : ((gs ++ [gf]).map (yM s)).map y9 = FZ ++ [.blk gf 144 (List.replicate (s * 256) (.int .u8 0))] := by
        rw [List.map_append, List.map_append, ← HFS]
        congr 1
        show [y9 (yM s gf)] = _; unfold y9; rw [show (yM s gf).firm = List.replicate s (List.replicate 256 0) from rfl, ya7]; rfl
       rw [e1, e2]; have h9 := (yy (L1 := [_, _, _]) (yy (L1 := [_, _, _]) (yy (L1 := [_]) hM4))); refine St.perm (St.sub h9 (.cons_cons _ (.cons_cons _ (.cons_cons _ (.cons _ (List.Sublist.refl _)))))) ?_; exact List.Perm.cons _ (List.Perm.cons _ (List.perm_append_singleton _ _).symm)
      case measure => simp [intOf]; omega
  ·have d5 : decide ((j : Int) < (d : Int)) = false := zF (by omega); have hjd : j = d := by omega
   subst hjd; go_wp2; go_ret2; obtain ⟨gd, cd, rest, rfl, h2⟩ := row_open (L1 := [_]) hst (by omega); refine ⟨ga, ⟨gd, cd, rest, .slice none 0 0⟩, gs, rfl, hgl, ?_⟩; have h3 := zt 149 258 h2; have h4 := St.perm h3 (L' := .blk ga 109 [.slice (some ⟨gd, 0, none⟩) j cd, .slice none 0 0, .int .i64 (-1), .bool false, .int .i64 0] :: .blk gd 89 ((gs.map (yM s)).flatMap DV.cells ++ rest) :: .row (.slice none 0 0) 149 258 0 [] :: (gs.map (yM s)).map y9)
    ((List.Perm.swap _ _ _).trans (List.Perm.cons _ (List.Perm.swap _ _ _)))
   have hl : (zX s gs).devs.length = j := by simp [zX, hgl]
   unfold yj js; rw [hl]; exact h4
end
end
section
open Go.RowKit Hp
def qE (p : Nat) (b : List UInt8) (d : DV) : DV := { d with firm := d.firm.set p b }
def tornF (p : Nat) (b : List UInt8) (t : Nat) (d : DV) : DV := { d with firm := d.firm.set p (b.take t ++ (d.firm.getD p []).drop t) }
def qz (t : Nat) (s : AR × Bool) (w : LW) (keep : Bool) : AR × Bool :=
 if keep then (s.1.upd (w.dev : Int) (qE w.pl w.b), s.2) else if s.2 then (s.1.upd (w.dev : Int) (tornF w.pl w.b t), false) else s
def z9 (a : AR) (keep : List Bool) (t : Nat) : Nat → AR × Bool
 | 0 => (a, true)
 | j + 1 => match a.loose[j]? with
  | none => z9 a keep t j
  | some w => qz t (z9 a keep t j) w (keep.getD j false)
def clean (d : DV) : DV := { d with lo := false, st := false, fail := 0 }
def AR.crashed (a : AR) (keep : List Bool) (t : Nat) : AR := ⟨(z9 a keep t a.loose.length).1.devs.map clean, [], -1, false, a.steps⟩
def AR.crashE (a : AR) (torn : Int) : Int := if a.devs = [] then 1 else y8 (decide (0 ≤ torn) && decide (torn < 256)) 2
def AR.crash (a : AR) (keep : List Bool) (torn : Int) : AR := if a.crashE torn = 0 then a.crashed keep torn.toNat else a
structure Good (a b : AR) : Prop where
 len : b.devs.length = a.devs.length
 cel : yI b = yI a
 fm : ∀ d ∈ b.devs, d.firm.length = a.secs ∧ ∀ s ∈ d.firm, s.length = 256
theorem Good.inD {a b : AR} (h : Good a b) (dev : Int) : b.inD dev = a.inD dev := by unfold AR.inD; rw [h.len]
theorem Good.refl {a : AR} (ok : a.Ok) : Good a a := ⟨rfl, rfl, fun d hd => ⟨(ok.fm d hd).1, (ok.fm d hd).2.1⟩⟩
theorem Good.upd {a b : AR} (h : Good a b) {k : Nat} (hk : a.inD (k : Int) = true) {f : DV → DV} (hf : ∀ d, (f d).g = d.g ∧ (f d).gone = d.gone ∧ (f d).lo = d.lo ∧ (f d).st = d.st ∧ (f d).to = d.to ∧ (f d).fail = d.fail ∧ (f d).firm.length = d.firm.length)
  (hs : ∀ s ∈ (f (b.dv (k : Int))).firm, s.length = 256) : Good a (b.upd (k : Int) f) := by
 have hin : b.inD (k : Int) = true := by rw [h.inD]; exact hk
 refine ⟨by rw [upd_len, h.len], ?_, fun d hd => ?_⟩
 ·rw [devC_firm (k : Int) (fun d => ?_), h.cel]; obtain ⟨h1, h2, h3, h4, h5, h6, h7⟩ := hf d; unfold DV.cells DV.nx; rw [h1, h2, h3, h4, h5, h6, h7]
 ·have hm : d ∈ b.devs.modify k f := by unfold AR.upd at hd; rwa [Int.toNat_natCast] at hd
  obtain ⟨j, hj, rfl⟩ := List.getElem_of_mem hm; have hj2 : (b.devs.modify k f)[j]? = some (b.devs.modify k f)[j] := List.getElem?_eq_getElem hj; rw [yS] at hj2; have hd0 := zI hin; rw [Int.toNat_natCast] at hd0; by_cases hkj : k = j
  ·subst hkj; rw [if_pos rfl, hd0, Option.map_some] at hj2; have e := Option.some.inj hj2; rw [← e]; exact ⟨by rw [(hf _).2.2.2.2.2.2]; exact (h.fm _ (List.mem_of_getElem? hd0)).1, hs⟩
  ·rw [if_neg hkj] at hj2; exact h.fm _ (List.mem_of_getElem? hj2)
theorem setF_same (p : Nat) (b : List UInt8) (d : DV) : (qE p b d).g = d.g ∧ (qE p b d).gone = d.gone ∧ (qE p b d).lo = d.lo ∧ (qE p b d).st = d.st ∧ (qE p b d).to = d.to ∧ (qE p b d).fail = d.fail ∧ (qE p b d).firm.length = d.firm.length := ⟨rfl, rfl, rfl, rfl, rfl, rfl, by simp [qE]⟩
theorem tornF_same (p : Nat) (b : List UInt8) (t : Nat) (d : DV) : (tornF p b t d).g = d.g ∧ (tornF p b t d).gone = d.gone ∧ (tornF p b t d).lo = d.lo ∧ (tornF p b t d).st = d.st ∧ (tornF p b t d).to = d.to ∧ (tornF p b t d).fail = d.fail ∧ (tornF p b t d).firm.length = d.firm.length := ⟨rfl, rfl, rfl, rfl, rfl, rfl, by simp [tornF]⟩
theorem torn_len {l : List (List UInt8)} {p t : Nat} {b : List UInt8} (hl : ∀ s ∈ l, s.length = 256) (hb : b.length = 256) (hp : p < l.length) (ht : t ≤ 256) : (b.take t ++ (l.getD p []).drop t).length = 256 := by
 have h1 : (l.getD p []).length = 256 := by
  rw [List.getD_eq_getElem?_getD, List.getElem?_eq_getElem hp]; exact hl _ (List.getElem_mem hp)
 rw [List.length_append, List.length_take, List.length_drop, h1, hb]; omega
theorem Good.step {a b : AR} (h : Good a b) {w : LW} {t : Nat} {first keep : Bool} (hw : w.dev < a.devs.length ∧ w.pl < a.secs ∧ w.b.length = 256) (ht : t ≤ 256) : Good a (qz t (b, first) w keep).1 := by
 have hk : a.inD (w.dev : Int) = true := by
  unfold AR.inD; simp only [Bool.and_eq_true, decide_eq_true_eq]; omega
 have hin : b.inD (w.dev : Int) = true := by rw [h.inD]; exact hk
 have hd := h.fm _ (List.mem_of_getElem? (zI hin)); unfold qz; cases keep
 ·rw [if_neg (by decide)]; cases first
  ·exact h
  ·exact h.upd hk (tornF_same _ _ _) fun s hs => by
    rcases List.mem_or_eq_of_mem_set hs with h1 | rfl
    ·exact hd.2 s h1
    ·exact torn_len hd.2 hw.2.2 (by rw [hd.1]; exact hw.2.1) ht
 ·exact h.upd hk (setF_same _ _) fun s hs => by
   rcases List.mem_or_eq_of_mem_set hs with h1 | rfl
   ·exact hd.2 s h1
   ·exact hw.2.2
theorem yav {a : AR} (ok : a.Ok) (keep : List Bool) {t : Nat} (ht : t ≤ 256) : ∀ j, Good a (z9 a keep t j).1
 | 0 => Good.refl ok
 | j + 1 => by
  have ih := yav ok keep ht j; unfold z9; cases hw : a.loose[j]? with
  | none => exact ih
  | some w => exact ih.step (ok.lw w (List.mem_of_getElem? hw)) ht
theorem crashN_succ {a : AR} {keep : List Bool} {t j : Nat} {w : LW} (h : a.loose[j]? = some w) : z9 a keep t (j + 1) = qz t (z9 a keep t j) w (keep.getD j false) := by
 show (match a.loose[j]? with | none => _ | some w => _) = _; rw [h]
theorem secs_part {l : List (List UInt8)} {p t : Nat} {b : List UInt8} (hl : ∀ s ∈ l, s.length = 256) (hb : b.length = 256) (hp : p < l.length) (ht : t ≤ 256) : yw (yR l) (p * 256) (yb (b.take t)) = yR (l.set p (b.take t ++ (l.getD p []).drop t)) := by
 have hbt : (yb (b.take t)).length = t := by rw [length_bytesV, List.length_take, hb]; omega
 rw [ya8, hbt]
 induction l generalizing p with
 | nil => simp at hp
 | cons s l ih =>
  have hs : (yb s).length = 256 := by rw [length_bytesV]; exact hl s zH
  unfold yR at ih ⊢; cases p with
  | zero =>
   rw [List.set_cons_zero, List.flatMap_cons, List.flatMap_cons, Nat.zero_mul, List.take_zero, List.nil_append, Nat.zero_add, List.drop_append_of_le_length (by omega)]; show _ = yb (b.take t ++ s.drop t) ++ _; rw [← List.append_assoc]
   congr 1
   unfold yb; rw [List.map_append, List.map_drop]
  | succ p =>
   have := ih (p := p) (fun s hs => hl s (zT hs)) (by simpa using hp); rw [List.set_cons_succ, List.flatMap_cons, List.flatMap_cons, List.getD_cons_succ, ← this, show (p + 1) * 256 = 256 + p * 256 by omega, List.take_append, List.take_of_length_le (by omega), hs, show 256 + p * 256 - 256 = p * 256 by omega, List.append_assoc]
   congr 3
   rw [List.drop_append, List.drop_of_length_le (by omega), List.nil_append, hs, show 256 + p * 256 + t - 256 = p * 256 + t by omega]
def zG (b : AR) (j : Nat) : AR := { b with devs := (b.devs.take j).map clean ++ b.devs.drop j }
theorem cleanN_zero (b : AR) : zG b 0 = b := by unfold zG; simp
theorem cleanN_len (b : AR) (j : Nat) : (zG b j).devs.length = b.devs.length := by
 unfold zG; simp; omega
theorem cleanN_all (b : AR) : (zG b b.devs.length).devs = b.devs.map clean := by unfold zG; simp
theorem modify_mid {α : Type} (T R : List α) (D : α) (f : α → α) : (T ++ D :: R).modify T.length f = T ++ f D :: R := by
 apply List.ext_getElem?; intro i; rw [yS]; by_cases hi : T.length = i
 ·subst hi; rw [if_pos rfl, List.getElem?_append_right (Nat.le_refl _), List.getElem?_append_right (Nat.le_refl _), Nat.sub_self]; rfl
 ·rw [if_neg hi]; by_cases hlt : i < T.length
  ·rw [List.getElem?_append_left hlt, List.getElem?_append_left hlt]
  ·rw [List.getElem?_append_right (by omega), List.getElem?_append_right (by omega), show i - T.length = (i - T.length - 1) + 1 by omega]; rfl
theorem cleanN_succ {b : AR} {j : Nat} (hj : j < b.devs.length) : zG b (j + 1) = (zG b j).upd (j : Int) clean := by
 have h1 : b.devs.drop j = b.devs[j] :: b.devs.drop (j + 1) := List.drop_eq_getElem_cons hj; have hl : ((b.devs.take j).map clean).length = j := by simp; omega
 have h2 := modify_mid ((b.devs.take j).map clean) (b.devs.drop (j + 1)) b.devs[j] clean; rw [hl] at h2; unfold zG AR.upd
 congr 1
 show _ = ((b.devs.take j).map clean ++ b.devs.drop j).modify (j : Int).toNat clean; rw [Int.toNat_natCast, h1, h2, List.take_add_one, List.getElem?_eq_getElem hj, List.map_append, List.append_assoc]; rfl
theorem blk_clean (l : List DV) : (l.map clean).map y9 = l.map y9 := by
 rw [List.map_map]; rfl
end
section
open Go.RowKit Hp
attribute [local irreducible] Go.Calls Go.wpList
instance rSB : TyS Tryz.prog 47 := ⟨by kernel_rfl⟩
instance rSlB : TySl Tryz.prog 47 4 := ⟨by kernel_rfl⟩
instance rEB : TyE Tryz.prog 4 1 1 := ⟨by kernel_rfl⟩
def yU (l : List Bool) : List Value := l.map .bool
theorem boolsV_get {l : List Bool} {j : Nat} (h : j < l.length) : (yU l)[j]? = some (.bool (l.getD j false)) := by
 simp [yU, List.getD, h]
theorem slice256 (b o t : Nat) (ht : t ≤ 256) (w : World) : (Instr.sliceAt 144 (.pointer (some ⟨b, o, none⟩)) none (some (.int .i64 (t : Int))) none).run Tryz.prog w = .ok (.slice (some ⟨b, o, none⟩) t 256) w := by
 have hl : Tryz.prog.arrayLen 144 = 256 := by kernel_rfl
 have hz : ∀ w, (sizeOf (Tryz.prog.elem 144)).run Tryz.prog w = .ok 1 w := fun w => by kernel_rfl
 rw [run_sliceAt_array_h w 144 _ (by kernel_rfl) .i64 (t : Int) (by omega) (by rw [hl]; omega), hz, hl]; simp [slicedAt, Addr.add_mid]
section
attribute [local go_sem ↓] loadedSD yaE loadedSS
section
variable {w : World} {ga : Nat} {x : GA} {a : AR} (hS : St w (yT ga x a) w (yj ga x a)) (ok : a.Ok) (hll : a.loose.length < 1000000) (kao : Option Addr) (kn kc : Nat) (keep : List Bool) (hr : Rd w (.slice kao kn kc) 1 kn (yU keep)) (hn : keep.length = kn) (ho : Off (.slice kao kn kc) (yT ga x a))
include hS ok hll kao kn kc keep hr hn ho
theorem crash_odd (torn : Int) (h1 : (decide (0 ≤ torn) && decide (torn < 256)) = false) :
  Calls Tryz.prog 53 #[.pointer (some ⟨ga, 0, none⟩), .slice kao kn kc, .int .i64 torn] w fun e w' => e = .returned (.int .i64 (a.crashE torn)) ∧ ∃ x', St w (yT ga x a) w' (yj ga x' (a.crash keep torn)) := by
 have _ := hll; have _ := hr; have _ := hn; have _ := ho; have he : a.crashE torn = 2 := by unfold AR.crashE; rw [if_neg ok.d0, h1]; rfl
 have hc : a.crash keep torn = a := by unfold AR.crash; rw [he]; rfl
 rw [he, hc]; have HE : Hid (y8 (decide (0 ≤ torn) && decide (torn < 256)) 2 = 2) := ya (by rw [h1]; rfl); have H1 : Hid (yt [0] = 0) := ya rfl; have OK := ya ok; have hst0 := hS; have hmf := rmf; clear he hc h1 ok hS hr hn ho; go_enter Tryz.func53, Tryz.ntmps53; go_wp2_with (first | (refine zbo hst0 fun g5 w1 hst1 => ?_; clear hst0) | (refine za ([yi 46 (yc ga), yh 103 [yc g5]]) ([yi 46 (yc ga), yh 103 [yc g5]]) hst1 (h:=fun gs w2 hst2 => ?_); clear hst1) | (go_at_call 45; have hC := z6 (-1) (n := 2) (fs := [yi 46 (yc ga)]) (f9 := yh 103 [yc g5]) (es := [0]) (e9 := y8 (decide (0 ≤ torn) && decide (torn < 256)) 2) (L := ([.blk g5 3 [.int .i64 torn]] : List HA)) (Y := yj ga x a) hst2 rfl rfl (by decide) (fun j f e hf he _ => (match j, hf, he with | 0, hf, he => (by cases hf; cases he; exact ja (fun _ h => ArrAt.of h (fun p hp => zR hp) OK.out.d0) yK) | j + 1, hf, _ => (by simp at hf))) (fun _ => jQ (fun _ _ => rfl) fun w h => (crash1_any (St.cell h (off := 0) (zT zH) rfl)).mono fun _ _ ⟨e, h4⟩ => ⟨e, yK _ _ h h4⟩); rw [HE] at hC; refine hC.mono ?_; rintro _ w5 hh; obtain ⟨rfl, h4⟩ := qL H1.out (by decide) hh; clear hC hh hst2; have hst3 := h4; clear h4) | (go_at_call 47; refine jc hst3 (jA 2 (-1) (by unfold isE; decide) (by decide) _) fun w6 hst6 => ?_; clear hst3)); go_ret; exact ⟨rfl, x, St.sub hst6 zA⟩
theorem crash_fine (t : Nat) (ht : t < 256) :
  Calls Tryz.prog 53 #[.pointer (some ⟨ga, 0, none⟩), .slice kao kn kc, .int .i64 (t : Int)] w fun e w' => e = .returned (.int .i64 (a.crashE (t : Int))) ∧ ∃ x', St w (yT ga x a) w' (yj ga x' (a.crash keep (t : Int))) := by
 have hbb : (decide ((0 : Int) ≤ (t : Int)) && decide ((t : Int) < 256)) = true := by simp only [Bool.and_eq_true, decide_eq_true_eq]; omega
 have he : a.crashE (t : Int) = 0 := by unfold AR.crashE; rw [if_neg ok.d0, hbb]; rfl
 have hc : a.crash keep (t : Int) = a.crashed keep t := by unfold AR.crash; rw [he]; rfl
 rw [he, hc]; have HE : Hid (y8 (decide ((0 : Int) ≤ (t : Int)) && decide ((t : Int) < 256)) 2 = 0) := ya (by rw [hbb]; rfl); have H1 : Hid (yt [0] = 0) := ya rfl; obtain ⟨lao, lc, hlv, _, _, _⟩ := yV hS (zT (zT zH)); have HLV := ya hlv; have HN := ya hn; have HR := ya hr; have HO := ya ho; have HLW := ya ok.lw; have HGD := ya (fun j => yav ok keep (t := t) (by omega) j); have HCS := ya (fun j wj => crashN_succ (a := a) (keep := keep) (t := t) (j := j) (w := wj)); have HFIN : Hid (∀ (rest : List Value), yj ga ⟨x.gd, x.cd, rest, .slice none 0 0⟩ (a.crashed keep t) = .blk ga 109 [.slice (some ⟨x.gd, 0, none⟩) a.devs.length x.cd, .slice none 0 0, .int .i64 (-1), .bool false, .int .i64 a.steps] :: .blk x.gd 89 (yI (zG (z9 a keep t a.loose.length).1 a.devs.length) ++ rest) :: .row (.slice none 0 0) 149 258 0 [] :: (z9 a keep t a.loose.length).1.devs.map y9) := ya (fun rest => by
  have hlen := (yav ok keep (t := t) (by omega) a.loose.length).len; have e1 : yI (zG (z9 a keep t a.loose.length).1 a.devs.length) = yI (a.crashed keep t) := by
   unfold yI AR.crashed; rw [← hlen, cleanN_all]
  have e2 : (a.crashed keep t).devs.map y9 = (z9 a keep t a.loose.length).1.devs.map y9 := blk_clean _; have e3 : (a.crashed keep t).devs.length = a.devs.length := by rw [← hlen]; simp [AR.crashed]
  rw [e1, ← e2]; show HA.blk ga _ [.slice _ (a.crashed keep t).devs.length _, _, _, _, _] :: _ = _; rw [e3]; rfl)
 obtain ⟨nl, hnl⟩ : ∃ nl, nl = a.loose.length := ⟨_, rfl⟩; have HNL := ya hnl; have hnlb : nl < 1000000 := by rw [hnl]; exact hll
 obtain ⟨B, hB⟩ : ∃ B : Nat → AR × Bool, B = z9 a keep t := ⟨_, rfl⟩; have HB0 : Hid (B 0 = (a, true)) := ya (by rw [hB]; rfl); rw [← hB] at HGD HCS HFIN; rw [← hnl] at HFIN hlv HLV; have hsl := fun b o => slice256 b o t (by omega); have hdn := ok.dn; have OK := ya ok; have hst0 := hS; have hmf := rmf; clear he hc hbb ok hS hr hn ho hlv hnl hB; go_enter Tryz.func53, Tryz.ntmps53; go_wp2_with (first | (refine zbo hst0 fun g5 w1 hst1 => ?_; clear hst0) | (refine za ([yi 46 (yc ga), yh 103 [yc g5]]) ([yi 46 (yc ga), yh 103 [yc g5]]) hst1 (h:=fun gs w2 hst2 => ?_); clear hst1) | (go_at_call 45; have hC := z6 (-1) (n := 2) (fs := [yi 46 (yc ga)]) (f9 := yh 103 [yc g5]) (es := [0]) (e9 := y8 (decide (0 ≤ (t : Int)) && decide ((t : Int) < 256)) 2) (L := ([.blk g5 3 [.int .i64 (t : Int)]] : List HA)) (Y := yj ga x a) hst2 rfl rfl (by decide) (fun j f e hf he _ => (match j, hf, he with | 0, hf, he => (by cases hf; cases he; exact ja (fun _ h => ArrAt.of h (fun p hp => zR hp) OK.out.d0) yK) | j + 1, hf, _ => (by simp at hf))) (fun _ => jQ (fun _ _ => rfl) fun w h => (crash1_any (St.cell h (off := 0) (zT zH) rfl)).mono fun _ _ ⟨e, h4⟩ => ⟨e, yK _ _ h h4⟩); rw [HE] at hC; refine hC.mono ?_; rintro _ w5 hh; obtain ⟨rfl, h4⟩ := jI H1.out hh; clear hC hh hst2; have hst3 : St w (yT ga x a) w5 (.blk g5 3 [.int .i64 (t : Int)] :: .blk ga 109 [.slice (some ⟨x.gd, 0, none⟩) a.devs.length x.cd, .slice lao nl lc, .int .i64 a.fuse, .bool a.out, .int .i64 a.steps] :: .blk x.gd 89 (yI a ++ x.rest) :: .row (.slice lao nl lc) 149 258 nl (zo a.loose) :: a.devs.map y9) := (by rw [← HLV, HNL]; exact St.sub h4 (.cons _ (List.Sublist.refl _))); clear h4) | (refine jl (Loads.at [_] hst3 rfl) ?_)); go_loopw [28, 8] (fun i f wr => ∃ j : Nat, j ≤ nl ∧ i = .int .i64 (j : Int) ∧ f = .bool (B j).2 ∧ St w (yT ga x a) wr (.blk g5 3 [.int .i64 (t : Int)] :: .blk ga 109 [.slice (some ⟨x.gd, 0, none⟩) a.devs.length x.cd, .slice lao nl lc, .int .i64 a.fuse, .bool a.out, .int .i64 a.steps] :: .blk x.gd 89 (yI a ++ x.rest) :: .row (.slice lao nl lc) 149 258 nl (zo a.loose) :: (B j).1.devs.map y9)) (fun i _ _ => nl - (intOf i).toNat)
 case atStart => exact ⟨0, Nat.zero_le _, rfl, by rw [HB0], by rw [HB0]; exact hst3⟩
 case round =>
  clear hst3; obtain ⟨j, hj, rfl, rfl, hst⟩ := hrel; by_cases hlj : j < nl
  ·have d1 : decide ((j : Int) < (nl : Int)) = true := zD (by omega); have z1 : IntKind.i64.wrap ((j : Int) + 1) = (j : Int) + 1 := IntWalk.i64_in _ (by omega); obtain ⟨v, hv⟩ : ∃ v, a.loose[j]? = some v := ⟨_, List.getElem?_eq_getElem (by rw [← HNL]; exact hlj)⟩; have hvw := HLW.out v (List.mem_of_getElem? hv); have hgd := HGD.out j; have hinA : a.inD (v.dev : Int) = true := by
    unfold AR.inD; simp only [Bool.and_eq_true, decide_eq_true_eq]; omega
   have hin : (B j).1.inD (v.dev : Int) = true := by rw [hgd.inD]; exact hinA
   have hltd : v.dev < a.devs.length := hvw.1; obtain ⟨D, hD⟩ : ∃ D, D = (B j).1.dv (v.dev : Int) := ⟨_, rfl⟩; have hfm := hgd.fm _ (List.mem_of_getElem? (zI hin)); rw [← hD] at hfm; have hlp : v.pl < D.firm.length := by rw [hfm.1]; exact hvw.2.1
   have HDC : Hid ((yI a ++ x.rest)[v.dev * 5]? = some (.slice (some ⟨D.g, 0, none⟩) D.firm.length D.firm.length)) := ya (by rw [← hgd.cel, hD]; exact jk hin (i := 0) rfl (by decide)); obtain ⟨FS1, hFS1⟩ : ∃ FS1, FS1 = ((B j).1.devs.take v.dev).map y9 := ⟨_, rfl⟩; obtain ⟨FS2, hFS2⟩ : ∃ FS2, FS2 = ((B j).1.devs.drop (v.dev + 1)).map y9 := ⟨_, rfl⟩; have HS0 : Hid ((B j).1.devs.map y9 = FS1 ++ .blk D.g 144 (yR D.firm) :: FS2) := ya (by rw [hFS1, hFS2, hD]; exact ybr hin); have HSF : Hid (∀ f : DV → DV, ((B j).1.upd (v.dev : Int) f).devs.map y9 = FS1 ++ y9 (f D) :: FS2) := ya (fun f => by rw [hFS1, hFS2, hD]; exact yba hin f); have HNX := ya (HCS.out j v hv); obtain ⟨lb, lo, rfl, hlr⟩ := Rd.at (Rd.row hst (zT (zT (zT zH)))) hlj; have HWR := ya (qA (sz := 258) (f := LW.cells) (fun d hd => zq (HLW.out d hd).2.2) hv hlr); have HV258 := ya (zq hvw.2.2); have HB256 := ya (show (yb v.b).length = 256 by rw [length_bytesV]; exact hvw.2.2); have HSET := ya (secs_put (l := D.firm) (p := v.pl) (b := v.b) hfm.2 hvw.2.2 hlp); have HTRN := ya (secs_part (l := D.firm) (p := v.pl) (b := v.b) (t := t) hfm.2 hvw.2.2 hlp (by omega)); have HTL := ya (show (yb (v.b.take t)).length = t by rw [length_bytesV, List.length_take, hvw.2.2]; omega); have HLEN := ya (show v.pl * 256 + 256 ≤ (yR D.firm).length by rw [secsV_len hfm.2]; omega); rw [HS0] at hst; obtain ⟨first, hfirst⟩ : ∃ first, first = (B j).2 := ⟨_, rfl⟩
   have HFI := ya hfirst; rw [← hfirst]
   obtain ⟨SC, hSC⟩ : ∃ SC, SC = yR D.firm := ⟨_, rfl⟩; rw [← hSC] at hst HSET HLEN HTRN; have HSC := ya hSC; clear hv hvw hgd hinA hin hD hfm hFS1 hFS2 hlr hfirst hSC
   go_wp2_with (first | (refine yA hlj ?_) | (refine jl (Loads.range (T := 149) (cs := v.cells) (by rw [HV258]; exact TyA.out) HWR.out) ?_) | (refine yN (T := 149) hst fun g10 _ hst2 => ?_; clear hst) | (refine yx (T := 149) (vs := v.cells) [] hst2 rfl rfl rfl rfl HV258.out (jr _) (by rw [List.length_cons, List.length_cons, List.length_replicate]) ?_; intro w4 hst3; clear hst2)); have hW := hst3.drew; clear hst3; refine wD (S := fun w' => Ld 106 ga 0 (.slice (some ⟨x.gd, 0, none⟩) a.devs.length x.cd) w' ∧ Ld 3 g10 0 (.int .i64 (v.dev : Int)) w' ∧ Ld 86 x.gd (v.dev * 5) (.slice (some ⟨D.g, 0, none⟩) D.firm.length D.firm.length) w' ∧ Ld 3 g10 1 (.int .i64 (v.pl : Int)) w') ⟨yp [_, _] hW (rfl), yp [] hW (rfl), yp [_, _, _] hW (HDC.out), yp [] hW (rfl)⟩ fun hHeld => ?_; refine jt 0 (h:=jt 4 (h:=jt 9 (h:=jt 1 (h:=jt 5 (h:=jt 10 (h:=jt 2 (h:=jt 3 (h:=jt 6 (h:=jt 7 (h:=jt 8 (h:=jt 11 (h:=jt 12 (h:=?_))))))))))))); refine jn ?_; clear hHeld; have hst4 := hW; clear hW; cases hq : keep.getD j false
   ·by_cases hjk : j < kn
    ·have d6 : decide ((j : Int) < (kn : Int)) = true := zD (by omega); cases first
     ·have HQ := ya hq; clear hq; obtain ⟨kb, ko, rfl, hkr⟩ := Rd.at HR.out hjk; have HKM := ya (HO.out _ _ _ rfl (by omega)); have HK := ya (hkr j _ (boolsV_get (by rw [HN]; exact hjk))); rw [HQ] at HK; go_wp2_with (first | (refine yA hjk ?_) | (refine jl (Loads.oldM hst4 (by rw [Nat.mul_one]; exact HK.out) HKM.out) ?_) | (refine jl (yl (T := 144) (yb v.b) [] hst4 HB256.out (by show (yb v.b).take _ = _; exact List.take_length)) ?_)); go_roundw
      case rel =>
       refine ⟨j + 1, by omega, rfl, ?_, ?_⟩
       ·rw [HNX, HQ, ← Prod.eta (B j), ← HFI]; rfl
       ·rw [HNX, HQ, ← Prod.eta (B j), ← HFI]; show St _ _ _ (_ :: _ :: _ :: _ :: (B j).1.devs.map y9); rw [HS0, ← HSC]; exact St.sub hst4 (.cons _ (List.Sublist.refl _))
      case measure => simp [intOf]; omega
     ·have HQ := ya hq; clear hq; obtain ⟨kb, ko, rfl, hkr⟩ := Rd.at HR.out hjk; have HKM := ya (HO.out _ _ _ rfl (by omega)); have HK := ya (hkr j _ (boolsV_get (by rw [HN]; exact hjk))); rw [HQ] at HK; go_wp2_with (first | (refine yA hjk ?_) | (refine jl (Loads.oldM hst4 (by rw [Nat.mul_one]; exact HK.out) HKM.out) ?_) | (refine jl (yl (T := 144) (yb v.b) [] hst4 HB256.out (by show (yb v.b).take _ = _; exact List.take_length)) ?_)); have hV := hst4.drew; clear hst4; refine wD (S := fun w' => Ld 3 g5 0 (.int .i64 (t : Int)) w') (yp [_] hV (rfl)) fun hHeld => ?_; refine jt 0 (h:=jt 2 (h:=jt 4 (h:=jt 5 (h:=jt 1 (h:=jt 6 (h:=jt 3 (h:=?_))))))); refine rW 7 (h:=fun K hK => ?_); apply wl_copy (m := t) (xs := yb (v.b.take t)) ([_, _, _, _, _] ++ FS1) hV; rfl; rfl; exact rfl; exact rfl; infer_instance; infer_instance; exact Rd.blk (n := t) (c := 256) (off := 2) hV zH (by omega) (by decide) (by rw [HTL, Nat.mul_one]) (by show (yb v.b).take _ = _; rw [HTL]; unfold yb; rw [List.map_take]); exact yD _; exact Nat.le_refl _
      (have := HLEN.out; omega)
      intro w14 hZ4; refine kQ hK (yp [_] hZ4 (rfl)) (h:=fun hHeld => ?_); refine jn ?_; clear hHeld; go_wp2; go_roundw
      case rel =>
       refine ⟨j + 1, by omega, rfl, ?_, ?_⟩
       ·rw [HNX, HQ, ← Prod.eta (B j), ← HFI]; rfl
       ·rw [HNX, HQ, ← Prod.eta (B j), ← HFI]; show St _ _ _ (_ :: _ :: _ :: _ :: ((B j).1.upd (v.dev : Int) (tornF v.pl v.b t)).devs.map y9); rw [HSF]; show St _ _ _ (_ :: _ :: _ :: _ :: (FS1 ++ .blk D.g _ (yR (D.firm.set v.pl (v.b.take t ++ (D.firm.getD v.pl []).drop t))) :: FS2)); rw [← HTRN]; exact St.sub hZ4 (.cons _ (List.Sublist.refl _))
      case measure => simp [intOf]; omega
    ·have d6 : decide ((j : Int) < (kn : Int)) = false := zF (by omega); cases first
     ·have HQ := ya hq; clear hq; go_wp2; go_roundw
      case rel =>
       refine ⟨j + 1, by omega, rfl, ?_, ?_⟩
       ·rw [HNX, HQ, ← Prod.eta (B j), ← HFI]; rfl
       ·rw [HNX, HQ, ← Prod.eta (B j), ← HFI]; show St _ _ _ (_ :: _ :: _ :: _ :: (B j).1.devs.map y9); rw [HS0, ← HSC]; exact St.sub hst4 (.cons _ (List.Sublist.refl _))
      case measure => simp [intOf]; omega
     ·have HQ := ya hq; clear hq; go_wp2; have hV := hst4.drew; clear hst4; refine wD (S := fun w' => Ld 3 g5 0 (.int .i64 (t : Int)) w') (yp [_] hV (rfl)) fun hHeld => ?_; refine jt 0 (h:=jt 2 (h:=jt 4 (h:=jt 5 (h:=jt 1 (h:=jt 6 (h:=jt 3 (h:=?_))))))); refine rW 7 (h:=fun K hK => ?_); apply wl_copy (m := t) (xs := yb (v.b.take t)) ([_, _, _, _, _] ++ FS1) hV; rfl; rfl; exact rfl; exact rfl; infer_instance; infer_instance; exact Rd.blk (n := t) (c := 256) (off := 2) hV zH (by omega) (by decide) (by rw [HTL, Nat.mul_one]) (by show (yb v.b).take _ = _; rw [HTL]; unfold yb; rw [List.map_take]); exact yD _; exact Nat.le_refl _
      (have := HLEN.out; omega)
      intro w14 hZ4; refine kQ hK (yp [_] hZ4 (rfl)) (h:=fun hHeld => ?_); refine jn ?_; clear hHeld; go_wp2; go_roundw
      case rel =>
       refine ⟨j + 1, by omega, rfl, ?_, ?_⟩
       ·rw [HNX, HQ, ← Prod.eta (B j), ← HFI]; rfl
       ·rw [HNX, HQ, ← Prod.eta (B j), ← HFI]; show St _ _ _ (_ :: _ :: _ :: _ :: ((B j).1.upd (v.dev : Int) (tornF v.pl v.b t)).devs.map y9); rw [HSF]; show St _ _ _ (_ :: _ :: _ :: _ :: (FS1 ++ .blk D.g _ (yR (D.firm.set v.pl (v.b.take t ++ (D.firm.getD v.pl []).drop t))) :: FS2)); rw [← HTRN]; exact St.sub hZ4 (.cons _ (List.Sublist.refl _))
      case measure => simp [intOf]; omega
   ·obtain hjk : j < kn := (by
     rcases Nat.lt_or_ge j kn with h | h
     ·exact h
     ·rw [List.getD_eq_getElem?_getD, List.getElem?_eq_none (by rw [HN.out]; exact h)] at hq; cases hq)
    have HQ := ya hq; clear hq; have d6 : decide ((j : Int) < (kn : Int)) = true := zD (by omega); obtain ⟨kb, ko, rfl, hkr⟩ := Rd.at HR.out hjk; have HKM := ya (HO.out _ _ _ rfl (by omega)); have HK := ya (hkr j _ (boolsV_get (by rw [HN]; exact hjk))); rw [HQ] at HK; go_wp2_with (first | (refine yA hjk ?_) | (refine jl (Loads.oldM hst4 (by rw [Nat.mul_one]; exact HK.out) HKM.out) ?_) | (refine jl (yl (T := 144) (yb v.b) [] hst4 HB256.out (by show (yb v.b).take _ = _; exact List.take_length)) ?_) | (refine ye (T := 144) ([_, _, _, _, _] ++ FS1) hst4 rfl rfl rfl (v := .agg (yb v.b).toArray) (n := 256) rfl (by show (yb v.b).toArray.size = 256; rw [List.size_toArray]; exact HB256.out) (yD _) (by show v.pl * 256 + (yb v.b).toArray.size ≤ _; rw [List.size_toArray, HB256]; exact HLEN.out) ?_; intro w13 hZ3; clear hst4)); go_roundw
    case rel =>
     refine ⟨j + 1, by omega, rfl, ?_, ?_⟩
     ·rw [HNX, HQ, ← Prod.eta (B j), ← HFI]; rfl
     ·rw [HNX, HQ, ← Prod.eta (B j), ← HFI]; show St _ _ _ (_ :: _ :: _ :: _ :: ((B j).1.upd (v.dev : Int) (qE v.pl v.b)).devs.map y9); rw [HSF]; show St _ _ _ (_ :: _ :: _ :: _ :: (FS1 ++ .blk D.g _ (yR (D.firm.set v.pl v.b)) :: FS2)); rw [← HSET]; exact St.sub hZ3 (.cons _ (List.Sublist.refl _))
    case measure => simp [intOf]; omega
  ·have d1 : decide ((j : Int) < (nl : Int)) = false := zF (by omega); have hjn : j = nl := by omega
   subst hjn; obtain ⟨b, hb⟩ : ∃ b, b = (B j).1 := ⟨_, rfl⟩; have hgb := HGD.out j; rw [← hb] at hst hgb HFIN; have hbl := hgb.len; have HBC := ya hgb.cel; clear hb hgb; have HC0 : Hid (yI (zG b 0) = yI a) := ya (by rw [cleanN_zero]; exact HBC.out); obtain ⟨FB, hFB⟩ : ∃ FB, FB = b.devs.map y9 := ⟨_, rfl⟩; have HFB := ya hFB; rw [← hFB] at hst HFIN; clear hFB; go_wp2_with (first | (refine ye [_] hst rfl rfl rfl (v := .slice _ _ _) rfl rfl rfl (by show (1 : Nat) + 1 ≤ 5; decide) ?_; intro w7 hst5; clear hst) | (refine ye [_] hst5 rfl rfl rfl (v := .bool _) rfl rfl rfl (by show (3 : Nat) + 1 ≤ 5; decide) ?_; intro w8 hst6; clear hst5) | (refine ye [_] hst6 rfl rfl rfl (v := .int _ _) rfl rfl rfl (by show (2 : Nat) + 1 ≤ 5; decide) ?_; intro w9 hst7; clear hst6) | (refine jl (Loads.at [_] hst7 rfl) ?_)); replace hst7 : St w (yT ga x a) w9 (.blk g5 3 [.int .i64 (t : Int)] :: .blk ga 109 [.slice (some ⟨x.gd, 0, none⟩) a.devs.length x.cd, .slice none 0 0, .int .i64 (-1), .bool false, .int .i64 a.steps] :: .blk x.gd 89 (yI a ++ x.rest) :: .row (.slice lao j lc) 149 258 j (zo a.loose) :: FB) := hst7; go_loopw [85] (fun i wr => ∃ k : Nat, k ≤ a.devs.length ∧ i = .int .i64 (k : Int) ∧ St w (yT ga x a) wr (.blk g5 3 [.int .i64 (t : Int)] :: .blk ga 109 [.slice (some ⟨x.gd, 0, none⟩) a.devs.length x.cd, .slice none 0 0, .int .i64 (-1), .bool false, .int .i64 a.steps] :: .blk x.gd 89 (yI (zG b k) ++ x.rest) :: .row (.slice lao j lc) 149 258 j (zo a.loose) :: FB)) (fun i _ => a.devs.length - (intOf i).toNat)
   case atStart => exact ⟨0, Nat.zero_le _, rfl, by rw [HC0]; exact hst7⟩
   case round =>
    clear hst7; obtain ⟨k, hk, rfl, hst⟩ := hrel; by_cases hlk : k < a.devs.length
    ·have d7 : decide ((k : Int) < (a.devs.length : Int)) = true := zD (by omega); have z1 : IntKind.i64.wrap ((k : Int) + 1) = (k : Int) + 1 := IntWalk.i64_in _ (by omega); have hin : (zG b k).inD (k : Int) = true := by
      unfold AR.inD; rw [cleanN_len]; simp only [Bool.and_eq_true, decide_eq_true_eq]; omega
     have HP1 := ya (qb (a := zG b k) (dev := (k : Int)) (f := fun d => { d with lo := false, st := false }) (v := .int .u8 0) (rest := x.rest) hin (i := 2) (by decide) rfl); have HP2 := ya (qb (a := (zG b k).upd (k : Int) fun d => { d with lo := false, st := false }) (dev := (k : Int)) (f := fun d => { d with fail := 0 }) (v := .int .i64 0) (rest := x.rest) (by rw [upd_inD]; exact hin) (i := 4) (by decide) rfl); rw [upd_upd] at HP2; have HCN : Hid (zG b (k + 1) = (zG b k).upd (k : Int) fun d => { d with lo := false, st := false, fail := 0 }) := ya (cleanN_succ (by omega)); have HL1 := ya (List.getElem?_eq_some_iff.1 (jk (a := zG b k) (dev := (k : Int)) (rest := x.rest) hin (i := 2) rfl (by decide))).1; have HL2 := ya (List.getElem?_eq_some_iff.1 (jk (a := (zG b k).upd (k : Int) fun d => { d with lo := false, st := false }) (dev := (k : Int)) (rest := x.rest) (by rw [upd_inD]; exact hin) (i := 4) rfl (by decide))).1; replace HL1 : Hid (k * 5 + 2 + 1 ≤ (yI (zG b k) ++ x.rest).length) := HL1; replace HL2 : Hid (k * 5 + 4 + 1 ≤ (yI ((zG b k).upd (k : Int) fun d => { d with lo := false, st := false }) ++ x.rest).length) := HL2; clear hin; go_wp2_with (first | (refine jl (Loads.at [_] hst rfl) ?_) | (refine yA hlk ?_) | (refine ye [_, _] hst rfl rfl rfl (v := .int _ _) rfl rfl rfl HL1.out ?_; intro w7 hst5; clear hst; rw [show yw (yI (zG b k) ++ x.rest) (k * 5 + 2) (Value.int .u8 0).cells.toList = _ from HP1.out] at hst5) | (refine ye [_, _] hst5 rfl rfl rfl (v := .int _ _) rfl rfl rfl HL2.out ?_; intro w8 hst6; clear hst5)); go_roundw
     case rel =>
      refine ⟨k + 1, by omega, rfl, ?_⟩; rw [HCN, ← HP2]; exact hst6
     case measure => simp [intOf]; omega
    ·have d7 : decide ((k : Int) < (a.devs.length : Int)) = false := zF (by omega); have hkn : k = a.devs.length := by omega
     go_wp2; go_ret; refine ⟨rfl, ⟨x.gd, x.cd, x.rest, .slice none 0 0⟩, ?_⟩; rw [HFIN, ← hkn]; rw [← hkn] at hst; have h8 := zt 149 258 (St.sub (L' := .blk ga 109 _ :: .blk x.gd 89 _ :: FB) hst (.cons _ (.cons_cons _ (.cons_cons _ (.cons _ (List.Sublist.refl _)))))); exact St.perm h8 ((List.Perm.swap _ _ _).trans (List.Perm.cons _ (List.Perm.swap _ _ _)))
end
end
end
section
open Go.RowKit Hp
attribute [local irreducible] Go.Calls
theorem bytesV_app (l k : List UInt8) : yb (l ++ k) = yb l ++ yb k := by simp [yb]
theorem qy (v u : Value) (n m : Nat) (l k : List UInt8) (w : World) (hv : Rd w v 1 n (yb l)) (hu : Rd w u 1 m (yb k)) :
  Calls Tryz.prog 18 #[v, u] w fun e w' => e = .returned (.bool (l == k)) ∧ St w [] w' [] := by
 go_enter Tryz.func18, Tryz.ntmps18; go_wp2_with (first | (refine wl_bytes_string rfl rfl rfl hv ?_) | (refine wl_bytes_string rfl rfl rfl hu ?_)); go_ret; exact ⟨rfl, St.refl w⟩
def markB (i : Nat) : UInt8 := UInt8.ofNat (160 + i % 90)
def markV (i : Nat) : Value := .int .u8 ((markB i).toNat : Int)
def lentT (n : Nat) : Nat → List Value
 | 0 => [.int .u8 0, .int .u8 0, .int .u8 0]
 | 1 => [markV n, .int .u8 0, .int .u8 0]
 | 2 => [markV n, markV (n + 1), .int .u8 0]
 | _ => [markV n, markV (n + 1), markV (n + 2)]
def jh (bs : List UInt8) : List UInt8 := bs ++ [markB bs.length, markB (bs.length + 1), markB (bs.length + 2)]
theorem lentB_V (bs : List UInt8) : yb (jh bs) = yb bs ++ lentT bs.length 3 := by simp [jh, yb, lentT, markV]
theorem j0 (bs : List UInt8) : (jh bs).length = bs.length + 3 := by simp [jh]
theorem put_app (a t : List Value) (j : Nat) (vs : List Value) : yw (a ++ t) (a.length + j) vs = a ++ yw t j vs := by
 simp only [yw, Nat.add_assoc, List.append_assoc]; rw [List.take_append, List.drop_append, List.take_of_length_le (by omega), List.drop_of_length_le (by omega)]; simp [Nat.add_sub_cancel_left]
theorem len_lentT (n j : Nat) : (lentT n j).length = 3 := by
 match j with
 | 0 => rfl
 | 1 => rfl
 | 2 => rfl
 | _ + 3 => rfl
theorem put_lent (bs : List UInt8) (k j : Nat) (hk : k = bs.length + j) (hj : j < 3) : yw (yb bs ++ lentT bs.length j) k [markV k] = yb bs ++ lentT bs.length (j + 1) := by
 subst hk; have := put_app (yb bs) (lentT bs.length j) j [markV (bs.length + j)]; rw [length_bytesV] at this; rw [this]
 congr 1
 match j, hj with
 | 0, _ => rfl
 | 1, _ => rfl
 | 2, _ => rfl
theorem lent_any (ao : Option Addr) (n c : Nat) (bs : List UInt8) (w : World) (hA : Rd w (.slice ao n c) 1 n (yb bs)) (hn : bs.length = n) (hb : n ≤ 100000) :
  Calls Tryz.prog 72 #[.slice ao n c] w fun e w' => ∃ g, e = .returned (.slice (some ⟨g, 0, none⟩) n (n + 3)) ∧ St w [] w' [.blk g 5 (yb (jh bs))] := by
 have hst := St.refl w; have Hn := ya hn; clear hn; go_enter Tryz.func72, Tryz.ntmps72; go_wp2_with (first | (apply wl_make (n + 3) (n + 3) hst; rfl; rfl; exact rfl; exact rfl; infer_instance; infer_instance; infer_instance; (push_cast; rfl); (push_cast; rfl); exact Nat.le_refl _; (constructor <;> omega); intro g _ hst1; clear hst) | (apply wl_copy [] hst1; rfl; rfl; exact rfl; exact rfl; infer_instance; infer_instance; exact Rd.old hst1 hA; exact yD bs; omega; (simp <;> omega); intro w2 hst2; clear hst1)); have e : yw (List.replicate (n + 3) (Value.int .u8 0)) 0 (yb bs) = yb bs ++ lentT n 0 := by
  simp only [yw, List.take_zero, List.nil_append, length_bytesV, Hn.out, List.drop_replicate, Nat.zero_add]
  congr 1
  rw [show n + 3 - n = 3 by omega]; rfl
 rw [e] at hst2; clear e; have hst3 : St w [] w2 [.blk g 5 (yb bs ++ lentT n 0)] := hst2; clear hst2; go_loopw [4] (fun i wr => ∃ k j : Nat, i = .int .i64 k ∧ Hid (k = n + j) ∧ j ≤ 3 ∧ St w [] wr [.blk g 5 (yb bs ++ lentT n j)]) (fun i _ => n + 3 - (intOf i).toNat)
 case atStart => exact ⟨n, 0, rfl, ya rfl, by omega, hst3⟩
 case round =>
  clear hst3; obtain ⟨k, j, rfl, hkj, hj, hst⟩ := hrel; by_cases hj3 : j < 3
  ·have hk : k < n + 3 := by rw [hkj.out]; omega
   have hk2 : n ≤ k := by rw [hkj.out]; omega
   go_wp2_with (first | (refine yA hk ?_) | (refine ye [] hst rfl rfl rfl (v := .int _ _) rfl rfl rfl (by simp [Value.cells, len_lentT, Hn.out]; omega) ?_; intro w5 hst4; clear hst)); have hv : Value.int .u8 (160 + (k : Int) % 90) = markV k := by
    simp only [markV, markB, UInt8.toNat_ofNat', Value.int.injEq, true_and]; omega
   have e := put_lent bs k j (by rw [Hn]; exact hkj.out) hj3; rw [Hn] at e; rw [hv, Nat.zero_add, Nat.mul_one] at hst4; have e2 : yw (yb bs ++ lentT n j) k (markV k).cells.toList = yb bs ++ lentT n (j + 1) := e; rw [e2] at hst4; clear hv e e2; have hst5 : St w [] w5 [.blk g 5 (yb bs ++ lentT n (j + 1))] := hst4; clear hst4; have Hk1 := ya (show k + 1 = n + (j + 1) by rw [hkj.out]; omega); go_roundw
   case rel => exact ⟨k + 1, j + 1, by go_num, Hk1, by omega, hst5⟩
   case measure => simp [intOf]; omega
  ·have e : k = n + 3 := by rw [hkj.out]; omega
   have ej : j = 3 := by omega
   subst ej; clear hkj hj hj3; subst e; go_wp2; go_ret; refine ⟨g, rfl, ?_⟩; have e : yb (jh bs) = yb bs ++ lentT n 3 := by rw [lentB_V, Hn]
   rw [e]; exact hst
theorem kept_any (ao : Option Addr) (g n c : Nat) (bs : List UInt8) (w : World) (L : List HA) (w0 : World) (hst0 : St w0 [] w L) (hg : HA.blk g 5 (yb (jh bs)) ∈ L) (hA : Rd w (.slice ao n c) 1 n (yb bs)) (hn : bs.length = n) (hb : n ≤ 100000) :
  Calls Tryz.prog 74 #[.slice (some ⟨g, 0, none⟩) n (n + 3), .slice ao n c] w fun e w' => e = .returned (.bool true) ∧ St w [] w' [] := by
 have hl : Rd w (.slice (some ⟨g, 0, none⟩) (n + 3) (n + 3)) 1 (n + 3) (yb (jh bs)) := Rd.blk hst0 hg (Nat.le_refl _) (by unfold maxLen; omega) (by rw [length_bytesV, j0, hn]; omega) (by rw [List.drop_zero, List.take_length]); clear hst0 hg; have Hn := ya hn; clear hn; have hst := St.refl w; have hq : (jh bs == jh bs) = true := by simp
 have a0 : (0 : Int) ≤ (n : Int) + 3 := by omega
 have a1 : ((n : Int) + 3).toNat = n + 3 := by omega
 have a2 : IntKind.i64.wrap ((n : Int) + 3) = (n : Int) + 3 := IntWalk.i64_in _ (by omega); have a3 : ((n + 3 : Nat) : Int) = (n : Int) + 3 := by omega
 have a4 : (n : Int) + 3 ≤ 9223372036854775807 := by omega
 go_enter Tryz.func74, Tryz.ntmps74; go_wp2; have hD := hst.drew; clear hst
 go_region_held3 (fun _ => True) (trivial) (first
  | (go_at_call 72; refine (lent_any ao n c bs _ (Rd.old hD hA) Hn.out hb).mono ?_; rintro _ _ ⟨g2, rfl, h4⟩; have hst2 := St.call hD h4; clear h4 hD)
  | (go_at_call 18; refine (qy _ _ (n + 3) (n + 3) (jh bs) (jh bs) _ (Rd.old hst2 hl) (j3 hst2 (by rw [length_bytesV, j0, Hn]; omega) (by omega))).mono ?_; rw [hq]; rintro _ _ ⟨rfl, h4⟩; have hst3 := St.call0 hst2 h4; clear h4 hst2))
 go_goals
 all_goals (go_wp2; go_ret; exact ⟨rfl, hst3.nil⟩)
theorem put_at (a b c v : List Value) (h : b.length = v.length) {n : Nat} (hn : n = a.length) : yw (a ++ (b ++ c)) n v = a ++ (v ++ c) := by
 subst hn; have := put_app a (b ++ c) 0 v; rw [Nat.add_zero] at this; rw [this]; simp [yw, ← h]
theorem xor_u8 (x y : UInt8) : bits .xor .u8 (x.toNat : Int) (y.toNat : Int) = ((x ^^^ y).toNat : Int) := by
 have hx := x.toNat_lt; have hy := y.toNat_lt; have h : x.toNat ^^^ y.toNat < 2 ^ 8 := Nat.xor_lt_two_pow hx hy; have e : (BitVec.ofInt 8 (x.toNat : Int) ^^^ BitVec.ofInt 8 (y.toNat : Int)).toNat = x.toNat ^^^ y.toNat := by
  rw [BitVec.toNat_xor, BitVec.ofInt_natCast, BitVec.ofInt_natCast, BitVec.toNat_ofNat, BitVec.toNat_ofNat, Nat.mod_eq_of_lt (by omega), Nat.mod_eq_of_lt (by omega)]
 show IntKind.u8.wrap ((BitVec.ofInt 8 (x.toNat : Int) ^^^ BitVec.ofInt 8 (y.toNat : Int)).toNat : Int) = _; rw [e, UInt8.toNat_xor]; show ((x.toNat ^^^ y.toNat : Nat) : Int) % 256 = _; omega
def qX (l : List UInt8) : List UInt8 := l.map (· ^^^ 90)
theorem over_none (w : World) : Calls Tryz.prog 75 #[.slice none 0 0] w fun e w' => e = .returned (.tuple #[]) ∧ St w [] w' [] := by
 have hst := St.refl w; go_enter Tryz.func75, Tryz.ntmps75; go_wp2; go_loopw [3] (fun i wr => i = .int .i64 0 ∧ St w [] wr []) (fun i _ => 0)
 case atStart => exact ⟨rfl, hst⟩
 case round =>
  clear hst; obtain ⟨rfl, hst⟩ := hrel; go_wp2; go_end0; exact ⟨rfl, hst⟩
theorem over_step (bs : List UInt8) {k : Nat} (hk : k < bs.length) (x : UInt8) (hx : x = bs.getD k 0) : yw (yb (qX (bs.take k) ++ bs.drop k)) k [.int .u8 ((x ^^^ 90).toNat : Int)] = yb (qX (bs.take (k + 1)) ++ bs.drop (k + 1)) := by
 have e : bs.drop k = bs.getD k 0 :: bs.drop (k + 1) := by rw [List.drop_eq_getElem_cons hk]; simp [List.getD, hk]
 have e2 : bs.take (k + 1) = bs.take k ++ [bs.getD k 0] := by rw [List.take_succ_eq_append_getElem hk]; simp [List.getD, hk]
 have hl : (yb (qX (bs.take k))).length = k := by simp [qX]; omega
 rw [e2, bytesV_app]; have := put_at (yb (qX (bs.take k))) (yb [bs.getD k 0]) (yb (bs.drop (k + 1))) [.int .u8 ((x ^^^ 90).toNat : Int)] rfl hl.symm; rw [e]; have h3 : yb (bs.getD k 0 :: bs.drop (k + 1)) = yb [bs.getD k 0] ++ yb (bs.drop (k + 1)) := by simp [yb]
 rw [h3, this]; simp [qX, yb, hx]
theorem over_get (bs : List UInt8) {k : Nat} (hk : k < bs.length) : (yb (qX (bs.take k) ++ bs.drop k))[k]? = some (.int .u8 ((bs.getD k 0).toNat : Int)) := by
 have hl : (qX (bs.take k)).length = k := by simp [qX]; omega
 rw [yb, List.getElem?_map, List.getElem?_append_right (by omega), hl, Nat.sub_self, List.getElem?_drop]; simp [List.getD, hk]
theorem over_blk (g n : Nat) (bs : List UInt8) (w : World) (hg : w.heap[g]? = some (.cells (yb bs).toArray 5 (0, 0))) (hn : n ≤ bs.length) (hb : bs.length ≤ 9223372036854775807) :
  Calls Tryz.prog 75 #[.slice (some ⟨g, 0, none⟩) n bs.length] w fun e w' => e = .returned (.tuple #[]) ∧ St w [g] w' [.blk g 5 (yb (qX bs))] := by
 have hst := St.one w g _ _ hg; go_enter Tryz.func75, Tryz.ntmps75; go_wp2; go_loopw [3] (fun i wr => ∃ k : Nat, k ≤ bs.length ∧ i = .int .i64 k ∧ St w [g] wr [.blk g 5 (yb (qX (bs.take k) ++ bs.drop k))]) (fun i _ => bs.length - (intOf i).toNat)
 case atStart => exact ⟨0, by omega, rfl, hst⟩
 case round =>
  clear hst; obtain ⟨k, hk, rfl, hst⟩ := hrel; by_cases hlt : k < bs.length
  ·obtain ⟨x, hx⟩ : ∃ x, x = bs.getD k 0 := ⟨_, rfl⟩; have hget := ya (over_get bs hlt); rw [← hx] at hget; have hput := ya (over_step bs hlt x hx); have hxor : bits .xor .u8 (x.toNat : Int) 90 = ((x ^^^ 90).toNat : Int) := xor_u8 x 90; have hlen := ya (show (yb (qX (bs.take k) ++ bs.drop k)).length = bs.length by simp [qX]; omega); clear hx; go_wp2_with (first | (refine yA hlt ?_) | (refine jl (Loads.at [] hst (by simpa using hget.out)) ?_) | (refine ye [] hst rfl rfl rfl (v := .int _ _) rfl rfl rfl (by rw [hlen.out]; simp [Value.cells]; omega) ?_; intro w5 hst4; clear hst)); have hst5 : St w [g] w5 [.blk g 5 (yb (qX (bs.take (k + 1)) ++ bs.drop (k + 1)))] := by
    rw [← hput.out]; simpa [Value.cells] using hst4
   clear hst4; go_roundw
   case rel => exact ⟨k + 1, by omega, by go_num, hst5⟩
   case measure => simp [intOf]; omega
  ·have e : k = bs.length := by omega
   subst e; go_wp2; go_end0; refine ⟨rfl, ?_⟩; rw [List.take_length, List.drop_length, List.append_nil] at hst; exact hst
theorem over_blkL (g n c : Nat) (bs : List UInt8) (w : World) (hg : w.heap[g]? = some (.cells (yb bs).toArray 5 (0, 0))) (hc : bs.length = c) (hn : n ≤ bs.length) (hb : bs.length ≤ 9223372036854775807) :
  Calls Tryz.prog 75 #[.slice (some ⟨g, 0, none⟩) n c] w fun e w' => e = .returned (.tuple #[]) ∧ St w [g] w' [.blk g 5 (yb (qX bs))] := by
 subst hc; exact over_blk g n bs w hg hn hb
theorem over_rowP (v : Value) (n : Nat) (xs : List Value) (w : World) (hv : w.ownsRow 0 5 1 v n xs) (hp : AllP yP w v 5) :
  Calls Tryz.prog 75 #[v] w fun e w' => e = .returned (.tuple #[]) ∧ St w v.ownBlock.toList w' [] := by
 have hst := St.ofRowP (p := yP) w hv hp; rcases St.openP (L1 := []) hst with ⟨rfl, rfl, rfl, _⟩ | ⟨g, cap, cs, rfl, h1, h2, h3, _, h5, h6⟩
 ·exact over_none w
 ·obtain ⟨bs, rfl⟩ := isB_list h5; rw [length_bytesV, Nat.mul_one] at h3; subst h3; refine (over_blk g n bs w (h6.all _ zH) h1 h2).mono ?_; rintro e w' ⟨he, hh⟩; exact ⟨he, hh.nil⟩
end
section
open Go.RowKit Hp
attribute [local irreducible] Go.Calls Go.wpList
theorem crashM_any {w : World} {ga : Nat} {x : GA} {a : AR} (hS : St w (yT ga x a) w (yj ga x a)) (ok : a.Ok) (hll : a.loose.length < 1000000) (kao : Option Addr) (kn kc : Nat) (keep : List Bool) (hr : Rd w (.slice kao kn kc) 1 kn (yU keep)) (hn : keep.length = kn) (ho : Off (.slice kao kn kc) (yT ga x a)) (torn : Int) :
  Calls Tryz.prog 53 #[.pointer (some ⟨ga, 0, none⟩), .slice kao kn kc, .int .i64 torn] w fun e w' => e = .returned (.int .i64 (a.crashE torn)) ∧ ∃ x', St w (yT ga x a) w' (yj ga x' (a.crash keep torn)) := by
 cases h1 : (decide (0 ≤ torn) && decide (torn < 256))
 ·exact crash_odd hS ok hll kao kn kc keep hr hn ho torn h1
 ·simp only [Bool.and_eq_true, decide_eq_true_eq] at h1; obtain ⟨t, rfl⟩ : ∃ t : Nat, torn = t := ⟨torn.toNat, by omega⟩; exact crash_fine hS ok hll kao kn kc keep hr hn ho t (by omega)
end
section
open Go.RowKit Hp
theorem secs_eq (a : AR) : a.secs = ((a.devs[0]?).map fun d => d.firm.length).getD 0 := by
 unfold AR.secs; cases a.devs <;> rfl
theorem jT {a : AR} {dev : Int} {f : DV → DV} (hin : a.inD dev = true) (hl : (f (a.dv dev)).firm.length = (a.dv dev).firm.length) : (a.upd dev f).secs = a.secs := by
 have hd := zI hin; rw [secs_eq, secs_eq]; unfold AR.upd; rw [yS]; by_cases h0 : dev.toNat = 0
 ·rw [if_pos h0, ← h0, hd, Option.map_some, Option.map_some, Option.map_some, hl]
 ·rw [if_neg h0]
theorem mem_upd {a : AR} {dev : Int} {f : DV → DV} {d : DV} (hin : a.inD dev = true) (hd : d ∈ (a.upd dev f).devs) : d = f (a.dv dev) ∨ d ∈ a.devs := by
 unfold AR.upd at hd; obtain ⟨j, hj⟩ := List.getElem?_of_mem hd; rw [yS] at hj; by_cases h0 : dev.toNat = j
 ·subst h0; rw [if_pos rfl, zI hin, Option.map_some] at hj; exact .inl (Option.some.inj hj).symm
 ·rw [if_neg h0] at hj; exact .inr (List.mem_of_getElem? hj)
def DV.Fine (s : Nat) (d : DV) : Prop := d.firm.length = s ∧ (∀ t ∈ d.firm, t.length = 256) ∧ (d.st = true → 0 ≤ d.to ∧ d.to < s) ∧ 0 ≤ d.fail ∧ d.fail ≤ 9223372036854775807
theorem AR.Ok.dv {a : AR} (ok : a.Ok) {dev : Int} (hin : a.inD dev = true) : (a.dv dev).Fine a.secs := ok.fm _ (List.mem_of_getElem? (zI hin))
theorem AR.Ok.upd {a : AR} (ok : a.Ok) {dev : Int} {f : DV → DV} (hin : a.inD dev = true) (hf : (f (a.dv dev)).Fine a.secs) : (a.upd dev f).Ok := by
 have hs : (a.upd dev f).secs = a.secs := jT hin (by rw [hf.1, (ok.dv hin).1]); have hl : (a.upd dev f).devs.length = a.devs.length := upd_len _ _ _; refine ⟨?_, by rw [hl]; exact ok.dn, by rw [hs]; exact ok.sn, fun d hd => ?_, ?_, ok.fu⟩
 ·intro h; rw [h] at hl; exact ok.d0 (List.eq_nil_of_length_eq_zero hl.symm)
 ·rw [hs]; rcases mem_upd hin hd with rfl | h
  ·exact hf
  ·exact ok.fm d h
 ·intro w hw; rw [hl, hs]; exact ok.lw w hw
theorem AR.Ok.loose {a : AR} (ok : a.Ok) {l : List LW} (h : ∀ w ∈ l, w.dev < a.devs.length ∧ w.pl < a.secs ∧ w.b.length = 256) : ({ a with loose := l } : AR).Ok := ⟨ok.d0, ok.dn, ok.sn, ok.fm, h, ok.fu⟩
theorem AR.Ok.step {a : AR} (ok : a.Ok) : a.step.Ok := by
 have h := ok.fu; unfold AR.step; split
 ·exact ⟨ok.d0, ok.dn, ok.sn, ok.fm, ok.lw, ok.fu⟩
 ·refine ⟨ok.d0, ok.dn, ok.sn, ok.fm, ok.lw, ?_⟩; show -1 ≤ (if 0 < a.fuse then a.fuse - 1 else a.fuse) ∧ (if 0 < a.fuse then a.fuse - 1 else a.fuse) ≤ 9223372036854775807; split <;> omega
theorem AR.Ok.lay {a : AR} (ok : a.Ok) {dev pl : Int} {b : List UInt8} (hs : a.inS dev pl = true) (hb : b.length = 256) : (a.lay dev pl b).Ok := by
 have hin := yG hs; have hf := ok.dv hin; have hd := yQ hin; have hp := jE hs; unfold AR.lay; split
 ·exact ok.upd hin hf
 ·split
  ·rename_i hst
   have ok2 := ok.upd (f := fun d => { d with st := false }) hin ⟨hf.1, hf.2.1, (fun h => by cases h), hf.2.2.2⟩; refine ok2.loose fun w hw => ?_; rcases List.mem_append.1 hw with h | h
   ·have := ok2.lw w h; exact this
   ·simp only [List.mem_singleton] at h; subst h; have hto := hf.2.2.1 hst; rw [upd_len, jT hin rfl]; exact ⟨by show dev.toNat < _; omega, by show ((a.dv dev).to).toNat < _; omega, hb⟩
  ·refine ok.loose fun w hw => ?_; rcases List.mem_append.1 hw with h | h
   ·exact ok.lw w h
   ·simp only [List.mem_singleton] at h; subst h; exact ⟨by show dev.toNat < _; omega, by show pl.toNat < _; omega, hb⟩
theorem AR.Ok.write {a : AR} (ok : a.Ok) (dev pl : Int) (b : List UInt8) : (a.write dev pl b).Ok := by
 unfold AR.write; split
 ·exact ok
 ·rename_i h
  split
  ·exact ok.step
  ·have hs : a.inS dev pl = true := by
    cases hh : a.inS dev pl
    ·exact absurd (.inr (.inr (.inl hh))) h
    ·rfl
   have hb : b.length = 256 := by
    by_cases hh : b.length = 256
    ·exact hh
    ·exact absurd (.inr (.inr (.inr (.inl hh)))) h
   refine ok.step.lay ?_ hb; unfold AR.inS at hs ⊢; rw [step_inD, step_secs]; exact hs
theorem AR.Ok.read {a : AR} (ok : a.Ok) (dev pl : Int) : (a.read dev pl).Ok := by
 unfold AR.read; split
 ·rename_i h
  have hs : a.inS dev pl = true ∧ 0 < (a.dv dev).fail := by
   unfold AR.readE at h; split at h
   ·cases h
   ·split at h
    ·cases h
    ·split at h
     ·cases h
     ·rename_i hh
      split at h
      ·cases h
      ·split at h
       ·rename_i h5
        exact ⟨by simpa using hh, h5⟩
       ·cases h
  have hf := ok.dv (yG hs.1); exact ok.upd (yG hs.1) ⟨hf.1, hf.2.1, hf.2.2.1, by show 0 ≤ (a.dv dev).fail - 1; omega, by show (a.dv dev).fail - 1 ≤ _; have := hf.2.2.2.2; omega⟩
 ·exact ok
theorem AR.Ok.firms {a : AR} (ok : a.Ok) {k : Nat} (hin : a.inD (k : Int) = true) : (a.firms k).Ok := by
 have hf := ok.dv hin; have ok2 := ok.upd (f := fun d => { d with firm := (a.loose.filter fun w => w.dev == k).foldl jS d.firm }) hin
  ⟨by rw [show ({ (a.dv (k : Int)) with firm := (a.loose.filter fun w => w.dev == k).foldl jS (a.dv (k : Int)).firm } : DV).firm.length = (a.dv (k : Int)).firm.length from ya4 _ _]; exact hf.1,
   foldS_all hf.2.1 (fun w hw => (ok.lw w (List.mem_filter.1 hw).1).2.2), hf.2.2⟩
 exact ok2.loose fun w hw => ok2.lw w (List.mem_filter.1 hw).1
theorem AR.Ok.flush {a : AR} (ok : a.Ok) (dev : Int) : (a.flush dev).Ok := by
 unfold AR.flush; split
 ·exact ok
 ·rename_i h
  split
  ·exact ok.step
  ·have hs : a.inD dev = true := by
    cases hh : a.inD dev
    ·exact absurd (.inr (.inr (.inl hh))) h
    ·rfl
   have h0 := yQ hs; refine ok.step.firms ?_; rw [step_inD, Int.toNat_of_nonneg h0.1]; exact hs
theorem AR.Ok.fell {a : AR} (ok : a.Ok) {dev : Int} {rs : List Int} {f : DV → DV} (hf : yt rs = 0 → a.inD dev = true ∧ (f (a.dv dev)).Fine a.secs) : (a.fell dev rs f).Ok := by
 unfold AR.fell; split
 ·rename_i h
  rw [firstE_snoc] at h; by_cases h1 : yt rs = 0
  ·exact ok.upd (hf h1).1 (hf h1).2
  ·rw [if_neg h1] at h; exact absurd h h1
 ·exact ok
theorem AR.Ok.lose {a : AR} (ok : a.Ok) (dev : Int) : (a.lose dev).Ok := ok.fell fun h => by
 have hin : a.inD dev = true := yY (by decide) (zu h _ zH); exact ⟨hin, ok.dv hin⟩
theorem AR.Ok.stray {a : AR} (ok : a.Ok) (dev pl : Int) : (a.stray dev pl).Ok := ok.fell fun h => by
 have hs : a.inS dev pl = true := yY (by decide) (zu h _ zH); have hf := ok.dv (yG hs); exact ⟨yG hs, hf.1, hf.2.1, fun _ => jE hs, hf.2.2.2⟩
theorem AR.Ok.fails {a : AR} (ok : a.Ok) (dev n : Int) (hn : n ≤ 9223372036854775807) : (a.fails dev n).Ok := ok.fell fun h => by
 have hin : a.inD dev = true := yY (by decide) (zu h _ zH); have h0 : decide (0 ≤ n) = true := yY (by decide) (zu h _ (zT zH)); have hf := ok.dv hin; exact ⟨hin, hf.1, hf.2.1, hf.2.2.1, of_decide_eq_true h0, hn⟩
theorem AR.Ok.crash {a : AR} (ok : a.Ok) (keep : List Bool) (torn : Int) : (a.crash keep torn).Ok := by
 unfold AR.crash; split
 ·rename_i h
  have ht : torn.toNat ≤ 256 := by
   unfold AR.crashE at h; rw [if_neg ok.d0] at h; have := yY (by decide) h; simp only [Bool.and_eq_true, decide_eq_true_eq] at this; omega
  have hg := yav ok keep ht a.loose.length; have hs : (a.crashed keep torn.toNat).secs = a.secs := by
   have h0 : (z9 a keep torn.toNat a.loose.length).1.devs ≠ [] := by
    intro he; have := hg.len; rw [he] at this; exact ok.d0 (List.eq_nil_of_length_eq_zero this.symm)
   unfold AR.secs AR.crashed; cases hd : (z9 a keep torn.toNat a.loose.length).1.devs with
   | nil => exact absurd hd h0
   | cons d l =>
    show (clean d).firm.length = _; have := (hg.fm d (by rw [hd]; exact .head _)).1; exact this
  have hl : (a.crashed keep torn.toNat).devs.length = a.devs.length := by
   unfold AR.crashed; rw [List.length_map, hg.len]
  refine ⟨?_, by rw [hl]; exact ok.dn, by rw [hs]; exact ok.sn, fun d hd => ?_, (fun w hw => by cases hw), (by show (-1 : Int) ≤ -1 ∧ (-1 : Int) ≤ 9223372036854775807; decide)⟩
  ·intro he; rw [he] at hl; exact ok.d0 (List.eq_nil_of_length_eq_zero hl.symm)
  ·unfold AR.crashed at hd; obtain ⟨d0, hd0, rfl⟩ := List.mem_map.1 hd; have := hg.fm d0 hd0; rw [hs]; exact ⟨this.1, this.2, (fun h => by cases h), (by show (0 : Int) ≤ 0; decide), (by show (0 : Int) ≤ 9223372036854775807; decide)⟩
 ·exact ok
theorem zB {w0 w : World} {M : List Nat} {A R : List HA} {p : HA} (h : St w0 M w (p :: (A ++ R))) : St w0 M w (A ++ p :: R) := St.perm h (List.perm_middle.symm)
theorem St.arr {w0 w : World} {M : List Nat} {R : List HA} {ga : Nat} {x : GA} {a : AR} (h : St w0 M w (yj ga x a ++ R)) : St w (yT ga x a) w (yj ga x a) := (St.sub h (List.sublist_append_left _ _)).selfF
end
section
open Go.RowKit Hp
attribute [local irreducible] Go.Calls Go.wpList
def fuseL (a : AR) : List Int := [0, y8 (!a.out) 10]
theorem fuseL_isE (a : AR) : ∀ e ∈ fuseL a, e = 0 ∨ isE e := by
 intro e he; unfold fuseL at he; simp only [List.mem_cons, List.not_mem_nil, or_false] at he; rcases he with rfl | rfl
 ·exact .inl rfl
 ·exact jO _ _ (by unfold isE; decide)
theorem fuse_eq {a : AR} (h0 : a.devs ≠ []) (n : Int) : a.fuseE n = if yt (fuseL a) = 0 then y8 (decide (0 ≤ n)) 2 else yt (fuseL a) := by
 unfold AR.fuseE fuseL; rw [if_neg h0]; cases a.out
 ·show (if False then (10 : Int) else if n < 0 then 2 else 0) = y8 (decide (0 ≤ n)) 2; rw [if_neg (fun h => h)]; by_cases hn : 0 ≤ n
  ·rw [if_neg (by omega), zD hn]; rfl
  ·rw [if_pos (by omega), zF hn]; rfl
 ·rfl
theorem AR.Ok.fused {a : AR} (ok : a.Ok) {n : Int} (hn : n ≤ 9223372036854775807) : (a.fused n).Ok := by
 unfold AR.fused; split
 ·rename_i h
  have h0 : 0 ≤ n := by
   unfold AR.fuseE at h; split at h
   ·cases h
   ·split at h
    ·cases h
    ·split at h
     ·cases h
     ·omega
  exact ⟨ok.d0, ok.dn, ok.sn, ok.fm, ok.lw, by show -1 ≤ n ∧ n ≤ _; omega⟩
 ·exact ok
theorem fuse_bad {w : World} {ga : Nat} {x : GA} {a : AR} (hS : St w (yT ga x a) w (yj ga x a)) (ok : a.Ok) (n : Int) (h1 : yt (fuseL a) ≠ 0) :
  Calls Tryz.prog 54 #[.pointer (some ⟨ga, 0, none⟩), .int .i64 n] w fun e w' => e = .returned (.int .i64 (a.fuseE n)) ∧ St w (yT ga x a) w' (yj ga x (a.fused n)) := by
 have he : a.fuseE n = yt (fuseL a) := by rw [fuse_eq ok.d0, if_neg h1]
 have hc : a.fused n = a := by unfold AR.fused; rw [if_neg (by rw [he]; exact h1)]
 rw [he, hc]; have HE := ya (ya9 (fuseL_isE a) h1); have H1 := ya h1; have OK := ya ok; have hst0 := hS; have hmf := rmf; clear he hc h1 ok hS; go_enter Tryz.func54, Tryz.ntmps54; go_wp2_with (first | (refine zbo hst0 fun g3 w1 hst1 => ?_; clear hst0) | (refine za ([yi 46 (yc ga), yi 88 (yc ga), yh 104 [yc g3]]) ([yi 46 (yc ga), yi 88 (yc ga), yh 104 [yc g3]]) hst1 (h:=fun gs w2 hst2 => ?_); clear hst1) | (go_at_call 45; have hC := z6 (-1) (n := 3) (fs := [yi 46 (yc ga), yi 88 (yc ga)]) (f9 := yh 104 [yc g3]) (es := fuseL a) (e9 := y8 (decide (0 ≤ n)) 2) (L := ([.blk g3 3 [.int .i64 n]] : List HA)) (Y := yj ga x a) hst2 rfl rfl (by decide) (fun j f e hf he _ => (match j, hf, he with | 0, hf, he => (by cases hf; cases he; exact ja (fun _ h => ArrAt.of h (fun p hp => zR hp) OK.out.d0) yK) | 1, hf, he => (by cases hf; cases he; exact yaP (fun _ h => ArrAt.of h (fun p hp => zR hp) OK.out.d0) yK) | j + 2, hf, _ => (by simp at hf))) (fun _ => jQ (fun _ _ => rfl) fun w h => (fuse1_any (St.cell h (off := 0) (zT zH) rfl)).mono fun _ _ ⟨e, h4⟩ => ⟨e, yK _ _ h h4⟩); refine hC.mono ?_; rintro _ w5 hh; obtain ⟨rfl, h4⟩ := ybb H1.out hh; clear hC hh hst2; have hst3 := h4; clear h4; obtain ⟨E, hEE⟩ : ∃ E, E = yt (fuseL a) := ⟨_, rfl⟩; have HQ := ya hEE; rw [← hEE] at HE H1; rw [← hEE]; clear hEE) | (go_at_call 47; refine jc hst3 (jA E (-1) HE.out H1.out _) fun w6 hst6 => ?_; clear hst3)); go_ret; exact ⟨congrArg _ (congrArg _ HQ.out), St.sub hst6 zA⟩
section
variable {w : World} {ga : Nat} {x : GA} {a : AR} (hS : St w (yT ga x a) w (yj ga x a)) (ok : a.Ok) (n : Int) (h1 : yt (fuseL a) = 0)
include hS ok n h1
theorem fuse_neg (h2 : ¬ 0 ≤ n) :
  Calls Tryz.prog 54 #[.pointer (some ⟨ga, 0, none⟩), .int .i64 n] w fun e w' => e = .returned (.int .i64 (a.fuseE n)) ∧ St w (yT ga x a) w' (yj ga x (a.fused n)) := by
 have he : a.fuseE n = 2 := by rw [fuse_eq ok.d0, if_pos h1, zF h2]; rfl
 have hc : a.fused n = a := by unfold AR.fused; rw [he]; rfl
 rw [he, hc]; have HE : Hid (y8 (decide (0 ≤ n)) 2 = 2) := ya (by rw [zF h2]; rfl); have H1 := ya h1; have OK := ya ok; have hst0 := hS; have hmf := rmf; clear he hc h1 ok hS h2; go_enter Tryz.func54, Tryz.ntmps54; go_wp2_with (first | (refine zbo hst0 fun g3 w1 hst1 => ?_; clear hst0) | (refine za ([yi 46 (yc ga), yi 88 (yc ga), yh 104 [yc g3]]) ([yi 46 (yc ga), yi 88 (yc ga), yh 104 [yc g3]]) hst1 (h:=fun gs w2 hst2 => ?_); clear hst1) | (go_at_call 45; have hC := z6 (-1) (n := 3) (fs := [yi 46 (yc ga), yi 88 (yc ga)]) (f9 := yh 104 [yc g3]) (es := fuseL a) (e9 := y8 (decide (0 ≤ n)) 2) (L := ([.blk g3 3 [.int .i64 n]] : List HA)) (Y := yj ga x a) hst2 rfl rfl (by decide) (fun j f e hf he _ => (match j, hf, he with | 0, hf, he => (by cases hf; cases he; exact ja (fun _ h => ArrAt.of h (fun p hp => zR hp) OK.out.d0) yK) | 1, hf, he => (by cases hf; cases he; exact yaP (fun _ h => ArrAt.of h (fun p hp => zR hp) OK.out.d0) yK) | j + 2, hf, _ => (by simp at hf))) (fun _ => jQ (fun _ _ => rfl) fun w h => (fuse1_any (St.cell h (off := 0) (zT zH) rfl)).mono fun _ _ ⟨e, h4⟩ => ⟨e, yK _ _ h h4⟩); rw [HE] at hC; refine hC.mono ?_; rintro _ w5 hh; obtain ⟨rfl, h4⟩ := qL H1.out (by decide) hh; clear hC hh hst2; have hst3 := h4; clear h4) | (go_at_call 47; refine jc hst3 (jA 2 (-1) (by unfold isE; decide) (by decide) _) fun w6 hst6 => ?_; clear hst3)); go_ret; exact ⟨rfl, St.sub hst6 zA⟩
theorem fuse_fine (h2 : 0 ≤ n) :
  Calls Tryz.prog 54 #[.pointer (some ⟨ga, 0, none⟩), .int .i64 n] w fun e w' => e = .returned (.int .i64 (a.fuseE n)) ∧ St w (yT ga x a) w' (yj ga x (a.fused n)) := by
 have he : a.fuseE n = 0 := by rw [fuse_eq ok.d0, if_pos h1, zD h2]; rfl
 have hc : a.fused n = ⟨a.devs, a.loose, n, a.out, a.steps⟩ := by unfold AR.fused; rw [he]; rfl
 rw [he, hc]; have HE : Hid (y8 (decide (0 ≤ n)) 2 = 0) := ya (by rw [zD h2]; rfl); have H1 := ya h1; have OK := ya ok; have hst0 := hS; have hmf := rmf; clear he hc h1 ok hS h2; go_enter Tryz.func54, Tryz.ntmps54; go_wp2_with (first | (refine zbo hst0 fun g3 w1 hst1 => ?_; clear hst0) | (refine za ([yi 46 (yc ga), yi 88 (yc ga), yh 104 [yc g3]]) ([yi 46 (yc ga), yi 88 (yc ga), yh 104 [yc g3]]) hst1 (h:=fun gs w2 hst2 => ?_); clear hst1) | (go_at_call 45; have hC := z6 (-1) (n := 3) (fs := [yi 46 (yc ga), yi 88 (yc ga)]) (f9 := yh 104 [yc g3]) (es := fuseL a) (e9 := y8 (decide (0 ≤ n)) 2) (L := ([.blk g3 3 [.int .i64 n]] : List HA)) (Y := yj ga x a) hst2 rfl rfl (by decide) (fun j f e hf he _ => (match j, hf, he with | 0, hf, he => (by cases hf; cases he; exact ja (fun _ h => ArrAt.of h (fun p hp => zR hp) OK.out.d0) yK) | 1, hf, he => (by cases hf; cases he; exact yaP (fun _ h => ArrAt.of h (fun p hp => zR hp) OK.out.d0) yK) | j + 2, hf, _ => (by simp at hf))) (fun _ => jQ (fun _ _ => rfl) fun w h => (fuse1_any (St.cell h (off := 0) (zT zH) rfl)).mono fun _ _ ⟨e, h4⟩ => ⟨e, yK _ _ h h4⟩); rw [HE] at hC; refine hC.mono ?_; rintro _ w5 hh; obtain ⟨rfl, h4⟩ := jI H1.out hh; clear hC hh hst2; have hst3 := h4; clear h4) | (refine jl (Loads.at [_] hst3 rfl) ?_) | (refine ye [_, _] hst3 rfl rfl rfl (v := .int _ _) rfl rfl rfl (by show (2 : Nat) + 1 ≤ 5; decide) ?_; intro w7 hst7; clear hst3)); go_ret; exact ⟨rfl, St.sub hst7 (.cons _ (.cons _ (List.Sublist.refl _)))⟩
end
theorem fuseM_any {w : World} {ga : Nat} {x : GA} {a : AR} (hS : St w (yT ga x a) w (yj ga x a)) (ok : a.Ok) (n : Int) :
  Calls Tryz.prog 54 #[.pointer (some ⟨ga, 0, none⟩), .int .i64 n] w fun e w' => e = .returned (.int .i64 (a.fuseE n)) ∧ St w (yT ga x a) w' (yj ga x (a.fused n)) := by
 by_cases h1 : yt (fuseL a) = 0
 ·by_cases h2 : 0 ≤ n
  ·exact fuse_fine hS ok n h1 h2
  ·exact fuse_neg hS ok n h1 h2
 ·exact fuse_bad hS ok n h1
end
section
open Go.RowKit Hp
theorem zeroCells_one {z : Array Value} (h : z.toList.all (·.oneCell') = true) (n : Nat) : ∀ v ∈ (Builtin.zeroCells z n).toList, v.oneCell' = true := by
 have := all_zeroCells (p := (·.oneCell')) h n; exact List.all_eq_true.1 this
end
section
open Go.RowKit Hp
attribute [local irreducible] Go.Calls Go.wpList
theorem drop1_any {w : World} {g3 : Nat} {d : Int} (h0 : w.cell? ⟨g3, 0, none⟩ = some (.int .i64 d)) (v : LW) : Calls Tryz.prog 92 #[.agg (List.toArray v.cells), .pointer (some ⟨g3, 0, none⟩)] w fun e w' => e = .returned (.bool ((v.dev : Int) == d)) ∧ St w [] w' [] := by
 have hst0 := St.refl w; have H0 := ya h0; clear h0; obtain ⟨q, hq⟩ : ∃ q, q = ((v.dev : Int) == d) := ⟨_, rfl⟩; have d1 : ((v.dev : Int) == d) = q := hq.symm; rw [d1]; clear hq; go_enter Tryz.func92, Tryz.ntmps92; go_wp2_with (first | (refine zj hst0 fun g4 w1 hst1 => ?_; clear hst0) | (refine jl (Loads.at [] hst1 rfl) ?_) | (refine jl (Loads.old hst1 H0.out) ?_)); go_ret; exact ⟨rfl, hst1.nil⟩
def firstW (k : Nat) (l : List LW) : Int := match l.findIdx? (fun w => w.dev == k) with
 | some i => (i : Int)
 | none => -1
theorem firstW_none {k : Nat} {l : List LW} (h : ∀ w ∈ l, (w.dev == k) = false) : firstW k l = -1 := by
 unfold firstW; rw [List.findIdx?_eq_none_iff.2 (fun x hx => by rw [h x hx])]
theorem firstW_at {k j : Nat} {l : List LW} {v : LW} (h : ∀ i w, i < j → l[i]? = some w → (w.dev == k) = false) (hj : l[j]? = some v) (hv : (v.dev == k) = true) : firstW k l = (j : Int) := by
 unfold firstW; have e : l.findIdx? (fun w => w.dev == k) = some j := by
  rw [List.findIdx?_eq_some_iff_getElem]; obtain ⟨hlt, hg⟩ := List.getElem?_eq_some_iff.1 hj; refine ⟨hlt, by rw [hg]; exact hv, fun i hi => ?_⟩; have := h i _ hi (List.getElem?_eq_getElem (by omega)); simp [this]
 rw [e]
theorem indexW_any {w : World} {g3 k : Nat} (h0 : w.cell? ⟨g3, 0, none⟩ = some (.int .i64 (k : Int))) (l : List LW) (ao : Option Addr) (n c : Nat) (hr : Rd w (.slice ao n c) 258 n (zo l)) (hn : l.length = n) (hb : ∀ v ∈ l, v.b.length = 256) (hbd : n < 1000000) :
  Calls Tryz.prog 140 #[.slice ao n c, yh 92 [yc g3]] w fun e w' => e = .returned (.int .i64 (firstW k l)) ∧ St w [] w' [] := by
 have hst0 := St.refl w; have H0 := ya h0; have HR := ya hr; have HN := ya hn; have HB := ya hb; obtain ⟨R, hR⟩ : ∃ R, R = firstW k l := ⟨_, rfl⟩
 have HRR := ya hR; rw [← hR]; clear h0 hr hn hb hR; unfold yh yc; go_enter Tryz.func140, Tryz.ntmps140; go_wp2; go_loopw [8] (fun i wr => ∃ j : Nat, j ≤ n ∧ i = .int .i64 (j : Int) ∧ St w [] wr [] ∧ Hid (∀ i v, i < j → l[i]? = some v → (v.dev == k) = false)) (fun i _ => n - (intOf i).toNat)
 case atStart => exact ⟨0, Nat.zero_le _, rfl, hst0, ya (fun i v hi => by omega)⟩
 case round =>
  clear hst0; obtain ⟨j, hj, rfl, hst, HP⟩ := hrel; by_cases hlj : j < n
  ·have d1 : decide ((j : Int) < (n : Int)) = true := zD (by omega); have z1 : IntKind.i64.wrap ((j : Int) + 1) = (j : Int) + 1 := IntWalk.i64_in _ (by omega); obtain ⟨v, hv⟩ : ∃ v, l[j]? = some v := ⟨_, List.getElem?_eq_getElem (by rw [HN]; exact hlj)⟩; have HV := ya hv; have hvb := HB.out v (List.mem_of_getElem? hv); obtain ⟨lb, lo, rfl, hlr⟩ := Rd.at HR.out hlj; have HWR := ya (qA (sz := 258) (f := LW.cells) (fun d hd => zq (HB.out d hd)) hv hlr); have HV258 := ya (zq hvb); clear hv hvb hlr; by_cases k1 : v.dev = k
   ·have d2 : ((v.dev : Int) == (k : Int)) = true := by simp [k1]
    have KK := ya k1; clear k1; go_wp2_with (first | (refine yA hlj ?_) | (refine jl (zf (cs := v.cells) hst HV258.out HWR.out) ?_) | (go_at_call 92; refine jc hst (drop1_any (St.old_cell hst H0.out (by simp)) v) fun w8 hst => ?_)); go_ret; refine ⟨congrArg (fun z => Ending.returned (Value.int .i64 z)) (?_ : (_ : Int) = R), hst⟩; rw [HRR]; exact (firstW_at HP.out HV.out (by simpa using KK.out)).symm
   ·have d2 : ((v.dev : Int) == (k : Int)) = false := by simp; omega
    have KK := ya k1; clear k1; go_wp2_with (first | (refine yA hlj ?_) | (refine jl (zf (cs := v.cells) hst HV258.out HWR.out) ?_) | (go_at_call 92; refine jc hst (drop1_any (St.old_cell hst H0.out (by simp)) v) fun w8 hst => ?_)); go_roundw
    case rel =>
     refine ⟨j + 1, by omega, rfl, hst, ya (fun i u hi hu => ?_)⟩; by_cases hij : i < j
     ·exact HP.out i u hij hu
     ·have e : i = j := by omega
      subst e; rw [HV] at hu; cases hu; simpa using KK.out
    case measure => simp [intOf]; omega
  ·have d1 : decide ((j : Int) < (n : Int)) = false := zF (by omega); go_wp2; go_ret; refine ⟨congrArg (fun z => Ending.returned (Value.int .i64 z)) (?_ : (_ : Int) = R), hst⟩; rw [HRR]; refine (firstW_none fun v hv => ?_).symm; obtain ⟨i, hi⟩ := List.getElem?_of_mem hv; have := (List.getElem?_eq_some_iff.1 hi).1; exact HP.out i v (by have := HN.out; omega) hi
theorem wl_clearB {ops : Array Oper} {rest : List Oper} {o : Oper} {a : Act} {w0 w : World} {M : List Nat} {Q : Exit → Act → World → Prop} {t e T : TypeId} {x : Operand} {g off n c sz bytes : Nat} {cs : List Value} (L1 : List HA) {L2 : List HA} (hst : St w0 M w (L1 ++ .blk g T cs :: L2))
  (hop : o.op = .call { callee := .builtin .clear, args := #[x], argTypes := #[t] }) (hw : Region.wanted o (yielded ops a.tmps) = true) (hx : a.eval x = .slice (some ⟨g, off, none⟩) n c) (ht : TySl Tryz.prog t e) (he : TyE Tryz.prog e sz bytes) {zs : List Value} (hz : TyZ Tryz.prog e zs) (h1 : zs.all (·.oneCell') = true) (hn : 0 < n) (hf : off + n * sz ≤ cs.length)
  (h : ∀ w' cs', cs'.length = cs.length → cs'.take off = cs.take off → St w0 M w' (L1 ++ .blk g T cs' :: L2) → wpList Tryz.prog ops Q rest (a.put o.dst (.tuple #[])) w') : wpList Tryz.prog ops Q (o :: rest) a w := by
 obtain ⟨i, z, hi, hzi, hs, hb, hzs⟩ := tyE_spec he.out; have hzz : z.cells.toList = zs := by
  have := hz.out; unfold tyZ at this; simpa [hi, hzi] using this
 have hg : w.heap[g]? = some (.cells cs.toArray T (0, 0)) := hst.all (.blk g T cs) (by simp); have hsz : (Builtin.zeroCells z.cells n).toList.length = n * sz := by rw [Array.length_toList, size_zeroCells, hzs]
 have hq : z.cells.toList.all (·.oneCell') = true := by rw [hzz]; exact h1
 have hrun := run_storeCells_at Tryz.prog g off T (Builtin.zeroCells z.cells n).toList 0 cs.toArray w hg (by rw [hsz]; simpa using hf) (zeroCells_one hq n); simp only [Nat.add_zero, List.append_assoc] at hrun; have hl : (yw cs off (Builtin.zeroCells z.cells n).toList).length = cs.length := by
  unfold yw; rw [List.length_append, List.length_append, hsz, List.length_take, List.length_drop]; omega
 have htk : (yw cs off (Builtin.zeroCells z.cells n).toList).take off = cs.take off := by
  unfold yw; rw [List.take_append_of_le_length (by rw [List.length_take]; omega), List.take_take, Nat.min_self]
 refine jW hw ?_ (h _ _ hl htk (hst.setRow _)); obtain ⟨m, rfl⟩ : ∃ m, n = m + 1 := ⟨n - 1, by omega⟩; unfold execOp; simp only [hop, resolve, invoke, builtin, Sem.run_bind, Sem.run_pure, Result.andThen_ok, List.map_toArray, List.map_cons, List.map_nil, hx]; have hzv : ∀ w, (zeroValue e).run Tryz.prog w = .ok z w := fun w => by simp [zeroValue, typeInfo, hi, hzi]
 simp only [Builtin.clear_, run_underlying ht.out, Sem.run_bind, Result.andThen_ok, hzv, hrun, List.getElem?_toArray, List.getElem?_cons_zero]; rfl
theorem row_openL {w0 w : World} {M : List Nat} {L1 L2 : List HA} {v : Value} {T : TypeId} {sz n : Nat} {xs : List Value} (h : St w0 M w (L1 ++ .row v T sz n xs :: L2)) (hn : 0 < n) : ∃ g c rest, v = .slice (some ⟨g, 0, none⟩) n c ∧ n ≤ c ∧ c ≤ maxLen ∧ (xs ++ rest).length = c * sz ∧ St w0 M w (L1 ++ .blk g T (xs ++ rest) :: L2) := by
 obtain ⟨hl, h2⟩ := h.owns (v := v) (T := T) (sz := sz) (n := n) (xs := xs) (by simp); rcases h2 with ⟨_, hz⟩ | ⟨g, cap, cur, rfl, _, hh, hnc, hcm, hs, hp⟩
 ·omega
 ·have e : xs ++ cur.toList.drop (n * sz) = cur.toList := by rw [← hp, List.take_append_drop]
  refine ⟨g, cap, cur.toList.drop (n * sz), rfl, hnc, hcm, by rw [e]; simpa using hs, h.rep (y := .blk g T (xs ++ cur.toList.drop (n * sz))) rfl fun _ => ?_⟩; show w.heap[g]? = _; rw [hh, e]
theorem del_none {w : World} {g3 k : Nat} (h0 : w.cell? ⟨g3, 0, none⟩ = some (.int .i64 (k : Int))) (l : List LW) (ao : Option Addr) (n c : Nat) (hr : Rd w (.slice ao n c) 258 n (zo l)) (hn : l.length = n) (hb : ∀ v ∈ l, v.b.length = 256) (hbd : n < 1000000) (h1 : ∀ v ∈ l, (v.dev == k) = false) :
  Calls Tryz.prog 91 #[.slice ao n c, yh 92 [yc g3]] w fun e w' => e = .returned (.slice ao n c) ∧ St w [] w' [] := by
 have hst0 := St.refl w; have HC := ya (indexW_any h0 l ao n c hr hn hb hbd); rw [firstW_none h1] at HC
 clear h0 hr hn hb h1; unfold yh yc at HC ⊢; go_enter Tryz.func91, Tryz.ntmps91; go_wp2_with (first | (go_at_call 140; refine jc hst0 HC.out fun w2 hst1 => ?_; clear hst0)); go_ret; exact ⟨rfl, hst1⟩
theorem looV_drop {l : List LW} {j : Nat} {v : LW} (h : l[j]? = some v) : zo (l.drop j) = v.cells ++ zo (l.drop (j + 1)) := by
 obtain ⟨hlt, hg⟩ := List.getElem?_eq_some_iff.1 h; rw [List.drop_eq_getElem_cons hlt, hg]; rfl
theorem del_put {F mid V R : List Value} {i : Nat} (hF : F.length = i * 258) (hm : 258 ≤ mid.length) (hV : V.length = 258) : yw (F ++ (mid ++ (V ++ R))) (i * 258) V = (F ++ V) ++ ((mid.drop 258 ++ V) ++ R) := by
 rw [ya8, hV, ← hF, List.take_left, ← List.drop_drop, List.drop_left, List.drop_append_of_le_length hm]; simp only [List.append_assoc]
theorem filter_none {l : List LW} {k j : Nat} (h : ∀ i w, i < j → l[i]? = some w → (w.dev == k) = false) : (l.take j).filter (fun w => w.dev != k) = l.take j := by
 rw [List.filter_eq_self]; intro v hv; obtain ⟨i, hi⟩ := List.getElem?_of_mem hv; rw [List.getElem?_take] at hi; split at hi
 ·rename_i hlt
  have := h i v hlt hi; simp at this ⊢; exact this
 ·cases hi
theorem del_some {w : World} {g3 g k i0 : Nat} {v0 : LW} (h0 : w.cell? ⟨g3, 0, none⟩ = some (.int .i64 (k : Int))) (l : List LW) (n c : Nat) (rest : List Value) (hS : St w [g] w [.blk g 149 (zo l ++ rest)]) (hg3 : g3 ≠ g) (hc : n ≤ c ∧ c ≤ maxLen) (hcs : (zo l ++ rest).length = c * 258) (hn : l.length = n) (hb : ∀ v ∈ l, v.b.length = 256) (hbd : n < 1000000)
  (hi1 : ∀ i w, i < i0 → l[i]? = some w → (w.dev == k) = false) (hi2 : l[i0]? = some v0) (hi3 : (v0.dev == k) = true) :
  Calls Tryz.prog 91 #[.slice (some ⟨g, 0, none⟩) n c, yh 92 [yc g3]] w fun e w' => ∃ c', e = .returned (.slice (some ⟨g, 0, none⟩) (l.filter fun w => w.dev != k).length c') ∧
   St w [g] w' [.row (.slice (some ⟨g, 0, none⟩) (l.filter fun w => w.dev != k).length c') 149 258 (l.filter fun w => w.dev != k).length (zo (l.filter fun w => w.dev != k))] := by
 have hst0 := hS; have HC := ya (indexW_any h0 l (some ⟨g, 0, none⟩) n c (Rd.blk hS zH hc.1 hc.2 (by rw [looV_len hb, hn]) (by rw [List.drop_zero, List.take_left])) hn hb hbd); rw [firstW_at hi1 hi2 hi3] at HC
 have hi0 : i0 < n := by rw [← hn]; exact (List.getElem?_eq_some_iff.1 hi2).1
 have H0 := ya h0; have HN := ya hn; have HB := ya hb; have HG3 := ya hg3; have hcm : c ≤ 9223372036854775807 := hc.2; have hcn : n ≤ c := hc.1; obtain ⟨Z, hZ⟩ : ∃ Z : Nat → List LW, Z = fun j => (l.take j).filter fun w => w.dev != k := ⟨_, rfl⟩; have HZ0 : Hid (Z (i0 + 1) = l.take i0) := ya (by
  rw [hZ]; show (l.take (i0 + 1)).filter (fun w => w.dev != k) = _; rw [ybq _ hi2, filter_none hi1, if_neg (by simp at hi3; simp [hi3]), List.append_nil])
 have HZL : Hid (∀ j, (Z j).length ≤ n) := ya (fun j => by
  rw [hZ, ← hn]; have a2 := List.length_filter_le (fun w : LW => w.dev != k) (l.take j); have a4 : (l.take j).length ≤ l.length := by rw [List.length_take]; omega
  exact Nat.le_trans a2 a4)
 have HZB : Hid (∀ j, ∀ v ∈ Z j, v.b.length = 256) := ya (fun j v hv => by
  rw [hZ] at hv; exact hb v (List.mem_of_mem_take (List.mem_filter.1 hv).1))
 have HZS : Hid (∀ j v, l[j]? = some v → Z (j + 1) = Z j ++ if v.dev != k then [v] else []) := ya (fun j v h => by rw [hZ]; exact ybq _ h); have HZE : Hid (Z n = (l.filter fun w => w.dev != k)) := ya (by rw [hZ, ← hn]; show (l.take l.length).filter _ = _; rw [List.take_length]); obtain ⟨RZ, hRZ⟩ : ∃ RZ, RZ = l.filter fun w => w.dev != k := ⟨_, rfl⟩; rw [← hRZ] at HZE; rw [← hRZ]; have HI0 : Hid (zo l = zo (l.take i0) ++ (v0.cells ++ zo (l.drop (i0 + 1)))) := ya (by rw [← looV_drop hi2, ← yau, List.take_append_drop]); have HI1 : Hid (v0.cells.length = 258) := ya (zq (hb v0 (List.mem_of_getElem? hi2))); have HI2 : Hid ((l.take i0).length = i0) := ya (by rw [List.length_take]; omega); have HL := ya hcs; have zi : IntKind.i64.wrap ((i0 : Int) + 1) = (i0 : Int) + 1 := IntWalk.i64_in _ (by omega); have di : ((i0 : Int) == -1) = false := by
  simp
 clear h0 hn hb hi1 hi2 hi3 hZ hRZ hS hg3 hcs hc; unfold yh yc at HC ⊢; go_enter Tryz.func91, Tryz.ntmps91; go_wp2_with (first | (go_at_call 140; refine jc hst0 HC.out fun w2 hst1 => ?_; clear hst0)); go_loopw [5, 6] (fun iv jv wr => ∃ (j : Nat) (mid : List Value), i0 < j ∧ j ≤ n ∧ (Z j).length < j ∧ iv = .int .i64 ((Z j).length : Int) ∧ jv = .int .i64 (j : Int) ∧ mid.length = (j - (Z j).length) * 258 ∧ St w [g] wr [.blk g 149 (zo (Z j) ++ (mid ++ (zo (l.drop j) ++ rest)))]) (fun _ jv _ => n - (intOf jv).toNat)
 case atStart =>
  refine ⟨i0 + 1, v0.cells, by omega, by omega, ?_, ?_, by push_cast; rfl, ?_, ?_⟩
  ·rw [HZ0, HI2]; omega
  ·rw [HZ0, HI2]
  ·rw [HZ0, HI2, HI1, show i0 + 1 - i0 = 1 by omega]
  ·rw [HZ0, ← List.append_assoc v0.cells, ← List.append_assoc (zo (l.take i0)), ← HI0]; exact hst1
 case round =>
  clear hst1 zi di; obtain ⟨j, mid, hij, hjn, hzj, rfl, rfl, hmid, hst⟩ := hrel; have HMID := ya hmid; have HZJ := ya (HZL.out j); have HZB1 : Hid ((zo (Z j)).length = (Z j).length * 258) := ya (looV_len (HZB.out j)); obtain ⟨i, hi⟩ : ∃ i, i = (Z j).length := ⟨_, rfl⟩; have HI := ya hi; rw [← hi] at hzj HZB1 HMID; rw [← hi]; clear hi hmid; by_cases hlj : j < n
  ·have d1 : decide ((j : Int) < (n : Int)) = true := zD (by omega); have z1 : IntKind.i64.wrap ((j : Int) + 1) = (j : Int) + 1 := IntWalk.i64_in _ (by omega); have z2 : IntKind.i64.wrap ((i : Int) + 1) = (i : Int) + 1 := IntWalk.i64_in _ (by omega); obtain ⟨v, hv⟩ : ∃ v, l[j]? = some v := ⟨_, List.getElem?_eq_getElem (by rw [HN]; exact hlj)⟩; have hvb := HB.out v (List.mem_of_getElem? hv); have HV258 := ya (zq hvb); have HZ := ya (HZS.out j v hv); have HLD : Hid (zo (l.drop j) = v.cells ++ zo (l.drop (j + 1))) := ya (looV_drop hv); obtain ⟨RR, hRR⟩ : ∃ RR, RR = zo (l.drop (j + 1)) ++ rest := ⟨_, rfl⟩; have HRR := ya hRR; obtain ⟨F, hF⟩ : ∃ F, F = zo (Z j) := ⟨_, rfl⟩; have HF := ya hF; rw [← hF] at hst HZB1; rw [HLD, List.append_assoc v.cells, ← hRR] at hst; have HPUT := ya (del_put (F := F) (mid := mid) (V := v.cells) (R := RR) HZB1.out (by rw [HMID]; exact Nat.mul_le_mul_right 258 (show 1 ≤ j - i by omega)) HV258.out); have HDR : Hid ((F ++ (mid ++ (v.cells ++ RR))).drop (j * 258) = v.cells ++ RR) := ya (by
    rw [← List.append_assoc F mid, List.drop_left' (by rw [List.length_append, HZB1.out, HMID.out, ← Nat.add_mul]; congr 1; omega)])
   have HFIT : Hid (i * 258 + 258 ≤ (F ++ (mid ++ (v.cells ++ RR))).length) := ya (by
    rw [List.length_append, List.length_append, List.length_append, HZB1, HV258]; omega)
   obtain ⟨CS, hCS⟩ : ∃ CS, CS = F ++ (mid ++ (v.cells ++ RR)) := ⟨_, rfl⟩; rw [← hCS] at hst HPUT HDR HFIT; have HLOAD : Hid ((CS.drop (j * 258)).take v.cells.length = v.cells) := ya (by rw [HDR, List.take_left]); have HCS := ya hCS; clear hv hvb hRR hF hCS HDR HLD; by_cases k1 : v.dev = k
   ·have d2 : ((v.dev : Int) == (k : Int)) = true := by simp [k1]
    have KK := ya k1; clear k1; go_wp2_with (first | (refine yA hlj ?_) | (refine wl_index (k := i) rfl rfl rfl rfl (by omega) ?_) | (refine jl (yl v.cells [] hst HV258.out (by rw [Nat.zero_add]; exact HLOAD.out)) ?_) | (refine jl (yl v.cells [] hst3 HV258.out (by rw [List.drop_zero, List.take_length])) ?_) | (refine yN (T := 149) hst fun g7 _ hst2 => ?_; clear hst) | (refine yx (T := 149) (vs := v.cells) [] hst2 rfl rfl rfl rfl HV258.out (jr _) (by rw [List.length_cons, List.length_cons, List.length_replicate]) ?_; intro w4 hst3; clear hst2) | (go_at_call 92; refine jc hst3 (drop1_any (St.old_cell hst3 H0.out (by simpa using HG3.out)) v) fun w8 hst3 => ?_) | (refine ye [_] hst3 rfl rfl rfl (v := .agg v.cells.toArray) rfl (by show v.cells.toArray.size = 258; rw [List.size_toArray]; exact HV258.out) (by show v.cells.toArray.toList.all _ = true; exact jr v) (by rw [Nat.zero_add]; show i * 258 + v.cells.toArray.size ≤ _; rw [List.size_toArray, HV258]; exact HFIT.out) ?_; intro w9 hst4; clear hst3)); go_roundw
    case rel =>
     have e1 : Z (j + 1) = Z j := by rw [HZ, if_neg (by simp [KK.out]), List.append_nil]
     refine ⟨j + 1, mid ++ v.cells, by omega, by omega, by rw [e1, ← HI]; omega, by rw [e1, ← HI], by push_cast; rfl, ?_, ?_⟩
     ·rw [e1, ← HI, List.length_append, HMID, HV258, show j + 1 - i = (j - i) + 1 by omega, Nat.add_mul]
     ·rw [e1, ← HF, List.append_assoc mid, ← HRR]; have h7 := St.sub hst3 (.cons _ (List.Sublist.refl _)); rw [HCS] at h7; exact h7
    case measure => simp [intOf]; omega
   ·have d2 : ((v.dev : Int) == (k : Int)) = false := by simp; omega
    have KK := ya k1; clear k1; go_wp2_with (first | (refine yA hlj ?_) | (refine wl_index (k := i) rfl rfl rfl rfl (by omega) ?_) | (refine jl (yl v.cells [] hst HV258.out (by rw [Nat.zero_add]; exact HLOAD.out)) ?_) | (refine jl (yl v.cells [] hst3 HV258.out (by rw [List.drop_zero, List.take_length])) ?_) | (refine yN (T := 149) hst fun g7 _ hst2 => ?_; clear hst) | (refine yx (T := 149) (vs := v.cells) [] hst2 rfl rfl rfl rfl HV258.out (jr _) (by rw [List.length_cons, List.length_cons, List.length_replicate]) ?_; intro w4 hst3; clear hst2) | (go_at_call 92; refine jc hst3 (drop1_any (St.old_cell hst3 H0.out (by simpa using HG3.out)) v) fun w8 hst3 => ?_) | (refine ye [_] hst3 rfl rfl rfl (v := .agg v.cells.toArray) rfl (by show v.cells.toArray.size = 258; rw [List.size_toArray]; exact HV258.out) (by show v.cells.toArray.toList.all _ = true; exact jr v) (by rw [Nat.zero_add]; show i * 258 + v.cells.toArray.size ≤ _; rw [List.size_toArray, HV258]; exact HFIT.out) ?_; intro w9 hst4; clear hst3)); go_roundw
    case rel =>
     have e1 : Z (j + 1) = Z j ++ [v] := by rw [HZ, if_pos (by simp [KK.out])]
     have e2 : (Z (j + 1)).length = i + 1 := by rw [e1, List.length_append, ← HI]; rfl
     refine ⟨j + 1, mid.drop 258 ++ v.cells, by omega, by omega, by rw [e2]; omega, by rw [e2]; push_cast; rfl, by push_cast; rfl, ?_, ?_⟩
     ·rw [e2, List.length_append, List.length_drop, HMID, HV258, show j + 1 - (i + 1) = j - i by omega]; have : 1 ≤ j - i := by omega
      have h258 : 1 * 258 ≤ (j - i) * 258 := Nat.mul_le_mul_right _ this; omega
     ·rw [e1, yau, looV_one, ← HF, ← HRR, ← HPUT]; have h7 := St.sub hst4 (.cons _ (List.Sublist.refl _)); rw [Nat.zero_add] at h7; exact h7
    case measure => simp [intOf]; omega
  ·have d1 : decide ((j : Int) < (n : Int)) = false := zF (by omega); have hjn2 : j = n := by omega
   subst hjn2; have HE : Hid (Z j = RZ) := ya HZE.out; have HEI : Hid (i = RZ.length) := ya (by rw [HI, HE]); rw [HE] at hst HZB1; obtain ⟨CS, hCS⟩ : ∃ CS, CS = zo RZ ++ (mid ++ (zo (l.drop j) ++ rest)) := ⟨_, rfl⟩; rw [← hCS] at hst; have HCL : Hid (CS.length = c * 258) := ya (by
    have h1 := HL.out; have h2 : zo l = zo (l.take j) := by rw [← HN, List.take_length]
    rw [hCS, List.drop_of_length_le (by rw [HN.out]; exact Nat.le_refl _)]; rw [List.length_append, looV_len HB.out, HN] at h1; rw [List.length_append, List.length_append, List.length_append, HZB1, HMID]; show i * 258 + ((j - i) * 258 + (0 + rest.length)) = _; rw [← h1]; have : i * 258 + (j - i) * 258 = j * 258 := by rw [← Nat.add_mul]; congr 1; omega
    omega)
   have HCT : Hid (CS.take (i * 258) = zo RZ) := ya (by rw [hCS, ← HZB1, List.take_left]); have hci : ¬ c = i := by omega
   clear hCS; go_wp2_with (first | (refine wl_clearB [] hst rfl rfl rfl inferInstance inferInstance (zs := .int .i64 0 :: .int .i64 0 :: List.replicate 256 (.int .u8 0)) inferInstance (by decide) (by omega) (by rw [HCL, ← Nat.add_mul]; exact Nat.mul_le_mul_right _ (by omega)) ?_; intro w5 cs5 hl5 ht5 hst5; have H5 := ya hl5; have H6 := ya ht5; clear hl5 ht5 hst)); go_ret; rw [← HEI]; refine ⟨c, rfl, ?_⟩; have h7 := St.toRow (n := i) (cap := c) (sz := 258) hst5 (by rw [H5, HCL]) (by omega) (by omega); rw [H6, HCT] at h7; exact h7
theorem del_any {w : World} {g3 k : Nat} (h0 : w.cell? ⟨g3, 0, none⟩ = some (.int .i64 (k : Int))) (l : List LW) (v : Value) (hS : St w v.ownBlock.toList w [.row v 149 258 l.length (zo l)]) (hg3 : v.ownBlock ≠ some g3) (hb : ∀ v ∈ l, v.b.length = 256) (hbd : l.length < 1000000) :
  Calls Tryz.prog 91 #[v, yh 92 [yc g3]] w fun e w' => ∃ ao' n' c', e = .returned (.slice ao' n' c') ∧
   St w v.ownBlock.toList w' [.row (.slice ao' n' c') 149 258 (l.filter fun w => w.dev != k).length (zo (l.filter fun w => w.dev != k))] := by
 by_cases h1 : ∀ v ∈ l, (v.dev == k) = false
 ·obtain ⟨ao, c, rfl, _⟩ := yV hS zH; refine (del_none h0 l ao l.length c (Rd.row hS zH) rfl hb hbd h1).mono ?_; rintro _ w' ⟨rfl, h4⟩; have e : l.filter (fun w => w.dev != k) = l := by
   rw [List.filter_eq_self]; intro v hv; have := h1 v hv; simp at this ⊢; exact this
  rw [e]; exact ⟨ao, l.length, c, rfl, St.call0 hS h4⟩
 ·have h2 : ∃ i, l.findIdx? (fun w => w.dev == k) = some i := by
   cases hf : l.findIdx? (fun w => w.dev == k) with
   | none =>
    exfalso; refine h1 fun v hv => ?_; have := List.findIdx?_eq_none_iff.1 hf v hv; simpa using this
   | some i => exact ⟨i, rfl⟩
  obtain ⟨i, hi⟩ := h2; rw [List.findIdx?_eq_some_iff_getElem] at hi; obtain ⟨hlt, hv, hlow⟩ := hi; obtain ⟨g, c, rest, rfl, hnc, hcm, hcs, h3⟩ := row_openL (L1 := []) hS (by omega); have hne : g3 ≠ g := fun h => hg3 (by rw [h]; rfl); have hS2 : St w [g] w [.blk g 149 (zo l ++ rest)] := h3; refine (del_some h0 l l.length c rest hS2 hne ⟨hnc, hcm⟩ hcs rfl hb hbd (i0 := i) (v0 := l[i]) (fun j u hj hu => ?_) (List.getElem?_eq_getElem hlt) hv).mono ?_
  ·have h9 := hlow j hj; rw [List.getElem?_eq_getElem (by omega)] at hu; cases hu; simpa using h9
  ·rintro _ w' ⟨c', rfl, h4⟩; exact ⟨_, _, _, rfl, h4⟩
end
end Go.Proofs.YtmdfbdfijnmhkaaGreat
