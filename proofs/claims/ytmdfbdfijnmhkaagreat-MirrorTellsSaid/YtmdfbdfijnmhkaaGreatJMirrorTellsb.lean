import Derived.Test.YtmdfbdfijnmhkaaGreatJMirrorTellsa
import Derived.Test.YtmdfbdfijnmhkaaGreatKTy
import Derived.Test.YtmdfbdfijnmhkaaGreatSepQ
import Derived.IntWalk
import Derived.Test.YtmdfbdfijnmhkaaGreatOpenB
import Derived.Deep.Slices
import Derived.Test.YtmdfbdfijnmhkaaGreatNum
namespace Go.Proofs.YtmdfbdfijnmhkaaGreat
set_option linter.unusedVariables false
set_option linter.unusedSimpArgs false
open Go.RowKit Hp
attribute [local irreducible] Go.Calls Go.wpList
set_option maxRecDepth 100000
set_option maxHeartbeats 4000000
def AR.rest (a : AR) (k : Nat) : AR := { a with loose := a.loose.filter fun w => w.dev != k }
theorem drop_any {w : World} {ga : Nat} {x : GA} {a : AR} (hS : St w (arF ga x a) w (arP ga x a)) (ok : a.Ok) (hll : a.loose.length < 1000000) (k : Nat) :
    Calls Tryz.prog 39 #[.pointer (some ⟨ga, 0, none⟩), .int .i64 (k : Int)] w fun e w' => e = .returned (.tuple #[]) ∧ ∃ lv, St w (arF ga x a) w' (arP ga ⟨x.gd, x.cd, x.rest, lv⟩ (a.rest k)) := by
  have hst0 := hS
  have HB := hid (fun v hv => (ok.lw v hv).2.2)
  have hmf := rmf
  clear hS ok
  go_enter Tryz.func39, Tryz.ntmps39
  go_wp2_with (first | go_big_skip | go_big_guard | (refine wl_box hst0 rfl rfl rfl ?_; intro g3 w1 hst1; clear hst0) | (refine wl_loadE rfl rfl rfl ?_; refine ⟨_, Loads.at [_] hst1 rfl, ?_⟩) | (go_at_call 91; have hq := St.front (L1 := [_, _, _]) hst1; have hd := del_any (g3 := g3) (k := k) (St.cell hst1 (off := 0) (.head _) rfl) a.loose x.lv (St.ofRow w1 (St.owns hq (.head _))) (fun he => by have hap := hq.apart; unfold Apart at hap; rw [List.pairwise_cons] at hap; exact hap.1 _ (.head _) g3 he rfl) HB.out hll; refine hd.mono ?_; rintro _ w2 ⟨ao, n9, c9, rfl, h4⟩; have hst2 := St.callRow hq h4; clear hd hq h4 hst1) | (refine wl_store [_, _] hst2 rfl rfl rfl (v := .slice _ _ _) rfl rfl rfl (by show (1 : Nat) + 1 ≤ 5; decide) ?_; intro w3 hst3; clear hst2))
  go_end0
  refine ⟨rfl, .slice ao n9 c9, ?_⟩
  exact St.perm (St.sub hst3 (.cons_cons _ (.cons _ (List.Sublist.refl _)))) ((List.Perm.swap _ _ _).trans (List.Perm.cons _ (List.Perm.swap _ _ _)))
theorem befallsE_fine {w : World} {M : List Nat} {Lb : List HA} {ga : Nat} {x : GA} {a a' : AR} (hS : St w M w (Lb ++ arP ga x a)) (ok : a.Ok) (dev : Int) (fn : Nat) (cap : List Value) (v : Value) (m : Nat) (ws : List Value) (rs : List Int)
    (hfn : ∀ (a : Array Value) (w : World), (callFunc fn a).run Tryz.prog w = .ok (.enter fn a) w)
    (hr : ∀ (X : List HA) (w' : World), St w M w' (X ++ (Lb ++ arP ga x a)) → Rd w' v 1 m ws) (hw : ws.length = m) (hrs : rs.length = m) (hm : m ≤ 10) (h1c : ws.all (·.oneCell') = true)
    (hp : ∀ (X : List HA) (j : Nat) (f : Value) (e : Int), ws[j]? = some f → rs[j]? = some e → (∀ i < j, rs.getD i 0 = 0) → Probe f e (fun w' => St w M w' (X ++ (Lb ++ arP ga x a))) (fun w' => St w M w' (X ++ (Lb ++ arP ga x a))))
    (hin : firstE rs = 0 → a.inD dev = true) (hE : ∀ e ∈ rs, e = 0 ∨ isE e)
    (hD : firstE rs = 0 → (a.dv dev).gone = false → ∀ (X : List HA) (w' : World), St w M w' (X ++ (Lb ++ arP ga x a)) → Calls Tryz.prog fn (List.toArray (.pointer (some ⟨x.gd, dev.toNat * 5, none⟩) :: cap)) w' fun e w'' => e = .returned (.tuple #[]) ∧ ∃ x', St w M w'' (X ++ (Lb ++ arP ga x' a'))) (h1 : firstE rs = 0) (h2 : (a.dv dev).gone = false) :
    Calls Tryz.prog 37 #[.pointer (some ⟨ga, 0, none⟩), .int .i64 dev, .func (.func fn) #[] (List.toArray cap), v] w fun e w' => e = .returned (.int .i64 (0)) ∧ ∃ X x', St w M w' (X ++ (Lb ++ arP ga x' a')) := by
  have hst0 : St w M w ([] ++ (Lb ++ arP ga x a)) := hS
  have HR := hid hr
  have HW := hid hw
  have HRS := hid hrs
  have HP := hid hp
  have HIN := hid hin
  have HDD := hid hD
  have H1 := hid h1
  have OK := hid ok
  have H1C := hid h1c
  have hmf := rmf
  have hin2 := hin h1
  obtain ⟨k, rfl⟩ : ∃ k : Nat, dev = k := ⟨dev.toNat, by have := (inD_dev hin2).1; omega⟩
  have hlt : k < a.devs.length := by have := (inD_dev hin2).2; omega
  have HI2 := hid hin2
  clear hin2
  have H2 := hid h2
  have HG : Hid (orE (!(a.dv (k : Int)).gone) 14 = 0) := hid (by rw [h2]; rfl)
  clear hr hw hrs hp hin hD h1 ok hE h1c hS h2
  go_enter Tryz.func37, Tryz.ntmps37
  go_wp2_with (first | go_big_skip | go_big_guard | (apply wl_bsX ([methV 46 (ptrV ga)]) ([methV 46 (ptrV ga)]) hst0; rfl; rfl; exact rfl; exact rfl; infer_instance; infer_instance; rfl; rfl; rfl; intro g1 w1 hst1; clear hst0; have hst2 : St w M w1 (.row (.slice (some ⟨g1, 0, none⟩) 1 1) 92 1 1 [methV 46 (ptrV ga)] :: (Lb ++ arP ga x a)) := St.toRow (n := 1) (cap := 1) (sz := 1) hst1 rfl (Nat.le_refl _) (by decide); clear hst1) | (apply wl_appX (m := m) (ys := ws) [] hst2; rfl; rfl; exact rfl; exact rfl; infer_instance; infer_instance; infer_instance; exact HR.out [_] _ hst2; exact H1C.out; (refine ⟨by decide, by unfold maxLen; omega, by omega⟩); intro v1 w2 hst3 _; clear hst2) | (go_at_call 89; refine (isHere_any ga (k : Int) _).mono ?_; rintro _ w4 ⟨k0, k1, rfl, h4⟩; have hst4 := St.call hst3 h4; clear h4 hst3) | (apply wl_bsX ([cloV 139 [ptrV k0, ptrV k1]]) ([cloV 139 [ptrV k0, ptrV k1]]) hst4; rfl; rfl; exact rfl; exact rfl; infer_instance; infer_instance; rfl; rfl; rfl; intro gb w5 hst5; clear hst4) | (apply wl_appX (m := 1) (ys := [cloV 139 [ptrV k0, ptrV k1]]) [_, _, _] hst5; rfl; rfl; exact rfl; exact rfl; infer_instance; infer_instance; infer_instance; exact Rd.blk (n := 1) hst5 (.head _) (Nat.le_refl _) (by decide) rfl rfl; rfl; (refine ⟨by decide, by unfold maxLen; omega, by omega⟩); intro v2 w6 hst6 _; clear hst5) | (go_at_call 45; have hC := checks_any (k : Int) (v := v2) (n := 1 + m + 1) (fs := methV 46 (ptrV ga) :: ws) (f9 := cloV 139 [ptrV k0, ptrV k1]) (es := 0 :: rs) (e9 := orE (!(a.dv ((k : Int))).gone) 14) (A := fun w' => St w M w' (([HA.blk gb 92 [cloV 139 [ptrV k0, ptrV k1]], .blk k1 3 [.int .i64 (k : Int)], .blk k0 23 [.pointer (some ⟨ga, 0, none⟩)], .row v2 92 1 (1 + m + 1) (([methV 46 (ptrV ga)] ++ ws) ++ [cloV 139 [ptrV k0, ptrV k1]])] : List HA) ++ (Lb ++ arP ga x a))) (B := fun w' => St w M w' (([HA.blk gb 92 [cloV 139 [ptrV k0, ptrV k1]], .blk k1 3 [.int .i64 (k : Int)], .blk k0 23 [.pointer (some ⟨ga, 0, none⟩)], .row v2 92 1 (1 + m + 1) (([methV 46 (ptrV ga)] ++ ws) ++ [cloV 139 [ptrV k0, ptrV k1]])] : List HA) ++ (Lb ++ arP ga x a))) _ (fun _ h => Rd.row h (.tail _ (.tail _ (.tail _ (.head _))))) (by rw [List.length_cons, List.length_cons, HW.out, HRS.out]) (by rw [List.length_cons, HW.out]; omega) (by omega) (fun j f e hf he hz => (match j, hf, he, hz with | 0, hf, he, _ => (by cases hf; cases he; exact probe_made (fun _ h => ArrAt.of h (fun p hp => List.mem_append_right _ (List.mem_append_right _ hp)) OK.out.d0) keeps_st) | j + 1, hf, he, hz => HP.out _ j f e (by simpa using hf) (by simpa using he) (getD_cons0 hz))) (fun hz => probe_isHere (fun _ h => ArrAt.of h (fun p hp => List.mem_append_right _ (List.mem_append_right _ hp)) OK.out.d0) keeps_st (HIN.out (by rw [← firstE_cons0]; exact firstE_zero hz)) (fun _ h => St.cell h (off := 0) (.tail _ (.tail _ (.head _))) rfl) (fun _ h => St.cell h (off := 0) (.tail _ (.head _)) rfl)) hst6; rw [HG.out] at hC; refine hC.mono ?_; rintro _ w8 hh; obtain ⟨rfl, h4⟩ := checks_fine (by rw [firstE_cons0]; exact H1.out) hh; clear hC hh hst6; have hst7 := h4; clear h4) | (refine wl_loadE rfl rfl rfl ?_; refine ⟨_, Loads.cell (T := 106) TyS.out (St.cell hst7 (off := 0) (g := ga) (T := 109) (cs := arrC x a) (List.mem_append_right _ (List.mem_append_right _ (.head _))) rfl), ?_⟩) | (refine wl_index (k := k) rfl rfl rfl rfl hlt ?_) | ((refine (HDD.out H1.out H2.out _ _ hst7).mono ?_); rintro _ w9 ⟨rfl, x', h4⟩; have hst8 := h4; clear h4 hst7))
  go_ret
  exact ⟨rfl, _, _, hst8⟩
theorem arr_in {w0 w : World} {M : List Nat} {X : List HA} {ga : Nat} {x : GA} {a : AR} (h : St w0 M w (X ++ arP ga x a)) : St w (arF ga x a) w (arP ga x a) := (St.sub h (List.sublist_append_right _ _)).selfF
theorem arr_out {w0 w w' : World} {M : List Nat} {X : List HA} {ga : Nat} {x x' : GA} {a a' : AR} (h : St w0 M w (X ++ arP ga x a)) (h4 : St w (arF ga x a) w' (arP ga x' a')) : St w0 M w' (X ++ arP ga x' a') :=
  St.perm (St.callF (arP ga x a) (St.perm h List.perm_append_comm) h4) List.perm_append_comm
theorem arr_off {w0 w : World} {M : List Nat} {X : List HA} {ga : Nat} {x : GA} {a : AR} (h : St w0 M w (X ++ arP ga x a)) {g : Nat} {T : TypeId} {cs : List Value} (hm : HA.blk g T cs ∈ X) : g ∉ arF ga x a := by
  intro hF
  have hap := h.apart
  unfold Apart at hap
  rw [List.pairwise_append] at hap
  obtain ⟨y, hy, hk⟩ := List.mem_filterMap.1 hF
  exact hap.2.2 _ hm y hy g rfl hk
theorem befallsE_any {w : World} {M : List Nat} {Lb : List HA} {ga : Nat} {x : GA} {a : AR} (hS : St w M w (Lb ++ arP ga x a)) (ok : a.Ok) (dev : Int) (fn : Nat) (cap : List Value) (v : Value) (m : Nat) (ws : List Value) (rs : List Int) (a' : AR)
    (hfn : ∀ (a : Array Value) (w : World), (callFunc fn a).run Tryz.prog w = .ok (.enter fn a) w)
    (hr : ∀ (X : List HA) (w' : World), St w M w' (X ++ (Lb ++ arP ga x a)) → Rd w' v 1 m ws) (hw : ws.length = m) (hrs : rs.length = m) (hm : m ≤ 10) (h1c : ws.all (·.oneCell') = true)
    (hp : ∀ (X : List HA) (j : Nat) (f : Value) (e : Int), ws[j]? = some f → rs[j]? = some e → (∀ i < j, rs.getD i 0 = 0) → Probe f e (fun w' => St w M w' (X ++ (Lb ++ arP ga x a))) (fun w' => St w M w' (X ++ (Lb ++ arP ga x a))))
    (hin : firstE rs = 0 → a.inD dev = true) (hE : ∀ e ∈ rs, e = 0 ∨ isE e)
    (hD : firstE rs = 0 → (a.dv dev).gone = false → ∀ (w' : World), (∀ (g : Nat) (T : TypeId) (cs : List Value), HA.blk g T cs ∈ Lb → w'.heap[g]? = some (.cells cs.toArray T (0, 0)) ∧ g ∉ arF ga x a) → St w' (arF ga x a) w' (arP ga x a) →
      Calls Tryz.prog fn (List.toArray (.pointer (some ⟨x.gd, dev.toNat * 5, none⟩) :: cap)) w' fun e w'' => e = .returned (.tuple #[]) ∧ ∃ x', St w' (arF ga x a) w'' (arP ga x' a')) :
    Calls Tryz.prog 37 #[.pointer (some ⟨ga, 0, none⟩), .int .i64 dev, .func (.func fn) #[] (List.toArray cap), v] w fun e w' => e = .returned (.int .i64 (a.fellE dev rs)) ∧ ∃ X x', St w M w' (X ++ (Lb ++ arP ga x' (if a.fellE dev rs = 0 then a' else a))) := by
  have hD' : firstE rs = 0 → (a.dv dev).gone = false → ∀ (X : List HA) (w' : World), St w M w' (X ++ (Lb ++ arP ga x a)) → Calls Tryz.prog fn (List.toArray (.pointer (some ⟨x.gd, dev.toNat * 5, none⟩) :: cap)) w' fun e w'' => e = .returned (.tuple #[]) ∧ ∃ x', St w M w'' (X ++ (Lb ++ arP ga x' a')) := by
    intro h1 h2 X w' h
    rw [← List.append_assoc] at h
    refine (hD h1 h2 w' (fun g T cs hm => ⟨h.all (.blk g T cs) (List.mem_append_left _ (List.mem_append_right _ hm)), arr_off h (List.mem_append_right _ hm)⟩) (arr_in h)).mono ?_
    rintro _ w'' ⟨rfl, x', h4⟩
    have h5 := arr_out h h4
    rw [List.append_assoc] at h5
    exact ⟨rfl, x', h5⟩
  have hD0 : firstE rs = 0 → (a.dv dev).gone = true → False → ∀ (X : List HA) (w' : World), True := fun _ _ _ _ _ => trivial
  unfold AR.fellE
  rw [firstE_snoc]
  by_cases h1 : firstE rs = 0
  · rw [if_pos h1]
    cases h2 : (a.dv dev).gone
    · rw [if_pos (by decide)]
      exact befallsE_fine hS ok dev fn cap v m ws rs hfn hr hw hrs hm h1c hp hin hE hD' h1 h2
    · rw [if_neg (by decide)]
      refine (befalls_gone (x' := x) (a' := a) hS ok dev fn cap v m ws rs hfn hr hw hrs hm h1c hp hin hE (fun _ h3 => absurd h3 (by rw [h2]; decide)) h1 h2).mono ?_
      rintro _ w' ⟨rfl, X, h4⟩
      exact ⟨rfl, X, x, h4⟩
  · rw [if_neg h1, if_neg h1]
    refine (befalls_bad (x' := x) (a' := a) hS ok dev fn cap v m ws rs hfn hr hw hrs hm h1c hp hin hE (fun h3 => absurd h3 h1) h1).mono ?_
    rintro _ w' ⟨rfl, X, h4⟩
    exact ⟨rfl, X, x, h4⟩
def fGone : DV → DV := fun d => { d with gone := true }
def AR.pull (a : AR) (dev : Int) : AR := if a.fellE dev [orE (a.inD dev) 5] = 0 then (a.upd dev fGone).rest dev.toNat else a
def AR.pullE (a : AR) (dev : Int) : Int := a.fellE dev [orE (a.inD dev) 5]
theorem AR.Ok.rest {a : AR} (ok : a.Ok) (k : Nat) : (a.rest k).Ok := ok.loose fun w hw => ok.lw w (List.mem_filter.1 hw).1
theorem fellE_in {a : AR} {dev : Int} {rs : List Int} {e : Int} (he : e ≠ 0) {b : Bool} (hb : orE b e ∈ rs) (h : a.fellE dev rs = 0) : b = true := by
  unfold AR.fellE at h
  exact orE_zero he (firstE_all h _ (List.mem_append_left _ hb))
theorem AR.Ok.pull {a : AR} (ok : a.Ok) (dev : Int) : (a.pull dev).Ok := by
  unfold AR.pull
  split
  · rename_i h
    have hin : a.inD dev = true := fellE_in (by decide) (.head _) h
    have hf := ok.dv hin
    exact (ok.upd (f := fGone) hin ⟨hf.1, hf.2.1, hf.2.2.1, hf.2.2.2⟩).rest _
  · exact ok
theorem pull1_any {w : World} {ga : Nat} {x : GA} {a : AR} {k gA gB : Nat} (hS : St w (arF ga x a) w (arP ga x a)) (ok : a.Ok) (hll : a.loose.length < 1000000) (hin : a.inD (k : Int) = true)
    (hA : w.cell? ⟨gA, 0, none⟩ = some (.pointer (some ⟨ga, 0, none⟩))) (hA2 : gA ∉ arF ga x a) (hB : w.cell? ⟨gB, 0, none⟩ = some (.int .i64 (k : Int))) (hB2 : gB ∉ arF ga x a) :
    Calls Tryz.prog 38 #[.pointer (some ⟨x.gd, k * 5, none⟩), ptrV gA, ptrV gB] w fun e w' => e = .returned (.tuple #[]) ∧ ∃ x', St w (arF ga x a) w' (arP ga x' ((a.upd (k : Int) fGone).rest k)) := by
  obtain ⟨a1, ha1⟩ : ∃ a1, a1 = a.upd (k : Int) fGone := ⟨_, rfl⟩
  have HPUT := hid (devC_put (rest := x.rest) (f := fGone) (v := .bool true) hin (i := 1) (by decide) rfl)
  have HL := hid (List.getElem?_eq_some_iff.1 (devC_get (rest := x.rest) hin (i := 1) rfl (by decide))).1
  replace HL : Hid (k * 5 + 1 + 1 ≤ (devC a ++ x.rest).length) := HL
  have hf := ok.dv hin
  have HOK : Hid a1.Ok := hid (by rw [ha1]; exact ok.upd (f := fGone) hin ⟨hf.1, hf.2.1, hf.2.2.1, hf.2.2.2⟩)
  have HLL : Hid (a1.loose.length < 1000000) := hid (by rw [ha1]; exact hll)
  have HP : Hid (arP ga x a1 = .blk ga 109 (arrC x a) :: .blk x.gd 89 (devC a1 ++ x.rest) :: .row x.lv 149 258 a.loose.length (looC a) :: a.devs.map (fun d => .blk d.g 144 (secsV d.firm))) := hid (by rw [ha1]; exact arP_upd ga x a (k : Int) (fun d => ⟨rfl, rfl⟩))
  rw [← ha1] at HPUT
  rw [← ha1]
  have HA := hid hA
  have HA2 := hid hA2
  have HB := hid hB
  have HB2 := hid hB2
  have hst0 := hS
  clear hin hf ha1 hA hA2 hB hB2 ok hS hll
  unfold ptrV
  go_enter Tryz.func38, Tryz.ntmps38
  go_wp2_with (first | go_big_skip | go_big_guard | (refine wl_store [_] hst0 rfl rfl rfl (v := .bool _) rfl rfl rfl HL.out ?_; intro w3 hs3; clear hst0; have hs4 : St w (arF ga x a) w3 (arP ga x a1) := (by rw [HP.out, ← HPUT.out]; exact hs3); clear hs3) | (refine wl_loadE rfl rfl rfl ?_; first | refine ⟨_, Loads.oldM hs4 HA.out HA2.out, ?_⟩ | refine ⟨_, Loads.oldM hs4 HB.out HB2.out, ?_⟩) | (go_at_call 39; refine (drop_any hs4.selfF HOK.out HLL.out k).mono ?_; rintro _ w5 ⟨rfl, lv9, h4⟩; have hs5 := St.thenF hs4 h4; clear h4 hs4))
  go_end0
  exact ⟨rfl, _, hs5⟩
end Go.Proofs.YtmdfbdfijnmhkaaGreat
namespace Go.Proofs.YtmdfbdfijnmhkaaGreat
set_option linter.unusedVariables false
set_option linter.unusedSimpArgs false
open Go.RowKit Hp
attribute [local irreducible] Go.Calls Go.wpList
set_option maxRecDepth 100000
set_option maxHeartbeats 4000000
section
attribute [local go_sem ↓] loadedPA loadedIn
theorem pullM_any {w : World} {ga : Nat} {x : GA} {a : AR} (hS : St w (arF ga x a) w (arP ga x a)) (ok : a.Ok) (hll : a.loose.length < 1000000) (dev : Int) :
    Calls Tryz.prog 14 #[.pointer (some ⟨ga, 0, none⟩), .int .i64 dev] w fun e w' => e = .returned (.int .i64 (a.pullE dev)) ∧ ∃ x', St w (arF ga x a) w' (arP ga x' (a.pull dev)) := by
  have hst0 := hS
  have OK := hid ok
  have HLL := hid hll
  have hmf := rmf
  clear hS ok hll
  go_enter Tryz.func14, Tryz.ntmps14
  go_wp2_with (first | go_big_skip | go_big_guard | (refine wl_box hst0 rfl rfl rfl ?_; intro g3 w1 hst1; clear hst0) | (refine wl_box hst1 rfl rfl rfl ?_; intro g4 w2 hst2; clear hst1))
  have hX := hst2.drew
  clear hst2
  refine wp_region_held_drew (S := (fun w' => (loadVarH 3 ⟨g4, 0, none⟩).run Tryz.prog w' = .ok (.int .i64 dev) w' ∧ (loadVarH 23 ⟨g3, 0, none⟩).run Tryz.prog w' = .ok (.pointer (some ⟨ga, 0, none⟩)) w')) (by kernel_rfl) (by exact ⟨ldS [] hX rfl, ldS [_] hX rfl⟩) (fun hHeld => ?_)
  refine tkH 0 5 ?_ rfl (by kernel_rfl) (fun _ _ _ h => h) (by rfl) (by assumption) ?_ ?_
  rotate_left
  · intro w hSw; (try dsimp only at hSw); go_simp; try with_reducible rfl
  (try simp only [pmL, pnL, sc0, sc1])
  refine tkH 1 6 ?_ rfl (by kernel_rfl) (fun _ _ _ h => h) (by rfl) (by assumption) ?_ ?_
  rotate_left
  · intro w hSw; (try dsimp only at hSw); go_simp; try with_reducible rfl
  (try simp only [pmL, pnL, sc0, sc1])
  refine tkH 2 7 ?_ rfl (by kernel_rfl) (fun _ _ _ h => h) (by rfl) (by assumption) ?_ ?_
  rotate_left
  · intro w hSw; (try dsimp only at hSw); go_simp; try with_reducible rfl
  (try simp only [pmL, pnL, sc0, sc1])
  refine tkH 3 8 ?_ rfl (by kernel_rfl) (fun _ _ _ h => h) (by rfl) (by assumption) ?_ ?_
  rotate_left
  · intro w hSw; (try dsimp only at hSw); go_simp; try with_reducible rfl
  (try simp only [pmL, pnL, sc0, sc1])
  refine tkH 4 9 ?_ rfl (by kernel_rfl) (fun _ _ _ h => h) (by rfl) (by assumption) ?_ ?_
  rotate_left
  · intro w hSw; (try dsimp only at hSw); go_simp; try with_reducible rfl
  (try simp only [pmL, pnL, sc0, sc1])
  refine wpAnyH_ready (rs := [5]) (by kernel_rfl) (by simp) ?_
  refine (AllReadyH.cons (o := ⟨some 10, _, _, _, _, _⟩) rfl (fun K hK => ?_) AllReadyH.nil)
  rw [if_pos (by rfl)]
  go_simp
  go_at_call 40
  refine (isDevice_any ga dev _).mono ?_
  rintro _ w3 ⟨g0, g1, rfl, h4⟩
  have hA1 := St.call hX h4
  clear h4
  refine hK.out _ _ ?_ (fun hHeld => ?_)
  · exact ⟨ldS [_, _] hA1 rfl, ldS [_, _, _] hA1 rfl⟩
  clear hK K
  (try simp only [pmL, pnL, sc0, sc1])
  refine wpAnyH_ready (rs := [6]) (by kernel_rfl) (by simp) ?_
  refine (AllReadyH.cons (o := ⟨some 11, _, _, _, _, _⟩) rfl (fun K hK => ?_) AllReadyH.nil)
  rw [if_pos (by rfl)]
  refine ow_of_wl (ops := #[]) (by rfl) ?_
  apply wl_bsX ([cloV 93 [ptrV g0, ptrV g1]]) ([cloV 93 [ptrV g0, ptrV g1]]) hA1
  rfl
  rfl
  exact rfl
  exact rfl
  infer_instance
  infer_instance
  rfl
  rfl
  rfl
  intro gs w5 hA3
  refine q0_nil ?_
  refine hK.out _ _ ?_ (fun hHeld => ?_)
  · exact ⟨ldS [_, _, _] hA3 rfl, ldS [_, _, _, _] hA3 rfl⟩
  clear hK K
  (try simp only [pmL, pnL, sc0, sc1])
  refine wpAnyH_ready (rs := [7]) (by kernel_rfl) (by simp) ?_
  refine (AllReadyH.cons (o := ⟨some 12, _, _, _, _, _⟩) rfl (fun K hK => ?_) AllReadyH.nil)
  rw [if_pos (by rfl)]
  go_simp
  go_at_call 37
  have hQ := St.selfF (L := ([HA.blk gs 92 [cloV 93 [ptrV g0, ptrV g1]], .blk g1 3 [.int .i64 dev], .blk g0 23 [.pointer (some ⟨ga, 0, none⟩)], .blk g4 3 [.int .i64 dev], .blk g3 23 [.pointer (some ⟨ga, 0, none⟩)]] : List HA) ++ arP ga x a) hA3
  refine (befallsE_any hQ OK.out dev 38 [ptrV g3, ptrV g4] (.slice (some ⟨gs, 0, none⟩) 1 1) 1 [cloV 93 [ptrV g0, ptrV g1]] [orE (a.inD dev) 5] ((a.upd dev fGone).rest dev.toNat) (fun _ _ => rfl) (fun X w' h => Rd.blk h (List.mem_append_right _ (.head _)) (Nat.le_refl _) (by decide) rfl rfl) rfl rfl (by decide) rfl (fun X j f e hf he _ => (match j, hf, he with | 0, hf, he => (by cases hf; cases he; exact probe_isDevice (fun _ h => ArrAt.of h (fun p hp => List.mem_append_right _ (List.mem_append_right _ hp)) OK.out.d0) keeps_st (fun _ h => St.cell h (off := 0) (List.mem_append_right _ (.tail _ (.tail _ (.head _)))) rfl) (fun _ h => St.cell h (off := 0) (List.mem_append_right _ (.tail _ (.head _))) rfl)) | j + 1, hf, _ => (by simp at hf))) (fun h => orE_zero (by decide) (firstE_all h _ (.head _))) (fun e he => (by simp only [List.mem_cons, List.not_mem_nil, or_false] at he; rcases he with rfl; exact orE_isE _ _ (by unfold isE; decide))) (fun h1 _ w' hb h9 => (by have hin : a.inD dev = true := orE_zero (by decide) (firstE_all h1 _ (.head _)); obtain ⟨k, rfl⟩ : ∃ k : Nat, dev = k := ⟨dev.toNat, by have := (inD_dev hin).1; omega⟩; exact pull1_any h9 OK.out HLL.out hin (cell_blk (hb g3 _ _ (.tail _ (.tail _ (.tail _ (.tail _ (.head _)))))).1) (hb g3 _ _ (.tail _ (.tail _ (.tail _ (.tail _ (.head _)))))).2 (cell_blk (hb g4 _ _ (.tail _ (.tail _ (.tail _ (.head _))))).1) (hb g4 _ _ (.tail _ (.tail _ (.tail _ (.head _))))).2))).mono ?_
  rintro _ w9 ⟨rfl, X, x', h4⟩
  have hA4 := St.thenF (L := ([HA.blk gs 92 [cloV 93 [ptrV g0, ptrV g1]], .blk g1 3 [.int .i64 dev], .blk g0 23 [.pointer (some ⟨ga, 0, none⟩)], .blk g4 3 [.int .i64 dev], .blk g3 23 [.pointer (some ⟨ga, 0, none⟩)]] : List HA) ++ arP ga x a) hA3 h4
  clear h4 hQ
  refine hK.out _ _ ?_ (fun hHeld => ?_)
  · exact ⟨Loads.cell TyS.out (St.cell hA4 (off := 0) (List.mem_append_right _ (.tail _ (.tail _ (.tail _ (.head _))))) rfl), Loads.cell TyS.out (St.cell hA4 (off := 0) (List.mem_append_right _ (.tail _ (.tail _ (.tail _ (.tail _ (.head _)))))) rfl)⟩
  clear hK K
  (try simp only [pmL, pnL, sc0, sc1])
  refine tkH 8 4 ?_ rfl (by kernel_rfl) (fun _ _ _ h => h) (by rfl) (by assumption) ?_ ?_
  rotate_left
  · intro w hSw; (try dsimp only at hSw); go_simp; try with_reducible rfl
  (try simp only [pmL, pnL, sc0, sc1])
  refine wpAnyH_done (by kernel_rfl) ?_ _
  clear hHeld
  go_wp2_with (first | go_big_skip | go_big_guard | fail)
  go_ret
  exact ⟨rfl, x', St.sub hA4 (.trans (List.sublist_append_right _ _) (List.sublist_append_right _ _))⟩
end
end Go.Proofs.YtmdfbdfijnmhkaaGreat
namespace Go.Proofs.YtmdfbdfijnmhkaaGreat
set_option linter.unusedVariables false
set_option linter.unusedSimpArgs false
open Go.RowKit Hp
attribute [local irreducible] Go.Calls Go.wpList
set_option maxRecDepth 100000
set_option maxHeartbeats 4000000
theorem flat_putAll {α : Type} {f : α → List Value} {sz : Nat} {l : List α} {k : Nat} {d' : α} (hf : ∀ d, (f d).length = sz) (h : k < l.length) (rest : List Value) : putAt (l.flatMap f ++ rest) (k * sz) (f d') = (l.set k d').flatMap f ++ rest := by
  rw [putAt_many, hf]
  induction l generalizing k with
  | nil => simp at h
  | cons q l ih =>
    have hq := hf q
    cases k with
    | zero =>
      rw [List.set_cons_zero, List.flatMap_cons, List.flatMap_cons, Nat.zero_mul, List.take_zero, List.nil_append, Nat.zero_add, List.append_assoc, List.drop_append, List.drop_of_length_le (by omega), List.nil_append, hq, Nat.sub_self, List.drop_zero, List.append_assoc]
    | succ k =>
      have := ih (k := k) (by simpa using h)
      rw [List.set_cons_succ, List.flatMap_cons, List.flatMap_cons, List.append_assoc, List.append_assoc, ← this, show (k + 1) * sz = sz + k * sz by rw [Nat.add_mul]; omega, List.take_append, List.take_of_length_le (by omega), hq, show sz + k * sz - sz = k * sz by omega, List.append_assoc]
      congr 3
      rw [List.drop_append, List.drop_of_length_le (by omega), List.nil_append, hq, show sz + k * sz + sz - sz = k * sz + sz by omega]
theorem devC_all {a : AR} {k : Nat} (h : a.inD (k : Int) = true) (d' : DV) (rest : List Value) : putAt (devC a ++ rest) (k * 5) d'.cells = devC (a.upd (k : Int) fun _ => d') ++ rest := by
  have hlt : k < a.devs.length := by have := (inD_dev h).2; omega
  unfold devC
  rw [flat_putAll (f := DV.cells) (sz := 5) (fun d => rfl) hlt]
  congr 2
  apply List.ext_getElem?
  intro j
  unfold AR.upd
  rw [modify_get, List.getElem?_set, Int.toNat_natCast]
  by_cases hj : k = j
  · subst hj
    rw [if_pos rfl, if_pos rfl, if_pos hlt, List.getElem?_eq_getElem hlt]
    rfl
  · rw [if_neg hj, if_neg hj]
def AR.fitE (a : AR) (dev : Int) : Int := orE (a.inD dev) 5
def AR.fit (a : AR) (dev : Int) (g : Nat) : AR := if a.inD dev then (a.rest dev.toNat).upd dev (fun _ => blank a.secs g) else a
theorem AR.Ok.fit {a : AR} (ok : a.Ok) (dev : Int) (g : Nat) : (a.fit dev g).Ok := by
  unfold AR.fit
  split
  · rename_i h
    refine (ok.rest dev.toNat).upd (f := fun _ => blank a.secs g) h ⟨blank_firm _ _, fun t ht => ?_, fun h => by simp [blank] at h, by simp [blank], by simp [blank]⟩
    rw [(List.mem_replicate.1 ht).2, List.length_replicate]
  · exact ok
section
attribute [local go_sem ↓] loadedSD
theorem fit_bad {w : World} {ga : Nat} {x : GA} {a : AR} (hS : St w (arF ga x a) w (arP ga x a)) (ok : a.Ok) (hll : a.loose.length < 1000000) (dev : Int) (h1 : a.inD dev = false) :
    Calls Tryz.prog 16 #[.pointer (some ⟨ga, 0, none⟩), .int .i64 dev] w fun e w' => e = .returned (.int .i64 (a.fitE dev)) ∧ ∃ x' g, St w (arF ga x a) w' (arP ga x' (a.fit dev g)) := by
  have he : a.fitE dev = 5 := by unfold AR.fitE; rw [h1]; rfl
  have hc : ∀ g, a.fit dev g = a := fun g => by unfold AR.fit; rw [h1]; rfl
  rw [he]
  have HC := hid hc
  have HE : Hid (orE (a.inD dev) 5 = 5) := hid (by rw [h1]; rfl)
  have OK := hid ok
  have hst0 := hS
  have hmf := rmf
  clear he hc h1 ok hS
  go_enter Tryz.func16, Tryz.ntmps16
  go_wp2_with (first | go_big_skip | go_big_guard | (go_at_call 40; refine (isDevice_any ga dev _).mono ?_; rintro _ w2 ⟨g0, g1, rfl, h4⟩; have hst2 := St.call hst0 h4; clear h4 hst0) | (apply wl_bsX ([methV 46 (ptrV ga), cloV 93 [ptrV g0, ptrV g1]]) ([methV 46 (ptrV ga), cloV 93 [ptrV g0, ptrV g1]]) hst2; rfl; rfl; exact rfl; exact rfl; infer_instance; infer_instance; rfl; rfl; rfl; intro gs w3 hst3; clear hst2) | (go_at_call 45; have hC := checks_any dev (v := .slice (some ⟨gs, 0, none⟩) 2 2) (n := 2) (fs := [methV 46 (ptrV ga)]) (f9 := cloV 93 [ptrV g0, ptrV g1]) (es := [0]) (e9 := orE (a.inD dev) 5) (A := (fun w' => St w (arF ga x a) w' (([HA.blk gs 92 [methV 46 (ptrV ga), cloV 93 [ptrV g0, ptrV g1]], .blk g1 3 [.int .i64 dev], .blk g0 23 [.pointer (some ⟨ga, 0, none⟩)]] : List HA) ++ arP ga x a))) (B := (fun w' => St w (arF ga x a) w' (([HA.blk gs 92 [methV 46 (ptrV ga), cloV 93 [ptrV g0, ptrV g1]], .blk g1 3 [.int .i64 dev], .blk g0 23 [.pointer (some ⟨ga, 0, none⟩)]] : List HA) ++ arP ga x a))) _ (fun _ h => Rd.blk h (.head _) (Nat.le_refl _) (by decide) rfl rfl) rfl rfl (by decide) (fun j f e hf he _ => (match j, hf, he with | 0, hf, he => (by cases hf; cases he; exact probe_made (fun _ h => ArrAt.of h (fun p hp => List.mem_append_right _ hp) OK.out.d0) keeps_st) | j + 1, hf, _ => (by simp at hf))) (fun _ => probe_isDevice (fun _ h => ArrAt.of h (fun p hp => List.mem_append_right _ hp) OK.out.d0) keeps_st (fun _ h => St.cell h (off := 0) (.tail _ (.tail _ (.head _))) rfl) (fun _ h => St.cell h (off := 0) (.tail _ (.head _)) rfl)) hst3; rw [HE.out] at hC; refine hC.mono ?_; rintro _ w5 hh; obtain ⟨rfl, h4⟩ := checks_last (rfl : firstE [0] = 0) (by decide) hh; clear hC hh hst3; have hst4 := h4; clear h4) | (go_at_call 47; refine (number_isE 5 dev (by unfold isE; decide) (by decide) _).mono ?_; rintro _ w6 ⟨rfl, h4⟩; have hst6 := St.call0 hst4 h4; clear h4 hst4))
  go_ret
  refine ⟨rfl, x, 0, ?_⟩
  rw [HC.out]
  exact St.sub hst6 (List.sublist_append_right _ _)
theorem fit_fine {w : World} {ga : Nat} {x : GA} {a : AR} (hS : St w (arF ga x a) w (arP ga x a)) (ok : a.Ok) (hll : a.loose.length < 1000000) (k : Nat) (h1 : a.inD (k : Int) = true) :
    Calls Tryz.prog 16 #[.pointer (some ⟨ga, 0, none⟩), .int .i64 (k : Int)] w fun e w' => e = .returned (.int .i64 (a.fitE (k : Int))) ∧ ∃ x' g, St w (arF ga x a) w' (arP ga x' (a.fit (k : Int) g)) := by
  have he : a.fitE (k : Int) = 0 := by unfold AR.fitE; rw [h1]; rfl
  have hc : ∀ g, a.fit (k : Int) g = (a.rest k).upd (k : Int) (fun _ => blank a.secs g) := fun g => by unfold AR.fit; rw [h1]; rfl
  rw [he]
  have HC := hid hc
  have HE : Hid (orE (a.inD (k : Int)) 5 = 0) := hid (by rw [h1]; rfl)
  have OK := hid ok
  have hst0 := hS
  have hmf := rmf
  obtain ⟨a2, ha2⟩ : ∃ a2, a2 = a.rest k := ⟨_, rfl⟩
  have hin2 : a2.inD (k : Int) = true := by rw [ha2]; exact h1
  have hsn : a2.secs ≤ 4096 := by rw [ha2]; exact ok.sn
  have hlt : k < a2.devs.length := by have := (inD_dev hin2).2; omega
  have HIN2 := hid hin2
  have HOK2 : Hid a2.Ok := hid (by rw [ha2]; exact ok.rest k)
  have HDR : Hid (∀ (M : List Nat) (w' : World), St w M w' (arP ga x a) → Calls Tryz.prog 39 #[.pointer (some ⟨ga, 0, none⟩), .int .i64 (k : Int)] w' fun e w'' => e = .returned (.tuple #[]) ∧ ∃ lv, St w M w'' (arP ga ⟨x.gd, x.cd, x.rest, lv⟩ a2)) := hid (fun M w' h => (drop_any h.selfF ok hll k).mono fun e w'' hh => ⟨hh.1, by obtain ⟨lv, h4⟩ := hh.2; rw [ha2]; exact ⟨lv, St.thenF h h4⟩⟩)
  have HC2 : Hid (∀ g, a.fit (k : Int) g = a2.upd (k : Int) (fun _ => blank a2.secs g)) := hid (fun g => by rw [hc, ha2]; rfl)
  have HALL : Hid (∀ g rest, putAt (devC a2 ++ rest) (k * 5) (blank a2.secs g).cells = devC (a2.upd (k : Int) fun _ => blank a2.secs g) ++ rest) := hid (fun g rest => devC_all hin2 _ rest)
  have HFS : Hid (a2.devs.map blkD = (a2.devs.take k).map blkD ++ blkD (a2.dv (k : Int)) :: (a2.devs.drop (k + 1)).map blkD) := hid (devs_split0 hin2)
  have HFS2 : Hid (∀ g, (a2.upd (k : Int) fun _ => blank a2.secs g).devs.map blkD = (a2.devs.take k).map blkD ++ blkD (blank a2.secs g) :: (a2.devs.drop (k + 1)).map blkD) := hid (fun g => devs_split hin2 _)
  clear hin2 ha2
  clear he hc h1 ok hS hll
  go_enter Tryz.func16, Tryz.ntmps16
  go_wp2_with (first | go_big_skip | go_big_guard | (go_at_call 40; refine (isDevice_any ga (k : Int) _).mono ?_; rintro _ w2 ⟨g0, g1, rfl, h4⟩; have hst2 := St.call hst0 h4; clear h4 hst0) | (apply wl_bsX ([methV 46 (ptrV ga), cloV 93 [ptrV g0, ptrV g1]]) ([methV 46 (ptrV ga), cloV 93 [ptrV g0, ptrV g1]]) hst2; rfl; rfl; exact rfl; exact rfl; infer_instance; infer_instance; rfl; rfl; rfl; intro gs w3 hst3; clear hst2) | (go_at_call 45; have hC := checks_any (k : Int) (v := .slice (some ⟨gs, 0, none⟩) 2 2) (n := 2) (fs := [methV 46 (ptrV ga)]) (f9 := cloV 93 [ptrV g0, ptrV g1]) (es := [0]) (e9 := orE (a.inD (k : Int)) 5) (A := (fun w' => St w (arF ga x a) w' (([HA.blk gs 92 [methV 46 (ptrV ga), cloV 93 [ptrV g0, ptrV g1]], .blk g1 3 [.int .i64 (k : Int)], .blk g0 23 [.pointer (some ⟨ga, 0, none⟩)]] : List HA) ++ arP ga x a))) (B := (fun w' => St w (arF ga x a) w' (([HA.blk gs 92 [methV 46 (ptrV ga), cloV 93 [ptrV g0, ptrV g1]], .blk g1 3 [.int .i64 (k : Int)], .blk g0 23 [.pointer (some ⟨ga, 0, none⟩)]] : List HA) ++ arP ga x a))) _ (fun _ h => Rd.blk h (.head _) (Nat.le_refl _) (by decide) rfl rfl) rfl rfl (by decide) (fun j f e hf he _ => (match j, hf, he with | 0, hf, he => (by cases hf; cases he; exact probe_made (fun _ h => ArrAt.of h (fun p hp => List.mem_append_right _ hp) OK.out.d0) keeps_st) | j + 1, hf, _ => (by simp at hf))) (fun _ => probe_isDevice (fun _ h => ArrAt.of h (fun p hp => List.mem_append_right _ hp) OK.out.d0) keeps_st (fun _ h => St.cell h (off := 0) (.tail _ (.tail _ (.head _))) rfl) (fun _ h => St.cell h (off := 0) (.tail _ (.head _)) rfl)) hst3; rw [HE.out] at hC; refine hC.mono ?_; rintro _ w5 hh; obtain ⟨rfl, h4⟩ := checks_fine (rfl : firstE [0] = 0) hh; clear hC hh hst3; have hst4 := h4; clear h4) | (go_at_call 39; refine (HDR.out _ _ (St.sub hst4 (List.sublist_append_right _ _))).mono ?_; rintro _ w6 ⟨rfl, lv, h4⟩; have hst6 := h4; clear h4 hst4))
  have hX := hst6.drew
  clear hst6
  refine wp_region_held_drew (S := (fun w' => (loadVarH 106 ⟨ga, 0, none⟩).run Tryz.prog w' = .ok (.slice (some ⟨x.gd, 0, none⟩) a2.devs.length x.cd) w')) (by kernel_rfl) (by exact ldS [] hX rfl) (fun hHeld => ?_)
  refine tkH 0 21 ?_ rfl (by kernel_rfl) (fun _ _ _ h => h) (by rfl) (by assumption) ?_ ?_
  rotate_left
  · intro w hSw; (try dsimp only at hSw); go_simp; try with_reducible rfl
  (try simp only [pmL, pnL, sc0, sc1])
  refine tkH 4 25 ?_ rfl (by kernel_rfl) (fun _ _ _ h => h) (by rfl) (by assumption) ?_ ?_
  rotate_left
  · intro w hSw; (try dsimp only at hSw); go_simp; try with_reducible rfl
  (try simp only [pmL, pnL, sc0, sc1])
  refine tkH 5 26 ?_ rfl (by kernel_rfl) (fun _ _ _ h => h) (by rfl) (by assumption) ?_ ?_
  rotate_left
  · intro w hSw; (try dsimp only at hSw); go_simp; try with_reducible rfl
  (try simp only [pmL, pnL, sc0, sc1])
  refine tkH 1 22 ?_ rfl (by kernel_rfl) (fun _ _ _ h => h) (by rfl) (by assumption) ?_ ?_
  rotate_left
  · intro w hSw; (try dsimp only at hSw); go_simp; try with_reducible rfl
  (try simp only [pmL, pnL, sc0, sc1])
  refine tkH 2 23 ?_ rfl (by kernel_rfl) (fun _ _ _ h => h) (by rfl) (by assumption) ?_ ?_
  rotate_left
  · intro w hSw; (try dsimp only at hSw); go_simp; try with_reducible rfl
  (try simp only [pmL, pnL, sc0, sc1])
  refine tkH 3 24 ?_ rfl (by kernel_rfl) (fun _ _ _ h => h) (by rfl) (by assumption) ?_ ?_
  rotate_left
  · intro w hSw; (try dsimp only at hSw); go_simp; try with_reducible rfl
  (try simp only [pmL, pnL, sc0, sc1])
  refine wpAnyH_ready (rs := [6]) (by kernel_rfl) (by simp) ?_
  refine (AllReadyH.cons (o := ⟨some 27, _, _, _, _, _⟩) rfl (fun K hK => ?_) AllReadyH.nil)
  rw [if_pos (by rfl)]
  go_simp
  go_at_call 48
  refine (sectors_any (ArrAt.of hX (fun _ hp => hp) HOK2.out.d0)).mono ?_
  rintro _ w7 ⟨rfl, h4⟩
  have hA1 := St.call0 hX h4
  clear h4
  refine hK.out _ _ ?_ (fun hHeld => ?_)
  · exact ldS [] hA1 rfl
  clear hK K
  (try simp only [pmL, pnL, sc0, sc1])
  refine wpAnyH_ready (rs := [7]) (by kernel_rfl) (by simp) ?_
  refine (AllReadyH.cons (o := ⟨some 28, _, _, _, _, _⟩) rfl (fun K hK => ?_) AllReadyH.nil)
  rw [if_pos (by rfl)]
  refine ow_of_wl (ops := #[]) (by rfl) ?_
  apply wl_makeR (sz := 256) (z := .int .u8 0) a2.secs a2.secs hA1
  rfl
  rfl
  exact rfl
  exact rfl
  infer_instance
  infer_instance
  infer_instance
  decide
  exact rfl
  exact rfl
  exact Nat.le_refl _
  (refine ⟨by omega, by omega⟩)
  intro gf w8 hA2
  refine q0_nil ?_
  refine hK.out _ _ ?_ (fun hHeld => ?_)
  · exact ldS [_] hA2 rfl
  clear hK K
  (try simp only [pmL, pnL, sc0, sc1])
  refine wpAnyH_ready (rs := [8]) (by kernel_rfl) (by simp) ?_
  refine (AllReadyH.cons (o := ⟨some 29, _, _, _, _, _⟩) rfl (fun K hK => ?_) AllReadyH.nil)
  rw [if_pos (by rfl)]
  refine ow_of_wl (ops := #[]) (by rfl) ?_
  refine wl_buildX (cs := [.slice (some ⟨gf, 0, none⟩) a2.secs a2.secs, .bool false, .int .u8 0, .int .i64 0, .int .i64 0]) [(0, .slice (some ⟨gf, 0, none⟩) a2.secs a2.secs)] rfl rfl (by exact rfl) (by kernel_rfl) ?_
  refine q0_nil ?_
  refine hK.out _ _ ?_ (fun hHeld => ?_)
  · exact ldS [_] hA2 rfl
  clear hK K
  (try simp only [pmL, pnL, sc0, sc1])
  refine tkH 9 30 ?_ rfl (by kernel_rfl) (fun _ _ _ h => h) (by rfl) (by assumption) ?_ ?_
  rotate_left
  · intro w hSw; (try dsimp only at hSw); go_simp; try with_reducible rfl
  (try simp only [pmL, pnL, sc0, sc1])
  refine wpAnyH_ready (rs := [10]) (by kernel_rfl) (by simp) ?_
  refine (AllReadyH.cons (o := ⟨none, _, _, _, _, _⟩) rfl (fun K hK => ?_) AllReadyH.nil)
  rw [if_pos (by rfl)]
  refine ow_of_wl (ops := #[]) (by rfl) ?_
  have hfit : k * 5 + 5 ≤ (devC a2 ++ x.rest).length := (by have h9 := (List.getElem?_eq_some_iff.1 (devC_get (rest := x.rest) HIN2.out (i := 4) rfl (by decide))).1; have h8 : k * 5 + 4 < (devC a2 ++ x.rest).length := h9; omega)
  refine wl_store [_, _] hA2 rfl rfl rfl (v := .agg (List.toArray [.slice (some ⟨gf, 0, none⟩) a2.secs a2.secs, .bool false, .int .u8 0, .int .i64 0, .int .i64 0])) rfl rfl rfl hfit ?_
  intro w9 hA3
  refine q0_nil ?_
  refine hK.out _ _ ?_ (fun hHeld => ?_)
  · exact ldS [_] hA3 rfl
  clear hK K
  (try simp only [pmL, pnL, sc0, sc1])
  refine wpAnyH_done (by kernel_rfl) ?_ _
  clear hHeld
  go_wp2_with (first | go_big_skip | go_big_guard | fail)
  go_ret
  refine ⟨rfl, ⟨x.gd, x.cd, x.rest, lv⟩, gf, ?_⟩
  rw [HC2.out]
  have e1 : (blank a2.secs gf).cells = [.slice (some ⟨gf, 0, none⟩) a2.secs a2.secs, .bool false, .int .u8 0, .int .i64 0, .int .i64 0] := by unfold DV.cells; rw [blank_firm]; rfl
  have h7 := HALL.out gf x.rest
  rw [e1] at h7
  have h8 : St w (arF ga x a) w9 (.blk gf 144 (List.replicate (a2.secs * 256) (.int .u8 0)) :: .blk ga 109 (arrC ⟨x.gd, x.cd, x.rest, lv⟩ a2) :: .blk x.gd 89 (devC (a2.upd (k : Int) fun _ => blank a2.secs gf) ++ x.rest) :: .row lv 149 258 a2.loose.length (looC a2) :: a2.devs.map blkD) := by rw [← h7]; exact hA3
  rw [HFS.out] at h8
  have h9 := St.sub h8 (.cons_cons _ (.cons_cons _ (.cons_cons _ (.cons_cons _ (List.Sublist.append_left (List.sublist_cons_self _ _) _)))))
  have e2 : HA.blk gf 144 (List.replicate (a2.secs * 256) (.int .u8 0)) = blkD (blank a2.secs gf) := by unfold blkD; rw [show (blank a2.secs gf).firm = List.replicate a2.secs (List.replicate 256 0) from rfl, secsV_zero]; rfl
  rw [e2] at h9
  have e3 : arP ga ⟨x.gd, x.cd, x.rest, lv⟩ (a2.upd (k : Int) fun _ => blank a2.secs gf) = .blk ga 109 (arrC ⟨x.gd, x.cd, x.rest, lv⟩ a2) :: .blk x.gd 89 (devC (a2.upd (k : Int) fun _ => blank a2.secs gf) ++ x.rest) :: .row lv 149 258 a2.loose.length (looC a2) :: (a2.upd (k : Int) fun _ => blank a2.secs gf).devs.map blkD := by
    unfold arP arrC
    rw [upd_len]
    rfl
  rw [e3, HFS2.out]
  refine St.perm h9 ?_
  exact (List.Perm.swap _ _ _).trans (List.Perm.cons _ ((List.Perm.swap _ _ _).trans (List.Perm.cons _ ((List.Perm.swap _ _ _).trans (List.Perm.cons _ (List.perm_middle.symm))))))
theorem fitM_any {w : World} {ga : Nat} {x : GA} {a : AR} (hS : St w (arF ga x a) w (arP ga x a)) (ok : a.Ok) (hll : a.loose.length < 1000000) (dev : Int) :
    Calls Tryz.prog 16 #[.pointer (some ⟨ga, 0, none⟩), .int .i64 dev] w fun e w' => e = .returned (.int .i64 (a.fitE dev)) ∧ ∃ x' g, St w (arF ga x a) w' (arP ga x' (a.fit dev g)) := by
  cases h1 : a.inD dev
  · exact fit_bad hS ok hll dev h1
  · obtain ⟨k, rfl⟩ : ∃ k : Nat, dev = k := ⟨dev.toNat, by have := (inD_dev h1).1; omega⟩
    exact fit_fine hS ok hll k h1
end
end Go.Proofs.YtmdfbdfijnmhkaaGreat
namespace Go.Proofs.YtmdfbdfijnmhkaaGreat
set_option linter.unusedVariables false
set_option linter.unusedSimpArgs false
open Go.RowKit Hp
attribute [local irreducible] Go.Calls Go.wpList
set_option maxRecDepth 100000
set_option maxHeartbeats 4000000
def u8I (b : UInt8) : Int := (b.toNat : Int)
theorem ofInt8 (x : UInt8) : BitVec.ofInt 8 (x.toNat : Int) = x.toBitVec := by
  rw [BitVec.ofInt_natCast]
  exact BitVec.ofNat_toNat (n := 8) 8 x.toBitVec ▸ (by rw [BitVec.setWidth_eq])
theorem xor8 (T : TypeId) (x y : UInt8) : binOp .xor T (.int .u8 (u8I x)) (.int .u8 (u8I y)) = pure (.int .u8 (u8I (x ^^^ y))) := by
  show pure (Value.int .u8 (IntKind.u8.wrap ((BitVec.ofInt 8 (x.toNat : Int) ^^^ BitVec.ofInt 8 (y.toNat : Int)).toNat : Int))) = _
  rw [ofInt8, ofInt8]
  have h : (x.toBitVec ^^^ y.toBitVec).toNat = (x ^^^ y).toNat := rfl
  have hl : (x ^^^ y).toNat < 256 := (x ^^^ y).toNat_lt
  rw [h]
  have h9 : IntKind.u8.wrap (((x ^^^ y).toNat : Nat) : Int) = ((x ^^^ y).toNat : Int) := by
    show (((x ^^^ y).toNat : Nat) : Int) % 256 = _
    omega
  rw [h9]
  rfl
theorem xor8r (T : TypeId) (x y : UInt8) (w : World) : (binOp .xor T (.int .u8 (u8I x)) (.int .u8 (u8I y))).run Tryz.prog w = .ok (.int .u8 (u8I (x ^^^ y))) w := by rw [xor8]; rfl
def fSpoil (p q : Nat) (m : UInt8) : DV → DV := fun d => { d with firm := d.firm.set p ((d.firm.getD p []).set q ((d.firm.getD p []).getD q 0 ^^^ m)) }
def AR.spoilL (a : AR) (dev pl place : Int) : List Int := [orE (a.inS dev pl) 5, orE (decide (0 ≤ place) && decide (place < 256)) 5]
def AR.spoilE (a : AR) (dev pl place : Int) : Int := a.fellE dev (a.spoilL dev pl place)
def AR.spoil (a : AR) (dev pl place : Int) (m : UInt8) : AR := if a.spoilE dev pl place = 0 then a.upd dev (fSpoil pl.toNat place.toNat m) else a
theorem fSpoil_fine {s : Nat} {d : DV} (h : d.Fine s) {p q : Nat} (m : UInt8) (hp : p < s) : (fSpoil p q m d).Fine s := by
  refine ⟨by unfold fSpoil; simp [h.1], fun t ht => ?_, h.2.2.1, h.2.2.2⟩
  unfold fSpoil at ht
  rcases List.mem_or_eq_of_mem_set ht with h1 | rfl
  · exact h.2.1 t h1
  · rw [List.length_set, List.getD_eq_getElem?_getD, List.getElem?_eq_getElem (by rw [h.1]; exact hp)]
    exact h.2.1 _ (List.getElem_mem _)
theorem AR.Ok.spoil {a : AR} (ok : a.Ok) (dev pl place : Int) (m : UInt8) : (a.spoil dev pl place m).Ok := by
  unfold AR.spoil
  split
  · rename_i h
    have hs : a.inS dev pl = true := fellE_in (by decide) (.head _) h
    have hp := inS_pl hs
    exact ok.upd (f := fSpoil pl.toNat place.toNat m) (inS_inD hs) (fSpoil_fine (ok.dv (inS_inD hs)) m (by omega))
  · exact ok
theorem putAt_one (l : List Value) (i : Nat) (v : Value) (hi : i < l.length) : putAt l i [v] = l.set i v := by
  rw [List.set_eq_take_append_cons_drop, if_pos hi]
  rfl
theorem secs_get {l : List (List UInt8)} {p q : Nat} (hl : ∀ s ∈ l, s.length = 256) (hp : p < l.length) (hq : q < 256) : (secsV l)[p * 256 + q]? = some (.int .u8 (u8I ((l.getD p []).getD q 0))) := by
  have h := flat_at (f := bytesV) (sz := 256) (fun d hd => by rw [length_bytesV]; exact hl d hd) (List.getElem?_eq_getElem hp)
  have h1 : ((secsV l).drop (p * 256))[q]? = (bytesV l[p])[q]? := by
    have h2 : (((l.flatMap bytesV).drop (p * 256)).take 256)[q]? = (bytesV l[p])[q]? := by rw [h]
    rw [List.getElem?_take, if_pos hq] at h2
    exact h2
  have hs : l[p].length = 256 := hl _ (List.getElem_mem hp)
  rw [List.getElem?_drop] at h1
  rw [h1, List.getD_eq_getElem?_getD (l := l), List.getElem?_eq_getElem hp]
  show (l[p].map _)[q]? = some (Value.int .u8 (u8I (l[p].getD q 0)))
  rw [List.getElem?_map, List.getD_eq_getElem?_getD, List.getElem?_eq_getElem (by omega)]
  rfl
theorem secs_putq {l : List (List UInt8)} {p q : Nat} (b : UInt8) (hl : ∀ s ∈ l, s.length = 256) (hp : p < l.length) (hq : q < 256) : putAt (secsV l) (p * 256 + q) [.int .u8 (u8I b)] = secsV (l.set p ((l.getD p []).set q b)) := by
  have hlen := secsV_len hl
  have hb : p * 256 + q < (secsV l).length := by
    rw [hlen]
    have : (p + 1) * 256 ≤ l.length * 256 := Nat.mul_le_mul_right _ hp
    omega
  rw [putAt_one _ _ _ hb]
  clear hb hlen
  induction l generalizing p with
  | nil => simp at hp
  | cons s l ih =>
    have hs : (bytesV s).length = 256 := by rw [length_bytesV]; exact hl s (.head _)
    unfold secsV at ih ⊢
    cases p with
    | zero =>
      rw [List.set_cons_zero, List.flatMap_cons, List.flatMap_cons, Nat.zero_mul, Nat.zero_add, List.set_append_left _ _ (by omega)]
      congr 1
      show (s.map _).set q _ = (s.set q b).map _
      rw [List.map_set]
      rfl
    | succ p =>
      have := ih (p := p) (fun s hs => hl s (.tail _ hs)) (by simpa using hp)
      rw [List.set_cons_succ, List.flatMap_cons, List.flatMap_cons, List.getD_cons_succ, ← this, show (p + 1) * 256 + q = 256 + (p * 256 + q) by omega, List.set_append_right _ _ (by omega), hs, show 256 + (p * 256 + q) - 256 = p * 256 + q by omega]
section
theorem loadedU8 (A : Addr) : loadVar 5 A = loadVarH 5 A := rfl
attribute [local go_sem ↓] loadedSS loadedIn loadedU8
attribute [local go_sem 5000] xor8 xor8r
theorem spoil2_any {w : World} {ga : Nat} {x : GA} {a : AR} {k p q gA gB gC : Nat} {m : UInt8} (hS : St w (arF ga x a) w (arP ga x a)) (ok : a.Ok) (hs : a.inS (k : Int) (p : Int) = true) (hq : q < 256)
    (hA : w.cell? ⟨gA, 0, none⟩ = some (.int .i64 (p : Int))) (hA2 : gA ∉ arF ga x a) (hB : w.cell? ⟨gB, 0, none⟩ = some (.int .i64 (q : Int))) (hB2 : gB ∉ arF ga x a) (hC : w.cell? ⟨gC, 0, none⟩ = some (.int .u8 (u8I m))) (hC2 : gC ∉ arF ga x a) :
    Calls Tryz.prog 86 #[.pointer (some ⟨x.gd, k * 5, none⟩), ptrV gA, ptrV gB, ptrV gC] w fun e w' => e = .returned (.tuple #[]) ∧ ∃ x', St w (arF ga x a) w' (arP ga x' (a.upd (k : Int) (fSpoil p q m))) := by
  have hin := inS_inD hs
  have hf := ok.dv hin
  have hp : p < (a.dv (k : Int)).firm.length := by have := inS_pl hs; rw [hf.1]; omega
  obtain ⟨D, hD⟩ : ∃ D, D = a.dv (k : Int) := ⟨_, rfl⟩
  rw [← hD] at hf hp
  obtain ⟨FS1, hFS1⟩ : ∃ FS1, FS1 = (a.devs.take k).map blkD := ⟨_, rfl⟩
  obtain ⟨FS2, hFS2⟩ : ∃ FS2, FS2 = (a.devs.drop (k + 1)).map blkD := ⟨_, rfl⟩
  have HFS : Hid (a.devs.map (fun d => HA.blk d.g 144 (secsV d.firm)) = FS1 ++ .blk D.g 144 (secsV D.firm) :: FS2) := hid (by rw [hFS1, hFS2, hD]; exact devs_split0 hin)
  have HG := hid (secs_get hf.2.1 hp hq)
  have HPUT := hid (secs_putq ((D.firm.getD p []).getD q 0 ^^^ m) hf.2.1 hp hq)
  have HFIT : Hid (p * 256 + q + 1 ≤ (secsV D.firm).length) := hid (by
    rw [secsV_len hf.2.1]
    have : (p + 1) * 256 ≤ D.firm.length * 256 := Nat.mul_le_mul_right _ hp
    omega)
  have HDC : Hid ((devC a ++ x.rest)[k * 5 + 0]? = some (.slice (some ⟨D.g, 0, none⟩) D.firm.length D.firm.length)) := hid (by rw [hD]; exact devC_get (rest := x.rest) hin (i := 0) rfl (by decide))
  have HFIN : Hid (arP ga x (a.upd (k : Int) (fSpoil p q m)) = .blk ga 109 (arrC x a) :: .blk x.gd 89 (devC a ++ x.rest) :: .row x.lv 149 258 a.loose.length (looC a) :: (FS1 ++ .blk D.g 144 (secsV (fSpoil p q m D).firm) :: FS2)) := hid (by
    have h1 := devs_split hin (fSpoil p q m)
    have h2 := devC_firm (a := a) (k : Int) (f := fSpoil p q m) (fun d => by unfold DV.cells fSpoil; rw [List.length_set]; rfl)
    rw [hFS1, hFS2, hD]
    unfold arP arrC
    rw [h2, upd_len]
    rw [show (a.upd (k : Int) (fSpoil p q m)).devs.map (fun d => HA.blk d.g 144 (secsV d.firm)) = _ from h1]
    rfl)
  have hst0 : St w (arF ga x a) w (.blk ga 109 (arrC x a) :: .blk x.gd 89 (devC a ++ x.rest) :: .row x.lv 149 258 a.loose.length (looC a) :: (FS1 ++ .blk D.g 144 (secsV D.firm) :: FS2)) := by rw [← HFS.out]; exact hS
  obtain ⟨V, hV⟩ : ∃ V : UInt8, V = (D.firm.getD p []).getD q 0 := ⟨_, rfl⟩
  have HV := hid hV
  rw [← hV] at HG HPUT
  have HA := hid hA
  have HA2 := hid hA2
  have HB := hid hB
  have HB2 := hid hB2
  have HC := hid hC
  have HC2 := hid hC2
  clear hs hin hf hD hFS1 hFS2 hV hA hA2 hB hB2 hC hC2 ok hS
  unfold ptrV
  go_enter Tryz.func86, Tryz.ntmps86
  have hq2 : (q : Int) < 256 := by omega
  have hX := hst0.drew
  clear hst0
  refine wp_region_held_drew (S := (fun w' => (loadVarH 86 ⟨x.gd, k * 5, none⟩).run Tryz.prog w' = .ok (.slice (some ⟨D.g, 0, none⟩) D.firm.length D.firm.length) w' ∧ (loadVarH 3 ⟨gA, 0, none⟩).run Tryz.prog w' = .ok (.int .i64 (p : Int)) w' ∧ (loadVarH 3 ⟨gB, 0, none⟩).run Tryz.prog w' = .ok (.int .i64 (q : Int)) w' ∧ (loadVarH 5 ⟨gC, 0, none⟩).run Tryz.prog w' = .ok (.int .u8 (u8I m)) w')) (by kernel_rfl) (by exact ⟨ldS [_] hX HDC.out, ldOMx hX HA.out HA2.out, ldOMx hX HB.out HB2.out, ldOMx hX HC.out HC2.out⟩) (fun hHeld => ?_)
  refine tkH 0 5 ?_ rfl (by kernel_rfl) (fun _ _ _ h => h) (by rfl) (by assumption) ?_ ?_
  rotate_left
  · intro w hSw; (try dsimp only at hSw); go_simp; try with_reducible rfl
  (try simp only [pmL, pnL, sc0, sc1])
  refine tkH 4 9 ?_ rfl (by kernel_rfl) (fun _ _ _ h => h) (by rfl) (by assumption) ?_ ?_
  rotate_left
  · intro w hSw; (try dsimp only at hSw); go_simp; try with_reducible rfl
  (try simp only [pmL, pnL, sc0, sc1])
  refine tkH 5 10 ?_ rfl (by kernel_rfl) (fun _ _ _ h => h) (by rfl) (by assumption) ?_ ?_
  rotate_left
  · intro w hSw; (try dsimp only at hSw); go_simp; try with_reducible rfl
  (try simp only [pmL, pnL, sc0, sc1])
  refine tkH 9 14 ?_ rfl (by kernel_rfl) (fun _ _ _ h => h) (by rfl) (by assumption) ?_ ?_
  rotate_left
  · intro w hSw; (try dsimp only at hSw); go_simp; try with_reducible rfl
  (try simp only [pmL, pnL, sc0, sc1])
  refine tkH 1 6 ?_ rfl (by kernel_rfl) (fun _ _ _ h => h) (by rfl) (by assumption) ?_ ?_
  rotate_left
  · intro w hSw; (try dsimp only at hSw); go_simp; try with_reducible rfl
  (try simp only [pmL, pnL, sc0, sc1])
  refine tkH 2 7 ?_ rfl (by kernel_rfl) (fun _ _ _ h => h) (by rfl) (by assumption) ?_ ?_
  rotate_left
  · intro w hSw; (try dsimp only at hSw); go_simp; try with_reducible rfl
  (try simp only [pmL, pnL, sc0, sc1])
  refine tkH 3 8 ?_ rfl (by kernel_rfl) (fun _ _ _ h => h) (by rfl) (by assumption) ?_ ?_
  rotate_left
  · intro w hSw; (try dsimp only at hSw); go_simp; try with_reducible rfl
  (try simp only [pmL, pnL, sc0, sc1])
  refine tkH 6 11 ?_ rfl (by kernel_rfl) (fun _ _ _ h => h) (by rfl) (by assumption) ?_ ?_
  rotate_left
  · intro w hSw; (try dsimp only at hSw); go_simp; try with_reducible rfl
  (try simp only [pmL, pnL, sc0, sc1])
  refine tkH 11 16 ?_ rfl (by kernel_rfl) (fun _ _ _ h => h) (by rfl) (by assumption) ?_ ?_
  rotate_left
  · intro w hSw; (try dsimp only at hSw); go_simp; try with_reducible rfl
  (try simp only [pmL, pnL, sc0, sc1])
  refine tkH 7 12 ?_ rfl (by kernel_rfl) (fun _ _ _ h => h) (by rfl) (by assumption) ?_ ?_
  rotate_left
  · intro w hSw; (try dsimp only at hSw); go_simp; try with_reducible rfl
  (try simp only [pmL, pnL, sc0, sc1])
  refine wpAnyH_ready (rs := [8]) (by kernel_rfl) (by simp) ?_
  refine (AllReadyH.cons (o := ⟨some 13, _, _, _, _, _⟩) rfl (fun K hK => ?_) AllReadyH.nil)
  rw [if_pos (by rfl)]
  refine ow_of_wl (ops := #[]) (by rfl) ?_
  refine wl_loadE rfl rfl rfl ?_
  refine ⟨_, Loads.cell (v := .int .u8 (u8I V)) TyS.out (St.cell hX (off := p * 256 + q) (.tail _ (.tail _ (.tail _ (List.mem_append_right _ (.head _))))) HG.out), ?_⟩
  refine q0_nil ?_
  refine hK.out _ _ ?_ (fun hHeld => ?_)
  · exact ⟨ldS [_] hX HDC.out, ldOMx hX HA.out HA2.out, ldOMx hX HB.out HB2.out, ldOMx hX HC.out HC2.out⟩
  clear hK K
  (try simp only [pmL, pnL, sc0, sc1])
  refine tkH 10 15 ?_ rfl (by kernel_rfl) (fun _ _ _ h => h) (by rfl) (by assumption) ?_ ?_
  rotate_left
  · intro w hSw; (try dsimp only at hSw); go_simp; try with_reducible rfl
  (try simp only [pmL, pnL, sc0, sc1])
  refine tkH 12 17 ?_ rfl (by kernel_rfl) (fun _ _ _ h => h) (by rfl) (by assumption) ?_ ?_
  rotate_left
  · intro w hSw; (try dsimp only at hSw); go_simp; try with_reducible rfl
  (try simp only [pmL, pnL, sc0, sc1])
  refine wpAnyH_ready (rs := [13]) (by kernel_rfl) (by simp) ?_
  refine (AllReadyH.cons (o := ⟨none, _, _, _, _, _⟩) rfl (fun K hK => ?_) AllReadyH.nil)
  rw [if_pos (by rfl)]
  refine ow_of_wl (ops := #[]) (by rfl) ?_
  refine wl_store (_ :: _ :: _ :: FS1) hX rfl rfl rfl (v := .int _ _) rfl rfl rfl HFIT.out ?_
  intro w9 hA3
  refine q0_nil ?_
  refine hK.out _ _ ?_ (fun hHeld => ?_)
  · exact ⟨ldS [_] hA3 HDC.out, ldOMx hA3 HA.out HA2.out, ldOMx hA3 HB.out HB2.out, ldOMx hA3 HC.out HC2.out⟩
  clear hK K
  (try simp only [pmL, pnL, sc0, sc1])
  refine wpAnyH_done (by kernel_rfl) ?_ _
  clear hHeld
  go_end0
  refine ⟨rfl, x, ?_⟩
  rw [HFIN.out]
  unfold fSpoil
  rw [← HV.out, ← HPUT.out]
  exact hA3
end
end Go.Proofs.YtmdfbdfijnmhkaaGreat
namespace Go.Proofs.YtmdfbdfijnmhkaaGreat
set_option linter.unusedVariables false
set_option linter.unusedSimpArgs false
open Go.RowKit Hp
attribute [local irreducible] Go.Calls Go.wpList
set_option maxRecDepth 100000
set_option maxHeartbeats 4000000
theorem spoilM_any {w : World} {ga : Nat} {x : GA} {a : AR} (hS : St w (arF ga x a) w (arP ga x a)) (ok : a.Ok) (dev pl place : Int) (m : UInt8) :
    Calls Tryz.prog 35 #[.pointer (some ⟨ga, 0, none⟩), .int .i64 dev, .int .i64 pl, .int .i64 place, .int .u8 (u8I m)] w fun e w' => e = .returned (.int .i64 (a.spoilE dev pl place)) ∧ ∃ x', St w (arF ga x a) w' (arP ga x' (a.spoil dev pl place m)) := by
  have hst0 := hS
  have OK := hid ok
  have hmf := rmf
  clear hS ok
  go_enter Tryz.func35, Tryz.ntmps35
  go_wp2_with (first | go_big_skip | go_big_guard | (refine wl_box hst0 rfl rfl rfl ?_; intro g7 w1 hst1; clear hst0) | (refine wl_box hst1 rfl rfl rfl ?_; intro g8 w2 hst2; clear hst1) | (refine wl_box hst2 rfl rfl rfl ?_; intro g9 w3 hst3; clear hst2) | (refine wl_loadE rfl rfl rfl ?_; first | refine ⟨_, Loads.at [_, _] hst3 rfl, ?_⟩) | (go_at_call 87; refine (isSector_any ga dev pl _).mono ?_; rintro _ w4 ⟨g0, g1, g2, rfl, h4⟩; have hst4 := St.call hst3 h4; clear h4 hst3) | (apply wl_bsX ([cloV 138 [ptrV g0, ptrV g1, ptrV g2], cloV 84 [ptrV g8]]) ([cloV 138 [ptrV g0, ptrV g1, ptrV g2], cloV 84 [ptrV g8]]) hst4; rfl; rfl; exact rfl; exact rfl; infer_instance; infer_instance; rfl; rfl; rfl; intro gs w5 hst5; clear hst4) | (go_at_call 37; have hQ := St.selfF (L := ([HA.blk gs 92 [cloV 138 [ptrV g0, ptrV g1, ptrV g2], cloV 84 [ptrV g8]], .blk g2 3 [.int .i64 pl], .blk g1 3 [.int .i64 dev], .blk g0 23 [.pointer (some ⟨ga, 0, none⟩)], .blk g9 5 [.int .u8 (u8I m)], .blk g8 3 [.int .i64 place], .blk g7 3 [.int .i64 pl]] : List HA) ++ arP ga x a) hst5; refine (befallsE_any hQ OK.out dev 86 [ptrV g7, ptrV g8, ptrV g9] (.slice (some ⟨gs, 0, none⟩) 2 2) 2 [cloV 138 [ptrV g0, ptrV g1, ptrV g2], cloV 84 [ptrV g8]] (a.spoilL dev pl place) (a.upd dev (fSpoil pl.toNat place.toNat m)) (fun _ _ => rfl) (fun X w' h => Rd.blk h (List.mem_append_right _ (.head _)) (Nat.le_refl _) (by decide) rfl rfl) rfl rfl (by decide) rfl (fun X j f e hf he _ => (match j, hf, he with | 0, hf, he => (by cases hf; cases he; exact probe_isSector (fun _ h => ArrAt.of h (fun p hp => List.mem_append_right _ (List.mem_append_right _ hp)) OK.out.d0) keeps_st (fun _ h => St.cell h (off := 0) (List.mem_append_right _ (.tail _ (.tail _ (.tail _ (.head _))))) rfl) (fun _ h => St.cell h (off := 0) (List.mem_append_right _ (.tail _ (.tail _ (.head _)))) rfl) (fun _ h => St.cell h (off := 0) (List.mem_append_right _ (.tail _ (.head _))) rfl)) | 1, hf, he => (by cases hf; cases he; exact probe_clo (fun _ _ => rfl) fun w h => (spoil1_any ((fun _ h => St.cell h (off := 0) (List.mem_append_right _ (.tail _ (.tail _ (.tail _ (.tail _ (.tail _ (.head _))))))) rfl) w h)).mono fun _ _ ⟨e, h4⟩ => ⟨e, keeps_st _ _ h h4⟩) | j + 2, hf, _ => (by simp at hf))) (fun h => inS_inD (orE_zero (by decide) (firstE_all h _ (.head _)))) (fun e he => (by unfold AR.spoilL at he; simp only [List.mem_cons, List.not_mem_nil, or_false] at he; rcases he with rfl | rfl <;> exact orE_isE _ _ (by unfold isE; decide))) (fun h1 _ w' hb h9 => (by have hs : a.inS dev pl = true := orE_zero (by decide) (firstE_all h1 _ (.head _)); have hq : (decide (0 ≤ place) && decide (place < 256)) = true := orE_zero (by decide) (firstE_all h1 _ (.tail _ (.head _))); simp only [Bool.and_eq_true, decide_eq_true_eq] at hq; obtain ⟨k, rfl⟩ : ∃ k : Nat, dev = k := ⟨dev.toNat, by have := (inD_dev (inS_inD hs)).1; omega⟩; obtain ⟨p, rfl⟩ : ∃ p : Nat, pl = p := ⟨pl.toNat, by have := (inS_pl hs).1; omega⟩; obtain ⟨q, rfl⟩ : ∃ q : Nat, place = q := ⟨place.toNat, by omega⟩; have hq2 : q < 256 := (by omega); exact spoil2_any h9 OK.out hs hq2 (cell_blk (hb g7 _ _ (.tail _ (.tail _ (.tail _ (.tail _ (.tail _ (.tail _ (.head _)))))))).1) (hb g7 _ _ (.tail _ (.tail _ (.tail _ (.tail _ (.tail _ (.tail _ (.head _)))))))).2 (cell_blk (hb g8 _ _ (.tail _ (.tail _ (.tail _ (.tail _ (.tail _ (.head _))))))).1) (hb g8 _ _ (.tail _ (.tail _ (.tail _ (.tail _ (.tail _ (.head _))))))).2 (cell_blk (hb g9 _ _ (.tail _ (.tail _ (.tail _ (.tail _ (.head _)))))).1) (hb g9 _ _ (.tail _ (.tail _ (.tail _ (.tail _ (.head _)))))).2))).mono ?_; rintro _ w9 ⟨rfl, X, x', h4⟩; have hst6 := St.thenF (L := ([HA.blk gs 92 [cloV 138 [ptrV g0, ptrV g1, ptrV g2], cloV 84 [ptrV g8]], .blk g2 3 [.int .i64 pl], .blk g1 3 [.int .i64 dev], .blk g0 23 [.pointer (some ⟨ga, 0, none⟩)], .blk g9 5 [.int .u8 (u8I m)], .blk g8 3 [.int .i64 place], .blk g7 3 [.int .i64 pl]] : List HA) ++ arP ga x a) hst5 h4; clear h4 hQ hst5))
  go_ret
  exact ⟨rfl, x', St.sub hst6 (.trans (List.sublist_append_right _ _) (List.sublist_append_right _ _))⟩
end Go.Proofs.YtmdfbdfijnmhkaaGreat
namespace Go.Proofs.YtmdfbdfijnmhkaaGreat
set_option linter.unusedVariables false
set_option linter.unusedSimpArgs false
open Go.RowKit Hp
attribute [local irreducible] Go.Calls
set_option maxHeartbeats 1000000
def pickI (x n : Int) : Int := if n < 1 then 0 else x % n
theorem pickI_nat {x : Int} {n : Nat} (h : 0 < n) : ∃ k : Nat, k < n ∧ pickI x n = k := by
  have h1 := Int.emod_nonneg x (show (n : Int) ≠ 0 by omega)
  have h2 := Int.emod_lt_of_pos x (show (0 : Int) < n by omega)
  refine ⟨(x % n).toNat, by omega, ?_⟩
  unfold pickI
  rw [if_neg (by omega)]
  omega
theorem pick_spec (x n : Int) (w : World) (hx : -9223372036854775808 ≤ x ∧ x ≤ 9223372036854775807) (hn : -9223372036854775808 ≤ n ∧ n ≤ 9223372036854775807) :
    Calls Tryz.prog 10 #[.int .i64 x, .int .i64 n] w fun e w' => e = .returned (.int .i64 (pickI x n)) ∧ St w [] w' [] := by
  have hst := St.refl w
  by_cases h1 : n < 1
  · have d1 : decide (n < 1) = true := decide_eq_true h1
    have e : pickI x n = 0 := by unfold pickI; rw [if_pos h1]
    rw [e]
    clear h1 e
    go_enter Tryz.func10, Tryz.ntmps10
    go_wp2_with (first | go_big_skip | go_big_guard | fail)
    go_ret
    exact ⟨rfl, hst⟩
  · have d1 : decide (n < 1) = false := decide_eq_false h1
    obtain ⟨r, hr⟩ : ∃ r, r = Int.tmod x n := ⟨_, rfl⟩
    have q1 := Int.tmod_lt_of_pos x (show (0 : Int) < n by omega)
    have q2 := Int.lt_tmod_of_pos x (show (0 : Int) < n by omega)
    rw [← hr] at q1 q2
    have hw : IntKind.i64.wrap r = r := IntWalk.i64_in _ (by omega)
    have f1 : ∀ T, binOp .rem T (.int .i64 x) (.int .i64 n) = pure (.int .i64 r) := by
      intro T
      have hn0 : n ≠ 0 := by omega
      simp only [binOp]
      simp [Op.intDiv, hn0, ← hr, hw]
    have em : x % n = if r < 0 then r + n else r := by
      rw [hr, Int.tmod_eq_emod]
      have := Int.emod_nonneg x (show n ≠ 0 by omega)
      have := Int.emod_lt_of_pos x (show (0 : Int) < n by omega)
      split <;> (split <;> omega)
    have e : pickI x n = if r < 0 then r + n else r := by unfold pickI; rw [if_neg h1, em]
    rw [e]
    clear em e hr h1
    by_cases h2 : r < 0
    · have d2 : decide (r < 0) = true := decide_eq_true h2
      have z0 : IntKind.i64.wrap (r + n) = r + n := IntWalk.i64_in _ (by omega)
      rw [if_pos h2]
      clear h2
      go_enter Tryz.func10, Tryz.ntmps10
      go_wp2_with (first | go_big_skip | go_big_guard | fail)
      go_ret
      exact ⟨rfl, hst⟩
    · have d2 : decide (r < 0) = false := decide_eq_false h2
      rw [if_neg h2]
      clear h2
      go_enter Tryz.func10, Tryz.ntmps10
      go_wp2_with (first | go_big_skip | go_big_guard | fail)
      go_ret
      exact ⟨rfl, hst⟩
end Go.Proofs.YtmdfbdfijnmhkaaGreat
namespace Go.Proofs.YtmdfbdfijnmhkaaGreat
set_option linter.unusedVariables false
set_option linter.unusedSimpArgs false
open Go.RowKit Hp
attribute [local irreducible] Go.Calls Go.wpList
set_option maxRecDepth 100000
set_option maxHeartbeats 8000000
structure AC where
  k : Int
  dev : Int
  pl : Int
  n : Int
  mask : UInt8
  bo : Option Addr
  bn : Nat
  bc : Nat
  B : List UInt8
  ko : Option Addr
  kn : Nat
  kc : Nat
  K : List Bool
instance : Inhabited AC := ⟨⟨0, 0, 0, 0, 0, none, 0, 0, [], none, 0, 0, []⟩⟩
def AC.cells (y : AC) : List Value := [.int .i64 y.k, .int .i64 y.dev, .int .i64 y.pl, .int .i64 y.n, .int .u8 y.mask.toNat, .slice y.bo y.bn y.bc, .slice y.ko y.kn y.kc]
def in64 (z : Int) : Prop := -9223372036854775808 ≤ z ∧ z ≤ 9223372036854775807
structure AC.Ok (y : AC) (w : World) : Prop where
  k : in64 y.k
  dev : in64 y.dev
  pl : in64 y.pl
  n : in64 y.n
  rb : Rd w (.slice y.bo y.bn y.bc) 1 y.bn (bytesV y.B)
  lb : y.B.length = y.bn
  rk : Rd w (.slice y.ko y.kn y.kc) 1 y.kn (boolsV y.K)
  lk : y.K.length = y.kn
instance acA : TyA Tryz.prog 49 7 := ⟨by kernel_rfl⟩
instance acN : TyN Tryz.prog 49 7 := ⟨by kernel_rfl⟩
instance acZ : TyZ Tryz.prog 49 [.int .i64 0, .int .i64 0, .int .i64 0, .int .i64 0, .int .u8 0, .slice none 0 0, .slice none 0 0] := ⟨by kernel_rfl⟩
instance acSl : TySl Tryz.prog 45 49 := ⟨by kernel_rfl⟩
instance acSb : TyS Tryz.prog 47 := ⟨by kernel_rfl⟩
theorem acs_at : ∀ {xs : List AC} {k : Nat} {x : AC}, xs[k]? = some x → ∀ j v, x.cells[j]? = some v → (xs.flatMap AC.cells)[k * 7 + j]? = some v
  | y :: xs, 0, x, h, j, v, hj => by
    cases h
    rw [List.flatMap_cons, Nat.zero_mul, Nat.zero_add, List.getElem?_append_left (List.getElem?_eq_some_iff.1 hj).1]
    exact hj
  | y :: xs, k + 1, x, h, j, v, hj => by
    have hl : y.cells.length = 7 := rfl
    rw [List.flatMap_cons, List.getElem?_append_right (by rw [hl]; omega), hl, show (k + 1) * 7 + j - 7 = k * 7 + j by omega]
    exact acs_at (by simpa using h) j v hj
  | [], _, _, h, _, _, _ => by cases h
theorem acs_range {w : World} {b off n c k : Nat} {xs : List AC} {x : AC} (h : Rd w (.slice (some ⟨b, off, none⟩) n c) 7 n (xs.flatMap AC.cells)) (hk : xs[k]? = some x) : w.rangeAt b (off + k * 7) x.cells := by
  intro j v hj
  have := h.range (k * 7 + j) v (acs_at hk j v hj)
  rwa [← Nat.add_assoc] at this
def shortC (xs : List AC) (N : Nat) : Prop := N ≤ 100 ∧ ∀ x ∈ xs, x.bn ≤ 300 ∧ x.kn ≤ 200
def longC (xs : List AC) (N : Nat) (e : Ending) : Prop := ∃ b, e = .returned (.bool b) ∧ (b = false ↔ shortC xs N)
theorem longC_any (ao : Option Addr) (N c : Nat) (xs : List AC) (w : World) (hv : Rd w (.slice ao N c) 7 N (xs.flatMap AC.cells)) (hN : xs.length = N) (hx : ∀ x ∈ xs, x.Ok w) :
    Calls Tryz.prog 20 #[.slice ao N c] w fun e w' => longC xs N e ∧ St w [] w' [] := by
  have hst := St.refl w
  have HN := hid hN
  have HXX := hid hx
  have hb1 := hv.bd.1
  have hb2 := hv.bd.2.1
  clear hN hx
  go_enter Tryz.func20, Tryz.ntmps20
  go_wp2_with (first | go_big_skip | go_big_guard | fail)
  go_loop [3] (fun q => ∃ k : Nat, k ≤ N ∧ k ≤ 101 ∧ q = .int .i64 k ∧ Hid (∀ j x, j < k → xs[j]? = some x → x.bn ≤ 300 ∧ x.kn ≤ 200)) (fun q => 101 - (intOf q).toNat)
  case atStart => exact ⟨0, by omega, by omega, rfl, hid (fun j x hj => absurd hj (Nat.not_lt_zero _))⟩
  case round =>
    obtain ⟨k, hk, hk1, rfl, hall⟩ := hrel
    by_cases hkN : k < N
    · by_cases hk2 : k < 101
      · obtain ⟨x, hxk⟩ : ∃ x, xs[k]? = some x := ⟨_, List.getElem?_eq_getElem (by rw [HN.out]; exact hkN)⟩
        obtain ⟨b, off, rfl, _⟩ := hv.at hkN
        have hok := HXX.out x (List.mem_of_getElem? hxk)
        have hra := acs_range hv hxk
        have h3 := hid (show w.cell? ⟨b, off + k * 7 + 5, none⟩ = some (.slice x.bo x.bn x.bc) from hra 5 _ rfl)
        have h4 := hid (show w.cell? ⟨b, off + k * 7 + 6, none⟩ = some (.slice x.ko x.kn x.kc) from hra 6 _ rfl)
        have HXK := hid hxk
        have hm1 := hok.rb.bd.1
        have hm2 := hok.rb.bd.2.1
        have hm3 := hok.rk.bd.1
        have hm4 := hok.rk.bd.2.1
        have d1 : decide ((k : Int) < (N : Int)) = true := decide_eq_true (by omega)
        have d0 : decide ((k : Int) < 101) = true := decide_eq_true (by omega)
        clear hra hxk hok
        by_cases g1 : 300 < x.bn
        · have d2 : decide (300 < (x.bn : Int)) = true := decide_eq_true (by omega)
          go_wp2_with (first | go_big_skip | go_big_guard | (refine wl_loadE rfl rfl rfl ?_; first | refine ⟨_, Loads.old hst (h3.out), ?_⟩ | refine ⟨_, Loads.old hst (h4.out), ?_⟩))
          go_ret
          exact ⟨⟨true, rfl, ⟨fun h => (by cases h), fun h => by have := (h.2 x (List.mem_of_getElem? HXK.out)); omega⟩⟩, hst⟩
        · have d2 : decide (300 < (x.bn : Int)) = false := decide_eq_false (by omega)
          by_cases g2 : 200 < x.kn
          · have d3 : decide (200 < (x.kn : Int)) = true := decide_eq_true (by omega)
            go_wp2_with (first | go_big_skip | go_big_guard | (refine wl_loadE rfl rfl rfl ?_; first | refine ⟨_, Loads.old hst (h3.out), ?_⟩ | refine ⟨_, Loads.old hst (h4.out), ?_⟩))
            go_ret
            exact ⟨⟨true, rfl, ⟨fun h => (by cases h), fun h => by have := (h.2 x (List.mem_of_getElem? HXK.out)); omega⟩⟩, hst⟩
          · have d3 : decide (200 < (x.kn : Int)) = false := decide_eq_false (by omega)
            have z1 : IntKind.i64.wrap ((k : Int) + 1) = (k : Int) + 1 := IntWalk.i64_in _ (by omega)
            go_wp2_with (first | go_big_skip | go_big_guard | (refine wl_loadE rfl rfl rfl ?_; first | refine ⟨_, Loads.old hst (h3.out), ?_⟩ | refine ⟨_, Loads.old hst (h4.out), ?_⟩))
            go_round
            case rel =>
              refine ⟨k + 1, by omega, by omega, rfl, hid (fun j y hj hy => ?_)⟩
              rcases Nat.lt_or_ge j k with h9 | h9
              · exact hall.out j y h9 hy
              · obtain rfl : j = k := by omega
                rw [HXK.out] at hy
                cases hy
                omega
            case measure => simp [intOf]; omega
      · have d1 : decide ((k : Int) < (N : Int)) = true := decide_eq_true (by omega)
        have d0 : decide ((k : Int) < 101) = false := decide_eq_false (by omega)
        have d2 : decide (100 < (N : Int)) = true := decide_eq_true (by omega)
        go_wp2_with (first | go_big_skip | go_big_guard | fail)
        go_ret
        exact ⟨⟨true, rfl, ⟨fun h => (by cases h), fun h => by have := h.1; omega⟩⟩, hst⟩
    · have e : k = N := by omega
      subst e
      have d1 : decide ((k : Int) < (k : Int)) = false := by simp
      by_cases h100 : 100 < k
      · have d2 : decide (100 < (k : Int)) = true := decide_eq_true (by omega)
        go_wp2_with (first | go_big_skip | go_big_guard | fail)
        go_ret
        exact ⟨⟨true, rfl, ⟨fun h => (by cases h), fun h => by have := h.1; omega⟩⟩, hst⟩
      · have d2 : decide (100 < (k : Int)) = false := decide_eq_false (by omega)
        go_wp2_with (first | go_big_skip | go_big_guard | fail)
        go_ret
        refine ⟨⟨false, rfl, ⟨fun _ => ⟨by omega, fun x hx => ?_⟩, fun _ => rfl⟩⟩, hst⟩
        obtain ⟨j, hj, rfl⟩ := List.getElem_of_mem hx
        exact hall.out j _ (by rw [HN.out] at hj; exact hj) (List.getElem?_eq_getElem hj)
theorem AC.Ok.old {x : AC} {w w' : World} {L : List HA} (h : x.Ok w) (hst : St w [] w' L) : x.Ok w' := ⟨h.k, h.dev, h.pl, h.n, Rd.old hst h.rb, h.lb, Rd.old hst h.rk, h.lk⟩
end Go.Proofs.YtmdfbdfijnmhkaaGreat
namespace Go.Proofs.YtmdfbdfijnmhkaaGreat
set_option linter.unusedVariables false
set_option linter.unusedSimpArgs false
open Go.ChangeShapes Go.WideShapes Go.ChangeAt Go.RowKit Go.Deep Go.Lib Go.Joins Hp
set_option maxRecDepth 100000
theorem trod_struct4 {H : Type} {enc : TypeId × Value → H} {P : Program} {w : World} {base : Nat} {spare : Nat → Bool} {held : Bool} {t : TypeId} {f0 f1 f2 f3 : Field} {fuel : Nat} {cs : List Value} {x : DataW H × List MemPlace} (ht : P.underlying t = some (.struct #[f0, f1, f2, f3])) (h : DataW.trod enc P w base spare held fuel t cs = some x) :
    ∃ y0 y1 y2 y3 n, DataW.trod enc P w base spare held n f0.type ((cs.drop f0.offset).take (P.cellsOf f0.type)) = some y0 ∧
      DataW.trod enc P w base spare held n f1.type ((cs.drop f1.offset).take (P.cellsOf f1.type)) = some y1 ∧ DataW.trod enc P w base spare held n f2.type ((cs.drop f2.offset).take (P.cellsOf f2.type)) = some y2 ∧
      DataW.trod enc P w base spare held n f3.type ((cs.drop f3.offset).take (P.cellsOf f3.type)) = some y3 := by
  obtain ⟨xs, n, _, rfl, hl, hlen, hf⟩ := DataW.trod_struct ht h
  match xs, hlen with
  | [y0, y1, y2, y3], _ => exact ⟨y0, y1, y2, y3, n, by simpa using hf 0 f0 rfl, by simpa using hf 1 f1 rfl, by simpa using hf 2 f2 rfl, by simpa using hf 3 f3 rfl⟩
theorem cellsLi : Tryz.prog.cellsOf 3 = 1 := by kernel_rfl
theorem cellsLu : Tryz.prog.cellsOf 5 = 1 := by kernel_rfl
theorem cellsLb : Tryz.prog.cellsOf 4 = 1 := by kernel_rfl
theorem i64_wfL {z : Int} (hw : (Lit.int .i64 z).wf = true) : -9223372036854775808 ≤ z ∧ z ≤ 9223372036854775807 := by
  simp only [Lit.wf, Bool.and_eq_true, decide_eq_true_eq] at hw
  have h3 : IntKind.i64.min = -9223372036854775808 := rfl
  have h4 : IntKind.i64.max = 9223372036854775807 := rfl
  omega
theorem u8_wfL {z : Int} (hw : (Lit.int .u8 z).wf = true) : ∃ b : UInt8, z = (b.toNat : Int) := by
  simp only [Lit.wf, Bool.and_eq_true, decide_eq_true_eq] at hw
  have h3 : IntKind.u8.min = 0 := rfl
  have h4 : IntKind.u8.max = 255 := rfl
  refine ⟨UInt8.ofNat z.toNat, ?_⟩
  rw [UInt8.toNat_ofNat', Nat.mod_eq_of_lt (by omega)]
  omega
theorem open_bytesN {H : Type} {enc : TypeId × Value → H} {W : World} {fuel : Nat} {cs : List Value} {x : DataW H × List MemPlace}
    (h : DataW.trod enc Tryz.prog W 0 (fun _ => true) true fuel 28 cs = some x) : ∃ ao n c bs, cs = [.slice ao n c] ∧ Rd W (.slice ao n c) 1 n (bytesV bs) ∧ bs.length = n := by
  rcases open_ints Tryz.underlying28 Tryz.underlying5 (by kernel_rfl) h with ⟨hc, _⟩ | ⟨a', len', cap', zs, hc, _, hl, hm, hz, _, hcell, hw⟩
  · exact ⟨none, 0, 0, [], hc, Rd.nil _ _, rfl⟩
  · by_cases h0 : cap' = 0
    · subst h0
      obtain rfl : len' = 0 := by omega
      exact ⟨some a', 0, 0, [], hc, Rd.empty _ _ _, rfl⟩
    · simp only [if_true] at hz
      have hspot : a'.spot = none := by
        have h1 := hcell 0 (by omega)
        unfold World.cell? at h1
        split at h1
        · by_cases hs : a'.spot = none
          · exact hs
          · have : ((a'.add 0).spot).isSome = true := by
              cases hq : a'.spot with
              | none => exact absurd hq hs
              | some q => simp [Addr.add, hq]
            rw [if_pos this] at h1
            cases h1
        · cases h1
      obtain ⟨b, off, rfl⟩ : ∃ b off, a' = ⟨b, off, none⟩ := ⟨a'.block, a'.off, by cases a'; simp_all⟩
      refine ⟨_, len', cap', (List.range len').map fun i => UInt8.ofNat (zs.getD i 0).toNat, hc, rd_ints _ hl hm fun i hi => ?_, by simp⟩
      have h1 := hcell i (by omega)
      rw [Addr.add_mid] at h1
      rw [h1]
      have h2 := hw (zs.getD i 0) (by rw [List.getD_eq_getElem?_getD, List.getElem?_eq_getElem (by omega)]; exact List.getElem_mem _)
      simp only [Lit.wf, Bool.and_eq_true, decide_eq_true_eq] at h2
      have h3 : IntKind.u8.min = 0 := rfl
      have h4 : IntKind.u8.max = 255 := rfl
      have h5 : ((UInt8.ofNat (zs.getD i 0).toNat).toNat : Int) = zs.getD i 0 := by rw [UInt8.toNat_ofNat']; omega
      rw [h5]
theorem spot_none {w : World} {a : Addr} {v : Value} (h : w.cell? (a.add 0) = some v) : a.spot = none := by
  unfold World.cell? at h
  split at h
  · by_cases hs : a.spot = none
    · exact hs
    · have : ((a.add 0).spot).isSome = true := by
        cases hq : a.spot with
        | none => exact absurd hq hs
        | some q => simp [Addr.add, hq]
      rw [if_pos this] at h
      cases h
  · cases h
theorem open_boolsN {H : Type} {enc : TypeId × Value → H} {W : World} {fuel : Nat} {cs : List Value} {x : DataW H × List MemPlace}
    (h : DataW.trod enc Tryz.prog W 0 (fun _ => true) true fuel 47 cs = some x) : ∃ ao n c bs, cs = [.slice ao n c] ∧ Rd W (.slice ao n c) 1 n (boolsV bs) ∧ bs.length = n := by
  rcases open_slice Tryz.underlying47 h with ⟨hc, _⟩ | ⟨a', len', cap', m, n, D, Pl, hc, _, hl, hm, hmm, _, hx⟩
  · exact ⟨none, 0, 0, [], hc, Rd.nil _ _, rfl⟩
  · simp only [if_true] at hmm
    rw [cellsLb] at hx
    have hb : ∀ i, i < cap' → ∃ b, W.cell? (a'.add (i * 1)) = some (.bool b) := by
      intro i hi
      obtain ⟨cs', h1, h2⟩ := hx i (by omega)
      obtain ⟨b, rfl, _⟩ := DataW.trod_bool Tryz.underlying4 h2
      obtain ⟨_, _, hcell⟩ := World.cells?_some h1
      have h3 := hcell 0 (by decide)
      refine ⟨b, ?_⟩
      have e : (a'.add (i * 1)).add 0 = a'.add (i * 1) := by simp [Addr.add]
      rw [e] at h3
      exact h3
    by_cases h0 : cap' = 0
    · subst h0
      obtain rfl : len' = 0 := by omega
      exact ⟨some a', 0, 0, [], hc, Rd.empty _ _ _, rfl⟩
    · obtain ⟨b0, h1⟩ := hb 0 (by omega)
      have hspot : a'.spot = none := spot_none h1
      obtain ⟨b, off, rfl⟩ : ∃ b off, a' = ⟨b, off, none⟩ := ⟨a'.block, a'.off, by cases a'; simp_all⟩
      obtain ⟨K, hK⟩ := choose_lt (α := Bool) (p := fun i k => W.cell? ⟨b, off + i, none⟩ = some (.bool k)) (fun i (hi : i < cap') => by
        obtain ⟨k, hk⟩ := hb i hi
        rw [Addr.add_mid, Nat.mul_one] at hk
        exact ⟨k, hk⟩)
      refine ⟨_, len', cap', (List.range len').map K, hc, Rd.mk hl hm (by simp [boolsV]) (fun k v hk => ?_), by simp⟩
      have hk2 : k < len' := by
        have := (List.getElem?_eq_some_iff.1 hk).1
        simpa [boolsV] using this
      have : (boolsV ((List.range len').map K))[k]? = some (.bool (K k)) := by
        unfold boolsV
        rw [List.getElem?_map, List.getElem?_map, List.getElem?_range hk2]
        rfl
      rw [this] at hk
      cases hk
      exact hK k (by omega)
theorem trod_struct7 {H : Type} {enc : TypeId × Value → H} {P : Program} {w : World} {base : Nat} {spare : Nat → Bool} {held : Bool} {t : TypeId} {f0 f1 f2 f3 f4 f5 f6 : Field} {fuel : Nat} {cs : List Value} {x : DataW H × List MemPlace} (ht : P.underlying t = some (.struct #[f0, f1, f2, f3, f4, f5, f6])) (h : DataW.trod enc P w base spare held fuel t cs = some x) :
    ∃ y0 y1 y2 y3 y4 y5 y6 n, DataW.trod enc P w base spare held n f0.type ((cs.drop f0.offset).take (P.cellsOf f0.type)) = some y0 ∧
      DataW.trod enc P w base spare held n f1.type ((cs.drop f1.offset).take (P.cellsOf f1.type)) = some y1 ∧ DataW.trod enc P w base spare held n f2.type ((cs.drop f2.offset).take (P.cellsOf f2.type)) = some y2 ∧
      DataW.trod enc P w base spare held n f3.type ((cs.drop f3.offset).take (P.cellsOf f3.type)) = some y3 ∧ DataW.trod enc P w base spare held n f4.type ((cs.drop f4.offset).take (P.cellsOf f4.type)) = some y4 ∧
      DataW.trod enc P w base spare held n f5.type ((cs.drop f5.offset).take (P.cellsOf f5.type)) = some y5 ∧ DataW.trod enc P w base spare held n f6.type ((cs.drop f6.offset).take (P.cellsOf f6.type)) = some y6 := by
  obtain ⟨xs, n, _, rfl, hl, hlen, hf⟩ := DataW.trod_struct ht h
  match xs, hlen with
  | [y0, y1, y2, y3, y4, y5, y6], _ => exact ⟨y0, y1, y2, y3, y4, y5, y6, n, by simpa using hf 0 f0 rfl, by simpa using hf 1 f1 rfl, by simpa using hf 2 f2 rfl, by simpa using hf 3 f3 rfl, by simpa using hf 4 f4 rfl, by simpa using hf 5 f5 rfl, by simpa using hf 6 f6 rfl⟩
theorem cellsLub : Tryz.prog.cellsOf 28 = 1 := by kernel_rfl
theorem cellsLbb : Tryz.prog.cellsOf 47 = 1 := by kernel_rfl
theorem cellsAct : Tryz.prog.cellsOf 49 = 7 := by kernel_rfl
theorem open_act {H : Type} {enc : TypeId × Value → H} {W : World} (fuel : Nat) (cs : List Value) (x : DataW H × List MemPlace) (hl : cs.length = 7)
    (h : DataW.trod enc Tryz.prog W 0 (fun _ => true) true fuel 49 cs = some x) : ∃ k : AC, cs = k.cells ∧ k.Ok W := by
  match cs, hl with
  | [a, b, c, d, e, f, g], _ =>
    obtain ⟨y0, y1, y2, y3, y4, y5, y6, n, h0, h1, h2, h3, h4, h5, h6⟩ := trod_struct7 Tryz.underlying49 h
    simp only [cellsLi, cellsLu, cellsLub, cellsLbb, List.drop_zero, List.drop_succ_cons, List.take_succ_cons, List.take_zero] at h0 h1 h2 h3 h4 h5 h6
    obtain ⟨z0, e0, _, w0⟩ := DataW.trod_int Tryz.underlying3 h0
    obtain ⟨z1, e1, _, w1⟩ := DataW.trod_int Tryz.underlying3 h1
    obtain ⟨z2, e2, _, w2⟩ := DataW.trod_int Tryz.underlying3 h2
    obtain ⟨z3, e3, _, w3⟩ := DataW.trod_int Tryz.underlying3 h3
    obtain ⟨z4, e4, _, w4⟩ := DataW.trod_int Tryz.underlying5 h4
    obtain ⟨bo, bn, bc, B, e5, r5, l5⟩ := open_bytesN h5
    obtain ⟨ko, kn, kc, K, e6, r6, l6⟩ := open_boolsN h6
    cases e0; cases e1; cases e2; cases e3; cases e4; cases e5; cases e6
    obtain ⟨u, rfl⟩ := u8_wfL w4
    exact ⟨⟨z0, z1, z2, z3, u, bo, bn, bc, B, ko, kn, kc, K⟩, rfl, ⟨i64_wfL w0, i64_wfL w1, i64_wfL w2, i64_wfL w3, r5, l5, r6, l6⟩⟩
end Go.Proofs.YtmdfbdfijnmhkaaGreat
namespace Go.Proofs.YtmdfbdfijnmhkaaGreat
set_option linter.unusedVariables false
set_option linter.unusedSimpArgs false
open Go.RowKit Hp
set_option maxRecDepth 100000
theorem upd_secs2 {a : AR} {dev : Int} {f : DV → DV} (hl : ∀ d, (f d).firm.length = d.firm.length) : (a.upd dev f).secs = a.secs := by
  rw [secs_eq, secs_eq]
  unfold AR.upd
  rw [modify_get]
  split
  · cases a.devs[0]? with
    | none => rfl
    | some d => simp [hl]
  · rfl
structure Stays (a b : AR) : Prop where
  sec : b.secs = a.secs
  st : (0 ≤ a.steps → 0 ≤ b.steps) ∧ b.steps ≤ a.steps + 1
  ll : b.loose.length ≤ a.loose.length + 1
theorem Stays.refl (a : AR) : Stays a a := ⟨rfl, ⟨id, by omega⟩, Nat.le_succ _⟩
theorem Stays.upd (a : AR) (dev : Int) {f : DV → DV} (hl : ∀ d, (f d).firm.length = d.firm.length) : Stays a (a.upd dev f) := ⟨upd_secs2 hl, ⟨id, by show a.steps ≤ _; omega⟩, Nat.le_succ _⟩
theorem Stays.fell (a : AR) (dev : Int) (rs : List Int) {f : DV → DV} (hl : ∀ d, (f d).firm.length = d.firm.length) : Stays a (a.fell dev rs f) := by
  unfold AR.fell
  split
  · exact Stays.upd a dev hl
  · exact Stays.refl a
theorem Stays.read (a : AR) (dev pl : Int) : Stays a (a.read dev pl) := by
  unfold AR.read
  split
  · exact Stays.upd a dev fun _ => rfl
  · exact Stays.refl a
theorem step_stays (a : AR) : a.step.secs = a.secs ∧ ((0 ≤ a.steps → 0 ≤ a.step.steps) ∧ a.step.steps ≤ a.steps + 1) ∧ a.step.loose = a.loose := by
  refine ⟨step_secs a, ?_, step_loose a⟩
  unfold AR.step
  split
  · exact ⟨id, by show a.steps ≤ _; omega⟩
  · exact ⟨fun h => by show 0 ≤ a.steps + 1; omega, Int.le_refl _⟩
theorem Stays.write (a : AR) (dev pl : Int) (b : List UInt8) : Stays a (a.write dev pl b) := by
  obtain ⟨h1, h2, h3⟩ := step_stays a
  unfold AR.write
  split
  · exact Stays.refl a
  · split
    · exact ⟨h1, h2, by rw [h3]; exact Nat.le_succ _⟩
    · unfold AR.lay
      split
      · exact ⟨(upd_secs2 (a := a.step) (f := fun d => { d with lo := false }) fun _ => rfl).trans h1, h2, by show a.step.loose.length ≤ _; rw [h3]; exact Nat.le_succ _⟩
      · split
        · refine ⟨(upd_secs2 (a := a.step) (f := fun d => { d with st := false }) fun _ => rfl).trans h1, h2, ?_⟩
          show (a.step.loose ++ [_]).length ≤ _
          rw [h3, List.length_append]
          exact Nat.le_refl _
        · refine ⟨h1, h2, ?_⟩
          show (a.step.loose ++ [_]).length ≤ _
          rw [h3, List.length_append]
          exact Nat.le_refl _
theorem Stays.flush (a : AR) (dev : Int) : Stays a (a.flush dev) := by
  obtain ⟨h1, h2, h3⟩ := step_stays a
  unfold AR.flush
  split
  · exact Stays.refl a
  · split
    · exact ⟨h1, h2, by rw [h3]; exact Nat.le_succ _⟩
    · refine ⟨(upd_secs2 (a := a.step) (f := fun d => { d with firm := (a.step.loose.filter fun w => w.dev == dev.toNat).foldl setS d.firm }) fun d => foldS_len _ _).trans h1, h2, ?_⟩
      show (a.step.loose.filter _).length ≤ _
      rw [h3]
      exact Nat.le_trans (List.length_filter_le _ _) (Nat.le_succ _)
theorem Stays.fused (a : AR) (n : Int) : Stays a (a.fused n) := by
  unfold AR.fused
  split
  · exact ⟨rfl, ⟨id, by show a.steps ≤ _; omega⟩, Nat.le_succ _⟩
  · exact Stays.refl a
theorem Stays.spoil (a : AR) (dev pl place : Int) (m : UInt8) : Stays a (a.spoil dev pl place m) := by
  unfold AR.spoil
  split
  · exact Stays.upd a dev fun d => by unfold fSpoil; exact List.length_set
  · exact Stays.refl a
theorem Stays.pull (a : AR) (dev : Int) : Stays a (a.pull dev) := by
  unfold AR.pull
  split
  · exact ⟨upd_secs2 (f := fGone) fun _ => rfl, ⟨id, by show a.steps ≤ _; omega⟩, Nat.le_trans (List.length_filter_le _ _) (Nat.le_succ _)⟩
  · exact Stays.refl a
theorem Stays.fit {a : AR} (ok : a.Ok) (dev : Int) (g : Nat) : Stays a (a.fit dev g) := by
  unfold AR.fit
  split
  · rename_i hc
    refine ⟨?_, ⟨id, by show a.steps ≤ _; omega⟩, Nat.le_trans (List.length_filter_le _ _) (Nat.le_succ _)⟩
    exact upd_secs (a := a.rest dev.toNat) (f := fun _ => blank a.secs g) hc (by
      show (blank a.secs g).firm.length = ((a.rest dev.toNat).dv dev).firm.length
      rw [show ((a.rest dev.toNat).dv dev) = a.dv dev from rfl, (ok.dv hc).1]
      exact List.length_replicate)
  · exact Stays.refl a
theorem Stays.crash {a : AR} (ok : a.Ok) (keep : List Bool) (torn : Int) : Stays a (a.crash keep torn) := by
  have ok2 := ok.crash keep torn
  unfold AR.crash at ok2 ⊢
  split
  · rename_i h
    rw [if_pos h] at ok2
    have ht : torn.toNat ≤ 256 := by
      unfold AR.crashE at h
      rw [if_neg ok.d0] at h
      have := orE_zero (by decide) h
      simp only [Bool.and_eq_true, decide_eq_true_eq] at this
      omega
    have hg := crashN_good ok keep ht a.loose.length
    refine ⟨?_, ⟨fun h => by show 0 ≤ (a.crashed keep torn.toNat).steps; exact h, by show a.steps ≤ _; omega⟩, Nat.zero_le _⟩
    have h0 : (crashN a keep torn.toNat a.loose.length).1.devs ≠ [] := by
      intro he
      have := hg.len
      rw [he] at this
      exact ok.d0 (List.eq_nil_of_length_eq_zero this.symm)
    unfold AR.secs AR.crashed
    cases hd : (crashN a keep torn.toNat a.loose.length).1.devs with
    | nil => exact absurd hd h0
    | cons d l =>
      show (clean d).firm.length = _
      exact (hg.fm d (by rw [hd]; exact .head _)).1
  · exact Stays.refl a
structure Sc (a : AR) (m : Nat) : Prop where
  ok : a.Ok
  sec : 8 ≤ a.secs
  st : 0 ≤ a.steps ∧ a.steps ≤ (m : Int)
  ll : a.loose.length ≤ m
theorem Sc.next {a b : AR} {m : Nat} (h : Sc a m) (ok : b.Ok) (hs : Stays a b) : Sc b (m + 1) := by
  have h1 := h.st
  have h2 := hs.st
  have h3 := hs.ll
  have h4 := h.ll
  exact ⟨ok, by rw [hs.sec]; exact h.sec, ⟨h2.1 h1.1, by have := h2.2; omega⟩, by omega⟩
end Go.Proofs.YtmdfbdfijnmhkaaGreat
namespace Go.Proofs.YtmdfbdfijnmhkaaGreat
set_option linter.unusedVariables false
set_option linter.unusedSimpArgs false
open Go.RowKit Hp
set_option maxRecDepth 100000
theorem mid_in {w0 w : World} {M : List Nat} {P Bs R : List HA} {ga : Nat} {x : GA} {a : AR} (h : St w0 M w (P ++ (Bs ++ (arP ga x a ++ R)))) : St w (arF ga x a) w (arP ga x a) :=
  (St.sub h (((List.sublist_append_left _ _).trans (List.sublist_append_right _ _)).trans (List.sublist_append_right _ _))).selfF
theorem mid_outp {w0 w w' : World} {M : List Nat} {P Bs R Q : List HA} {ga : Nat} {x x' : GA} {a a' : AR} (h : St w0 M w (P ++ (Bs ++ (arP ga x a ++ R)))) (h4 : St w (arF ga x a) w' (Q ++ arP ga x' a')) : St w0 M w' (Q ++ (P ++ (Bs ++ (arP ga x' a' ++ R)))) := by
  have h1 : St w0 M w (arP ga x a ++ (P ++ (Bs ++ R))) := by
    refine St.perm h ?_
    rw [← List.append_assoc P Bs, ← List.append_assoc P Bs]
    exact List.perm_append_comm_assoc (P ++ Bs) (arP ga x a) R
  have h2 := St.callF (arP ga x a) h1 h4
  refine St.perm h2 ?_
  rw [List.append_assoc]
  refine List.Perm.append_left Q ?_
  rw [← List.append_assoc P Bs, ← List.append_assoc P Bs]
  exact List.perm_append_comm_assoc (arP ga x' a') (P ++ Bs) R
theorem mid_out {w0 w w' : World} {M : List Nat} {P Bs R : List HA} {ga : Nat} {x x' : GA} {a a' : AR} (h : St w0 M w (P ++ (Bs ++ (arP ga x a ++ R)))) (h4 : St w (arF ga x a) w' (arP ga x' a')) : St w0 M w' (P ++ (Bs ++ (arP ga x' a' ++ R))) := mid_outp (Q := []) h h4
structure Next (a a' : AR) : Prop where
  ok : a'.Ok
  st : Stays a a'
theorem Next.refl {a : AR} (ok : a.Ok) : Next a a := ⟨ok, Stays.refl a⟩
end Go.Proofs.YtmdfbdfijnmhkaaGreat
namespace Go.Proofs.YtmdfbdfijnmhkaaGreat
set_option linter.unusedVariables false
set_option linter.unusedSimpArgs false
open Go.RowKit Hp
attribute [local irreducible] Go.Calls Go.wpList
set_option maxRecDepth 100000
set_option maxHeartbeats 4000000
theorem tells_anyP {w : World} {ga : Nat} {x : GA} {a : AR} (h : ArrAll w ga x a) (ok : a.Ok) (hll : a.loose.length < 1000000) (k p : Nat) (hd : a.inS (k : Int) (p : Int) = true) :
    Calls Tryz.prog 50 #[.pointer (some ⟨ga, 0, none⟩), .int .i64 (k : Int), .int .i64 (p : Int)] w fun e w' => ∃ u, e = .returned u ∧ St w [] w' [.rowP isB u 5 1 256 (bytesV (a.tells (k : Int) (p : Int)))] := by
  have hst0 := St.refl w
  have hin := inS_inD hd
  have hdg := devs_get hin
  have hf := ok.fm _ (List.mem_of_getElem? hdg)
  have hp := inS_pl hd
  have hlt : k < a.devs.length := by have := (inD_dev hin).2; omega
  have hlp : p < (a.dv (k : Int)).firm.length := by rw [hf.1]; omega
  have H0 := hid h.c0
  have H1 := hid h.c1
  have HF := hid (show w.cell? ⟨x.gd, k * 5, none⟩ = some (.slice (some ⟨(a.dv (k : Int)).g, 0, none⟩) (a.dv (k : Int)).firm.length (a.dv (k : Int)).firm.length) from h.dcell hdg (i := 0) rfl (by decide))
  obtain ⟨s0, hs0⟩ : ∃ s0, (a.dv (k : Int)).firm[p]? = some s0 := ⟨_, List.getElem?_eq_getElem hlp⟩
  have hs256 : s0.length = 256 := hf.2.1 _ (List.mem_of_getElem? hs0)
  have HSR := hid (range_flat (sz := 256) (fun d hd => by rw [length_bytesV]; exact hf.2.1 d hd) hs0 (h.frm _ (List.mem_of_getElem? hdg)))
  have hsg : (a.dv (k : Int)).firm.getD p [] = s0 := by rw [List.getD_eq_getElem?_getD, hs0]; rfl
  have HTL := hid (fun j => tells_len ok hd j)
  have HL := hid h.loo
  have HLW := hid ok.lw
  obtain ⟨T, hT⟩ : ∃ T : Nat → List UInt8, T = fun j => (a.loose.take j).foldl (pickW k p) ((a.dv (k : Int)).firm.getD p []) := ⟨_, rfl⟩
  have HT0 : Hid (T 0 = s0) := hid (by rw [hT]; exact hsg)
  have HTS : Hid (∀ j wj, a.loose[j]? = some wj → T (j + 1) = pickW k p (T j) wj) := hid (fun j wj hj => by
    rw [hT]
    show (a.loose.take (j + 1)).foldl _ _ = _
    rw [List.take_add_one, hj, List.foldl_append]
    rfl)
  have HTE : Hid (T a.loose.length = a.tells (k : Int) (p : Int)) := hid (by rw [hT]; show (a.loose.take a.loose.length).foldl _ _ = _; rw [List.take_length]; rfl)
  have HTL2 : Hid (∀ j, (T j).length = 256) := hid (fun j => by rw [hT]; exact HTL.out j)
  obtain ⟨R, hR⟩ : ∃ R, R = a.tells (k : Int) (p : Int) := ⟨_, rfl⟩
  rw [← hR] at HTE
  rw [← hR]
  have HS256 := hid (show (bytesV s0).length = 256 by rw [length_bytesV, hs256])
  have hnl : a.loose.length < 1000000 := hll
  obtain ⟨nl, hnl2⟩ : ∃ nl, nl = a.loose.length := ⟨_, rfl⟩
  have HNL := hid hnl2
  rw [← hnl2] at HTE hnl HL
  clear hd hin hdg hf hp h ok hs0 hs256 hsg HTL hT hR hnl2 hll
  obtain ⟨lao, lc, hlv⟩ : ∃ ao c, x.lv = .slice ao nl c := by
    rcases HL.out.casesF with ⟨e, e2, _⟩ | ⟨A, c, e, _⟩
    · exact ⟨none, 0, by rw [e, e2]⟩
    · exact ⟨some A, c, e⟩
  rw [hlv] at H1 HL
  clear hlv
  go_enter Tryz.func50, Tryz.ntmps50
  go_wp2_with (first | go_big_skip | go_big_guard | (refine wl_loadE rfl rfl rfl ?_; first | refine ⟨_, Loads.old hst0 H0.out, ?_⟩ | refine ⟨_, Loads.old hst0 HF.out, ?_⟩ | refine ⟨_, Loads.oldA (cs := bytesV s0) hst0 HS256.out HSR.out, ?_⟩ | refine ⟨_, Loads.old hst H1.out, ?_⟩) | (refine wl_index (k := k) rfl rfl rfl rfl hlt ?_) | (refine wl_index (k := p) rfl rfl rfl rfl hlp ?_) | (refine wl_alloc hst0 rfl rfl ?_; intro g7 _ hst1; clear hst0) | (refine wl_storeA (vs := bytesV s0) [] hst1 rfl rfl rfl rfl HS256.out (ones_bytesV _) List.length_replicate ?_; intro w2 hst; clear hst1))
  go_loopw [26] (fun i wr => ∃ j : Nat, j ≤ nl ∧ i = .int .i64 (j : Int) ∧ St w [] wr [.blk g7 144 (bytesV (T j))]) (fun i _ => nl - (intOf i).toNat)
  case atStart => exact ⟨0, Nat.zero_le _, rfl, by rw [HT0.out]; exact hst⟩
  case round =>
    clear hst
    obtain ⟨j, hj, rfl, hst⟩ := hrel
    by_cases hlj : j < nl
    · have d1 : decide ((j : Int) < (nl : Int)) = true := decide_eq_true (by omega)
      have z1 : IntKind.i64.wrap ((j : Int) + 1) = (j : Int) + 1 := IntWalk.i64_in _ (by omega)
      obtain ⟨wj, hwj⟩ : ∃ wj, a.loose[j]? = some wj := ⟨_, List.getElem?_eq_getElem (by rw [← HNL.out]; exact hlj)⟩
      have hw := HLW.out wj (List.mem_of_getElem? hwj)
      obtain ⟨lb, lo, rfl, hlr⟩ := Rd.at HL.out hlj
      have HWR := hid (range_flat (sz := 258) (f := LW.cells) (fun d hd => LW.cells_len (HLW.out d hd).2.2) hwj hlr)
      have HW258 := hid (LW.cells_len hw.2.2)
      have HN := hid (HTS.out j wj hwj)
      have HB256 := hid (show (bytesV wj.b).length = 256 by rw [length_bytesV]; exact hw.2.2)
      have HTJ := hid (show (bytesV (T j)).length = 256 by rw [length_bytesV]; exact HTL2.out j)
      clear hwj hw hlr
      by_cases k1 : wj.dev = k
      · by_cases k2 : wj.pl = p
        · have d2 : ((wj.dev : Int) == (k : Int)) = true := by simp [k1]
          have d3 : ((wj.pl : Int) == (p : Int)) = true := by simp [k2]
          have KK := hid (And.intro k1 k2)
          clear k1 k2
          go_wp2_with (first | go_big_skip | go_big_guard | (refine wl_index (k := j) rfl rfl rfl rfl hlj ?_) | (refine wl_loadE rfl rfl rfl ?_; first | refine ⟨_, Loads.oldA (cs := wj.cells) hst HW258.out HWR.out, ?_⟩ | refine ⟨_, Loads.at [] hst3 rfl, ?_⟩ | refine ⟨_, Loads.atA (bytesV wj.b) [] hst3 HB256.out (by show (bytesV wj.b).take _ = _; exact List.take_length), ?_⟩) | (refine wl_alloc (T := 149) hst rfl rfl ?_; intro g9 _ hst2; clear hst) | (refine wl_storeA (T := 149) (vs := wj.cells) [] hst2 rfl rfl rfl rfl HW258.out (ones_LW _) (by rw [List.length_cons, List.length_cons, List.length_replicate]) ?_; intro w4 hst3; clear hst2) | (refine wl_storeA (T := 144) (vs := bytesV wj.b) [_] hst3 rfl rfl rfl rfl HB256.out (ones_bytesV _) HTJ.out ?_; intro w5 hst4; clear hst3))
          go_roundw
          case rel =>
            refine ⟨j + 1, by omega, rfl, ?_⟩
            rw [HN.out]
            unfold pickW
            rw [if_pos KK.out]
            exact St.sub hst4 (.cons _ (List.Sublist.refl _))
          case measure => simp [intOf]; omega
        · have d2 : ((wj.dev : Int) == (k : Int)) = true := by simp [k1]
          have d3 : ((wj.pl : Int) == (p : Int)) = false := by simp; omega
          have KK := hid (fun h : wj.dev = k ∧ wj.pl = p => k2 h.2)
          clear k1 k2
          go_wp2_with (first | go_big_skip | go_big_guard | (refine wl_index (k := j) rfl rfl rfl rfl hlj ?_) | (refine wl_loadE rfl rfl rfl ?_; first | refine ⟨_, Loads.oldA (cs := wj.cells) hst HW258.out HWR.out, ?_⟩ | refine ⟨_, Loads.at [] hst3 rfl, ?_⟩ | refine ⟨_, Loads.atA (bytesV wj.b) [] hst3 HB256.out (by show (bytesV wj.b).take _ = _; exact List.take_length), ?_⟩) | (refine wl_alloc (T := 149) hst rfl rfl ?_; intro g9 _ hst2; clear hst) | (refine wl_storeA (T := 149) (vs := wj.cells) [] hst2 rfl rfl rfl rfl HW258.out (ones_LW _) (by rw [List.length_cons, List.length_cons, List.length_replicate]) ?_; intro w4 hst3; clear hst2) | (refine wl_storeA (T := 144) (vs := bytesV wj.b) [_] hst3 rfl rfl rfl rfl HB256.out (ones_bytesV _) HTJ.out ?_; intro w5 hst4; clear hst3))
          go_roundw
          case rel =>
            refine ⟨j + 1, by omega, rfl, ?_⟩
            rw [HN.out]
            unfold pickW
            rw [if_neg KK.out]
            exact St.sub hst3 (.cons _ (List.Sublist.refl _))
          case measure => simp [intOf]; omega
      · have d2 : ((wj.dev : Int) == (k : Int)) = false := by simp; omega
        have KK := hid (fun h : wj.dev = k ∧ wj.pl = p => k1 h.1)
        clear k1
        go_wp2_with (first | go_big_skip | go_big_guard | (refine wl_index (k := j) rfl rfl rfl rfl hlj ?_) | (refine wl_loadE rfl rfl rfl ?_; first | refine ⟨_, Loads.oldA (cs := wj.cells) hst HW258.out HWR.out, ?_⟩ | refine ⟨_, Loads.at [] hst3 rfl, ?_⟩ | refine ⟨_, Loads.atA (bytesV wj.b) [] hst3 HB256.out (by show (bytesV wj.b).take _ = _; exact List.take_length), ?_⟩) | (refine wl_alloc (T := 149) hst rfl rfl ?_; intro g9 _ hst2; clear hst) | (refine wl_storeA (T := 149) (vs := wj.cells) [] hst2 rfl rfl rfl rfl HW258.out (ones_LW _) (by rw [List.length_cons, List.length_cons, List.length_replicate]) ?_; intro w4 hst3; clear hst2) | (refine wl_storeA (T := 144) (vs := bytesV wj.b) [_] hst3 rfl rfl rfl rfl HB256.out (ones_bytesV _) HTJ.out ?_; intro w5 hst4; clear hst3))
        go_roundw
        case rel =>
          refine ⟨j + 1, by omega, rfl, ?_⟩
          rw [HN.out]
          unfold pickW
          rw [if_neg KK.out]
          exact St.sub hst3 (.cons _ (List.Sublist.refl _))
        case measure => simp [intOf]; omega
    · have d1 : decide ((j : Int) < (nl : Int)) = false := decide_eq_false (by omega)
      have HE := hid (show T j = R by rw [← HTE.out]; congr 1; omega)
      have HJ := hid (show (bytesV (T j)).length = 256 by rw [length_bytesV]; exact HTL2.out j)
      have hst5 := St.nilPQ isB 5 1 hst
      clear hst
      go_wp2_with (first | go_big_skip | go_big_guard | (apply wl_appP (p := isB) (m := 256) (ys := bytesV (T j)) [] hst5; rfl; rfl; exact rfl; exact rfl; infer_instance; infer_instance; infer_instance; infer_instance; exact Rd.blk (n := 256) hst5 (.tail _ (.head _)) (Nat.le_refl _) (by decide) (by rw [HJ.out]) (by rw [List.drop_zero, List.take_length]); exact ones_bytesV _; rfl; exact isB_bytes _; exact ⟨by decide, by decide, by decide⟩; intro v6 w6 hst6 _; clear hst5))
      go_ret
      refine ⟨v6, rfl, ?_⟩
      rw [← HE.out]
      have := St.sub hst6 (.cons_cons _ (List.nil_sublist _))
      rw [List.nil_append] at this
      exact this
section
attribute [local go_sem ↓] loadedPA loadedIn
theorem read_badP {w : World} {ga : Nat} {x : GA} {a : AR} (hS : St w (arF ga x a) w (arP ga x a)) (ok : a.Ok) (hll : a.loose.length < 1000000) (dev pl : Int) (h1 : firstE (readL a dev pl) ≠ 0) :
    Calls Tryz.prog 36 #[.pointer (some ⟨ga, 0, none⟩), .int .i64 dev, .int .i64 pl] w fun e w' => ∃ u, e = .returned (.tuple #[u, .int .i64 (a.readE dev pl)]) ∧ St w (arF ga x a) w' (.rowP isB u 5 1 (a.readB dev pl).length (bytesV (a.readB dev pl)) :: arP ga x (a.read dev pl)) := by
  have hb := read_bad ok.d0 h1
  have hbb : a.readB dev pl = [] := by unfold AR.readB; rw [if_neg (by rw [hb.1]; exact h1)]
  rw [hbb, hb.1, hb.2]
  have HE := hid (firstE_isE (readL_isE a dev pl) h1)
  have H1 := hid h1
  have OK := hid ok
  have hst0 := hS
  have hmf := rmf
  clear hb h1 ok hS hbb
  go_enter Tryz.func36, Tryz.ntmps36
  go_wp2_with (first | go_big_skip | go_big_guard | (refine wl_box hst0 rfl rfl rfl ?_; intro g3 w1 hst1; clear hst0) | (refine wl_box hst1 rfl rfl rfl ?_; intro g4 w2 hst2; clear hst1))
  have hX := hst2.drew
  clear hst2
  refine wp_region_held_drew (S := (fun w' => (loadVarH 3 ⟨g4, 0, none⟩).run Tryz.prog w' = .ok (.int .i64 dev) w' ∧ (loadVarH 23 ⟨g3, 0, none⟩).run Tryz.prog w' = .ok (.pointer (some ⟨ga, 0, none⟩)) w')) (by kernel_rfl) (by exact ⟨ldS [] hX (rfl), ldS [_] hX (rfl)⟩) (fun hHeld => ?_)
  refine tkH 0 9 ?_ rfl (by kernel_rfl) (fun _ _ _ h => h) (by rfl) (by assumption) ?_ ?_
  rotate_left
  · intro w hSw; (try dsimp only at hSw); go_simp; try with_reducible rfl
  (try simp only [pmL, pnL, sc0, sc1])
  refine tkH 1 10 ?_ rfl (by kernel_rfl) (fun _ _ _ h => h) (by rfl) (by assumption) ?_ ?_
  rotate_left
  · intro w hSw; (try dsimp only at hSw); go_simp; try with_reducible rfl
  (try simp only [pmL, pnL, sc0, sc1])
  refine tkH 3 12 ?_ rfl (by kernel_rfl) (fun _ _ _ h => h) (by rfl) (by assumption) ?_ ?_
  rotate_left
  · intro w hSw; (try dsimp only at hSw); go_simp; try with_reducible rfl
  (try simp only [pmL, pnL, sc0, sc1])
  refine tkH 5 14 ?_ rfl (by kernel_rfl) (fun _ _ _ h => h) (by rfl) (by assumption) ?_ ?_
  rotate_left
  · intro w hSw; (try dsimp only at hSw); go_simp; try with_reducible rfl
  (try simp only [pmL, pnL, sc0, sc1])
  refine tkH 6 15 ?_ rfl (by kernel_rfl) (fun _ _ _ h => h) (by rfl) (by assumption) ?_ ?_
  rotate_left
  · intro w hSw; (try dsimp only at hSw); go_simp; try with_reducible rfl
  (try simp only [pmL, pnL, sc0, sc1])
  refine tkH 7 16 ?_ rfl (by kernel_rfl) (fun _ _ _ h => h) (by rfl) (by assumption) ?_ ?_
  rotate_left
  · intro w hSw; (try dsimp only at hSw); go_simp; try with_reducible rfl
  (try simp only [pmL, pnL, sc0, sc1])
  refine tkH 9 18 ?_ rfl (by kernel_rfl) (fun _ _ _ h => h) (by rfl) (by assumption) ?_ ?_
  rotate_left
  · intro w hSw; (try dsimp only at hSw); go_simp; try with_reducible rfl
  (try simp only [pmL, pnL, sc0, sc1])
  refine tkH 10 19 ?_ rfl (by kernel_rfl) (fun _ _ _ h => h) (by rfl) (by assumption) ?_ ?_
  rotate_left
  · intro w hSw; (try dsimp only at hSw); go_simp; try with_reducible rfl
  (try simp only [pmL, pnL, sc0, sc1])
  refine tkH 12 21 ?_ rfl (by kernel_rfl) (fun _ _ _ h => h) (by rfl) (by assumption) ?_ ?_
  rotate_left
  · intro w hSw; (try dsimp only at hSw); go_simp; try with_reducible rfl
  (try simp only [pmL, pnL, sc0, sc1])
  refine tkH 2 11 ?_ rfl (by kernel_rfl) (fun _ _ _ h => h) (by rfl) (by assumption) ?_ ?_
  rotate_left
  · intro w hSw; (try dsimp only at hSw); go_simp; try with_reducible rfl
  (try simp only [pmL, pnL, sc0, sc1])
  refine tkH 4 13 ?_ rfl (by kernel_rfl) (fun _ _ _ h => h) (by rfl) (by assumption) ?_ ?_
  rotate_left
  · intro w hSw; (try dsimp only at hSw); go_simp; try with_reducible rfl
  (try simp only [pmL, pnL, sc0, sc1])
  refine wpAnyH_ready (rs := [8]) (by kernel_rfl) (by simp) ?_
  refine (AllReadyH.cons (o := ⟨some 17, _, _, _, _, _⟩) rfl (fun K hK => ?_) AllReadyH.nil)
  rw [if_pos (by rfl)]
  go_simp
  go_at_call 87
  refine (isSector_any ga dev pl _).mono ?_
  rintro _ w3 ⟨g0, g1, g2, rfl, h4⟩
  have hA1 := St.call hX h4
  clear h4
  refine hK.out _ _ ?_ (fun hHeld => ?_)
  · exact ⟨ldS [_, _, _] hA1 (rfl), ldS [_, _, _, _] hA1 (rfl)⟩
  clear hK K
  (try simp only [pmL, pnL, sc0, sc1])
  refine wpAnyH_ready (rs := [11]) (by kernel_rfl) (by simp) ?_
  refine (AllReadyH.cons (o := ⟨some 20, _, _, _, _, _⟩) rfl (fun K hK => ?_) AllReadyH.nil)
  rw [if_pos (by rfl)]
  go_simp
  go_at_call 89
  refine (isHere_any ga dev _).mono ?_
  rintro _ w4 ⟨k0, k1, rfl, h4⟩
  have hA2 := St.call hA1 h4
  clear h4
  refine hK.out _ _ ?_ (fun hHeld => ?_)
  · exact ⟨ldS [_, _, _, _, _] hA2 (rfl), ldS [_, _, _, _, _, _] hA2 (rfl)⟩
  clear hK K
  (try simp only [pmL, pnL, sc0, sc1])
  refine wpAnyH_ready (rs := [13]) (by kernel_rfl) (by simp) ?_
  refine (AllReadyH.cons (o := ⟨some 22, _, _, _, _, _⟩) rfl (fun K hK => ?_) AllReadyH.nil)
  rw [if_pos (by rfl)]
  refine ow_of_wl (ops := #[]) (by rfl) ?_
  apply wl_bsX ([methV 46 (ptrV ga), methV 88 (ptrV ga), cloV 138 [ptrV g0, ptrV g1, ptrV g2], cloV 139 [ptrV k0, ptrV k1], cloV 90 [ptrV g3, ptrV g4]]) ([methV 46 (ptrV ga), methV 88 (ptrV ga), cloV 138 [ptrV g0, ptrV g1, ptrV g2], cloV 139 [ptrV k0, ptrV k1], cloV 90 [ptrV g3, ptrV g4]]) hA2
  rfl
  rfl
  exact rfl
  exact rfl
  infer_instance
  infer_instance
  rfl
  rfl
  rfl
  intro gs w5 hA3
  refine q0_nil ?_
  refine hK.out _ _ ?_ (fun hHeld => ?_)
  · exact ⟨ldS [_, _, _, _, _, _] hA3 (rfl), ldS [_, _, _, _, _, _, _] hA3 (rfl)⟩
  clear hK K
  (try simp only [pmL, pnL, sc0, sc1])
  refine wpAnyH_ready (rs := [14]) (by kernel_rfl) (by simp) ?_
  refine (AllReadyH.cons (o := ⟨some 23, _, _, _, _, _⟩) rfl (fun K hK => ?_) AllReadyH.nil)
  rw [if_pos (by rfl)]
  go_simp
  (go_at_call 45; have hC := checks_any dev (v := .slice (some ⟨gs, 0, none⟩) 5 5) (n := 5) (fs := [methV 46 (ptrV ga), methV 88 (ptrV ga), cloV 138 [ptrV g0, ptrV g1, ptrV g2], cloV 139 [ptrV k0, ptrV k1]]) (f9 := cloV 90 [ptrV g3, ptrV g4]) (es := readL a dev pl) (e9 := 0) (A := (fun w' => St w (arF ga x a) w' (([HA.blk gs 92 ([methV 46 (ptrV ga), methV 88 (ptrV ga), cloV 138 [ptrV g0, ptrV g1, ptrV g2], cloV 139 [ptrV k0, ptrV k1], cloV 90 [ptrV g3, ptrV g4]]), .blk k1 3 [.int .i64 dev], .blk k0 23 [.pointer (some ⟨ga, 0, none⟩)], .blk g2 3 [.int .i64 pl], .blk g1 3 [.int .i64 dev], .blk g0 23 [.pointer (some ⟨ga, 0, none⟩)], .blk g4 3 [.int .i64 dev], .blk g3 23 [.pointer (some ⟨ga, 0, none⟩)]] : List HA) ++ arP ga x a))) (B := (fun w' => St w (arF ga x a) w' (([HA.blk gs 92 ([methV 46 (ptrV ga), methV 88 (ptrV ga), cloV 138 [ptrV g0, ptrV g1, ptrV g2], cloV 139 [ptrV k0, ptrV k1], cloV 90 [ptrV g3, ptrV g4]]), .blk k1 3 [.int .i64 dev], .blk k0 23 [.pointer (some ⟨ga, 0, none⟩)], .blk g2 3 [.int .i64 pl], .blk g1 3 [.int .i64 dev], .blk g0 23 [.pointer (some ⟨ga, 0, none⟩)], .blk g4 3 [.int .i64 dev], .blk g3 23 [.pointer (some ⟨ga, 0, none⟩)]] : List HA) ++ arP ga x a))) _ (fun _ h => Rd.blk h (.head _) (Nat.le_refl _) (by decide) rfl rfl) rfl rfl (by decide) (read_probes (fun _ h => ArrAt.of h (fun p hp => List.mem_append_right _ hp) OK.out.d0) keeps_st (fun _ h => St.cell h (off := 0) (.tail _ (.tail _ (.tail _ (.tail _ (.tail _ (.head _)))))) rfl) (fun _ h => St.cell h (off := 0) (.tail _ (.tail _ (.tail _ (.tail _ (.head _))))) rfl) (fun _ h => St.cell h (off := 0) (.tail _ (.tail _ (.tail _ (.head _)))) rfl) (fun _ h => St.cell h (off := 0) (.tail _ (.tail _ (.head _))) rfl) (fun _ h => St.cell h (off := 0) (.tail _ (.head _)) rfl)) (fun hz => absurd (firstE_zero hz) H1.out) hA3; refine hC.mono ?_; rintro _ w5 hh; obtain ⟨rfl, h4⟩ := checks_bad H1.out hh; clear hC hh hA3; have hA4 := h4; clear h4)
  refine hK.out _ _ ?_ (fun hHeld => ?_)
  · exact ⟨ldS [_, _, _, _, _, _] hA4 (rfl), ldS [_, _, _, _, _, _, _] hA4 (rfl)⟩
  clear hK K
  (try simp only [pmL, pnL, sc0, sc1])
  refine tkH 15 8 ?_ rfl (by kernel_rfl) (fun _ _ _ h => h) (by rfl) (by assumption) ?_ ?_
  rotate_left
  · intro w hSw; (try dsimp only at hSw); go_simp; try with_reducible rfl
  (try simp only [pmL, pnL, sc0, sc1])
  refine wpAnyH_done (by kernel_rfl) ?_ _
  clear hHeld
  obtain ⟨E, hE⟩ : ∃ E, E = firstE (readL a dev pl) := ⟨_, rfl⟩
  have HQ := hid hE
  rw [← hE] at HE H1
  rw [← hE]
  clear hE
  go_wp2_with (first | go_big_skip | go_big_guard | (go_at_call 47; refine (number_isE E dev HE.out H1.out _).mono ?_; rintro _ w6 ⟨rfl, h4⟩; have hst6 := St.call0 hA4 h4; clear h4 hA4))
  go_ret2
  exact ⟨.slice none 0 0, (by rw [HQ.out]; rfl), St.nilPQ isB _ 1 (St.sub hst6 (List.sublist_append_right _ _))⟩
theorem read_failP {w : World} {ga : Nat} {x : GA} {a : AR} (hS : St w (arF ga x a) w (arP ga x a)) (ok : a.Ok) (hll : a.loose.length < 1000000) (k p : Nat) (h1 : firstE (readL a (k : Int) (p : Int)) = 0) (h2 : 0 < (a.dv (k : Int)).fail) :
    Calls Tryz.prog 36 #[.pointer (some ⟨ga, 0, none⟩), .int .i64 (k : Int), .int .i64 (p : Int)] w fun e w' => ∃ u, e = .returned (.tuple #[u, .int .i64 (a.readE (k : Int) (p : Int))]) ∧ St w (arF ga x a) w' (.rowP isB u 5 1 (a.readB (k : Int) (p : Int)).length (bytesV (a.readB (k : Int) (p : Int))) :: arP ga x (a.read (k : Int) (p : Int))) := by
  have hb := read_ok ok.d0 h1
  have hin : a.inD (k : Int) = true := inS_inD hb.1
  have hfm := ok.fm _ (List.mem_of_getElem? (devs_get hin))
  have HPS : Hid (∀ (M : List Nat) (L1 : List HA) (g3 g4 : Nat), HA.blk g3 23 [.pointer (some ⟨ga, 0, none⟩)] ∈ L1 → HA.blk g4 3 [.int .i64 (k : Int)] ∈ L1 →
      Probe (cloV 90 [ptrV g3, ptrV g4]) 13 (fun w' => St w M w' (L1 ++ arP ga x a)) (fun w' => St w M w' (L1 ++ arP ga x (a.failed (k : Int))))) := hid (by
    intro M L1 g3 g4 c0 c1
    have := probe_read (w0 := w) (M := M) (L1 := L1) (ga := ga) (x := x) hin ⟨hfm.2.2.2.1, hfm.2.2.2.2⟩ c0 c1
    unfold AR.failE at this
    rw [if_pos h2] at this
    exact this)
  have hee : a.failE (k : Int) = 13 := by unfold AR.failE; rw [if_pos h2]
  have hbb : a.readB (k : Int) (p : Int) = [] := by unfold AR.readB; rw [hb.2.1, hee]; rfl
  rw [hbb, hb.2.1, hb.2.2, hee]
  have HS := hid hb.1
  have H1 := hid h1
  have OK := hid ok
  have hst0 := hS
  have hmf := rmf
  clear hb hin hfm hee hbb h1 h2 ok hS
  obtain ⟨a9, ha9⟩ : ∃ a9, a9 = a.failed (k : Int) := ⟨_, rfl⟩
  rw [← ha9] at HPS ⊢
  clear ha9
  go_enter Tryz.func36, Tryz.ntmps36
  go_wp2_with (first | go_big_skip | go_big_guard | (refine wl_box hst0 rfl rfl rfl ?_; intro g3 w1 hst1; clear hst0) | (refine wl_box hst1 rfl rfl rfl ?_; intro g4 w2 hst2; clear hst1))
  have hX := hst2.drew
  clear hst2
  refine wp_region_held_drew (S := (fun w' => (loadVarH 3 ⟨g4, 0, none⟩).run Tryz.prog w' = .ok (.int .i64 (k : Int)) w' ∧ (loadVarH 23 ⟨g3, 0, none⟩).run Tryz.prog w' = .ok (.pointer (some ⟨ga, 0, none⟩)) w')) (by kernel_rfl) (by exact ⟨ldS [] hX (rfl), ldS [_] hX (rfl)⟩) (fun hHeld => ?_)
  refine tkH 0 9 ?_ rfl (by kernel_rfl) (fun _ _ _ h => h) (by rfl) (by assumption) ?_ ?_
  rotate_left
  · intro w hSw; (try dsimp only at hSw); go_simp; try with_reducible rfl
  (try simp only [pmL, pnL, sc0, sc1])
  refine tkH 1 10 ?_ rfl (by kernel_rfl) (fun _ _ _ h => h) (by rfl) (by assumption) ?_ ?_
  rotate_left
  · intro w hSw; (try dsimp only at hSw); go_simp; try with_reducible rfl
  (try simp only [pmL, pnL, sc0, sc1])
  refine tkH 3 12 ?_ rfl (by kernel_rfl) (fun _ _ _ h => h) (by rfl) (by assumption) ?_ ?_
  rotate_left
  · intro w hSw; (try dsimp only at hSw); go_simp; try with_reducible rfl
  (try simp only [pmL, pnL, sc0, sc1])
  refine tkH 5 14 ?_ rfl (by kernel_rfl) (fun _ _ _ h => h) (by rfl) (by assumption) ?_ ?_
  rotate_left
  · intro w hSw; (try dsimp only at hSw); go_simp; try with_reducible rfl
  (try simp only [pmL, pnL, sc0, sc1])
  refine tkH 6 15 ?_ rfl (by kernel_rfl) (fun _ _ _ h => h) (by rfl) (by assumption) ?_ ?_
  rotate_left
  · intro w hSw; (try dsimp only at hSw); go_simp; try with_reducible rfl
  (try simp only [pmL, pnL, sc0, sc1])
  refine tkH 7 16 ?_ rfl (by kernel_rfl) (fun _ _ _ h => h) (by rfl) (by assumption) ?_ ?_
  rotate_left
  · intro w hSw; (try dsimp only at hSw); go_simp; try with_reducible rfl
  (try simp only [pmL, pnL, sc0, sc1])
  refine tkH 9 18 ?_ rfl (by kernel_rfl) (fun _ _ _ h => h) (by rfl) (by assumption) ?_ ?_
  rotate_left
  · intro w hSw; (try dsimp only at hSw); go_simp; try with_reducible rfl
  (try simp only [pmL, pnL, sc0, sc1])
  refine tkH 10 19 ?_ rfl (by kernel_rfl) (fun _ _ _ h => h) (by rfl) (by assumption) ?_ ?_
  rotate_left
  · intro w hSw; (try dsimp only at hSw); go_simp; try with_reducible rfl
  (try simp only [pmL, pnL, sc0, sc1])
  refine tkH 12 21 ?_ rfl (by kernel_rfl) (fun _ _ _ h => h) (by rfl) (by assumption) ?_ ?_
  rotate_left
  · intro w hSw; (try dsimp only at hSw); go_simp; try with_reducible rfl
  (try simp only [pmL, pnL, sc0, sc1])
  refine tkH 2 11 ?_ rfl (by kernel_rfl) (fun _ _ _ h => h) (by rfl) (by assumption) ?_ ?_
  rotate_left
  · intro w hSw; (try dsimp only at hSw); go_simp; try with_reducible rfl
  (try simp only [pmL, pnL, sc0, sc1])
  refine tkH 4 13 ?_ rfl (by kernel_rfl) (fun _ _ _ h => h) (by rfl) (by assumption) ?_ ?_
  rotate_left
  · intro w hSw; (try dsimp only at hSw); go_simp; try with_reducible rfl
  (try simp only [pmL, pnL, sc0, sc1])
  refine wpAnyH_ready (rs := [8]) (by kernel_rfl) (by simp) ?_
  refine (AllReadyH.cons (o := ⟨some 17, _, _, _, _, _⟩) rfl (fun K hK => ?_) AllReadyH.nil)
  rw [if_pos (by rfl)]
  go_simp
  go_at_call 87
  refine (isSector_any ga (k : Int) (p : Int) _).mono ?_
  rintro _ w3 ⟨g0, g1, g2, rfl, h4⟩
  have hA1 := St.call hX h4
  clear h4
  refine hK.out _ _ ?_ (fun hHeld => ?_)
  · exact ⟨ldS [_, _, _] hA1 (rfl), ldS [_, _, _, _] hA1 (rfl)⟩
  clear hK K
  (try simp only [pmL, pnL, sc0, sc1])
  refine wpAnyH_ready (rs := [11]) (by kernel_rfl) (by simp) ?_
  refine (AllReadyH.cons (o := ⟨some 20, _, _, _, _, _⟩) rfl (fun K hK => ?_) AllReadyH.nil)
  rw [if_pos (by rfl)]
  go_simp
  go_at_call 89
  refine (isHere_any ga (k : Int) _).mono ?_
  rintro _ w4 ⟨k0, k1, rfl, h4⟩
  have hA2 := St.call hA1 h4
  clear h4
  refine hK.out _ _ ?_ (fun hHeld => ?_)
  · exact ⟨ldS [_, _, _, _, _] hA2 (rfl), ldS [_, _, _, _, _, _] hA2 (rfl)⟩
  clear hK K
  (try simp only [pmL, pnL, sc0, sc1])
  refine wpAnyH_ready (rs := [13]) (by kernel_rfl) (by simp) ?_
  refine (AllReadyH.cons (o := ⟨some 22, _, _, _, _, _⟩) rfl (fun K hK => ?_) AllReadyH.nil)
  rw [if_pos (by rfl)]
  refine ow_of_wl (ops := #[]) (by rfl) ?_
  apply wl_bsX ([methV 46 (ptrV ga), methV 88 (ptrV ga), cloV 138 [ptrV g0, ptrV g1, ptrV g2], cloV 139 [ptrV k0, ptrV k1], cloV 90 [ptrV g3, ptrV g4]]) ([methV 46 (ptrV ga), methV 88 (ptrV ga), cloV 138 [ptrV g0, ptrV g1, ptrV g2], cloV 139 [ptrV k0, ptrV k1], cloV 90 [ptrV g3, ptrV g4]]) hA2
  rfl
  rfl
  exact rfl
  exact rfl
  infer_instance
  infer_instance
  rfl
  rfl
  rfl
  intro gs w5 hA3
  refine q0_nil ?_
  refine hK.out _ _ ?_ (fun hHeld => ?_)
  · exact ⟨ldS [_, _, _, _, _, _] hA3 (rfl), ldS [_, _, _, _, _, _, _] hA3 (rfl)⟩
  clear hK K
  (try simp only [pmL, pnL, sc0, sc1])
  refine wpAnyH_ready (rs := [14]) (by kernel_rfl) (by simp) ?_
  refine (AllReadyH.cons (o := ⟨some 23, _, _, _, _, _⟩) rfl (fun K hK => ?_) AllReadyH.nil)
  rw [if_pos (by rfl)]
  go_simp
  (go_at_call 45; have hC := checks_any (k : Int) (v := .slice (some ⟨gs, 0, none⟩) 5 5) (n := 5) (fs := [methV 46 (ptrV ga), methV 88 (ptrV ga), cloV 138 [ptrV g0, ptrV g1, ptrV g2], cloV 139 [ptrV k0, ptrV k1]]) (f9 := cloV 90 [ptrV g3, ptrV g4]) (es := readL a (k : Int) (p : Int)) (e9 := 13) (A := (fun w' => St w (arF ga x a) w' (([HA.blk gs 92 ([methV 46 (ptrV ga), methV 88 (ptrV ga), cloV 138 [ptrV g0, ptrV g1, ptrV g2], cloV 139 [ptrV k0, ptrV k1], cloV 90 [ptrV g3, ptrV g4]]), .blk k1 3 [.int .i64 (k : Int)], .blk k0 23 [.pointer (some ⟨ga, 0, none⟩)], .blk g2 3 [.int .i64 (p : Int)], .blk g1 3 [.int .i64 (k : Int)], .blk g0 23 [.pointer (some ⟨ga, 0, none⟩)], .blk g4 3 [.int .i64 (k : Int)], .blk g3 23 [.pointer (some ⟨ga, 0, none⟩)]] : List HA) ++ arP ga x a))) (B := (fun w' => St w (arF ga x a) w' (([HA.blk gs 92 ([methV 46 (ptrV ga), methV 88 (ptrV ga), cloV 138 [ptrV g0, ptrV g1, ptrV g2], cloV 139 [ptrV k0, ptrV k1], cloV 90 [ptrV g3, ptrV g4]]), .blk k1 3 [.int .i64 (k : Int)], .blk k0 23 [.pointer (some ⟨ga, 0, none⟩)], .blk g2 3 [.int .i64 (p : Int)], .blk g1 3 [.int .i64 (k : Int)], .blk g0 23 [.pointer (some ⟨ga, 0, none⟩)], .blk g4 3 [.int .i64 (k : Int)], .blk g3 23 [.pointer (some ⟨ga, 0, none⟩)]] : List HA) ++ arP ga x a9))) _ (fun _ h => Rd.blk h (.head _) (Nat.le_refl _) (by decide) rfl rfl) rfl rfl (by decide) (read_probes (fun _ h => ArrAt.of h (fun p hp => List.mem_append_right _ hp) OK.out.d0) keeps_st (fun _ h => St.cell h (off := 0) (.tail _ (.tail _ (.tail _ (.tail _ (.tail _ (.head _)))))) rfl) (fun _ h => St.cell h (off := 0) (.tail _ (.tail _ (.tail _ (.tail _ (.head _))))) rfl) (fun _ h => St.cell h (off := 0) (.tail _ (.tail _ (.tail _ (.head _)))) rfl) (fun _ h => St.cell h (off := 0) (.tail _ (.tail _ (.head _))) rfl) (fun _ h => St.cell h (off := 0) (.tail _ (.head _)) rfl)) (fun _ => HPS.out _ ([HA.blk gs 92 ([methV 46 (ptrV ga), methV 88 (ptrV ga), cloV 138 [ptrV g0, ptrV g1, ptrV g2], cloV 139 [ptrV k0, ptrV k1], cloV 90 [ptrV g3, ptrV g4]]), .blk k1 3 [.int .i64 (k : Int)], .blk k0 23 [.pointer (some ⟨ga, 0, none⟩)], .blk g2 3 [.int .i64 (p : Int)], .blk g1 3 [.int .i64 (k : Int)], .blk g0 23 [.pointer (some ⟨ga, 0, none⟩)], .blk g4 3 [.int .i64 (k : Int)], .blk g3 23 [.pointer (some ⟨ga, 0, none⟩)]] : List HA) _ _ (.tail _ (.tail _ (.tail _ (.tail _ (.tail _ (.tail _ (.tail _ (.head _)))))))) (.tail _ (.tail _ (.tail _ (.tail _ (.tail _ (.tail _ (.head _)))))))) hA3; refine hC.mono ?_; rintro _ w5 hh; obtain ⟨rfl, h4⟩ := checks_last H1.out (by decide) hh; clear hC hh hA3; have hA4 := h4; clear h4)
  refine hK.out _ _ ?_ (fun hHeld => ?_)
  · exact ⟨ldS [_, _, _, _, _, _] hA4 (rfl), ldS [_, _, _, _, _, _, _] hA4 (rfl)⟩
  clear hK K
  (try simp only [pmL, pnL, sc0, sc1])
  refine tkH 15 8 ?_ rfl (by kernel_rfl) (fun _ _ _ h => h) (by rfl) (by assumption) ?_ ?_
  rotate_left
  · intro w hSw; (try dsimp only at hSw); go_simp; try with_reducible rfl
  (try simp only [pmL, pnL, sc0, sc1])
  refine wpAnyH_done (by kernel_rfl) ?_ _
  clear hHeld
  go_wp2_with (first | go_big_skip | go_big_guard | (go_at_call 47; refine (number_isE 13 (k : Int) (by unfold isE; decide) (by decide) _).mono ?_; rintro _ w6 ⟨rfl, h4⟩; have hst6 := St.call0 hA4 h4; clear h4 hA4))
  go_ret2
  exact ⟨.slice none 0 0, rfl, St.nilPQ isB _ 1 (St.sub hst6 (List.sublist_append_right _ _))⟩
theorem read_fineP {w : World} {ga : Nat} {x : GA} {a : AR} (hS : St w (arF ga x a) w (arP ga x a)) (ok : a.Ok) (hll : a.loose.length < 1000000) (k p : Nat) (h1 : firstE (readL a (k : Int) (p : Int)) = 0) (h2 : ¬ 0 < (a.dv (k : Int)).fail) :
    Calls Tryz.prog 36 #[.pointer (some ⟨ga, 0, none⟩), .int .i64 (k : Int), .int .i64 (p : Int)] w fun e w' => ∃ u, e = .returned (.tuple #[u, .int .i64 (a.readE (k : Int) (p : Int))]) ∧ St w (arF ga x a) w' (.rowP isB u 5 1 (a.readB (k : Int) (p : Int)).length (bytesV (a.readB (k : Int) (p : Int))) :: arP ga x (a.read (k : Int) (p : Int))) := by
  have hb := read_ok ok.d0 h1
  have hin : a.inD (k : Int) = true := inS_inD hb.1
  have hfm := ok.fm _ (List.mem_of_getElem? (devs_get hin))
  have HPS : Hid (∀ (M : List Nat) (L1 : List HA) (g3 g4 : Nat), HA.blk g3 23 [.pointer (some ⟨ga, 0, none⟩)] ∈ L1 → HA.blk g4 3 [.int .i64 (k : Int)] ∈ L1 →
      Probe (cloV 90 [ptrV g3, ptrV g4]) 0 (fun w' => St w M w' (L1 ++ arP ga x a)) (fun w' => St w M w' (L1 ++ arP ga x (a.failed (k : Int))))) := hid (by
    intro M L1 g3 g4 c0 c1
    have := probe_read (w0 := w) (M := M) (L1 := L1) (ga := ga) (x := x) hin ⟨hfm.2.2.2.1, hfm.2.2.2.2⟩ c0 c1
    unfold AR.failE at this
    rw [if_neg h2] at this
    exact this)
  have hee : a.failE (k : Int) = 0 := by unfold AR.failE; rw [if_neg h2]
  have hbb : a.readB (k : Int) (p : Int) = a.tells (k : Int) (p : Int) := by unfold AR.readB; rw [hb.2.1, hee]; rfl
  rw [hbb, hb.2.1, hb.2.2, hee]
  have HS := hid hb.1
  have H1 := hid h1
  have OK := hid ok
  have hst0 := hS
  have hmf := rmf
  have hfd : a.failed (k : Int) = a := by unfold AR.failed; rw [if_neg h2]
  rw [hfd] at HPS ⊢
  have hT := tells_len ok hb.1 a.loose.length
  rw [List.take_length] at hT
  have HT := hid (show (a.tells (k : Int) (p : Int)).length = 256 from hT)
  obtain ⟨R, hR⟩ : ∃ R, R = a.tells (k : Int) (p : Int) := ⟨_, rfl⟩
  have HR := hid hR
  rw [← hR] at HT ⊢
  clear hT hR hfd
  clear hb hin hfm hee hbb h1 h2 ok hS
  go_enter Tryz.func36, Tryz.ntmps36
  go_wp2_with (first | go_big_skip | go_big_guard | (refine wl_box hst0 rfl rfl rfl ?_; intro g3 w1 hst1; clear hst0) | (refine wl_box hst1 rfl rfl rfl ?_; intro g4 w2 hst2; clear hst1))
  have hX := hst2.drew
  clear hst2
  refine wp_region_held_drew (S := (fun w' => (loadVarH 3 ⟨g4, 0, none⟩).run Tryz.prog w' = .ok (.int .i64 (k : Int)) w' ∧ (loadVarH 23 ⟨g3, 0, none⟩).run Tryz.prog w' = .ok (.pointer (some ⟨ga, 0, none⟩)) w')) (by kernel_rfl) (by exact ⟨ldS [] hX (rfl), ldS [_] hX (rfl)⟩) (fun hHeld => ?_)
  refine tkH 0 9 ?_ rfl (by kernel_rfl) (fun _ _ _ h => h) (by rfl) (by assumption) ?_ ?_
  rotate_left
  · intro w hSw; (try dsimp only at hSw); go_simp; try with_reducible rfl
  (try simp only [pmL, pnL, sc0, sc1])
  refine tkH 1 10 ?_ rfl (by kernel_rfl) (fun _ _ _ h => h) (by rfl) (by assumption) ?_ ?_
  rotate_left
  · intro w hSw; (try dsimp only at hSw); go_simp; try with_reducible rfl
  (try simp only [pmL, pnL, sc0, sc1])
  refine tkH 3 12 ?_ rfl (by kernel_rfl) (fun _ _ _ h => h) (by rfl) (by assumption) ?_ ?_
  rotate_left
  · intro w hSw; (try dsimp only at hSw); go_simp; try with_reducible rfl
  (try simp only [pmL, pnL, sc0, sc1])
  refine tkH 5 14 ?_ rfl (by kernel_rfl) (fun _ _ _ h => h) (by rfl) (by assumption) ?_ ?_
  rotate_left
  · intro w hSw; (try dsimp only at hSw); go_simp; try with_reducible rfl
  (try simp only [pmL, pnL, sc0, sc1])
  refine tkH 6 15 ?_ rfl (by kernel_rfl) (fun _ _ _ h => h) (by rfl) (by assumption) ?_ ?_
  rotate_left
  · intro w hSw; (try dsimp only at hSw); go_simp; try with_reducible rfl
  (try simp only [pmL, pnL, sc0, sc1])
  refine tkH 7 16 ?_ rfl (by kernel_rfl) (fun _ _ _ h => h) (by rfl) (by assumption) ?_ ?_
  rotate_left
  · intro w hSw; (try dsimp only at hSw); go_simp; try with_reducible rfl
  (try simp only [pmL, pnL, sc0, sc1])
  refine tkH 9 18 ?_ rfl (by kernel_rfl) (fun _ _ _ h => h) (by rfl) (by assumption) ?_ ?_
  rotate_left
  · intro w hSw; (try dsimp only at hSw); go_simp; try with_reducible rfl
  (try simp only [pmL, pnL, sc0, sc1])
  refine tkH 10 19 ?_ rfl (by kernel_rfl) (fun _ _ _ h => h) (by rfl) (by assumption) ?_ ?_
  rotate_left
  · intro w hSw; (try dsimp only at hSw); go_simp; try with_reducible rfl
  (try simp only [pmL, pnL, sc0, sc1])
  refine tkH 12 21 ?_ rfl (by kernel_rfl) (fun _ _ _ h => h) (by rfl) (by assumption) ?_ ?_
  rotate_left
  · intro w hSw; (try dsimp only at hSw); go_simp; try with_reducible rfl
  (try simp only [pmL, pnL, sc0, sc1])
  refine tkH 2 11 ?_ rfl (by kernel_rfl) (fun _ _ _ h => h) (by rfl) (by assumption) ?_ ?_
  rotate_left
  · intro w hSw; (try dsimp only at hSw); go_simp; try with_reducible rfl
  (try simp only [pmL, pnL, sc0, sc1])
  refine tkH 4 13 ?_ rfl (by kernel_rfl) (fun _ _ _ h => h) (by rfl) (by assumption) ?_ ?_
  rotate_left
  · intro w hSw; (try dsimp only at hSw); go_simp; try with_reducible rfl
  (try simp only [pmL, pnL, sc0, sc1])
  refine wpAnyH_ready (rs := [8]) (by kernel_rfl) (by simp) ?_
  refine (AllReadyH.cons (o := ⟨some 17, _, _, _, _, _⟩) rfl (fun K hK => ?_) AllReadyH.nil)
  rw [if_pos (by rfl)]
  go_simp
  go_at_call 87
  refine (isSector_any ga (k : Int) (p : Int) _).mono ?_
  rintro _ w3 ⟨g0, g1, g2, rfl, h4⟩
  have hA1 := St.call hX h4
  clear h4
  refine hK.out _ _ ?_ (fun hHeld => ?_)
  · exact ⟨ldS [_, _, _] hA1 (rfl), ldS [_, _, _, _] hA1 (rfl)⟩
  clear hK K
  (try simp only [pmL, pnL, sc0, sc1])
  refine wpAnyH_ready (rs := [11]) (by kernel_rfl) (by simp) ?_
  refine (AllReadyH.cons (o := ⟨some 20, _, _, _, _, _⟩) rfl (fun K hK => ?_) AllReadyH.nil)
  rw [if_pos (by rfl)]
  go_simp
  go_at_call 89
  refine (isHere_any ga (k : Int) _).mono ?_
  rintro _ w4 ⟨k0, k1, rfl, h4⟩
  have hA2 := St.call hA1 h4
  clear h4
  refine hK.out _ _ ?_ (fun hHeld => ?_)
  · exact ⟨ldS [_, _, _, _, _] hA2 (rfl), ldS [_, _, _, _, _, _] hA2 (rfl)⟩
  clear hK K
  (try simp only [pmL, pnL, sc0, sc1])
  refine wpAnyH_ready (rs := [13]) (by kernel_rfl) (by simp) ?_
  refine (AllReadyH.cons (o := ⟨some 22, _, _, _, _, _⟩) rfl (fun K hK => ?_) AllReadyH.nil)
  rw [if_pos (by rfl)]
  refine ow_of_wl (ops := #[]) (by rfl) ?_
  apply wl_bsX ([methV 46 (ptrV ga), methV 88 (ptrV ga), cloV 138 [ptrV g0, ptrV g1, ptrV g2], cloV 139 [ptrV k0, ptrV k1], cloV 90 [ptrV g3, ptrV g4]]) ([methV 46 (ptrV ga), methV 88 (ptrV ga), cloV 138 [ptrV g0, ptrV g1, ptrV g2], cloV 139 [ptrV k0, ptrV k1], cloV 90 [ptrV g3, ptrV g4]]) hA2
  rfl
  rfl
  exact rfl
  exact rfl
  infer_instance
  infer_instance
  rfl
  rfl
  rfl
  intro gs w5 hA3
  refine q0_nil ?_
  refine hK.out _ _ ?_ (fun hHeld => ?_)
  · exact ⟨ldS [_, _, _, _, _, _] hA3 (rfl), ldS [_, _, _, _, _, _, _] hA3 (rfl)⟩
  clear hK K
  (try simp only [pmL, pnL, sc0, sc1])
  refine wpAnyH_ready (rs := [14]) (by kernel_rfl) (by simp) ?_
  refine (AllReadyH.cons (o := ⟨some 23, _, _, _, _, _⟩) rfl (fun K hK => ?_) AllReadyH.nil)
  rw [if_pos (by rfl)]
  go_simp
  (go_at_call 45; have hC := checks_any (k : Int) (v := .slice (some ⟨gs, 0, none⟩) 5 5) (n := 5) (fs := [methV 46 (ptrV ga), methV 88 (ptrV ga), cloV 138 [ptrV g0, ptrV g1, ptrV g2], cloV 139 [ptrV k0, ptrV k1]]) (f9 := cloV 90 [ptrV g3, ptrV g4]) (es := readL a (k : Int) (p : Int)) (e9 := 0) (A := (fun w' => St w (arF ga x a) w' (([HA.blk gs 92 ([methV 46 (ptrV ga), methV 88 (ptrV ga), cloV 138 [ptrV g0, ptrV g1, ptrV g2], cloV 139 [ptrV k0, ptrV k1], cloV 90 [ptrV g3, ptrV g4]]), .blk k1 3 [.int .i64 (k : Int)], .blk k0 23 [.pointer (some ⟨ga, 0, none⟩)], .blk g2 3 [.int .i64 (p : Int)], .blk g1 3 [.int .i64 (k : Int)], .blk g0 23 [.pointer (some ⟨ga, 0, none⟩)], .blk g4 3 [.int .i64 (k : Int)], .blk g3 23 [.pointer (some ⟨ga, 0, none⟩)]] : List HA) ++ arP ga x a))) (B := (fun w' => St w (arF ga x a) w' (([HA.blk gs 92 ([methV 46 (ptrV ga), methV 88 (ptrV ga), cloV 138 [ptrV g0, ptrV g1, ptrV g2], cloV 139 [ptrV k0, ptrV k1], cloV 90 [ptrV g3, ptrV g4]]), .blk k1 3 [.int .i64 (k : Int)], .blk k0 23 [.pointer (some ⟨ga, 0, none⟩)], .blk g2 3 [.int .i64 (p : Int)], .blk g1 3 [.int .i64 (k : Int)], .blk g0 23 [.pointer (some ⟨ga, 0, none⟩)], .blk g4 3 [.int .i64 (k : Int)], .blk g3 23 [.pointer (some ⟨ga, 0, none⟩)]] : List HA) ++ arP ga x a))) _ (fun _ h => Rd.blk h (.head _) (Nat.le_refl _) (by decide) rfl rfl) rfl rfl (by decide) (read_probes (fun _ h => ArrAt.of h (fun p hp => List.mem_append_right _ hp) OK.out.d0) keeps_st (fun _ h => St.cell h (off := 0) (.tail _ (.tail _ (.tail _ (.tail _ (.tail _ (.head _)))))) rfl) (fun _ h => St.cell h (off := 0) (.tail _ (.tail _ (.tail _ (.tail _ (.head _))))) rfl) (fun _ h => St.cell h (off := 0) (.tail _ (.tail _ (.tail _ (.head _)))) rfl) (fun _ h => St.cell h (off := 0) (.tail _ (.tail _ (.head _))) rfl) (fun _ h => St.cell h (off := 0) (.tail _ (.head _)) rfl)) (fun _ => HPS.out _ ([HA.blk gs 92 ([methV 46 (ptrV ga), methV 88 (ptrV ga), cloV 138 [ptrV g0, ptrV g1, ptrV g2], cloV 139 [ptrV k0, ptrV k1], cloV 90 [ptrV g3, ptrV g4]]), .blk k1 3 [.int .i64 (k : Int)], .blk k0 23 [.pointer (some ⟨ga, 0, none⟩)], .blk g2 3 [.int .i64 (p : Int)], .blk g1 3 [.int .i64 (k : Int)], .blk g0 23 [.pointer (some ⟨ga, 0, none⟩)], .blk g4 3 [.int .i64 (k : Int)], .blk g3 23 [.pointer (some ⟨ga, 0, none⟩)]] : List HA) _ _ (.tail _ (.tail _ (.tail _ (.tail _ (.tail _ (.tail _ (.tail _ (.head _)))))))) (.tail _ (.tail _ (.tail _ (.tail _ (.tail _ (.tail _ (.head _)))))))) hA3; refine hC.mono ?_; rintro _ w5 hh; obtain ⟨rfl, h4⟩ := checks_fine H1.out hh; clear hC hh hA3; have hA4 := h4; clear h4)
  refine hK.out _ _ ?_ (fun hHeld => ?_)
  · exact ⟨ldS [_, _, _, _, _, _] hA4 (rfl), ldS [_, _, _, _, _, _, _] hA4 (rfl)⟩
  clear hK K
  (try simp only [pmL, pnL, sc0, sc1])
  refine tkH 15 8 ?_ rfl (by kernel_rfl) (fun _ _ _ h => h) (by rfl) (by assumption) ?_ ?_
  rotate_left
  · intro w hSw; (try dsimp only at hSw); go_simp; try with_reducible rfl
  (try simp only [pmL, pnL, sc0, sc1])
  refine wpAnyH_done (by kernel_rfl) ?_ _
  clear hHeld
  go_wp2_with (first | go_big_skip | go_big_guard | (refine wl_loadE rfl rfl rfl ?_; first | refine ⟨_, Loads.at [_, _, _, _, _, _] hA4 rfl, ?_⟩ | refine ⟨_, Loads.at [_, _, _, _, _, _, _] hA4 rfl, ?_⟩) | (go_at_call 50; refine (tells_anyP (ArrAll.of hA4 (fun p hp => List.mem_append_right _ hp) OK.out.d0) OK.out hll k p HS.out).mono ?_; rw [← HR.out]; rintro _ w8 ⟨u, rfl, h4⟩; have hst6 := St.call hA4 h4; clear h4 hA4))
  go_ret2
  refine ⟨u, rfl, ?_⟩
  rw [HT.out]
  exact St.sub hst6 (.cons_cons _ (List.sublist_append_right _ _))
end
theorem readM_anyP {w : World} {ga : Nat} {x : GA} {a : AR} (hS : St w (arF ga x a) w (arP ga x a)) (ok : a.Ok) (hll : a.loose.length < 1000000) (dev pl : Int) :
    Calls Tryz.prog 36 #[.pointer (some ⟨ga, 0, none⟩), .int .i64 dev, .int .i64 pl] w fun e w' => ∃ u, e = .returned (.tuple #[u, .int .i64 (a.readE dev pl)]) ∧ St w (arF ga x a) w' (.rowP isB u 5 1 (a.readB dev pl).length (bytesV (a.readB dev pl)) :: arP ga x (a.read dev pl)) := by
  by_cases h1 : firstE (readL a dev pl) = 0
  · have hb := read_ok ok.d0 h1
    obtain ⟨k, rfl⟩ : ∃ k : Nat, dev = k := ⟨dev.toNat, by have := (inD_dev (inS_inD hb.1)).1; omega⟩
    obtain ⟨p, rfl⟩ : ∃ p : Nat, pl = p := ⟨pl.toNat, by have := (inS_pl hb.1).1; omega⟩
    by_cases h2 : 0 < (a.dv (k : Int)).fail
    · exact read_failP hS ok hll k p h1 h2
    · exact read_fineP hS ok hll k p h1 h2
  · exact read_badP hS ok hll dev pl h1
end Go.Proofs.YtmdfbdfijnmhkaaGreat
namespace Go.Proofs.YtmdfbdfijnmhkaaGreat
set_option linter.unusedVariables false
set_option linter.unusedSimpArgs false
open Hp
abbrev Wd := BitVec 32
def rotr (x : Wd) (n : Nat) : Wd := x >>> n ||| x <<< (32 - n)
def kT : List Wd := [0x428a2f98, 0x71374491, 0xb5c0fbcf, 0xe9b5dba5, 0x3956c25b, 0x59f111f1, 0x923f82a4, 0xab1c5ed5,
  0xd807aa98, 0x12835b01, 0x243185be, 0x550c7dc3, 0x72be5d74, 0x80deb1fe, 0x9bdc06a7, 0xc19bf174,
  0xe49b69c1, 0xefbe4786, 0x0fc19dc6, 0x240ca1cc, 0x2de92c6f, 0x4a7484aa, 0x5cb0a9dc, 0x76f988da,
  0x983e5152, 0xa831c66d, 0xb00327c8, 0xbf597fc7, 0xc6e00bf3, 0xd5a79147, 0x06ca6351, 0x14292967,
  0x27b70a85, 0x2e1b2138, 0x4d2c6dfc, 0x53380d13, 0x650a7354, 0x766a0abb, 0x81c2c92e, 0x92722c85,
  0xa2bfe8a1, 0xa81a664b, 0xc24b8b70, 0xc76c51a3, 0xd192e819, 0xd6990624, 0xf40e3585, 0x106aa070,
  0x19a4c116, 0x1e376c08, 0x2748774c, 0x34b0bcb5, 0x391c0cb3, 0x4ed8aa4a, 0x5b9cca4f, 0x682e6ff3,
  0x748f82ee, 0x78a5636f, 0x84c87814, 0x8cc70208, 0x90befffa, 0xa4506ceb, 0xbef9a3f7, 0xc67178f2]
structure S8 where
  (a b c d e f g h : Wd)
deriving DecidableEq
def S8.list (s : S8) : List Wd := [s.a, s.b, s.c, s.d, s.e, s.f, s.g, s.h]
def S8.start : S8 := ⟨0x6a09e667, 0xbb67ae85, 0x3c6ef372, 0xa54ff53a, 0x510e527f, 0x9b05688c, 0x1f83d9ab, 0x5be0cd19⟩
def sg0 (x : Wd) : Wd := rotr x 7 ^^^ rotr x 18 ^^^ x >>> 3
def sg1 (y : Wd) : Wd := rotr y 17 ^^^ rotr y 19 ^^^ y >>> 10
def byW (p : List UInt8) (i : Nat) : Wd := BitVec.ofNat 32 (p.getD i 0).toNat
def word4 (p : List UInt8) (i : Nat) : Wd := byW p (4 * i) <<< 24 ||| byW p (4 * i + 1) <<< 16 ||| byW p (4 * i + 2) <<< 8 ||| byW p (4 * i + 3)
def nextW (p : List UInt8) (l : List Wd) : Wd :=
  if l.length < 16 then word4 p l.length
  else l.getD (l.length - 16) 0 + sg0 (l.getD (l.length - 15) 0) + l.getD (l.length - 7) 0 + sg1 (l.getD (l.length - 2) 0)
def wds (p : List UInt8) : Nat → List Wd
  | 0 => []
  | k + 1 => wds p k ++ [nextW p (wds p k)]
def wdAt (p : List UInt8) (i : Nat) : Wd := nextW p (wds p i)
def S8.rnd (s : S8) (k w : Wd) : S8 :=
  let t := s.h + (rotr s.e 6 ^^^ rotr s.e 11 ^^^ rotr s.e 25) + (s.e &&& s.f ^^^ ~~~s.e &&& s.g) + k + w
  let u := (rotr s.a 2 ^^^ rotr s.a 13 ^^^ rotr s.a 22) + (s.a &&& s.b ^^^ s.a &&& s.c ^^^ s.b &&& s.c)
  ⟨t + u, s.a, s.b, s.c, s.d + t, s.e, s.f, s.g⟩
def rnds (s : S8) (p : List UInt8) : Nat → S8
  | 0 => s
  | i + 1 => (rnds s p i).rnd (kT.getD i 0) (wdAt p i)
def S8.add (s r : S8) : S8 := ⟨s.a + r.a, s.b + r.b, s.c + r.c, s.d + r.d, s.e + r.e, s.f + r.f, s.g + r.g, s.h + r.h⟩
def S8.turn (s : S8) (p : List UInt8) : S8 := (rnds s p 64).add s
def noughts (n : Nat) : Nat := (119 - n % 64) % 64
def filled (b : List UInt8) : List UInt8 := b ++ 128 :: (List.replicate (noughts b.length) 0 ++ numB (8 * b.length) 8)
def cut64 (l : List UInt8) (k : Nat) : List UInt8 := (l.drop (64 * k)).take 64
def pieces (b : List UInt8) : List (List UInt8) := (List.range ((filled b).length / 64)).map (cut64 (filled b))
def sumS (b : List UInt8) : S8 := (pieces b).foldl S8.turn S8.start
def wBytes (x : Wd) : List UInt8 := [24, 16, 8, 0].map fun s => UInt8.ofNat (x >>> s).toNat
def S8.bytes (s : S8) : List UInt8 := s.list.flatMap wBytes
def sumB (b : List UInt8) : List UInt8 := (sumS b).bytes
theorem wds_length (p : List UInt8) (k : Nat) : (wds p k).length = k := by
  induction k with
  | zero => rfl
  | succ k ih => simp [wds, ih]
theorem wds_get (p : List UInt8) {k j : Nat} (h : j < k) : (wds p k).getD j 0 = wdAt p j := by
  induction k with
  | zero => omega
  | succ k ih =>
    rw [wds]
    by_cases e : j = k
    · subst e
      simp [List.getD, wds_length, wdAt]
    · rw [← ih (by omega)]
      simp only [List.getD]
      rw [List.getElem?_append_left (by rw [wds_length]; omega)]
theorem wdAt_lo (p : List UInt8) {i : Nat} (h : i < 16) : wdAt p i = word4 p i := by
  unfold wdAt nextW
  rw [wds_length, if_pos h]
theorem wdAt_hi (p : List UInt8) {i : Nat} (h : 16 ≤ i) : wdAt p i = wdAt p (i - 16) + sg0 (wdAt p (i - 15)) + wdAt p (i - 7) + sg1 (wdAt p (i - 2)) := by
  have h0 : wdAt p i = nextW p (wds p i) := rfl
  rw [h0, nextW, wds_length, if_neg (by omega), wds_get p (by omega), wds_get p (by omega), wds_get p (by omega), wds_get p (by omega)]
theorem noughts_mod (n : Nat) : (n + 1 + noughts n) % 64 = 56 := by unfold noughts; omega
theorem length_filled (b : List UInt8) : (filled b).length = b.length + 9 + noughts b.length := by
  unfold filled
  simp [length_numB]; omega
theorem filled_mod (b : List UInt8) : (filled b).length % 64 = 0 := by
  have := noughts_mod b.length
  rw [length_filled]; omega
def wI (x : Wd) : Int := (x.toNat : Int)
def wordsV (l : List Wd) : List Value := l.map fun x => .int .u32 (wI x)
end Go.Proofs.YtmdfbdfijnmhkaaGreat
