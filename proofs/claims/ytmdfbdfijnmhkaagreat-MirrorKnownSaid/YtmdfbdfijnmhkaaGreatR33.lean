import Derived.Test.YtmdfbdfijnmhkaaGreatR32
namespace Go.Proofs.YtmdfbdfijnmhkaaGreat
set_option linter.unusedVariables false
set_option linter.unusedSimpArgs false
open Go.RowKit Hp
attribute [local irreducible] Go.Calls Go.wpList
set_option maxRecDepth 100000
set_option maxHeartbeats 4000000
def AR.rest (a : AR) (k : Nat) : AR := { a with loose := a.loose.filter fun w => w.dev != k }
theorem drop_any {w : World} {ga : Nat} {x : GA} {a : AR} (hS : St w (arF ga x a) w (arP ga x a)) (ok : a.Ok) (hll : a.loose.length < 1000000) (k : Nat) :
    Calls Tryz.prog 39 #[.pointer (some ⟨ga, 0, none⟩), .int .i64 (k : Int)] w fun e w' => e = .returned (.tuple #[]) ∧ ∃ lv, St w (arF ga x a) w' (arP ga ⟨x.gd, x.cd, x.rest, lv⟩ (a.rest k)) := by
  have hst0 := hS
  have HB := hid (fun v hv => (ok.lw v hv).2.2)
  have hmf := rmf
  clear hS ok
  go_enter Tryz.func39, Tryz.ntmps39
  go_wp2_with (first | go_big_skip | go_big_guard | (refine wl_box hst0 rfl rfl rfl ?_; intro g3 w1 hst1; clear hst0) | (refine wl_loadE rfl rfl rfl ?_; refine ⟨_, Loads.at [_] hst1 rfl, ?_⟩) | (go_at_call 91; have hq := St.front (L1 := [_, _, _]) hst1; have hd := del_any (g3 := g3) (k := k) (St.cell hst1 (off := 0) (.head _) rfl) a.loose x.lv (St.ofRow w1 (St.owns hq (.head _))) (fun he => by have hap := hq.apart; unfold Apart at hap; rw [List.pairwise_cons] at hap; exact hap.1 _ (.head _) g3 he rfl) HB.out hll; refine hd.mono ?_; rintro _ w2 ⟨ao, n9, c9, rfl, h4⟩; have hst2 := St.callRow hq h4; clear hd hq h4 hst1) | (refine wl_store [_, _] hst2 rfl rfl rfl (v := .slice _ _ _) rfl rfl rfl (by show (1 : Nat) + 1 ≤ 5; decide) ?_; intro w3 hst3; clear hst2))
  go_end0
  refine ⟨rfl, .slice ao n9 c9, ?_⟩
  exact St.perm (St.sub hst3 (.cons_cons _ (.cons _ (List.Sublist.refl _)))) ((List.Perm.swap _ _ _).trans (List.Perm.cons _ (List.Perm.swap _ _ _)))
theorem befallsE_fine {w : World} {M : List Nat} {Lb : List HA} {ga : Nat} {x : GA} {a a' : AR} (hS : St w M w (Lb ++ arP ga x a)) (ok : a.Ok) (dev : Int) (fn : Nat) (cap : List Value) (v : Value) (m : Nat) (ws : List Value) (rs : List Int)
    (hfn : ∀ (a : Array Value) (w : World), (callFunc fn a).run Tryz.prog w = .ok (.enter fn a) w)
    (hr : ∀ (X : List HA) (w' : World), St w M w' (X ++ (Lb ++ arP ga x a)) → Rd w' v 1 m ws) (hw : ws.length = m) (hrs : rs.length = m) (hm : m ≤ 10) (h1c : ws.all (·.oneCell') = true)
    (hp : ∀ (X : List HA) (j : Nat) (f : Value) (e : Int), ws[j]? = some f → rs[j]? = some e → (∀ i < j, rs.getD i 0 = 0) → Probe f e (fun w' => St w M w' (X ++ (Lb ++ arP ga x a))) (fun w' => St w M w' (X ++ (Lb ++ arP ga x a))))
    (hin : firstE rs = 0 → a.inD dev = true) (hE : ∀ e ∈ rs, e = 0 ∨ isE e)
    (hD : firstE rs = 0 → (a.dv dev).gone = false → ∀ (X : List HA) (w' : World), St w M w' (X ++ (Lb ++ arP ga x a)) → Calls Tryz.prog fn (List.toArray (.pointer (some ⟨x.gd, dev.toNat * 5, none⟩) :: cap)) w' fun e w'' => e = .returned (.tuple #[]) ∧ ∃ x', St w M w'' (X ++ (Lb ++ arP ga x' a'))) (h1 : firstE rs = 0) (h2 : (a.dv dev).gone = false) :
    Calls Tryz.prog 37 #[.pointer (some ⟨ga, 0, none⟩), .int .i64 dev, .func (.func fn) #[] (List.toArray cap), v] w fun e w' => e = .returned (.int .i64 (0)) ∧ ∃ X x', St w M w' (X ++ (Lb ++ arP ga x' a')) := by
  have hst0 : St w M w ([] ++ (Lb ++ arP ga x a)) := hS
  have HR := hid hr
  have HW := hid hw
  have HRS := hid hrs
  have HP := hid hp
  have HIN := hid hin
  have HDD := hid hD
  have H1 := hid h1
  have OK := hid ok
  have H1C := hid h1c
  have hmf := rmf
  have hin2 := hin h1
  obtain ⟨k, rfl⟩ : ∃ k : Nat, dev = k := ⟨dev.toNat, by have := (inD_dev hin2).1; omega⟩
  have hlt : k < a.devs.length := by have := (inD_dev hin2).2; omega
  have HI2 := hid hin2
  clear hin2
  have H2 := hid h2
  have HG : Hid (orE (!(a.dv (k : Int)).gone) 14 = 0) := hid (by rw [h2]; rfl)
  clear hr hw hrs hp hin hD h1 ok hE h1c hS h2
  go_enter Tryz.func37, Tryz.ntmps37
  go_wp2_with (first | go_big_skip | go_big_guard | (apply wl_bsX ([methV 46 (ptrV ga)]) ([methV 46 (ptrV ga)]) hst0; rfl; rfl; exact rfl; exact rfl; infer_instance; infer_instance; rfl; rfl; rfl; intro g1 w1 hst1; clear hst0; have hst2 : St w M w1 (.row (.slice (some ⟨g1, 0, none⟩) 1 1) 92 1 1 [methV 46 (ptrV ga)] :: (Lb ++ arP ga x a)) := St.toRow (n := 1) (cap := 1) (sz := 1) hst1 rfl (Nat.le_refl _) (by decide); clear hst1) | (apply wl_appX (m := m) (ys := ws) [] hst2; rfl; rfl; exact rfl; exact rfl; infer_instance; infer_instance; infer_instance; exact HR.out [_] _ hst2; exact H1C.out; (refine ⟨by decide, by unfold maxLen; omega, by omega⟩); intro v1 w2 hst3 _; clear hst2) | (go_at_call 89; refine (isHere_any ga (k : Int) _).mono ?_; rintro _ w4 ⟨k0, k1, rfl, h4⟩; have hst4 := St.call hst3 h4; clear h4 hst3) | (apply wl_bsX ([cloV 139 [ptrV k0, ptrV k1]]) ([cloV 139 [ptrV k0, ptrV k1]]) hst4; rfl; rfl; exact rfl; exact rfl; infer_instance; infer_instance; rfl; rfl; rfl; intro gb w5 hst5; clear hst4) | (apply wl_appX (m := 1) (ys := [cloV 139 [ptrV k0, ptrV k1]]) [_, _, _] hst5; rfl; rfl; exact rfl; exact rfl; infer_instance; infer_instance; infer_instance; exact Rd.blk (n := 1) hst5 (.head _) (Nat.le_refl _) (by decide) rfl rfl; rfl; (refine ⟨by decide, by unfold maxLen; omega, by omega⟩); intro v2 w6 hst6 _; clear hst5) | (go_at_call 45; have hC := checks_any (k : Int) (v := v2) (n := 1 + m + 1) (fs := methV 46 (ptrV ga) :: ws) (f9 := cloV 139 [ptrV k0, ptrV k1]) (es := 0 :: rs) (e9 := orE (!(a.dv ((k : Int))).gone) 14) (A := fun w' => St w M w' (([HA.blk gb 92 [cloV 139 [ptrV k0, ptrV k1]], .blk k1 3 [.int .i64 (k : Int)], .blk k0 23 [.pointer (some ⟨ga, 0, none⟩)], .row v2 92 1 (1 + m + 1) (([methV 46 (ptrV ga)] ++ ws) ++ [cloV 139 [ptrV k0, ptrV k1]])] : List HA) ++ (Lb ++ arP ga x a))) (B := fun w' => St w M w' (([HA.blk gb 92 [cloV 139 [ptrV k0, ptrV k1]], .blk k1 3 [.int .i64 (k : Int)], .blk k0 23 [.pointer (some ⟨ga, 0, none⟩)], .row v2 92 1 (1 + m + 1) (([methV 46 (ptrV ga)] ++ ws) ++ [cloV 139 [ptrV k0, ptrV k1]])] : List HA) ++ (Lb ++ arP ga x a))) _ (fun _ h => Rd.row h (.tail _ (.tail _ (.tail _ (.head _))))) (by rw [List.length_cons, List.length_cons, HW.out, HRS.out]) (by rw [List.length_cons, HW.out]; omega) (by omega) (fun j f e hf he hz => (match j, hf, he, hz with | 0, hf, he, _ => (by cases hf; cases he; exact probe_made (fun _ h => ArrAt.of h (fun p hp => List.mem_append_right _ (List.mem_append_right _ hp)) OK.out.d0) keeps_st) | j + 1, hf, he, hz => HP.out _ j f e (by simpa using hf) (by simpa using he) (getD_cons0 hz))) (fun hz => probe_isHere (fun _ h => ArrAt.of h (fun p hp => List.mem_append_right _ (List.mem_append_right _ hp)) OK.out.d0) keeps_st (HIN.out (by rw [← firstE_cons0]; exact firstE_zero hz)) (fun _ h => St.cell h (off := 0) (.tail _ (.tail _ (.head _))) rfl) (fun _ h => St.cell h (off := 0) (.tail _ (.head _)) rfl)) hst6; rw [HG.out] at hC; refine hC.mono ?_; rintro _ w8 hh; obtain ⟨rfl, h4⟩ := checks_fine (by rw [firstE_cons0]; exact H1.out) hh; clear hC hh hst6; have hst7 := h4; clear h4) | (refine wl_loadE rfl rfl rfl ?_; refine ⟨_, Loads.cell (T := 106) TyS.out (St.cell hst7 (off := 0) (g := ga) (T := 109) (cs := arrC x a) (List.mem_append_right _ (List.mem_append_right _ (.head _))) rfl), ?_⟩) | (refine wl_index (k := k) rfl rfl rfl rfl hlt ?_) | ((refine (HDD.out H1.out H2.out _ _ hst7).mono ?_); rintro _ w9 ⟨rfl, x', h4⟩; have hst8 := h4; clear h4 hst7))
  go_ret
  exact ⟨rfl, _, _, hst8⟩
theorem arr_in {w0 w : World} {M : List Nat} {X : List HA} {ga : Nat} {x : GA} {a : AR} (h : St w0 M w (X ++ arP ga x a)) : St w (arF ga x a) w (arP ga x a) := (St.sub h (List.sublist_append_right _ _)).selfF
theorem arr_out {w0 w w' : World} {M : List Nat} {X : List HA} {ga : Nat} {x x' : GA} {a a' : AR} (h : St w0 M w (X ++ arP ga x a)) (h4 : St w (arF ga x a) w' (arP ga x' a')) : St w0 M w' (X ++ arP ga x' a') :=
  St.perm (St.callF (arP ga x a) (St.perm h List.perm_append_comm) h4) List.perm_append_comm
theorem arr_off {w0 w : World} {M : List Nat} {X : List HA} {ga : Nat} {x : GA} {a : AR} (h : St w0 M w (X ++ arP ga x a)) {g : Nat} {T : TypeId} {cs : List Value} (hm : HA.blk g T cs ∈ X) : g ∉ arF ga x a := by
  intro hF
  have hap := h.apart
  unfold Apart at hap
  rw [List.pairwise_append] at hap
  obtain ⟨y, hy, hk⟩ := List.mem_filterMap.1 hF
  exact hap.2.2 _ hm y hy g rfl hk
theorem befallsE_any {w : World} {M : List Nat} {Lb : List HA} {ga : Nat} {x : GA} {a : AR} (hS : St w M w (Lb ++ arP ga x a)) (ok : a.Ok) (dev : Int) (fn : Nat) (cap : List Value) (v : Value) (m : Nat) (ws : List Value) (rs : List Int) (a' : AR)
    (hfn : ∀ (a : Array Value) (w : World), (callFunc fn a).run Tryz.prog w = .ok (.enter fn a) w)
    (hr : ∀ (X : List HA) (w' : World), St w M w' (X ++ (Lb ++ arP ga x a)) → Rd w' v 1 m ws) (hw : ws.length = m) (hrs : rs.length = m) (hm : m ≤ 10) (h1c : ws.all (·.oneCell') = true)
    (hp : ∀ (X : List HA) (j : Nat) (f : Value) (e : Int), ws[j]? = some f → rs[j]? = some e → (∀ i < j, rs.getD i 0 = 0) → Probe f e (fun w' => St w M w' (X ++ (Lb ++ arP ga x a))) (fun w' => St w M w' (X ++ (Lb ++ arP ga x a))))
    (hin : firstE rs = 0 → a.inD dev = true) (hE : ∀ e ∈ rs, e = 0 ∨ isE e)
    (hD : firstE rs = 0 → (a.dv dev).gone = false → ∀ (w' : World), (∀ (g : Nat) (T : TypeId) (cs : List Value), HA.blk g T cs ∈ Lb → w'.heap[g]? = some (.cells cs.toArray T (0, 0)) ∧ g ∉ arF ga x a) → St w' (arF ga x a) w' (arP ga x a) →
      Calls Tryz.prog fn (List.toArray (.pointer (some ⟨x.gd, dev.toNat * 5, none⟩) :: cap)) w' fun e w'' => e = .returned (.tuple #[]) ∧ ∃ x', St w' (arF ga x a) w'' (arP ga x' a')) :
    Calls Tryz.prog 37 #[.pointer (some ⟨ga, 0, none⟩), .int .i64 dev, .func (.func fn) #[] (List.toArray cap), v] w fun e w' => e = .returned (.int .i64 (a.fellE dev rs)) ∧ ∃ X x', St w M w' (X ++ (Lb ++ arP ga x' (if a.fellE dev rs = 0 then a' else a))) := by
  have hD' : firstE rs = 0 → (a.dv dev).gone = false → ∀ (X : List HA) (w' : World), St w M w' (X ++ (Lb ++ arP ga x a)) → Calls Tryz.prog fn (List.toArray (.pointer (some ⟨x.gd, dev.toNat * 5, none⟩) :: cap)) w' fun e w'' => e = .returned (.tuple #[]) ∧ ∃ x', St w M w'' (X ++ (Lb ++ arP ga x' a')) := by
    intro h1 h2 X w' h
    rw [← List.append_assoc] at h
    refine (hD h1 h2 w' (fun g T cs hm => ⟨h.all (.blk g T cs) (List.mem_append_left _ (List.mem_append_right _ hm)), arr_off h (List.mem_append_right _ hm)⟩) (arr_in h)).mono ?_
    rintro _ w'' ⟨rfl, x', h4⟩
    have h5 := arr_out h h4
    rw [List.append_assoc] at h5
    exact ⟨rfl, x', h5⟩
  have hD0 : firstE rs = 0 → (a.dv dev).gone = true → False → ∀ (X : List HA) (w' : World), True := fun _ _ _ _ _ => trivial
  unfold AR.fellE
  rw [firstE_snoc]
  by_cases h1 : firstE rs = 0
  · rw [if_pos h1]
    cases h2 : (a.dv dev).gone
    · rw [if_pos (by decide)]
      exact befallsE_fine hS ok dev fn cap v m ws rs hfn hr hw hrs hm h1c hp hin hE hD' h1 h2
    · rw [if_neg (by decide)]
      refine (befalls_gone (x' := x) (a' := a) hS ok dev fn cap v m ws rs hfn hr hw hrs hm h1c hp hin hE (fun _ h3 => absurd h3 (by rw [h2]; decide)) h1 h2).mono ?_
      rintro _ w' ⟨rfl, X, h4⟩
      exact ⟨rfl, X, x, h4⟩
  · rw [if_neg h1, if_neg h1]
    refine (befalls_bad (x' := x) (a' := a) hS ok dev fn cap v m ws rs hfn hr hw hrs hm h1c hp hin hE (fun h3 => absurd h3 h1) h1).mono ?_
    rintro _ w' ⟨rfl, X, h4⟩
    exact ⟨rfl, X, x, h4⟩
def fGone : DV → DV := fun d => { d with gone := true }
def AR.pull (a : AR) (dev : Int) : AR := if a.fellE dev [orE (a.inD dev) 5] = 0 then (a.upd dev fGone).rest dev.toNat else a
def AR.pullE (a : AR) (dev : Int) : Int := a.fellE dev [orE (a.inD dev) 5]
theorem AR.Ok.rest {a : AR} (ok : a.Ok) (k : Nat) : (a.rest k).Ok := ok.loose fun w hw => ok.lw w (List.mem_filter.1 hw).1
theorem fellE_in {a : AR} {dev : Int} {rs : List Int} {e : Int} (he : e ≠ 0) {b : Bool} (hb : orE b e ∈ rs) (h : a.fellE dev rs = 0) : b = true := by
  unfold AR.fellE at h
  exact orE_zero he (firstE_all h _ (List.mem_append_left _ hb))
theorem AR.Ok.pull {a : AR} (ok : a.Ok) (dev : Int) : (a.pull dev).Ok := by
  unfold AR.pull
  split
  · rename_i h
    have hin : a.inD dev = true := fellE_in (by decide) (.head _) h
    have hf := ok.dv hin
    exact (ok.upd (f := fGone) hin ⟨hf.1, hf.2.1, hf.2.2.1, hf.2.2.2⟩).rest _
  · exact ok
theorem pull1_any {w : World} {ga : Nat} {x : GA} {a : AR} {k gA gB : Nat} (hS : St w (arF ga x a) w (arP ga x a)) (ok : a.Ok) (hll : a.loose.length < 1000000) (hin : a.inD (k : Int) = true)
    (hA : w.cell? ⟨gA, 0, none⟩ = some (.pointer (some ⟨ga, 0, none⟩))) (hA2 : gA ∉ arF ga x a) (hB : w.cell? ⟨gB, 0, none⟩ = some (.int .i64 (k : Int))) (hB2 : gB ∉ arF ga x a) :
    Calls Tryz.prog 38 #[.pointer (some ⟨x.gd, k * 5, none⟩), ptrV gA, ptrV gB] w fun e w' => e = .returned (.tuple #[]) ∧ ∃ x', St w (arF ga x a) w' (arP ga x' ((a.upd (k : Int) fGone).rest k)) := by
  obtain ⟨a1, ha1⟩ : ∃ a1, a1 = a.upd (k : Int) fGone := ⟨_, rfl⟩
  have HPUT := hid (devC_put (rest := x.rest) (f := fGone) (v := .bool true) hin (i := 1) (by decide) rfl)
  have HL := hid (List.getElem?_eq_some_iff.1 (devC_get (rest := x.rest) hin (i := 1) rfl (by decide))).1
  replace HL : Hid (k * 5 + 1 + 1 ≤ (devC a ++ x.rest).length) := HL
  have hf := ok.dv hin
  have HOK : Hid a1.Ok := hid (by rw [ha1]; exact ok.upd (f := fGone) hin ⟨hf.1, hf.2.1, hf.2.2.1, hf.2.2.2⟩)
  have HLL : Hid (a1.loose.length < 1000000) := hid (by rw [ha1]; exact hll)
  have HP : Hid (arP ga x a1 = .blk ga 109 (arrC x a) :: .blk x.gd 89 (devC a1 ++ x.rest) :: .row x.lv 149 258 a.loose.length (looC a) :: a.devs.map (fun d => .blk d.g 144 (secsV d.firm))) := hid (by rw [ha1]; exact arP_upd ga x a (k : Int) (fun d => ⟨rfl, rfl⟩))
  rw [← ha1] at HPUT
  rw [← ha1]
  have HA := hid hA
  have HA2 := hid hA2
  have HB := hid hB
  have HB2 := hid hB2
  have hst0 := hS
  clear hin hf ha1 hA hA2 hB hB2 ok hS hll
  unfold ptrV
  go_enter Tryz.func38, Tryz.ntmps38
  go_wp2_with (first | go_big_skip | go_big_guard | (refine wl_store [_] hst0 rfl rfl rfl (v := .bool _) rfl rfl rfl HL.out ?_; intro w3 hs3; clear hst0; have hs4 : St w (arF ga x a) w3 (arP ga x a1) := (by rw [HP.out, ← HPUT.out]; exact hs3); clear hs3) | (refine wl_loadE rfl rfl rfl ?_; first | refine ⟨_, Loads.oldM hs4 HA.out HA2.out, ?_⟩ | refine ⟨_, Loads.oldM hs4 HB.out HB2.out, ?_⟩) | (go_at_call 39; refine (drop_any hs4.selfF HOK.out HLL.out k).mono ?_; rintro _ w5 ⟨rfl, lv9, h4⟩; have hs5 := St.thenF hs4 h4; clear h4 hs4))
  go_end0
  exact ⟨rfl, _, hs5⟩
end Go.Proofs.YtmdfbdfijnmhkaaGreat
