import Derived.Test.YtmdfbdfijnmhkaaGreatJMirrorScriptd
import Derived.Test.YtmdfbdfijnmhkaaGreatJMirrorScriptb
import Derived.IntWalk
import Derived.Test.YtmdfbdfijnmhkaaGreatJMirrorScripta
import Derived.Deep.Slices
import Derived.Test.YtmdfbdfijnmhkaaGreatProg
import Derived.Deep.RegionHeld3
namespace Go.Proofs.YtmdfbdfijnmhkaaGreat
set_option linter.unusedVariables false
set_option linter.unusedSimpArgs false
set_option maxRecDepth 100000
set_option maxHeartbeats 8000000
section
open Go.RowKit Hp
attribute [local irreducible] Go.Calls Go.wpList
def AR.rest (a : AR) (k : Nat) : AR := { a with loose := a.loose.filter fun w => w.dev != k }
theorem drop_any {w : World} {ga : Nat} {x : GA} {a : AR} (hS : St w (yT ga x a) w (yj ga x a)) (ok : a.Ok) (hll : a.loose.length < 1000000) (k : Nat) :
  Calls Tryz.prog 39 #[.pointer (some ⟨ga, 0, none⟩), .int .i64 (k : Int)] w fun e w' => e = .returned (.tuple #[]) ∧ ∃ lv, St w (yT ga x a) w' (yj ga ⟨x.gd, x.cd, x.rest, lv⟩ (a.rest k)) := by
 have hst0 := hS; have HB := ya (fun v hv => (ok.lw v hv).2.2); have hmf := rmf; clear hS ok; go_enter Tryz.func39, Tryz.ntmps39; go_wp2_with (first | (refine zbo hst0 fun g3 w1 hst1 => ?_; clear hst0) | (refine jl (Loads.at [_] hst1 rfl) ?_) | (go_at_call 91; have hq := yy (L1 := [_, _, _]) hst1; have hd := del_any (g3 := g3) (k := k) (St.cell hst1 (off := 0) zH rfl) a.loose x.lv (St.ofRow w1 (St.owns hq zH)) (fun he => by have hap := hq.apart; unfold jK at hap; rw [List.pairwise_cons] at hap; exact hap.1 _ zH g3 he rfl) HB.out hll; refine hd.mono ?_; rintro _ w2 ⟨ao, n9, c9, rfl, h4⟩; have hst2 := St.callRow hq h4; clear hd hq h4 hst1) | (refine ye [_, _] hst2 rfl rfl rfl (v := .slice _ _ _) rfl rfl rfl (by show (1 : Nat) + 1 ≤ 5; decide) ?_; intro w3 hst3; clear hst2)); go_end0; refine ⟨rfl, .slice ao n9 c9, ?_⟩; exact St.perm (St.sub hst3 (.cons_cons _ (.cons _ (List.Sublist.refl _)))) ((List.Perm.swap _ _ _).trans (List.Perm.cons _ (List.Perm.swap _ _ _)))
theorem befallsE_fine {w : World} {M : List Nat} {Lb : List HA} {ga : Nat} {x : GA} {a a' : AR} (hS : St w M w (Lb ++ yj ga x a)) (ok : a.Ok) (dev : Int) (fn : Nat) (cap : List Value) (v : Value) (m : Nat) (ws : List Value) (rs : List Int)
  (hfn : ∀ (a : Array Value) (w : World), (callFunc fn a).run Tryz.prog w = .ok (.enter fn a) w)
  (hr : ∀ (X : List HA) (w' : World), St w M w' (X ++ (Lb ++ yj ga x a)) → Rd w' v 1 m ws) (hw : ws.length = m) (hrs : rs.length = m) (hm : m ≤ 10) (h1c : ws.all (·.oneCell') = true)
  (hp : ∀ (X : List HA) (j : Nat) (f : Value) (e : Int), ws[j]? = some f → rs[j]? = some e → (∀ i < j, rs.getD i 0 = 0) → jq f e (fun w' => St w M w' (X ++ (Lb ++ yj ga x a))) (fun w' => St w M w' (X ++ (Lb ++ yj ga x a))))
  (hin : yt rs = 0 → a.inD dev = true) (hE : ∀ e ∈ rs, e = 0 ∨ isE e)
  (hD : yt rs = 0 → (a.dv dev).gone = false → ∀ (X : List HA) (w' : World), St w M w' (X ++ (Lb ++ yj ga x a)) → Calls Tryz.prog fn (List.toArray (.pointer (some ⟨x.gd, dev.toNat * 5, none⟩) :: cap)) w' fun e w'' => e = .returned (.tuple #[]) ∧ ∃ x', St w M w'' (X ++ (Lb ++ yj ga x' a'))) (h1 : yt rs = 0) (h2 : (a.dv dev).gone = false) :
  Calls Tryz.prog 37 #[.pointer (some ⟨ga, 0, none⟩), .int .i64 dev, .func (.func fn) #[] (List.toArray cap), v] w fun e w' => e = .returned (.int .i64 (0)) ∧ ∃ X x', St w M w' (X ++ (Lb ++ yj ga x' a')) := by
 have hst0 : St w M w ([] ++ (Lb ++ yj ga x a)) := hS; have HR := ya hr; have HW := ya hw; have HRS := ya hrs; have HP := ya hp; have HIN := ya hin; have HDD := ya hD; have H1 := ya h1; have OK := ya ok; have H1C := ya h1c; have hmf := rmf; have hin2 := hin h1; obtain ⟨k, rfl⟩ : ∃ k : Nat, dev = k := ⟨dev.toNat, by have := (yQ hin2).1; omega⟩; have hlt : k < a.devs.length := by have := (yQ hin2).2; omega
 have HI2 := ya hin2; clear hin2; have H2 := ya h2; have HG : Hid (y8 (!(a.dv (k : Int)).gone) 14 = 0) := ya (by rw [h2]; rfl); clear hr hw hrs hp hin hD h1 ok hE h1c hS h2; go_enter Tryz.func37, Tryz.ntmps37; go_wp2_with (first | (refine za ([yi 46 (yc ga)]) ([yi 46 (yc ga)]) hst0 (h:=fun g1 w1 hst1 => ?_); clear hst0; have hst2 : St w M w1 (.row (.slice (some ⟨g1, 0, none⟩) 1 1) 92 1 1 [yi 46 (yc ga)] :: (Lb ++ yj ga x a)) := St.toRow (n := 1) (cap := 1) (sz := 1) hst1 rfl (Nat.le_refl _) (by decide); clear hst1) | (refine jf (m := m) (ys := ws) [] hst2 (hr:=HR.out [_] _ hst2) (h1:=H1C.out) (hb:=by refine ⟨by decide, by unfold maxLen; omega, by omega⟩) (h:=fun v1 w2 hst3 _ => ?_); clear hst2) | (go_at_call 89; refine (zW ga (k : Int) _).mono ?_; rintro _ w4 ⟨k0, k1, rfl, h4⟩; have hst4 := St.call hst3 h4; clear h4 hst3) | (refine za ([yh 139 [yc k0, yc k1]]) ([yh 139 [yc k0, yc k1]]) hst4 (h:=fun gb w5 hst5 => ?_); clear hst4) | (refine jf (m := 1) (ys := [yh 139 [yc k0, yc k1]]) [_, _, _] hst5 (hr:=Rd.blk (n := 1) hst5 zH (Nat.le_refl _) (by decide) rfl rfl) (hb:=by refine ⟨by decide, by unfold maxLen; omega, by omega⟩) (h:=fun v2 w6 hst6 _ => ?_); clear hst5) | (go_at_call 45; have hC := yak (k : Int) (v := v2) (n := 1 + m + 1) (fs := yi 46 (yc ga) :: ws) (f9 := yh 139 [yc k0, yc k1]) (es := 0 :: rs) (e9 := y8 (!(a.dv ((k : Int))).gone) 14) (A := fun w' => St w M w' (([HA.blk gb 92 [yh 139 [yc k0, yc k1]], .blk k1 3 [.int .i64 (k : Int)], .blk k0 23 [.pointer (some ⟨ga, 0, none⟩)], .row v2 92 1 (1 + m + 1) (([yi 46 (yc ga)] ++ ws) ++ [yh 139 [yc k0, yc k1]])] : List HA) ++ (Lb ++ yj ga x a))) (B := fun w' => St w M w' (([HA.blk gb 92 [yh 139 [yc k0, yc k1]], .blk k1 3 [.int .i64 (k : Int)], .blk k0 23 [.pointer (some ⟨ga, 0, none⟩)], .row v2 92 1 (1 + m + 1) (([yi 46 (yc ga)] ++ ws) ++ [yh 139 [yc k0, yc k1]])] : List HA) ++ (Lb ++ yj ga x a))) _ (fun _ h => Rd.row h (zT (zT (zT zH)))) (by rw [List.length_cons, List.length_cons, HW, HRS]) (by rw [List.length_cons, HW]; omega) (by omega) (fun j f e hf he hz => (match j, hf, he, hz with | 0, hf, he, _ => (by cases hf; cases he; exact ja (fun _ h => ArrAt.of h (fun p hp => zR (zR hp)) OK.out.d0) yK) | j + 1, hf, he, hz => HP.out _ j f e (by simpa using hf) (by simpa using he) (getD_cons0 hz))) (fun hz => qr (fun _ h => ArrAt.of h (fun p hp => zR (zR hp)) OK.out.d0) yK (HIN.out (by rw [← jM]; exact qK hz)) (fun _ h => St.cell h (off := 0) (zT (zT zH)) rfl) (fun _ h => St.cell h (off := 0) (zT zH) rfl)) hst6; rw [HG] at hC; refine hC.mono ?_; rintro _ w8 hh; obtain ⟨rfl, h4⟩ := jI (by rw [jM]; exact H1.out) hh; clear hC hh hst6; have hst7 := h4; clear h4) | (refine jl (Loads.cell (T := 106) TyS.out (St.cell hst7 (off := 0) (g := ga) (T := 109) (cs := js x a) (zR (zR zH)) rfl)) ?_) | (refine yA hlt ?_) | ((refine (HDD.out H1.out H2.out _ _ hst7).mono ?_); rintro _ w9 ⟨rfl, x', h4⟩; have hst8 := h4; clear h4 hst7)); go_ret; exact ⟨rfl, _, _, hst8⟩
theorem arr_in {w0 w : World} {M : List Nat} {X : List HA} {ga : Nat} {x : GA} {a : AR} (h : St w0 M w (X ++ yj ga x a)) : St w (yT ga x a) w (yj ga x a) := (St.sub h zA).selfF
theorem arr_out {w0 w w' : World} {M : List Nat} {X : List HA} {ga : Nat} {x x' : GA} {a a' : AR} (h : St w0 M w (X ++ yj ga x a)) (h4 : St w (yT ga x a) w' (yj ga x' a')) : St w0 M w' (X ++ yj ga x' a') :=
 St.perm (St.callF (yj ga x a) (St.perm h List.perm_append_comm) h4) List.perm_append_comm
theorem arr_off {w0 w : World} {M : List Nat} {X : List HA} {ga : Nat} {x : GA} {a : AR} (h : St w0 M w (X ++ yj ga x a)) {g : Nat} {T : TypeId} {cs : List Value} (hm : HA.blk g T cs ∈ X) : g ∉ yT ga x a := by
 intro hF; have hap := h.apart; unfold jK at hap; rw [List.pairwise_append] at hap; obtain ⟨y, hy, hk⟩ := List.mem_filterMap.1 hF; exact hap.2.2 _ hm y hy g rfl hk
theorem befallsE_any {w : World} {M : List Nat} {Lb : List HA} {ga : Nat} {x : GA} {a : AR} (hS : St w M w (Lb ++ yj ga x a)) (ok : a.Ok) (dev : Int) (fn : Nat) (cap : List Value) (v : Value) (m : Nat) (ws : List Value) (rs : List Int) (a' : AR)
  (hfn : ∀ (a : Array Value) (w : World), (callFunc fn a).run Tryz.prog w = .ok (.enter fn a) w)
  (hr : ∀ (X : List HA) (w' : World), St w M w' (X ++ (Lb ++ yj ga x a)) → Rd w' v 1 m ws) (hw : ws.length = m) (hrs : rs.length = m) (hm : m ≤ 10) (h1c : ws.all (·.oneCell') = true)
  (hp : ∀ (X : List HA) (j : Nat) (f : Value) (e : Int), ws[j]? = some f → rs[j]? = some e → (∀ i < j, rs.getD i 0 = 0) → jq f e (fun w' => St w M w' (X ++ (Lb ++ yj ga x a))) (fun w' => St w M w' (X ++ (Lb ++ yj ga x a))))
  (hin : yt rs = 0 → a.inD dev = true) (hE : ∀ e ∈ rs, e = 0 ∨ isE e)
  (hD : yt rs = 0 → (a.dv dev).gone = false → ∀ (w' : World), (∀ (g : Nat) (T : TypeId) (cs : List Value), HA.blk g T cs ∈ Lb → w'.heap[g]? = some (.cells cs.toArray T (0, 0)) ∧ g ∉ yT ga x a) → St w' (yT ga x a) w' (yj ga x a) →
   Calls Tryz.prog fn (List.toArray (.pointer (some ⟨x.gd, dev.toNat * 5, none⟩) :: cap)) w' fun e w'' => e = .returned (.tuple #[]) ∧ ∃ x', St w' (yT ga x a) w'' (yj ga x' a')) :
  Calls Tryz.prog 37 #[.pointer (some ⟨ga, 0, none⟩), .int .i64 dev, .func (.func fn) #[] (List.toArray cap), v] w fun e w' => e = .returned (.int .i64 (a.fellE dev rs)) ∧ ∃ X x', St w M w' (X ++ (Lb ++ yj ga x' (if a.fellE dev rs = 0 then a' else a))) := by
 have hD' : yt rs = 0 → (a.dv dev).gone = false → ∀ (X : List HA) (w' : World), St w M w' (X ++ (Lb ++ yj ga x a)) → Calls Tryz.prog fn (List.toArray (.pointer (some ⟨x.gd, dev.toNat * 5, none⟩) :: cap)) w' fun e w'' => e = .returned (.tuple #[]) ∧ ∃ x', St w M w'' (X ++ (Lb ++ yj ga x' a')) := by
  intro h1 h2 X w' h; rw [← List.append_assoc] at h; refine (hD h1 h2 w' (fun g T cs hm => ⟨h.all (.blk g T cs) (List.mem_append_left _ (zR hm)), arr_off h (zR hm)⟩) (arr_in h)).mono ?_; rintro _ w'' ⟨rfl, x', h4⟩; have h5 := arr_out h h4; rw [List.append_assoc] at h5; exact ⟨rfl, x', h5⟩
 have hD0 : yt rs = 0 → (a.dv dev).gone = true → False → ∀ (X : List HA) (w' : World), True := fun _ _ _ _ _ => trivial; unfold AR.fellE; rw [firstE_snoc]
 by_cases h1 : yt rs = 0
 ·rw [if_pos h1]; cases h2 : (a.dv dev).gone
  ·rw [if_pos (by decide)]; exact befallsE_fine hS ok dev fn cap v m ws rs hfn hr hw hrs hm h1c hp hin hE hD' h1 h2
  ·rw [if_neg (by decide)]; refine (befalls_gone (x' := x) (a' := a) hS ok dev fn cap v m ws rs hfn hr hw hrs hm h1c hp hin hE (fun _ h3 => absurd h3 (by rw [h2]; decide)) h1 h2).mono ?_; rintro _ w' ⟨rfl, X, h4⟩; exact ⟨rfl, X, x, h4⟩
 ·rw [if_neg h1, if_neg h1]; refine (befalls_bad (x' := x) (a' := a) hS ok dev fn cap v m ws rs hfn hr hw hrs hm h1c hp hin hE (fun h3 => absurd h3 h1) h1).mono ?_; rintro _ w' ⟨rfl, X, h4⟩; exact ⟨rfl, X, x, h4⟩
def fGone : DV → DV := fun d => { d with gone := true }
def AR.pull (a : AR) (dev : Int) : AR := if a.fellE dev [y8 (a.inD dev) 5] = 0 then (a.upd dev fGone).rest dev.toNat else a
def AR.pullE (a : AR) (dev : Int) : Int := a.fellE dev [y8 (a.inD dev) 5]
theorem AR.Ok.rest {a : AR} (ok : a.Ok) (k : Nat) : (a.rest k).Ok := ok.loose fun w hw => ok.lw w (List.mem_filter.1 hw).1
theorem fellE_in {a : AR} {dev : Int} {rs : List Int} {e : Int} (he : e ≠ 0) {b : Bool} (hb : y8 b e ∈ rs) (h : a.fellE dev rs = 0) : b = true := by
 unfold AR.fellE at h; exact yY he (zu h _ (List.mem_append_left _ hb))
theorem AR.Ok.pull {a : AR} (ok : a.Ok) (dev : Int) : (a.pull dev).Ok := by
 unfold AR.pull; split
 ·rename_i h
  have hin : a.inD dev = true := fellE_in (by decide) zH h; have hf := ok.dv hin; exact (ok.upd (f := fGone) hin ⟨hf.1, hf.2.1, hf.2.2.1, hf.2.2.2⟩).rest _
 ·exact ok
theorem pull1_any {w : World} {ga : Nat} {x : GA} {a : AR} {k gA gB : Nat} (hS : St w (yT ga x a) w (yj ga x a)) (ok : a.Ok) (hll : a.loose.length < 1000000) (hin : a.inD (k : Int) = true)
  (hA : w.cell? ⟨gA, 0, none⟩ = some (.pointer (some ⟨ga, 0, none⟩))) (hA2 : gA ∉ yT ga x a) (hB : w.cell? ⟨gB, 0, none⟩ = some (.int .i64 (k : Int))) (hB2 : gB ∉ yT ga x a) :
  Calls Tryz.prog 38 #[.pointer (some ⟨x.gd, k * 5, none⟩), yc gA, yc gB] w fun e w' => e = .returned (.tuple #[]) ∧ ∃ x', St w (yT ga x a) w' (yj ga x' ((a.upd (k : Int) fGone).rest k)) := by
 obtain ⟨a1, ha1⟩ : ∃ a1, a1 = a.upd (k : Int) fGone := ⟨_, rfl⟩; have HPUT := ya (qb (rest := x.rest) (f := fGone) (v := .bool true) hin (i := 1) (by decide) rfl); have HL := ya (List.getElem?_eq_some_iff.1 (jk (rest := x.rest) hin (i := 1) rfl (by decide))).1; replace HL : Hid (k * 5 + 1 + 1 ≤ (yI a ++ x.rest).length) := HL; have hf := ok.dv hin; have HOK : Hid a1.Ok := ya (by rw [ha1]; exact ok.upd (f := fGone) hin ⟨hf.1, hf.2.1, hf.2.2.1, hf.2.2.2⟩); have HLL : Hid (a1.loose.length < 1000000) := ya (by rw [ha1]; exact hll); have HP : Hid (yj ga x a1 = .blk ga 109 (js x a) :: .blk x.gd 89 (yI a1 ++ x.rest) :: .row x.lv 149 258 a.loose.length (qt a) :: a.devs.map (fun d => .blk d.g 144 (yR d.firm))) := ya (by rw [ha1]; exact arP_upd ga x a (k : Int) (fun d => ⟨rfl, rfl⟩)); rw [← ha1] at HPUT; rw [← ha1]; have HA := ya hA; have HA2 := ya hA2; have HB := ya hB; have HB2 := ya hB2; have hst0 := hS; clear hin hf ha1 hA hA2 hB hB2 ok hS hll; unfold yc; go_enter Tryz.func38, Tryz.ntmps38; go_wp2_with (first | (refine ye [_] hst0 rfl rfl rfl (v := .bool _) rfl rfl rfl HL.out ?_; intro w3 hs3; clear hst0; have hs4 : St w (yT ga x a) w3 (yj ga x a1) := (by rw [HP, ← HPUT]; exact hs3); clear hs3) | (refine jl (Loads.oldM hs4 HA.out HA2.out) ?_) | (refine jl (Loads.oldM hs4 HB.out HB2.out) ?_) | (go_at_call 39; refine (drop_any hs4.selfF HOK.out HLL.out k).mono ?_; rintro _ w5 ⟨rfl, lv9, h4⟩; have hs5 := ya1 hs4 h4; clear h4 hs4)); go_end0; exact ⟨rfl, _, hs5⟩
section
attribute [local go_sem ↓] loadedPA yaE
theorem pullM_any {w : World} {ga : Nat} {x : GA} {a : AR} (hS : St w (yT ga x a) w (yj ga x a)) (ok : a.Ok) (hll : a.loose.length < 1000000) (dev : Int) :
  Calls Tryz.prog 14 #[.pointer (some ⟨ga, 0, none⟩), .int .i64 dev] w fun e w' => e = .returned (.int .i64 (a.pullE dev)) ∧ ∃ x', St w (yT ga x a) w' (yj ga x' (a.pull dev)) := by
 have hst0 := hS; have OK := ya ok; have HLL := ya hll; have hmf := rmf; clear hS ok hll; go_enter Tryz.func14, Tryz.ntmps14; go_wp2_with (first | (refine zbo hst0 fun g3 w1 hst1 => ?_; clear hst0) | (refine zbo hst1 fun g4 w2 hst2 => ?_; clear hst1)); have hX := hst2.drew; clear hst2; refine wD (S := fun w' => Ld 3 g4 0 (.int .i64 dev) w' ∧ Ld 23 g3 0 (.pointer (some ⟨ga, 0, none⟩)) w') ⟨yp [] hX rfl, yp [_] hX rfl⟩ fun hHeld => ?_; refine jt 0 (h:=jt 1 (h:=jt 2 (h:=jt 3 (h:=jt 4 (h:=?_))))); refine yF 5 (h0:=fun K hK => ?_); go_simp; go_at_call 40; refine (j1 ga dev _).mono ?_; rintro _ w3 ⟨g0, g1, rfl, h4⟩; have hA1 := St.call hX h4; clear h4; refine kD hK ⟨yp [_, _] hA1 rfl, yp [_, _, _] hA1 rfl⟩ (h:=fun hHeld => ?_); refine rW 6 (h:=fun K hK => ?_); refine za ([yh 93 [yc g0, yc g1]]) ([yh 93 [yc g0, yc g1]]) hA1 (h:=fun gs w5 hA3 => ?_); refine kQ hK ⟨yp [_, _, _] hA3 rfl, yp [_, _, _, _] hA3 rfl⟩ (h:=fun hHeld => ?_); refine yF 7 (h0:=fun K hK => ?_); go_simp; go_at_call 37; have hQ := St.selfF (L := ([HA.blk gs 92 [yh 93 [yc g0, yc g1]], .blk g1 3 [.int .i64 dev], .blk g0 23 [.pointer (some ⟨ga, 0, none⟩)], .blk g4 3 [.int .i64 dev], .blk g3 23 [.pointer (some ⟨ga, 0, none⟩)]] : List HA) ++ yj ga x a) hA3; refine (befallsE_any hQ OK.out dev 38 [yc g3, yc g4] (.slice (some ⟨gs, 0, none⟩) 1 1) 1 [yh 93 [yc g0, yc g1]] [y8 (a.inD dev) 5] ((a.upd dev fGone).rest dev.toNat) (fun _ _ => rfl) (fun X w' h => Rd.blk h (zR zH) (Nat.le_refl _) (by decide) rfl rfl) rfl rfl (by decide) rfl (fun X j f e hf he _ => (match j, hf, he with | 0, hf, he => (by cases hf; cases he; exact qm (fun _ h => ArrAt.of h (fun p hp => zR (zR hp)) OK.out.d0) yK (fun _ h => St.cell h (off := 0) (zR (zT (zT zH))) rfl) (fun _ h => St.cell h (off := 0) (zR (zT zH)) rfl)) | j + 1, hf, _ => (by simp at hf))) (fun h => yY (by decide) (zu h _ zH)) (fun e he => (by simp only [List.mem_cons, List.not_mem_nil, or_false] at he; rcases he with rfl; exact jO _ _ (by unfold isE; decide))) (fun h1 _ w' hb h9 => (by have hin : a.inD dev = true := yY (by decide) (zu h1 _ zH); obtain ⟨k, rfl⟩ : ∃ k : Nat, dev = k := ⟨dev.toNat, by have := (yQ hin).1; omega⟩; exact pull1_any h9 OK.out HLL.out hin (ya0 (hb g3 _ _ (zT (zT (zT (zT zH))))).1) (hb g3 _ _ (zT (zT (zT (zT zH))))).2 (ya0 (hb g4 _ _ (zT (zT (zT zH)))).1) (hb g4 _ _ (zT (zT (zT zH)))).2))).mono ?_; rintro _ w9 ⟨rfl, X, x', h4⟩; have hA4 := ya1 (L := ([HA.blk gs 92 [yh 93 [yc g0, yc g1]], .blk g1 3 [.int .i64 dev], .blk g0 23 [.pointer (some ⟨ga, 0, none⟩)], .blk g4 3 [.int .i64 dev], .blk g3 23 [.pointer (some ⟨ga, 0, none⟩)]] : List HA) ++ yj ga x a) hA3 h4; clear h4 hQ; refine kD hK ⟨Loads.cell TyS.out (St.cell hA4 (off := 0) (zR (zT (zT (zT zH)))) rfl), Loads.cell TyS.out (St.cell hA4 (off := 0) (zR (zT (zT (zT (zT zH))))) rfl)⟩ (h:=fun hHeld => ?_); refine jt 8 (h:=?_); refine jn ?_; clear hHeld; go_wp2; go_ret; exact ⟨rfl, x', St.sub hA4 (.trans zA zA)⟩
end
theorem flat_putAll {α : Type} {f : α → List Value} {sz : Nat} {l : List α} {k : Nat} {d' : α} (hf : ∀ d, (f d).length = sz) (h : k < l.length) (rest : List Value) : yw (l.flatMap f ++ rest) (k * sz) (f d') = (l.set k d').flatMap f ++ rest := by
 rw [ya8, hf]
 induction l generalizing k with
 | nil => simp at h
 | cons q l ih =>
  have hq := hf q; cases k with
  | zero =>
   rw [List.set_cons_zero, List.flatMap_cons, List.flatMap_cons, Nat.zero_mul, List.take_zero, List.nil_append, Nat.zero_add, List.append_assoc, List.drop_append, List.drop_of_length_le (by omega), List.nil_append, hq, Nat.sub_self, List.drop_zero, List.append_assoc]
  | succ k =>
   have := ih (k := k) (by simpa using h); rw [List.set_cons_succ, List.flatMap_cons, List.flatMap_cons, List.append_assoc, List.append_assoc, ← this, show (k + 1) * sz = sz + k * sz by rw [Nat.add_mul]; omega, List.take_append, List.take_of_length_le (by omega), hq, show sz + k * sz - sz = k * sz by omega, List.append_assoc]
   congr 3
   rw [List.drop_append, List.drop_of_length_le (by omega), List.nil_append, hq, show sz + k * sz + sz - sz = k * sz + sz by omega]
theorem devC_all {a : AR} {k : Nat} (h : a.inD (k : Int) = true) (d' : DV) (rest : List Value) : yw (yI a ++ rest) (k * 5) d'.cells = yI (a.upd (k : Int) fun _ => d') ++ rest := by
 have hlt : k < a.devs.length := by have := (yQ h).2; omega
 unfold yI; rw [flat_putAll (f := DV.cells) (sz := 5) (fun d => rfl) hlt]
 congr 2
 apply List.ext_getElem?; intro j; unfold AR.upd; rw [yS, List.getElem?_set, Int.toNat_natCast]; by_cases hj : k = j
 ·subst hj; rw [if_pos rfl, if_pos rfl, if_pos hlt, List.getElem?_eq_getElem hlt]; rfl
 ·rw [if_neg hj, if_neg hj]
def AR.fitE (a : AR) (dev : Int) : Int := y8 (a.inD dev) 5
def AR.fit (a : AR) (dev : Int) (g : Nat) : AR := if a.inD dev then (a.rest dev.toNat).upd dev (fun _ => yM a.secs g) else a
theorem AR.Ok.fit {a : AR} (ok : a.Ok) (dev : Int) (g : Nat) : (a.fit dev g).Ok := by
 unfold AR.fit; split
 ·rename_i h
  refine (ok.rest dev.toNat).upd (f := fun _ => yM a.secs g) h ⟨yal _ _, fun t ht => ?_, fun h => by simp [yM] at h, by simp [yM], by simp [yM]⟩; rw [(List.mem_replicate.1 ht).2, List.length_replicate]
 ·exact ok
section
attribute [local go_sem ↓] loadedSD
section
variable {w : World} {ga : Nat} {x : GA} {a : AR} (hS : St w (yT ga x a) w (yj ga x a)) (ok : a.Ok) (hll : a.loose.length < 1000000)
include hS ok hll
theorem fit_bad (dev : Int) (h1 : a.inD dev = false) :
  Calls Tryz.prog 16 #[.pointer (some ⟨ga, 0, none⟩), .int .i64 dev] w fun e w' => e = .returned (.int .i64 (a.fitE dev)) ∧ ∃ x' g, St w (yT ga x a) w' (yj ga x' (a.fit dev g)) := by
 have _ := hll; have he : a.fitE dev = 5 := by unfold AR.fitE; rw [h1]; rfl
 have hc : ∀ g, a.fit dev g = a := fun g => by unfold AR.fit; rw [h1]; rfl
 rw [he]; have HC := ya hc; have HE : Hid (y8 (a.inD dev) 5 = 5) := ya (by rw [h1]; rfl); have OK := ya ok; have hst0 := hS; have hmf := rmf; clear he hc h1 ok hS; go_enter Tryz.func16, Tryz.ntmps16; go_wp2_with (first | (go_at_call 40; refine (j1 ga dev _).mono ?_; rintro _ w2 ⟨g0, g1, rfl, h4⟩; have hst2 := St.call hst0 h4; clear h4 hst0) | (refine za ([yi 46 (yc ga), yh 93 [yc g0, yc g1]]) ([yi 46 (yc ga), yh 93 [yc g0, yc g1]]) hst2 (h:=fun gs w3 hst3 => ?_); clear hst2) | (go_at_call 45; have hC := z6 dev (n := 2) (fs := [yi 46 (yc ga)]) (f9 := yh 93 [yc g0, yc g1]) (es := [0]) (e9 := y8 (a.inD dev) 5) (L := ([.blk g1 3 [.int .i64 dev], .blk g0 23 [.pointer (some ⟨ga, 0, none⟩)]] : List HA)) (Y := yj ga x a) hst3 rfl rfl (by decide) (fun j f e hf he _ => (match j, hf, he with | 0, hf, he => (by cases hf; cases he; exact ja (fun _ h => ArrAt.of h (fun p hp => zR hp) OK.out.d0) yK) | j + 1, hf, _ => (by simp at hf))) (fun _ => qm (fun _ h => ArrAt.of h (fun p hp => zR hp) OK.out.d0) yK (fun _ h => St.cell h (off := 0) (zT (zT zH)) rfl) (fun _ h => St.cell h (off := 0) (zT zH) rfl)); rw [HE] at hC; refine hC.mono ?_; rintro _ w5 hh; obtain ⟨rfl, h4⟩ := qL (rfl : yt [0] = 0) (by decide) hh; clear hC hh hst3; have hst4 := h4; clear h4) | (go_at_call 47; refine jc hst4 (jA 5 dev (by unfold isE; decide) (by decide) _) fun w6 hst6 => ?_; clear hst4)); go_ret; refine ⟨rfl, x, 0, ?_⟩; rw [HC]; exact St.sub hst6 zA
theorem fit_fine (k : Nat) (h1 : a.inD (k : Int) = true) :
  Calls Tryz.prog 16 #[.pointer (some ⟨ga, 0, none⟩), .int .i64 (k : Int)] w fun e w' => e = .returned (.int .i64 (a.fitE (k : Int))) ∧ ∃ x' g, St w (yT ga x a) w' (yj ga x' (a.fit (k : Int) g)) := by
 have he : a.fitE (k : Int) = 0 := by unfold AR.fitE; rw [h1]; rfl
 have hc : ∀ g, a.fit (k : Int) g = (a.rest k).upd (k : Int) (fun _ => yM a.secs g) := fun g => by unfold AR.fit; rw [h1]; rfl
 rw [he]; have HC := ya hc; have HE : Hid (y8 (a.inD (k : Int)) 5 = 0) := ya (by rw [h1]; rfl); have OK := ya ok; have hst0 := hS; have hmf := rmf; obtain ⟨a2, ha2⟩ : ∃ a2, a2 = a.rest k := ⟨_, rfl⟩; have hin2 : a2.inD (k : Int) = true := by rw [ha2]; exact h1
 have hsn : a2.secs ≤ 4096 := by rw [ha2]; exact ok.sn
 have hlt : k < a2.devs.length := by have := (yQ hin2).2; omega
 have HIN2 := ya hin2; have HOK2 : Hid a2.Ok := ya (by rw [ha2]; exact ok.rest k); have HDR : Hid (∀ (M : List Nat) (w' : World), St w M w' (yj ga x a) → Calls Tryz.prog 39 #[.pointer (some ⟨ga, 0, none⟩), .int .i64 (k : Int)] w' fun e w'' => e = .returned (.tuple #[]) ∧ ∃ lv, St w M w'' (yj ga ⟨x.gd, x.cd, x.rest, lv⟩ a2)) := ya (fun M w' h => (drop_any h.selfF ok hll k).mono fun e w'' hh => ⟨hh.1, by obtain ⟨lv, h4⟩ := hh.2; rw [ha2]; exact ⟨lv, ya1 h h4⟩⟩); have HC2 : Hid (∀ g, a.fit (k : Int) g = a2.upd (k : Int) (fun _ => yM a2.secs g)) := ya (fun g => by rw [hc, ha2]; rfl); have HALL : Hid (∀ g rest, yw (yI a2 ++ rest) (k * 5) (yM a2.secs g).cells = yI (a2.upd (k : Int) fun _ => yM a2.secs g) ++ rest) := ya (fun g rest => devC_all hin2 _ rest); have HFS : Hid (a2.devs.map y9 = (a2.devs.take k).map y9 ++ y9 (a2.dv (k : Int)) :: (a2.devs.drop (k + 1)).map y9) := ya (ybr hin2); have HFS2 : Hid (∀ g, (a2.upd (k : Int) fun _ => yM a2.secs g).devs.map y9 = (a2.devs.take k).map y9 ++ y9 (yM a2.secs g) :: (a2.devs.drop (k + 1)).map y9) := ya (fun g => yba hin2 _); clear hin2 ha2; clear he hc h1 ok hS hll; go_enter Tryz.func16, Tryz.ntmps16; go_wp2_with (first | (go_at_call 40; refine (j1 ga (k : Int) _).mono ?_; rintro _ w2 ⟨g0, g1, rfl, h4⟩; have hst2 := St.call hst0 h4; clear h4 hst0) | (refine za ([yi 46 (yc ga), yh 93 [yc g0, yc g1]]) ([yi 46 (yc ga), yh 93 [yc g0, yc g1]]) hst2 (h:=fun gs w3 hst3 => ?_); clear hst2) | (go_at_call 45; have hC := z6 (k : Int) (n := 2) (fs := [yi 46 (yc ga)]) (f9 := yh 93 [yc g0, yc g1]) (es := [0]) (e9 := y8 (a.inD (k : Int)) 5) (L := ([.blk g1 3 [.int .i64 (k : Int)], .blk g0 23 [.pointer (some ⟨ga, 0, none⟩)]] : List HA)) (Y := yj ga x a) hst3 rfl rfl (by decide) (fun j f e hf he _ => (match j, hf, he with | 0, hf, he => (by cases hf; cases he; exact ja (fun _ h => ArrAt.of h (fun p hp => zR hp) OK.out.d0) yK) | j + 1, hf, _ => (by simp at hf))) (fun _ => qm (fun _ h => ArrAt.of h (fun p hp => zR hp) OK.out.d0) yK (fun _ h => St.cell h (off := 0) (zT (zT zH)) rfl) (fun _ h => St.cell h (off := 0) (zT zH) rfl)); rw [HE] at hC; refine hC.mono ?_; rintro _ w5 hh; obtain ⟨rfl, h4⟩ := jI (rfl : yt [0] = 0) hh; clear hC hh hst3; have hst4 := h4; clear h4) | (go_at_call 39; refine (HDR.out _ _ (St.sub hst4 zA)).mono ?_; rintro _ w6 ⟨rfl, lv, h4⟩; have hst6 := h4; clear h4 hst4)); have hX := hst6.drew; clear hst6; refine wD (S := fun w' => Ld 106 ga 0 (.slice (some ⟨x.gd, 0, none⟩) a2.devs.length x.cd) w') (yp [] hX rfl) fun hHeld => ?_; refine jt 0 (h:=jt 4 (h:=jt 5 (h:=jt 1 (h:=jt 2 (h:=jt 3 (h:=?_)))))); refine yF 6 (h0:=fun K hK => ?_); go_simp; go_at_call 48; refine jc hX (yaU (ArrAt.of hX (fun _ hp => hp) HOK2.out.d0)) fun w7 hA1 => ?_; refine kD hK (yp [] hA1 rfl) (h:=fun hHeld => ?_); refine rW 7 (h:=fun K hK => ?_); apply wl_makeR (sz := 256) (z := .int .u8 0) a2.secs a2.secs hA1; rfl; rfl; exact rfl; exact rfl; infer_instance; infer_instance; infer_instance; decide; exact rfl; exact rfl; exact Nat.le_refl _
 (refine ⟨by omega, by omega⟩)
 intro gf w8 hA2; refine kQ hK (yp [_] hA2 rfl) (h:=fun hHeld => ?_); refine rW 8 (h:=fun K hK => ?_); refine yH (cs := [.slice (some ⟨gf, 0, none⟩) a2.secs a2.secs, .bool false, .int .u8 0, .int .i64 0, .int .i64 0]) [(0, .slice (some ⟨gf, 0, none⟩) a2.secs a2.secs)] rfl rfl (by exact rfl) (by kernel_rfl) ?_; refine kQ hK (yp [_] hA2 rfl) (h:=fun hHeld => ?_); refine jt 9 (h:=?_); refine rW 10 (h:=fun K hK => ?_); have hfit : k * 5 + 5 ≤ (yI a2 ++ x.rest).length := (by have h9 := (List.getElem?_eq_some_iff.1 (jk (rest := x.rest) HIN2.out (i := 4) rfl (by decide))).1; have h8 : k * 5 + 4 < (yI a2 ++ x.rest).length := h9; omega); refine ye [_, _] hA2 rfl rfl rfl (v := .agg (List.toArray [.slice (some ⟨gf, 0, none⟩) a2.secs a2.secs, .bool false, .int .u8 0, .int .i64 0, .int .i64 0])) rfl rfl rfl hfit ?_; intro w9 hA3; refine kQ hK (yp [_] hA3 rfl) (h:=fun hHeld => ?_); refine jn ?_; clear hHeld; go_wp2; go_ret; refine ⟨rfl, ⟨x.gd, x.cd, x.rest, lv⟩, gf, ?_⟩; rw [HC2]; have e1 : (yM a2.secs gf).cells = [.slice (some ⟨gf, 0, none⟩) a2.secs a2.secs, .bool false, .int .u8 0, .int .i64 0, .int .i64 0] := by unfold DV.cells; rw [yal]; rfl
 have h7 := HALL.out gf x.rest; rw [e1] at h7; have h8 : St w (yT ga x a) w9 (.blk gf 144 (List.replicate (a2.secs * 256) (.int .u8 0)) :: .blk ga 109 (js ⟨x.gd, x.cd, x.rest, lv⟩ a2) :: .blk x.gd 89 (yI (a2.upd (k : Int) fun _ => yM a2.secs gf) ++ x.rest) :: .row lv 149 258 a2.loose.length (qt a2) :: a2.devs.map y9) := by rw [← h7]; exact hA3
 rw [HFS] at h8; have h9 := St.sub h8 (.cons_cons _ (.cons_cons _ (.cons_cons _ (.cons_cons _ (List.Sublist.append_left zC _))))); have e2 : HA.blk gf 144 (List.replicate (a2.secs * 256) (.int .u8 0)) = y9 (yM a2.secs gf) := by unfold y9; rw [show (yM a2.secs gf).firm = List.replicate a2.secs (List.replicate 256 0) from rfl, ya7]; rfl
 rw [e2] at h9; have e3 : yj ga ⟨x.gd, x.cd, x.rest, lv⟩ (a2.upd (k : Int) fun _ => yM a2.secs gf) = .blk ga 109 (js ⟨x.gd, x.cd, x.rest, lv⟩ a2) :: .blk x.gd 89 (yI (a2.upd (k : Int) fun _ => yM a2.secs gf) ++ x.rest) :: .row lv 149 258 a2.loose.length (qt a2) :: (a2.upd (k : Int) fun _ => yM a2.secs gf).devs.map y9 := by
  unfold yj js; rw [upd_len]; rfl
 rw [e3, HFS2]; refine St.perm h9 ?_; exact (List.Perm.swap _ _ _).trans (List.Perm.cons _ ((List.Perm.swap _ _ _).trans (List.Perm.cons _ ((List.Perm.swap _ _ _).trans (List.Perm.cons _ (List.perm_middle.symm))))))
theorem fitM_any (dev : Int) :
  Calls Tryz.prog 16 #[.pointer (some ⟨ga, 0, none⟩), .int .i64 dev] w fun e w' => e = .returned (.int .i64 (a.fitE dev)) ∧ ∃ x' g, St w (yT ga x a) w' (yj ga x' (a.fit dev g)) := by
 cases h1 : a.inD dev
 ·exact fit_bad hS ok hll dev h1
 ·obtain ⟨k, rfl⟩ : ∃ k : Nat, dev = k := ⟨dev.toNat, by have := (yQ h1).1; omega⟩; exact fit_fine hS ok hll k h1
end
end
def u8I (b : UInt8) : Int := (b.toNat : Int)
theorem ofInt8 (x : UInt8) : BitVec.ofInt 8 (x.toNat : Int) = x.toBitVec := by
 rw [BitVec.ofInt_natCast]; exact BitVec.ofNat_toNat (n := 8) 8 x.toBitVec ▸ (by rw [BitVec.setWidth_eq])
theorem xor8 (T : TypeId) (x y : UInt8) : binOp .xor T (.int .u8 (u8I x)) (.int .u8 (u8I y)) = pure (.int .u8 (u8I (x ^^^ y))) := by
 show pure (Value.int .u8 (IntKind.u8.wrap ((BitVec.ofInt 8 (x.toNat : Int) ^^^ BitVec.ofInt 8 (y.toNat : Int)).toNat : Int))) = _; rw [ofInt8, ofInt8]; have h : (x.toBitVec ^^^ y.toBitVec).toNat = (x ^^^ y).toNat := rfl; have hl : (x ^^^ y).toNat < 256 := (x ^^^ y).toNat_lt; rw [h]; have h9 : IntKind.u8.wrap (((x ^^^ y).toNat : Nat) : Int) = ((x ^^^ y).toNat : Int) := by
  show (((x ^^^ y).toNat : Nat) : Int) % 256 = _; omega
 rw [h9]; rfl
theorem xor8r (T : TypeId) (x y : UInt8) (w : World) : (binOp .xor T (.int .u8 (u8I x)) (.int .u8 (u8I y))).run Tryz.prog w = .ok (.int .u8 (u8I (x ^^^ y))) w := by rw [xor8]; rfl
def jX (p q : Nat) (m : UInt8) : DV → DV := fun d => { d with firm := d.firm.set p ((d.firm.getD p []).set q ((d.firm.getD p []).getD q 0 ^^^ m)) }
def AR.spoilL (a : AR) (dev pl place : Int) : List Int := [y8 (a.inS dev pl) 5, y8 (decide (0 ≤ place) && decide (place < 256)) 5]
def AR.spoilE (a : AR) (dev pl place : Int) : Int := a.fellE dev (a.spoilL dev pl place)
def AR.spoil (a : AR) (dev pl place : Int) (m : UInt8) : AR := if a.spoilE dev pl place = 0 then a.upd dev (jX pl.toNat place.toNat m) else a
theorem fSpoil_fine {s : Nat} {d : DV} (h : d.Fine s) {p q : Nat} (m : UInt8) (hp : p < s) : (jX p q m d).Fine s := by
 refine ⟨by unfold jX; simp [h.1], fun t ht => ?_, h.2.2.1, h.2.2.2⟩; unfold jX at ht; rcases List.mem_or_eq_of_mem_set ht with h1 | rfl
 ·exact h.2.1 t h1
 ·rw [List.length_set, List.getD_eq_getElem?_getD, List.getElem?_eq_getElem (by rw [h.1]; exact hp)]; exact h.2.1 _ (List.getElem_mem _)
theorem AR.Ok.spoil {a : AR} (ok : a.Ok) (dev pl place : Int) (m : UInt8) : (a.spoil dev pl place m).Ok := by
 unfold AR.spoil; split
 ·rename_i h
  have hs : a.inS dev pl = true := fellE_in (by decide) zH h; have hp := jE hs; exact ok.upd (f := jX pl.toNat place.toNat m) (yG hs) (fSpoil_fine (ok.dv (yG hs)) m (by omega))
 ·exact ok
theorem putAt_one (l : List Value) (i : Nat) (v : Value) (hi : i < l.length) : yw l i [v] = l.set i v := by
 rw [List.set_eq_take_append_cons_drop, if_pos hi]; rfl
theorem secs_get {l : List (List UInt8)} {p q : Nat} (hl : ∀ s ∈ l, s.length = 256) (hp : p < l.length) (hq : q < 256) : (yR l)[p * 256 + q]? = some (.int .u8 (u8I ((l.getD p []).getD q 0))) := by
 have h := flat_at (f := yb) (sz := 256) (fun d hd => by rw [length_bytesV]; exact hl d hd) (List.getElem?_eq_getElem hp); have h1 : ((yR l).drop (p * 256))[q]? = (yb l[p])[q]? := by
  have h2 : (((l.flatMap yb).drop (p * 256)).take 256)[q]? = (yb l[p])[q]? := by rw [h]
  rw [List.getElem?_take, if_pos hq] at h2; exact h2
 have hs : l[p].length = 256 := hl _ (List.getElem_mem hp); rw [List.getElem?_drop] at h1; rw [h1, List.getD_eq_getElem?_getD (l := l), List.getElem?_eq_getElem hp]; show (l[p].map _)[q]? = some (Value.int .u8 (u8I (l[p].getD q 0))); rw [List.getElem?_map, List.getD_eq_getElem?_getD, List.getElem?_eq_getElem (by omega)]; rfl
theorem secs_putq {l : List (List UInt8)} {p q : Nat} (b : UInt8) (hl : ∀ s ∈ l, s.length = 256) (hp : p < l.length) (hq : q < 256) : yw (yR l) (p * 256 + q) [.int .u8 (u8I b)] = yR (l.set p ((l.getD p []).set q b)) := by
 have hlen := secsV_len hl; have hb : p * 256 + q < (yR l).length := by
  rw [hlen]; have : (p + 1) * 256 ≤ l.length * 256 := Nat.mul_le_mul_right _ hp; omega
 rw [putAt_one _ _ _ hb]; clear hb hlen
 induction l generalizing p with
 | nil => simp at hp
 | cons s l ih =>
  have hs : (yb s).length = 256 := by rw [length_bytesV]; exact hl s zH
  unfold yR at ih ⊢; cases p with
  | zero =>
   rw [List.set_cons_zero, List.flatMap_cons, List.flatMap_cons, Nat.zero_mul, Nat.zero_add, List.set_append_left _ _ (by omega)]
   congr 1
   show (s.map _).set q _ = (s.set q b).map _; rw [List.map_set]; rfl
  | succ p =>
   have := ih (p := p) (fun s hs => hl s (zT hs)) (by simpa using hp); rw [List.set_cons_succ, List.flatMap_cons, List.flatMap_cons, List.getD_cons_succ, ← this, show (p + 1) * 256 + q = 256 + (p * 256 + q) by omega, List.set_append_right _ _ (by omega), hs, show 256 + (p * 256 + q) - 256 = p * 256 + q by omega]
section
theorem loadedU8 (A : Addr) : loadVar 5 A = yn 5 A := rfl
attribute [local go_sem ↓] loadedSS yaE loadedU8
attribute [local go_sem 5000] xor8 xor8r
theorem spoil2_any {w : World} {ga : Nat} {x : GA} {a : AR} {k p q gA gB gC : Nat} {m : UInt8} (hS : St w (yT ga x a) w (yj ga x a)) (ok : a.Ok) (hs : a.inS (k : Int) (p : Int) = true) (hq : q < 256)
  (hA : w.cell? ⟨gA, 0, none⟩ = some (.int .i64 (p : Int))) (hA2 : gA ∉ yT ga x a) (hB : w.cell? ⟨gB, 0, none⟩ = some (.int .i64 (q : Int))) (hB2 : gB ∉ yT ga x a) (hC : w.cell? ⟨gC, 0, none⟩ = some (.int .u8 (u8I m))) (hC2 : gC ∉ yT ga x a) :
  Calls Tryz.prog 86 #[.pointer (some ⟨x.gd, k * 5, none⟩), yc gA, yc gB, yc gC] w fun e w' => e = .returned (.tuple #[]) ∧ ∃ x', St w (yT ga x a) w' (yj ga x' (a.upd (k : Int) (jX p q m))) := by
 have hin := yG hs; have hf := ok.dv hin; have hp : p < (a.dv (k : Int)).firm.length := by have := jE hs; rw [hf.1]; omega
 obtain ⟨D, hD⟩ : ∃ D, D = a.dv (k : Int) := ⟨_, rfl⟩; rw [← hD] at hf hp; obtain ⟨FS1, hFS1⟩ : ∃ FS1, FS1 = (a.devs.take k).map y9 := ⟨_, rfl⟩; obtain ⟨FS2, hFS2⟩ : ∃ FS2, FS2 = (a.devs.drop (k + 1)).map y9 := ⟨_, rfl⟩; have HFS : Hid (a.devs.map (fun d => HA.blk d.g 144 (yR d.firm)) = FS1 ++ .blk D.g 144 (yR D.firm) :: FS2) := ya (by rw [hFS1, hFS2, hD]; exact ybr hin); have HG := ya (secs_get hf.2.1 hp hq); have HPUT := ya (secs_putq ((D.firm.getD p []).getD q 0 ^^^ m) hf.2.1 hp hq); have HFIT : Hid (p * 256 + q + 1 ≤ (yR D.firm).length) := ya (by
  rw [secsV_len hf.2.1]; have : (p + 1) * 256 ≤ D.firm.length * 256 := Nat.mul_le_mul_right _ hp; omega)
 have HDC : Hid ((yI a ++ x.rest)[k * 5 + 0]? = some (.slice (some ⟨D.g, 0, none⟩) D.firm.length D.firm.length)) := ya (by rw [hD]; exact jk (rest := x.rest) hin (i := 0) rfl (by decide)); have HFIN : Hid (yj ga x (a.upd (k : Int) (jX p q m)) = .blk ga 109 (js x a) :: .blk x.gd 89 (yI a ++ x.rest) :: .row x.lv 149 258 a.loose.length (qt a) :: (FS1 ++ .blk D.g 144 (yR (jX p q m D).firm) :: FS2)) := ya (by
  have h1 := yba hin (jX p q m); have h2 := devC_firm (a := a) (k : Int) (f := jX p q m) (fun d => by unfold DV.cells jX; rw [List.length_set]; rfl); rw [hFS1, hFS2, hD]; unfold yj js; rw [h2, upd_len]; rw [show (a.upd (k : Int) (jX p q m)).devs.map (fun d => HA.blk d.g 144 (yR d.firm)) = _ from h1]; rfl)
 have hst0 : St w (yT ga x a) w (.blk ga 109 (js x a) :: .blk x.gd 89 (yI a ++ x.rest) :: .row x.lv 149 258 a.loose.length (qt a) :: (FS1 ++ .blk D.g 144 (yR D.firm) :: FS2)) := by rw [← HFS]; exact hS
 obtain ⟨V, hV⟩ : ∃ V : UInt8, V = (D.firm.getD p []).getD q 0 := ⟨_, rfl⟩; have HV := ya hV; rw [← hV] at HG HPUT; have HA := ya hA; have HA2 := ya hA2; have HB := ya hB; have HB2 := ya hB2; have HC := ya hC; have HC2 := ya hC2; clear hs hin hf hD hFS1 hFS2 hV hA hA2 hB hB2 hC hC2 ok hS; unfold yc; go_enter Tryz.func86, Tryz.ntmps86; have hq2 : (q : Int) < 256 := by omega
 have hX := hst0.drew; clear hst0; refine wD (S := fun w' => Ld 86 x.gd (k * 5) (.slice (some ⟨D.g, 0, none⟩) D.firm.length D.firm.length) w' ∧ Ld 3 gA 0 (.int .i64 (p : Int)) w' ∧ Ld 3 gB 0 (.int .i64 (q : Int)) w' ∧ Ld 5 gC 0 (.int .u8 (u8I m)) w') ⟨yp [_] hX HDC.out, qY hX HA.out HA2.out, qY hX HB.out HB2.out, qY hX HC.out HC2.out⟩ fun hHeld => ?_; refine jt 0 (h:=jt 4 (h:=jt 5 (h:=jt 9 (h:=jt 1 (h:=jt 2 (h:=jt 3 (h:=jt 6 (h:=jt 11 (h:=jt 7 (h:=?_)))))))))); refine rW 8 (h:=fun K hK => ?_); refine jl (Loads.cell (v := .int .u8 (u8I V)) TyS.out (St.cell hX (off := p * 256 + q) (zT (zT (zT (zR zH)))) HG.out)) ?_; refine kQ hK ⟨yp [_] hX HDC.out, qY hX HA.out HA2.out, qY hX HB.out HB2.out, qY hX HC.out HC2.out⟩ (h:=fun hHeld => ?_); refine jt 10 (h:=jt 12 (h:=?_)); refine rW 13 (h:=fun K hK => ?_); refine ye (_ :: _ :: _ :: FS1) hX rfl rfl rfl (v := .int _ _) rfl rfl rfl HFIT.out ?_; intro w9 hA3; refine kQ hK ⟨yp [_] hA3 HDC.out, qY hA3 HA.out HA2.out, qY hA3 HB.out HB2.out, qY hA3 HC.out HC2.out⟩ (h:=fun hHeld => ?_); refine jn ?_; clear hHeld; go_end0; refine ⟨rfl, x, ?_⟩; rw [HFIN]; unfold jX; rw [← HV, ← HPUT]; exact hA3
end
theorem spoilM_any {w : World} {ga : Nat} {x : GA} {a : AR} (hS : St w (yT ga x a) w (yj ga x a)) (ok : a.Ok) (dev pl place : Int) (m : UInt8) :
  Calls Tryz.prog 35 #[.pointer (some ⟨ga, 0, none⟩), .int .i64 dev, .int .i64 pl, .int .i64 place, .int .u8 (u8I m)] w fun e w' => e = .returned (.int .i64 (a.spoilE dev pl place)) ∧ ∃ x', St w (yT ga x a) w' (yj ga x' (a.spoil dev pl place m)) := by
 have hst0 := hS; have OK := ya ok; have hmf := rmf; clear hS ok; go_enter Tryz.func35, Tryz.ntmps35; go_wp2_with (first | (refine zbo hst0 fun g7 w1 hst1 => ?_; clear hst0) | (refine zbo hst1 fun g8 w2 hst2 => ?_; clear hst1) | (refine zbo hst2 fun g9 w3 hst3 => ?_; clear hst2) | (refine jl (Loads.at [_, _] hst3 rfl) ?_) | (go_at_call 87; refine (jy ga dev pl _).mono ?_; rintro _ w4 ⟨g0, g1, g2, rfl, h4⟩; have hst4 := St.call hst3 h4; clear h4 hst3) | (refine za ([yh 138 [yc g0, yc g1, yc g2], yh 84 [yc g8]]) ([yh 138 [yc g0, yc g1, yc g2], yh 84 [yc g8]]) hst4 (h:=fun gs w5 hst5 => ?_); clear hst4) | (go_at_call 37; have hQ := St.selfF (L := ([HA.blk gs 92 [yh 138 [yc g0, yc g1, yc g2], yh 84 [yc g8]], .blk g2 3 [.int .i64 pl], .blk g1 3 [.int .i64 dev], .blk g0 23 [.pointer (some ⟨ga, 0, none⟩)], .blk g9 5 [.int .u8 (u8I m)], .blk g8 3 [.int .i64 place], .blk g7 3 [.int .i64 pl]] : List HA) ++ yj ga x a) hst5; refine (befallsE_any hQ OK.out dev 86 [yc g7, yc g8, yc g9] (.slice (some ⟨gs, 0, none⟩) 2 2) 2 [yh 138 [yc g0, yc g1, yc g2], yh 84 [yc g8]] (a.spoilL dev pl place) (a.upd dev (jX pl.toNat place.toNat m)) (fun _ _ => rfl) (fun X w' h => Rd.blk h (zR zH) (Nat.le_refl _) (by decide) rfl rfl) rfl rfl (by decide) rfl (fun X j f e hf he _ => (match j, hf, he with | 0, hf, he => (by cases hf; cases he; exact yaT (fun _ h => ArrAt.of h (fun p hp => zR (zR hp)) OK.out.d0) yK (fun _ h => St.cell h (off := 0) (zR (zT (zT (zT zH)))) rfl) (fun _ h => St.cell h (off := 0) (zR (zT (zT zH))) rfl) (fun _ h => St.cell h (off := 0) (zR (zT zH)) rfl)) | 1, hf, he => (by cases hf; cases he; exact jQ (fun _ _ => rfl) fun w h => (spoil1_any ((fun _ h => St.cell h (off := 0) (zR (zT (zT (zT (zT (zT zH)))))) rfl) w h)).mono fun _ _ ⟨e, h4⟩ => ⟨e, yK _ _ h h4⟩) | j + 2, hf, _ => (by simp at hf))) (fun h => yG (yY (by decide) (zu h _ zH))) (fun e he => (by unfold AR.spoilL at he; simp only [List.mem_cons, List.not_mem_nil, or_false] at he; rcases he with rfl | rfl <;> exact jO _ _ (by unfold isE; decide))) (fun h1 _ w' hb h9 => (by have hs : a.inS dev pl = true := yY (by decide) (zu h1 _ zH); have hq : (decide (0 ≤ place) && decide (place < 256)) = true := yY (by decide) (zu h1 _ (zT zH)); simp only [Bool.and_eq_true, decide_eq_true_eq] at hq; obtain ⟨k, rfl⟩ : ∃ k : Nat, dev = k := ⟨dev.toNat, by have := (yQ (yG hs)).1; omega⟩; obtain ⟨p, rfl⟩ : ∃ p : Nat, pl = p := ⟨pl.toNat, by have := (jE hs).1; omega⟩; obtain ⟨q, rfl⟩ : ∃ q : Nat, place = q := ⟨place.toNat, by omega⟩; have hq2 : q < 256 := (by omega); exact spoil2_any h9 OK.out hs hq2 (ya0 (hb g7 _ _ (zT (zT (zT (zT (zT (zT zH))))))).1) (hb g7 _ _ (zT (zT (zT (zT (zT (zT zH))))))).2 (ya0 (hb g8 _ _ (zT (zT (zT (zT (zT zH)))))).1) (hb g8 _ _ (zT (zT (zT (zT (zT zH)))))).2 (ya0 (hb g9 _ _ (zT (zT (zT (zT zH))))).1) (hb g9 _ _ (zT (zT (zT (zT zH))))).2))).mono ?_; rintro _ w9 ⟨rfl, X, x', h4⟩; have hst6 := ya1 (L := ([HA.blk gs 92 [yh 138 [yc g0, yc g1, yc g2], yh 84 [yc g8]], .blk g2 3 [.int .i64 pl], .blk g1 3 [.int .i64 dev], .blk g0 23 [.pointer (some ⟨ga, 0, none⟩)], .blk g9 5 [.int .u8 (u8I m)], .blk g8 3 [.int .i64 place], .blk g7 3 [.int .i64 pl]] : List HA) ++ yj ga x a) hst5 h4; clear h4 hQ hst5)); go_ret; exact ⟨rfl, x', St.sub hst6 (.trans zA zA)⟩
end
section
open Go.RowKit Hp
attribute [local irreducible] Go.Calls
def pickI (x n : Int) : Int := if n < 1 then 0 else x % n
theorem pickI_nat {x : Int} {n : Nat} (h : 0 < n) : ∃ k : Nat, k < n ∧ pickI x n = k := by
 have h1 := Int.emod_nonneg x (show (n : Int) ≠ 0 by omega); have h2 := Int.emod_lt_of_pos x (show (0 : Int) < n by omega); refine ⟨(x % n).toNat, by omega, ?_⟩; unfold pickI; rw [if_neg (by omega)]; omega
theorem pick_spec (x n : Int) (w : World) (hx : -9223372036854775808 ≤ x ∧ x ≤ 9223372036854775807) (hn : -9223372036854775808 ≤ n ∧ n ≤ 9223372036854775807) :
  Calls Tryz.prog 10 #[.int .i64 x, .int .i64 n] w fun e w' => e = .returned (.int .i64 (pickI x n)) ∧ St w [] w' [] := by
 have hst := St.refl w; by_cases h1 : n < 1
 ·have d1 : decide (n < 1) = true := zD h1; have e : pickI x n = 0 := by unfold pickI; rw [if_pos h1]
  rw [e]; clear h1 e; go_enter Tryz.func10, Tryz.ntmps10; go_wp2; go_ret; exact ⟨rfl, hst⟩
 ·have d1 : decide (n < 1) = false := zF h1; obtain ⟨r, hr⟩ : ∃ r, r = Int.tmod x n := ⟨_, rfl⟩; have q1 := Int.tmod_lt_of_pos x (show (0 : Int) < n by omega); have q2 := Int.lt_tmod_of_pos x (show (0 : Int) < n by omega); rw [← hr] at q1 q2; have hw : IntKind.i64.wrap r = r := IntWalk.i64_in _ (by omega); have f1 : ∀ T, binOp .rem T (.int .i64 x) (.int .i64 n) = pure (.int .i64 r) := by
   intro T; have hn0 : n ≠ 0 := by omega
   simp only [binOp]; simp [Op.intDiv, hn0, ← hr, hw]
  have em : x % n = if r < 0 then r + n else r := by
   rw [hr, Int.tmod_eq_emod]; have := Int.emod_nonneg x (show n ≠ 0 by omega); have := Int.emod_lt_of_pos x (show (0 : Int) < n by omega); split <;> (split <;> omega)
  have e : pickI x n = if r < 0 then r + n else r := by unfold pickI; rw [if_neg h1, em]
  rw [e]; clear em e hr h1; by_cases h2 : r < 0
  ·have d2 : decide (r < 0) = true := zD h2; have z0 : IntKind.i64.wrap (r + n) = r + n := IntWalk.i64_in _ (by omega); rw [if_pos h2]; clear h2; go_enter Tryz.func10, Tryz.ntmps10; go_wp2; go_ret; exact ⟨rfl, hst⟩
  ·have d2 : decide (r < 0) = false := zF h2; rw [if_neg h2]; clear h2; go_enter Tryz.func10, Tryz.ntmps10; go_wp2; go_ret; exact ⟨rfl, hst⟩
end
section
open Go.RowKit Hp
attribute [local irreducible] Go.Calls Go.wpList
structure AC where
 k : Int
 dev : Int
 pl : Int
 n : Int
 mask : UInt8
 bo : Option Addr
 bn : Nat
 bc : Nat
 B : List UInt8
 ko : Option Addr
 kn : Nat
 kc : Nat
 K : List Bool
instance : Inhabited AC := ⟨⟨0, 0, 0, 0, 0, none, 0, 0, [], none, 0, 0, []⟩⟩
def AC.cells (y : AC) : List Value := [.int .i64 y.k, .int .i64 y.dev, .int .i64 y.pl, .int .i64 y.n, .int .u8 y.mask.toNat, .slice y.bo y.bn y.bc, .slice y.ko y.kn y.kc]
def in64 (z : Int) : Prop := -9223372036854775808 ≤ z ∧ z ≤ 9223372036854775807
structure AC.Ok (y : AC) (w : World) : Prop where
 k : in64 y.k
 dev : in64 y.dev
 pl : in64 y.pl
 n : in64 y.n
 rb : Rd w (.slice y.bo y.bn y.bc) 1 y.bn (yb y.B)
 lb : y.B.length = y.bn
 rk : Rd w (.slice y.ko y.kn y.kc) 1 y.kn (yU y.K)
 lk : y.K.length = y.kn
instance acA : TyA Tryz.prog 49 7 := ⟨by kernel_rfl⟩
instance acN : TyN Tryz.prog 49 7 := ⟨by kernel_rfl⟩
instance acZ : TyZ Tryz.prog 49 [.int .i64 0, .int .i64 0, .int .i64 0, .int .i64 0, .int .u8 0, .slice none 0 0, .slice none 0 0] := ⟨by kernel_rfl⟩
instance acSl : TySl Tryz.prog 45 49 := ⟨by kernel_rfl⟩
instance acSb : TyS Tryz.prog 47 := ⟨by kernel_rfl⟩
theorem acs_at : ∀ {xs : List AC} {k : Nat} {x : AC}, xs[k]? = some x → ∀ j v, x.cells[j]? = some v → (xs.flatMap AC.cells)[k * 7 + j]? = some v
 | y :: xs, 0, x, h, j, v, hj => by
  cases h; rw [List.flatMap_cons, Nat.zero_mul, Nat.zero_add, List.getElem?_append_left (List.getElem?_eq_some_iff.1 hj).1]; exact hj
 | y :: xs, k + 1, x, h, j, v, hj => by
  have hl : y.cells.length = 7 := rfl; rw [List.flatMap_cons, List.getElem?_append_right (by rw [hl]; omega), hl, show (k + 1) * 7 + j - 7 = k * 7 + j by omega]; exact acs_at (by simpa using h) j v hj
 | [], _, _, h, _, _, _ => by cases h
theorem acs_range {w : World} {b off n c k : Nat} {xs : List AC} {x : AC} (h : Rd w (.slice (some ⟨b, off, none⟩) n c) 7 n (xs.flatMap AC.cells)) (hk : xs[k]? = some x) : w.rangeAt b (off + k * 7) x.cells := by
 intro j v hj; have := h.range (k * 7 + j) v (acs_at hk j v hj); rwa [← Nat.add_assoc] at this
def shortC (xs : List AC) (N : Nat) : Prop := N ≤ 100 ∧ ∀ x ∈ xs, x.bn ≤ 300 ∧ x.kn ≤ 200
def longC (xs : List AC) (N : Nat) (e : Ending) : Prop := ∃ b, e = .returned (.bool b) ∧ (b = false ↔ shortC xs N)
theorem longC_any (ao : Option Addr) (N c : Nat) (xs : List AC) (w : World) (hv : Rd w (.slice ao N c) 7 N (xs.flatMap AC.cells)) (hN : xs.length = N) (hx : ∀ x ∈ xs, x.Ok w) :
  Calls Tryz.prog 20 #[.slice ao N c] w fun e w' => longC xs N e ∧ St w [] w' [] := by
 have hst := St.refl w; have HN := ya hN; have HXX := ya hx; have hb1 := hv.bd.1; have hb2 := hv.bd.2.1; clear hN hx; go_enter Tryz.func20, Tryz.ntmps20; go_wp2
 go_loop [3] (fun q => ∃ k : Nat, k ≤ N ∧ k ≤ 101 ∧ q = .int .i64 k ∧ Hid (∀ j x, j < k → xs[j]? = some x → x.bn ≤ 300 ∧ x.kn ≤ 200)) (fun q => 101 - (intOf q).toNat)
 case atStart => exact ⟨0, by omega, by omega, rfl, ya (fun j x hj => absurd hj (Nat.not_lt_zero _))⟩
 case round =>
  obtain ⟨k, hk, hk1, rfl, hall⟩ := hrel; by_cases hkN : k < N
  ·by_cases hk2 : k < 101
   ·obtain ⟨x, hxk⟩ : ∃ x, xs[k]? = some x := ⟨_, List.getElem?_eq_getElem (by rw [HN]; exact hkN)⟩; obtain ⟨b, off, rfl, _⟩ := hv.at hkN; have hok := HXX.out x (List.mem_of_getElem? hxk); have hra := acs_range hv hxk; have h3 := ya (show w.cell? ⟨b, off + k * 7 + 5, none⟩ = some (.slice x.bo x.bn x.bc) from hra 5 _ rfl); have h4 := ya (show w.cell? ⟨b, off + k * 7 + 6, none⟩ = some (.slice x.ko x.kn x.kc) from hra 6 _ rfl); have HXK := ya hxk; have hm1 := hok.rb.bd.1; have hm2 := hok.rb.bd.2.1; have hm3 := hok.rk.bd.1; have hm4 := hok.rk.bd.2.1; have d1 : decide ((k : Int) < (N : Int)) = true := zD (by omega); have d0 : decide ((k : Int) < 101) = true := zD (by omega); clear hra hxk hok; by_cases g1 : 300 < x.bn
    ·have d2 : decide (300 < (x.bn : Int)) = true := zD (by omega); go_wp2_with (first | (refine jl (Loads.old hst (h3.out)) ?_) | (refine jl (Loads.old hst (h4.out)) ?_)); go_ret; exact ⟨⟨true, rfl, ⟨fun h => (by cases h), fun h => by have := (h.2 x (List.mem_of_getElem? HXK.out)); omega⟩⟩, hst⟩
    ·have d2 : decide (300 < (x.bn : Int)) = false := zF (by omega); by_cases g2 : 200 < x.kn
     ·have d3 : decide (200 < (x.kn : Int)) = true := zD (by omega); go_wp2_with (first | (refine jl (Loads.old hst (h3.out)) ?_) | (refine jl (Loads.old hst (h4.out)) ?_)); go_ret; exact ⟨⟨true, rfl, ⟨fun h => (by cases h), fun h => by have := (h.2 x (List.mem_of_getElem? HXK.out)); omega⟩⟩, hst⟩
     ·have d3 : decide (200 < (x.kn : Int)) = false := zF (by omega); have z1 : IntKind.i64.wrap ((k : Int) + 1) = (k : Int) + 1 := IntWalk.i64_in _ (by omega); go_wp2_with (first | (refine jl (Loads.old hst (h3.out)) ?_) | (refine jl (Loads.old hst (h4.out)) ?_))
      go_round
      case rel =>
       refine ⟨k + 1, by omega, by omega, rfl, ya (fun j y hj hy => ?_)⟩; rcases Nat.lt_or_ge j k with h9 | h9
       ·exact hall.out j y h9 hy
       ·obtain rfl : j = k := by omega
        rw [HXK] at hy; cases hy; omega
      case measure => simp [intOf]; omega
   ·have d1 : decide ((k : Int) < (N : Int)) = true := zD (by omega); have d0 : decide ((k : Int) < 101) = false := zF (by omega); have d2 : decide (100 < (N : Int)) = true := zD (by omega); go_wp2; go_ret; exact ⟨⟨true, rfl, ⟨fun h => (by cases h), fun h => by have := h.1; omega⟩⟩, hst⟩
  ·have e : k = N := by omega
   subst e; have d1 : decide ((k : Int) < (k : Int)) = false := by simp
   by_cases h100 : 100 < k
   ·have d2 : decide (100 < (k : Int)) = true := zD (by omega); go_wp2; go_ret; exact ⟨⟨true, rfl, ⟨fun h => (by cases h), fun h => by have := h.1; omega⟩⟩, hst⟩
   ·have d2 : decide (100 < (k : Int)) = false := zF (by omega); go_wp2; go_ret; refine ⟨⟨false, rfl, ⟨fun _ => ⟨by omega, fun x hx => ?_⟩, fun _ => rfl⟩⟩, hst⟩; obtain ⟨j, hj, rfl⟩ := List.getElem_of_mem hx; exact hall.out j _ (by rw [HN] at hj; exact hj) (List.getElem?_eq_getElem hj)
theorem AC.Ok.old {x : AC} {w w' : World} {L : List HA} (h : x.Ok w) (hst : St w [] w' L) : x.Ok w' := ⟨h.k, h.dev, h.pl, h.n, Rd.old hst h.rb, h.lb, Rd.old hst h.rk, h.lk⟩
end
section
open Go.ChangeShapes Go.WideShapes Go.ChangeAt Go.RowKit Go.Deep Go.Lib Go.Joins Hp
theorem trod_struct4 {H : Type} {enc : TypeId × Value → H} {P : Program} {w : World} {base : Nat} {spare : Nat → Bool} {held : Bool} {t : TypeId} {f0 f1 f2 f3 : Field} {fuel : Nat} {cs : List Value} {x : DataW H × List MemPlace} (ht : P.underlying t = some (.struct #[f0, f1, f2, f3])) (h : DataW.trod enc P w base spare held fuel t cs = some x) :
  ∃ y0 y1 y2 y3 n, DataW.trod enc P w base spare held n f0.type ((cs.drop f0.offset).take (P.cellsOf f0.type)) = some y0 ∧
   DataW.trod enc P w base spare held n f1.type ((cs.drop f1.offset).take (P.cellsOf f1.type)) = some y1 ∧ DataW.trod enc P w base spare held n f2.type ((cs.drop f2.offset).take (P.cellsOf f2.type)) = some y2 ∧
   DataW.trod enc P w base spare held n f3.type ((cs.drop f3.offset).take (P.cellsOf f3.type)) = some y3 := by
 obtain ⟨xs, n, _, rfl, hl, hlen, hf⟩ := DataW.trod_struct ht h
 match xs, hlen with
 | [y0, y1, y2, y3], _ => exact ⟨y0, y1, y2, y3, n, by simpa using hf 0 f0 rfl, by simpa using hf 1 f1 rfl, by simpa using hf 2 f2 rfl, by simpa using hf 3 f3 rfl⟩
theorem cellsLi : Tryz.prog.cellsOf 3 = 1 := by kernel_rfl
theorem cellsLu : Tryz.prog.cellsOf 5 = 1 := by kernel_rfl
theorem cellsLb : Tryz.prog.cellsOf 4 = 1 := by kernel_rfl
theorem i64_wfL {z : Int} (hw : (Lit.int .i64 z).wf = true) : -9223372036854775808 ≤ z ∧ z ≤ 9223372036854775807 := by
 simp only [Lit.wf, Bool.and_eq_true, decide_eq_true_eq] at hw; have h3 : IntKind.i64.min = -9223372036854775808 := rfl; have h4 : IntKind.i64.max = 9223372036854775807 := rfl; omega
theorem u8_wfL {z : Int} (hw : (Lit.int .u8 z).wf = true) : ∃ b : UInt8, z = (b.toNat : Int) := by
 simp only [Lit.wf, Bool.and_eq_true, decide_eq_true_eq] at hw; have h3 : IntKind.u8.min = 0 := rfl; have h4 : IntKind.u8.max = 255 := rfl; refine ⟨UInt8.ofNat z.toNat, ?_⟩; rw [UInt8.toNat_ofNat', Nat.mod_eq_of_lt (by omega)]; omega
theorem open_bytesN {H : Type} {enc : TypeId × Value → H} {W : World} {fuel : Nat} {cs : List Value} {x : DataW H × List MemPlace}
  (h : DataW.trod enc Tryz.prog W 0 (fun _ => true) true fuel 28 cs = some x) : ∃ ao n c bs, cs = [.slice ao n c] ∧ Rd W (.slice ao n c) 1 n (yb bs) ∧ bs.length = n := by
 rcases open_ints Tryz.underlying28 Tryz.underlying5 (by kernel_rfl) h with ⟨hc, _⟩ | ⟨a', len', cap', zs, hc, _, hl, hm, hz, _, hcell, hw⟩
 ·exact ⟨none, 0, 0, [], hc, Rd.nil _ _, rfl⟩
 ·by_cases h0 : cap' = 0
  ·subst h0; obtain rfl : len' = 0 := by omega
   exact ⟨some a', 0, 0, [], hc, Rd.empty _ _ _, rfl⟩
  ·simp only [if_true] at hz; have hspot : a'.spot = none := by
    have h1 := hcell 0 (by omega); unfold World.cell? at h1; split at h1
    ·by_cases hs : a'.spot = none
     ·exact hs
     ·have : ((a'.add 0).spot).isSome = true := by
       cases hq : a'.spot with
       | none => exact absurd hq hs
       | some q => simp [Addr.add, hq]
      rw [if_pos this] at h1; cases h1
    ·cases h1
   obtain ⟨b, off, rfl⟩ : ∃ b off, a' = ⟨b, off, none⟩ := ⟨a'.block, a'.off, by cases a'; simp_all⟩; refine ⟨_, len', cap', (List.range len').map fun i => UInt8.ofNat (zs.getD i 0).toNat, hc, rd_ints _ hl hm fun i hi => ?_, by simp⟩; have h1 := hcell i (by omega); rw [Addr.add_mid] at h1; rw [h1]; have h2 := hw (zs.getD i 0) (by rw [List.getD_eq_getElem?_getD, List.getElem?_eq_getElem (by omega)]; exact List.getElem_mem _); simp only [Lit.wf, Bool.and_eq_true, decide_eq_true_eq] at h2; have h3 : IntKind.u8.min = 0 := rfl; have h4 : IntKind.u8.max = 255 := rfl; have h5 : ((UInt8.ofNat (zs.getD i 0).toNat).toNat : Int) = zs.getD i 0 := by rw [UInt8.toNat_ofNat']; omega
   rw [h5]
theorem spot_none {w : World} {a : Addr} {v : Value} (h : w.cell? (a.add 0) = some v) : a.spot = none := by
 unfold World.cell? at h; split at h
 ·by_cases hs : a.spot = none
  ·exact hs
  ·have : ((a.add 0).spot).isSome = true := by
    cases hq : a.spot with
    | none => exact absurd hq hs
    | some q => simp [Addr.add, hq]
   rw [if_pos this] at h; cases h
 ·cases h
theorem open_boolsN {H : Type} {enc : TypeId × Value → H} {W : World} {fuel : Nat} {cs : List Value} {x : DataW H × List MemPlace}
  (h : DataW.trod enc Tryz.prog W 0 (fun _ => true) true fuel 47 cs = some x) : ∃ ao n c bs, cs = [.slice ao n c] ∧ Rd W (.slice ao n c) 1 n (yU bs) ∧ bs.length = n := by
 rcases open_slice Tryz.underlying47 h with ⟨hc, _⟩ | ⟨a', len', cap', m, n, D, Pl, hc, _, hl, hm, hmm, _, hx⟩
 ·exact ⟨none, 0, 0, [], hc, Rd.nil _ _, rfl⟩
 ·simp only [if_true] at hmm; rw [cellsLb] at hx; have hb : ∀ i, i < cap' → ∃ b, W.cell? (a'.add (i * 1)) = some (.bool b) := by
   intro i hi; obtain ⟨cs', h1, h2⟩ := hx i (by omega); obtain ⟨b, rfl, _⟩ := DataW.trod_bool Tryz.underlying4 h2; obtain ⟨_, _, hcell⟩ := World.cells?_some h1; have h3 := hcell 0 (by decide); refine ⟨b, ?_⟩; have e : (a'.add (i * 1)).add 0 = a'.add (i * 1) := by simp [Addr.add]
   rw [e] at h3; exact h3
  by_cases h0 : cap' = 0
  ·subst h0; obtain rfl : len' = 0 := by omega
   exact ⟨some a', 0, 0, [], hc, Rd.empty _ _ _, rfl⟩
  ·obtain ⟨b0, h1⟩ := hb 0 (by omega); have hspot : a'.spot = none := spot_none h1; obtain ⟨b, off, rfl⟩ : ∃ b off, a' = ⟨b, off, none⟩ := ⟨a'.block, a'.off, by cases a'; simp_all⟩; obtain ⟨K, hK⟩ := choose_lt (α := Bool) (p := fun i k => W.cell? ⟨b, off + i, none⟩ = some (.bool k)) (fun i (hi : i < cap') => by
    obtain ⟨k, hk⟩ := hb i hi; rw [Addr.add_mid, Nat.mul_one] at hk; exact ⟨k, hk⟩)
   refine ⟨_, len', cap', (List.range len').map K, hc, Rd.mk hl hm (by simp [yU]) (fun k v hk => ?_), by simp⟩; have hk2 : k < len' := by
    have := (List.getElem?_eq_some_iff.1 hk).1; simpa [yU] using this
   have : (yU ((List.range len').map K))[k]? = some (.bool (K k)) := by
    unfold yU; rw [List.getElem?_map, List.getElem?_map, List.getElem?_range hk2]; rfl
   rw [this] at hk; cases hk; exact hK k (by omega)
theorem trod_struct7 {H : Type} {enc : TypeId × Value → H} {P : Program} {w : World} {base : Nat} {spare : Nat → Bool} {held : Bool} {t : TypeId} {f0 f1 f2 f3 f4 f5 f6 : Field} {fuel : Nat} {cs : List Value} {x : DataW H × List MemPlace} (ht : P.underlying t = some (.struct #[f0, f1, f2, f3, f4, f5, f6])) (h : DataW.trod enc P w base spare held fuel t cs = some x) :
  ∃ y0 y1 y2 y3 y4 y5 y6 n, DataW.trod enc P w base spare held n f0.type ((cs.drop f0.offset).take (P.cellsOf f0.type)) = some y0 ∧
   DataW.trod enc P w base spare held n f1.type ((cs.drop f1.offset).take (P.cellsOf f1.type)) = some y1 ∧ DataW.trod enc P w base spare held n f2.type ((cs.drop f2.offset).take (P.cellsOf f2.type)) = some y2 ∧
   DataW.trod enc P w base spare held n f3.type ((cs.drop f3.offset).take (P.cellsOf f3.type)) = some y3 ∧ DataW.trod enc P w base spare held n f4.type ((cs.drop f4.offset).take (P.cellsOf f4.type)) = some y4 ∧
   DataW.trod enc P w base spare held n f5.type ((cs.drop f5.offset).take (P.cellsOf f5.type)) = some y5 ∧ DataW.trod enc P w base spare held n f6.type ((cs.drop f6.offset).take (P.cellsOf f6.type)) = some y6 := by
 obtain ⟨xs, n, _, rfl, hl, hlen, hf⟩ := DataW.trod_struct ht h
 match xs, hlen with
 | [y0, y1, y2, y3, y4, y5, y6], _ => exact ⟨y0, y1, y2, y3, y4, y5, y6, n, by simpa using hf 0 f0 rfl, by simpa using hf 1 f1 rfl, by simpa using hf 2 f2 rfl, by simpa using hf 3 f3 rfl, by simpa using hf 4 f4 rfl, by simpa using hf 5 f5 rfl, by simpa using hf 6 f6 rfl⟩
theorem cellsLub : Tryz.prog.cellsOf 28 = 1 := by kernel_rfl
theorem cellsLbb : Tryz.prog.cellsOf 47 = 1 := by kernel_rfl
theorem cellsAct : Tryz.prog.cellsOf 49 = 7 := by kernel_rfl
theorem open_act {H : Type} {enc : TypeId × Value → H} {W : World} (fuel : Nat) (cs : List Value) (x : DataW H × List MemPlace) (hl : cs.length = 7)
  (h : DataW.trod enc Tryz.prog W 0 (fun _ => true) true fuel 49 cs = some x) : ∃ k : AC, cs = k.cells ∧ k.Ok W := by
 match cs, hl with
 | [a, b, c, d, e, f, g], _ =>
  obtain ⟨y0, y1, y2, y3, y4, y5, y6, n, h0, h1, h2, h3, h4, h5, h6⟩ := trod_struct7 Tryz.underlying49 h; simp only [cellsLi, cellsLu, cellsLub, cellsLbb, List.drop_zero, List.drop_succ_cons, List.take_succ_cons, List.take_zero] at h0 h1 h2 h3 h4 h5 h6; obtain ⟨z0, e0, _, w0⟩ := DataW.trod_int Tryz.underlying3 h0; obtain ⟨z1, e1, _, w1⟩ := DataW.trod_int Tryz.underlying3 h1; obtain ⟨z2, e2, _, w2⟩ := DataW.trod_int Tryz.underlying3 h2; obtain ⟨z3, e3, _, w3⟩ := DataW.trod_int Tryz.underlying3 h3; obtain ⟨z4, e4, _, w4⟩ := DataW.trod_int Tryz.underlying5 h4; obtain ⟨bo, bn, bc, B, e5, r5, l5⟩ := open_bytesN h5; obtain ⟨ko, kn, kc, K, e6, r6, l6⟩ := open_boolsN h6; cases e0; cases e1; cases e2; cases e3; cases e4; cases e5; cases e6; obtain ⟨u, rfl⟩ := u8_wfL w4; exact ⟨⟨z0, z1, z2, z3, u, bo, bn, bc, B, ko, kn, kc, K⟩, rfl, ⟨i64_wfL w0, i64_wfL w1, i64_wfL w2, i64_wfL w3, r5, l5, r6, l6⟩⟩
end
section
open Go.RowKit Hp
theorem dl_step (a : AR) : a.step.devs.length = a.devs.length := by unfold AR.step; split <;> rfl
theorem dl_lay (a : AR) (dev pl : Int) (b : List UInt8) : (a.lay dev pl b).devs.length = a.devs.length := by
 unfold AR.lay; split
 ·exact upd_len a dev _
 ·split
  ·exact upd_len a dev _
  ·rfl
theorem yaF (a : AR) (dev pl : Int) (b : List UInt8) : (a.write dev pl b).devs.length = a.devs.length := by
 unfold AR.write; split
 ·rfl
 ·split
  ·exact dl_step a
  ·exact (dl_lay _ _ _ _).trans (dl_step a)
theorem dl_flush (a : AR) (dev : Int) : (a.flush dev).devs.length = a.devs.length := by
 unfold AR.flush; split
 ·rfl
 ·split
  ·exact dl_step a
  ·exact (upd_len a.step _ _).trans (dl_step a)
theorem dl_read (a : AR) (dev pl : Int) : (a.read dev pl).devs.length = a.devs.length := by
 unfold AR.read; split
 ·exact upd_len a dev _
 ·rfl
theorem dl_crashN (a : AR) (keep : List Bool) (t : Nat) : ∀ j, (z9 a keep t j).1.devs.length = a.devs.length
 | 0 => rfl
 | j + 1 => by
  unfold z9; split
  ·exact dl_crashN a keep t j
  ·unfold qz; split
   ·exact (upd_len _ _ _).trans (dl_crashN a keep t j)
   ·split
    ·exact (upd_len _ _ _).trans (dl_crashN a keep t j)
    ·exact dl_crashN a keep t j
theorem upd_secs2 {a : AR} {dev : Int} {f : DV → DV} (hl : ∀ d, (f d).firm.length = d.firm.length) : (a.upd dev f).secs = a.secs := by
 rw [secs_eq, secs_eq]; unfold AR.upd; rw [yS]; split
 ·cases a.devs[0]? with
  | none => rfl
  | some d => simp [hl]
 ·rfl
structure Stays (a b : AR) : Prop where
 sec : b.secs = a.secs
 st : (0 ≤ a.steps → 0 ≤ b.steps) ∧ b.steps ≤ a.steps + 1
 ll : b.loose.length ≤ a.loose.length + 1
 dl : b.devs.length = a.devs.length
theorem Stays.refl (a : AR) : Stays a a := ⟨rfl, ⟨id, by omega⟩, Nat.le_succ _, rfl⟩
theorem Stays.upd (a : AR) (dev : Int) {f : DV → DV} (hl : ∀ d, (f d).firm.length = d.firm.length) : Stays a (a.upd dev f) := ⟨upd_secs2 hl, ⟨id, by show a.steps ≤ _; omega⟩, Nat.le_succ _, upd_len a dev f⟩
theorem Stays.fell (a : AR) (dev : Int) (rs : List Int) {f : DV → DV} (hl : ∀ d, (f d).firm.length = d.firm.length) : Stays a (a.fell dev rs f) := by
 unfold AR.fell; split
 ·exact Stays.upd a dev hl
 ·exact Stays.refl a
theorem Stays.read (a : AR) (dev pl : Int) : Stays a (a.read dev pl) := by
 unfold AR.read; split
 ·exact Stays.upd a dev fun _ => rfl
 ·exact Stays.refl a
theorem step_stays (a : AR) : a.step.secs = a.secs ∧ ((0 ≤ a.steps → 0 ≤ a.step.steps) ∧ a.step.steps ≤ a.steps + 1) ∧ a.step.loose = a.loose := by
 refine ⟨step_secs a, ?_, qg a⟩; unfold AR.step; split
 ·exact ⟨id, by show a.steps ≤ _; omega⟩
 ·exact ⟨fun h => by show 0 ≤ a.steps + 1; omega, Int.le_refl _⟩
theorem Stays.write (a : AR) (dev pl : Int) (b : List UInt8) : Stays a (a.write dev pl b) := by
 obtain ⟨h1, h2, h3⟩ := step_stays a; have hd := yaF a dev pl b; unfold AR.write at hd ⊢; split
 ·exact Stays.refl a
 ·rename_i hc0
  rw [if_neg hc0] at hd; split
  ·exact ⟨h1, h2, by rw [h3]; exact Nat.le_succ _, dl_step a⟩
  ·rename_i hc1
   rw [if_neg hc1] at hd; unfold AR.lay at hd ⊢; split
   ·rename_i hc
    rw [if_pos hc] at hd; exact ⟨(upd_secs2 (a := a.step) (f := fun d => { d with lo := false }) fun _ => rfl).trans h1, h2, by show a.step.loose.length ≤ _; rw [h3]; exact Nat.le_succ _, hd⟩
   ·rename_i hc
    rw [if_neg hc] at hd; split
    ·rename_i hc2
     rw [if_pos hc2] at hd; refine ⟨(upd_secs2 (a := a.step) (f := fun d => { d with st := false }) fun _ => rfl).trans h1, h2, ?_, hd⟩; show (a.step.loose ++ [_]).length ≤ _; rw [h3, List.length_append]; exact Nat.le_refl _
    ·rename_i hc2
     rw [if_neg hc2] at hd; refine ⟨h1, h2, ?_, hd⟩; show (a.step.loose ++ [_]).length ≤ _; rw [h3, List.length_append]; exact Nat.le_refl _
theorem Stays.flush (a : AR) (dev : Int) : Stays a (a.flush dev) := by
 obtain ⟨h1, h2, h3⟩ := step_stays a; unfold AR.flush; split
 ·exact Stays.refl a
 ·split
  ·exact ⟨h1, h2, by rw [h3]; exact Nat.le_succ _, dl_step a⟩
  ·refine ⟨(upd_secs2 (a := a.step) (f := fun d => { d with firm := (a.step.loose.filter fun w => w.dev == dev.toNat).foldl jS d.firm }) fun d => ya4 _ _).trans h1, h2, ?_, (upd_len a.step _ _).trans (dl_step a)⟩; show (a.step.loose.filter _).length ≤ _; rw [h3]; exact Nat.le_trans (List.length_filter_le _ _) (Nat.le_succ _)
theorem Stays.fused (a : AR) (n : Int) : Stays a (a.fused n) := by
 unfold AR.fused; split
 ·exact ⟨rfl, ⟨id, by show a.steps ≤ _; omega⟩, Nat.le_succ _, rfl⟩
 ·exact Stays.refl a
theorem Stays.spoil (a : AR) (dev pl place : Int) (m : UInt8) : Stays a (a.spoil dev pl place m) := by
 unfold AR.spoil; split
 ·exact Stays.upd a dev fun d => by unfold jX; exact List.length_set
 ·exact Stays.refl a
theorem Stays.pull (a : AR) (dev : Int) : Stays a (a.pull dev) := by
 unfold AR.pull; split
 ·exact ⟨upd_secs2 (f := fGone) fun _ => rfl, ⟨id, by show a.steps ≤ _; omega⟩, Nat.le_trans (List.length_filter_le _ _) (Nat.le_succ _), upd_len a _ _⟩
 ·exact Stays.refl a
theorem Stays.fit {a : AR} (ok : a.Ok) (dev : Int) (g : Nat) : Stays a (a.fit dev g) := by
 unfold AR.fit; split
 ·rename_i hc
  refine ⟨?_, ⟨id, by show a.steps ≤ _; omega⟩, Nat.le_trans (List.length_filter_le _ _) (Nat.le_succ _), upd_len (a.rest _) _ _⟩; exact jT (a := a.rest dev.toNat) (f := fun _ => yM a.secs g) hc (by
   show (yM a.secs g).firm.length = ((a.rest dev.toNat).dv dev).firm.length; rw [show ((a.rest dev.toNat).dv dev) = a.dv dev from rfl, (ok.dv hc).1]; exact List.length_replicate)
 ·exact Stays.refl a
theorem Stays.crash {a : AR} (ok : a.Ok) (keep : List Bool) (torn : Int) : Stays a (a.crash keep torn) := by
 have ok2 := ok.crash keep torn; unfold AR.crash at ok2 ⊢; split
 ·rename_i h
  rw [if_pos h] at ok2; have ht : torn.toNat ≤ 256 := by
   unfold AR.crashE at h; rw [if_neg ok.d0] at h; have := yY (by decide) h; simp only [Bool.and_eq_true, decide_eq_true_eq] at this; omega
  have hg := yav ok keep ht a.loose.length; refine ⟨?_, ⟨fun h => by show 0 ≤ (a.crashed keep torn.toNat).steps; exact h, by show a.steps ≤ _; omega⟩, Nat.zero_le _, ?_⟩; rotate_left
  ·show ((z9 a keep torn.toNat a.loose.length).1.devs.map clean).length = _; rw [List.length_map]; exact dl_crashN a keep _ _
  have h0 : (z9 a keep torn.toNat a.loose.length).1.devs ≠ [] := by
   intro he; have := hg.len; rw [he] at this; exact ok.d0 (List.eq_nil_of_length_eq_zero this.symm)
  unfold AR.secs AR.crashed; cases hd : (z9 a keep torn.toNat a.loose.length).1.devs with
  | nil => exact absurd hd h0
  | cons d l =>
   show (clean d).firm.length = _; exact (hg.fm d (by rw [hd]; exact .head _)).1
 ·exact Stays.refl a
structure Sc (a : AR) (m : Nat) : Prop where
 ok : a.Ok
 sec : 8 ≤ a.secs
 st : 0 ≤ a.steps ∧ a.steps ≤ (m : Int)
 ll : a.loose.length ≤ m
theorem Sc.next {a b : AR} {m : Nat} (h : Sc a m) (ok : b.Ok) (hs : Stays a b) : Sc b (m + 1) := by
 have h1 := h.st; have h2 := hs.st; have h3 := hs.ll; have h4 := h.ll; exact ⟨ok, by rw [hs.sec]; exact h.sec, ⟨h2.1 h1.1, by have := h2.2; omega⟩, by omega⟩
theorem zJ {w0 w : World} {M : List Nat} {P Bs R : List HA} {ga : Nat} {x : GA} {a : AR} (h : St w0 M w (P ++ (Bs ++ (yj ga x a ++ R)))) : St w (yT ga x a) w (yj ga x a) :=
 (St.sub h (((List.sublist_append_left _ _).trans zA).trans zA)).selfF
theorem qJ {w0 w w' : World} {M : List Nat} {P Bs R Q : List HA} {ga : Nat} {x x' : GA} {a a' : AR} (h : St w0 M w (P ++ (Bs ++ (yj ga x a ++ R)))) (h4 : St w (yT ga x a) w' (Q ++ yj ga x' a')) : St w0 M w' (Q ++ (P ++ (Bs ++ (yj ga x' a' ++ R)))) := by
 have h1 : St w0 M w (yj ga x a ++ (P ++ (Bs ++ R))) := by
  refine St.perm h ?_; rw [← List.append_assoc P Bs, ← List.append_assoc P Bs]; exact List.perm_append_comm_assoc (P ++ Bs) (yj ga x a) R
 have h2 := St.callF (yj ga x a) h1 h4; refine St.perm h2 ?_; rw [List.append_assoc]; refine List.Perm.append_left Q ?_; rw [← List.append_assoc P Bs, ← List.append_assoc P Bs]; exact List.perm_append_comm_assoc (yj ga x' a') (P ++ Bs) R
theorem jg {w0 w w' : World} {M : List Nat} {P Bs R : List HA} {ga : Nat} {x x' : GA} {a a' : AR} (h : St w0 M w (P ++ (Bs ++ (yj ga x a ++ R)))) (h4 : St w (yT ga x a) w' (yj ga x' a')) : St w0 M w' (P ++ (Bs ++ (yj ga x' a' ++ R))) := qJ (Q := []) h h4
structure Next (a a' : AR) : Prop where
 ok : a'.Ok
 st : Stays a a'
theorem Next.refl {a : AR} (ok : a.Ok) : Next a a := ⟨ok, Stays.refl a⟩
end
section
open Go.RowKit Hp
attribute [local irreducible] Go.Calls Go.wpList
theorem tells_anyP {w : World} {ga : Nat} {x : GA} {a : AR} (h : ArrAll w ga x a) (ok : a.Ok) (hll : a.loose.length < 1000000) (k p : Nat) (hd : a.inS (k : Int) (p : Int) = true) :
  Calls Tryz.prog 50 #[.pointer (some ⟨ga, 0, none⟩), .int .i64 (k : Int), .int .i64 (p : Int)] w fun e w' => ∃ u, e = .returned u ∧ St w [] w' [.rowP yP u 5 1 256 (yb (a.tells (k : Int) (p : Int)))] := by
 have hst0 := St.refl w; have hin := yG hd; have hdg := zI hin; have hf := ok.fm _ (List.mem_of_getElem? hdg); have hp := jE hd; have hlt : k < a.devs.length := by have := (yQ hin).2; omega
 have hlp : p < (a.dv (k : Int)).firm.length := by rw [hf.1]; omega
 have H0 := ya h.c0; have H1 := ya h.c1; have HF := ya (show w.cell? ⟨x.gd, k * 5, none⟩ = some (.slice (some ⟨(a.dv (k : Int)).g, 0, none⟩) (a.dv (k : Int)).firm.length (a.dv (k : Int)).firm.length) from h.dcell hdg (i := 0) rfl (by decide)); obtain ⟨s0, hs0⟩ : ∃ s0, (a.dv (k : Int)).firm[p]? = some s0 := ⟨_, List.getElem?_eq_getElem hlp⟩; have hs256 : s0.length = 256 := hf.2.1 _ (List.mem_of_getElem? hs0); have HSR := ya (qA (sz := 256) (fun d hd => by rw [length_bytesV]; exact hf.2.1 d hd) hs0 (h.frm _ (List.mem_of_getElem? hdg))); have hsg : (a.dv (k : Int)).firm.getD p [] = s0 := by rw [List.getD_eq_getElem?_getD, hs0]; rfl
 have HTL := ya (fun j => qU ok hd j); have HL := ya h.loo; have HLW := ya ok.lw; obtain ⟨T, hT⟩ : ∃ T : Nat → List UInt8, T = fun j => (a.loose.take j).foldl (jV k p) ((a.dv (k : Int)).firm.getD p []) := ⟨_, rfl⟩; have HT0 : Hid (T 0 = s0) := ya (by rw [hT]; exact hsg); have HTS : Hid (∀ j wj, a.loose[j]? = some wj → T (j + 1) = jV k p (T j) wj) := ya (fun j wj hj => by
  rw [hT]; show (a.loose.take (j + 1)).foldl _ _ = _; rw [List.take_add_one, hj, List.foldl_append]; rfl)
 have HTE : Hid (T a.loose.length = a.tells (k : Int) (p : Int)) := ya (by rw [hT]; show (a.loose.take a.loose.length).foldl _ _ = _; rw [List.take_length]; rfl); have HTL2 : Hid (∀ j, (T j).length = 256) := ya (fun j => by rw [hT]; exact HTL.out j); obtain ⟨R, hR⟩ : ∃ R, R = a.tells (k : Int) (p : Int) := ⟨_, rfl⟩; rw [← hR] at HTE; rw [← hR]; have HS256 := ya (show (yb s0).length = 256 by rw [length_bytesV, hs256]); have hnl : a.loose.length < 1000000 := hll; obtain ⟨nl, hnl2⟩ : ∃ nl, nl = a.loose.length := ⟨_, rfl⟩; have HNL := ya hnl2; rw [← hnl2] at HTE hnl HL; clear hd hin hdg hf hp h ok hs0 hs256 hsg HTL hT hR hnl2 hll; obtain ⟨lao, lc, hlv⟩ : ∃ ao c, x.lv = .slice ao nl c := by
  rcases HL.out.casesF with ⟨e, e2, _⟩ | ⟨A, c, e, _⟩
  ·exact ⟨none, 0, by rw [e, e2]⟩
  ·exact ⟨some A, c, e⟩
 rw [hlv] at H1 HL; clear hlv; go_enter Tryz.func50, Tryz.ntmps50; go_wp2_with (first | (refine jl (Loads.old hst0 H0.out) ?_) | (refine jl (Loads.old hst0 HF.out) ?_) | (refine jl (zf (cs := yb s0) hst0 HS256.out HSR.out) ?_) | (refine jl (Loads.old hst H1.out) ?_) | (refine yA hlt ?_) | (refine yA hlp ?_) | (refine yN hst0 fun g7 _ hst1 => ?_; clear hst0) | (refine yx (vs := yb s0) [] hst1 rfl rfl rfl rfl HS256.out (yD _) List.length_replicate ?_; intro w2 hst; clear hst1)); go_loopw [26] (fun i wr => ∃ j : Nat, j ≤ nl ∧ i = .int .i64 (j : Int) ∧ St w [] wr [.blk g7 144 (yb (T j))]) (fun i _ => nl - (intOf i).toNat)
 case atStart => exact ⟨0, Nat.zero_le _, rfl, by rw [HT0]; exact hst⟩
 case round =>
  clear hst; obtain ⟨j, hj, rfl, hst⟩ := hrel; by_cases hlj : j < nl
  ·have d1 : decide ((j : Int) < (nl : Int)) = true := zD (by omega); have z1 : IntKind.i64.wrap ((j : Int) + 1) = (j : Int) + 1 := IntWalk.i64_in _ (by omega); obtain ⟨wj, hwj⟩ : ∃ wj, a.loose[j]? = some wj := ⟨_, List.getElem?_eq_getElem (by rw [← HNL]; exact hlj)⟩; have hw := HLW.out wj (List.mem_of_getElem? hwj); obtain ⟨lb, lo, rfl, hlr⟩ := Rd.at HL.out hlj; have HWR := ya (qA (sz := 258) (f := LW.cells) (fun d hd => zq (HLW.out d hd).2.2) hwj hlr); have HW258 := ya (zq hw.2.2); have HN := ya (HTS.out j wj hwj); have HB256 := ya (show (yb wj.b).length = 256 by rw [length_bytesV]; exact hw.2.2); have HTJ := ya (show (yb (T j)).length = 256 by rw [length_bytesV]; exact HTL2.out j); clear hwj hw hlr; by_cases k1 : wj.dev = k
   ·by_cases k2 : wj.pl = p
    ·have d2 : ((wj.dev : Int) == (k : Int)) = true := by simp [k1]
     have d3 : ((wj.pl : Int) == (p : Int)) = true := by simp [k2]
     have KK := ya (And.intro k1 k2); clear k1 k2; go_wp2_with (first | (refine yA hlj ?_) | (refine jl (zf (cs := wj.cells) hst HW258.out HWR.out) ?_) | (refine jl (Loads.at [] hst3 rfl) ?_) | (refine jl (yl (yb wj.b) [] hst3 HB256.out (by show (yb wj.b).take _ = _; exact List.take_length)) ?_) | (refine yN (T := 149) hst fun g9 _ hst2 => ?_; clear hst) | (refine yx (T := 149) (vs := wj.cells) [] hst2 rfl rfl rfl rfl HW258.out (jr _) (by rw [List.length_cons, List.length_cons, List.length_replicate]) ?_; intro w4 hst3; clear hst2) | (refine yx (T := 144) (vs := yb wj.b) [_] hst3 rfl rfl rfl rfl HB256.out (yD _) HTJ.out ?_; intro w5 hst4; clear hst3)); go_roundw
     case rel =>
      refine ⟨j + 1, by omega, rfl, ?_⟩; rw [HN]; unfold jV; rw [if_pos KK.out]; exact St.sub hst4 (.cons _ (List.Sublist.refl _))
     case measure => simp [intOf]; omega
    ·have d2 : ((wj.dev : Int) == (k : Int)) = true := by simp [k1]
     have d3 : ((wj.pl : Int) == (p : Int)) = false := by simp; omega
     have KK := ya (fun h : wj.dev = k ∧ wj.pl = p => k2 h.2); clear k1 k2; go_wp2_with (first | (refine yA hlj ?_) | (refine jl (zf (cs := wj.cells) hst HW258.out HWR.out) ?_) | (refine jl (Loads.at [] hst3 rfl) ?_) | (refine jl (yl (yb wj.b) [] hst3 HB256.out (by show (yb wj.b).take _ = _; exact List.take_length)) ?_) | (refine yN (T := 149) hst fun g9 _ hst2 => ?_; clear hst) | (refine yx (T := 149) (vs := wj.cells) [] hst2 rfl rfl rfl rfl HW258.out (jr _) (by rw [List.length_cons, List.length_cons, List.length_replicate]) ?_; intro w4 hst3; clear hst2) | (refine yx (T := 144) (vs := yb wj.b) [_] hst3 rfl rfl rfl rfl HB256.out (yD _) HTJ.out ?_; intro w5 hst4; clear hst3)); go_roundw
     case rel =>
      refine ⟨j + 1, by omega, rfl, ?_⟩; rw [HN]; unfold jV; rw [if_neg KK.out]; exact St.sub hst3 (.cons _ (List.Sublist.refl _))
     case measure => simp [intOf]; omega
   ·have d2 : ((wj.dev : Int) == (k : Int)) = false := by simp; omega
    have KK := ya (fun h : wj.dev = k ∧ wj.pl = p => k1 h.1); clear k1; go_wp2_with (first | (refine yA hlj ?_) | (refine jl (zf (cs := wj.cells) hst HW258.out HWR.out) ?_) | (refine jl (Loads.at [] hst3 rfl) ?_) | (refine jl (yl (yb wj.b) [] hst3 HB256.out (by show (yb wj.b).take _ = _; exact List.take_length)) ?_) | (refine yN (T := 149) hst fun g9 _ hst2 => ?_; clear hst) | (refine yx (T := 149) (vs := wj.cells) [] hst2 rfl rfl rfl rfl HW258.out (jr _) (by rw [List.length_cons, List.length_cons, List.length_replicate]) ?_; intro w4 hst3; clear hst2) | (refine yx (T := 144) (vs := yb wj.b) [_] hst3 rfl rfl rfl rfl HB256.out (yD _) HTJ.out ?_; intro w5 hst4; clear hst3)); go_roundw
    case rel =>
     refine ⟨j + 1, by omega, rfl, ?_⟩; rw [HN]; unfold jV; rw [if_neg KK.out]; exact St.sub hst3 (.cons _ (List.Sublist.refl _))
    case measure => simp [intOf]; omega
  ·have d1 : decide ((j : Int) < (nl : Int)) = false := zF (by omega); have HE := ya (show T j = R by rw [← HTE]; congr 1; omega); have HJ := ya (show (yb (T j)).length = 256 by rw [length_bytesV]; exact HTL2.out j); have hst5 := qo yP 5 1 hst; clear hst; go_wp2_with (first | (apply yar (p := yP) (m := 256) (ys := yb (T j)) [] hst5; rfl; rfl; exact rfl; exact rfl; infer_instance; infer_instance; infer_instance; infer_instance; exact Rd.blk (n := 256) hst5 (zT zH) (Nat.le_refl _) (by decide) (by rw [HJ]) (by rw [List.drop_zero, List.take_length]); exact yD _; rfl; exact yaH _; exact ⟨by decide, by decide, by decide⟩; intro v6 w6 hst6 _; clear hst5)); go_ret; refine ⟨v6, rfl, ?_⟩; rw [← HE]; have := St.sub hst6 (.cons_cons _ (List.nil_sublist _)); rw [List.nil_append] at this; exact this
section
attribute [local go_sem ↓] loadedPA yaE
section
variable {w : World} {ga : Nat} {x : GA} {a : AR} (hS : St w (yT ga x a) w (yj ga x a)) (ok : a.Ok) (hll : a.loose.length < 1000000)
include hS ok hll
theorem read_badP (dev pl : Int) (h1 : yt (qe a dev pl) ≠ 0) :
  Calls Tryz.prog 36 #[.pointer (some ⟨ga, 0, none⟩), .int .i64 dev, .int .i64 pl] w fun e w' => ∃ u, e = .returned (.tuple #[u, .int .i64 (a.readE dev pl)]) ∧ St w (yT ga x a) w' (.rowP yP u 5 1 (a.readB dev pl).length (yb (a.readB dev pl)) :: yj ga x (a.read dev pl)) := by
 have _ := hll; have hb := read_bad ok.d0 h1; have hbb : a.readB dev pl = [] := by unfold AR.readB; rw [if_neg (by rw [hb.1]; exact h1)]
 rw [hbb, hb.1, hb.2]; have HE := ya (ya9 (readL_isE a dev pl) h1); have H1 := ya h1; have OK := ya ok; have hst0 := hS; have hmf := rmf; clear hb h1 ok hS hbb; go_enter Tryz.func36, Tryz.ntmps36; go_wp2_with (first | (refine zbo hst0 fun g3 w1 hst1 => ?_; clear hst0) | (refine zbo hst1 fun g4 w2 hst2 => ?_; clear hst1)); have hX := hst2.drew; clear hst2; refine wD (S := fun w' => Ld 3 g4 0 (.int .i64 dev) w' ∧ Ld 23 g3 0 (.pointer (some ⟨ga, 0, none⟩)) w') ⟨yp [] hX (rfl), yp [_] hX (rfl)⟩ fun hHeld => ?_; refine jt 0 (h:=jt 1 (h:=jt 3 (h:=jt 5 (h:=jt 6 (h:=jt 7 (h:=jt 9 (h:=jt 10 (h:=jt 12 (h:=jt 2 (h:=jt 4 (h:=?_))))))))))); refine yF 8 (h0:=fun K hK => ?_); go_simp; go_at_call 87; refine (jy ga dev pl _).mono ?_; rintro _ w3 ⟨g0, g1, g2, rfl, h4⟩; have hA1 := St.call hX h4; clear h4; refine kD hK ⟨yp [_, _, _] hA1 (rfl), yp [_, _, _, _] hA1 (rfl)⟩ (h:=fun hHeld => ?_); refine yF 11 (h0:=fun K hK => ?_); go_simp; go_at_call 89; refine (zW ga dev _).mono ?_; rintro _ w4 ⟨k0, k1, rfl, h4⟩; have hA2 := St.call hA1 h4; clear h4; refine kD hK ⟨yp [_, _, _, _, _] hA2 (rfl), yp [_, _, _, _, _, _] hA2 (rfl)⟩ (h:=fun hHeld => ?_); refine rW 13 (h:=fun K hK => ?_); refine za ([yi 46 (yc ga), yi 88 (yc ga), yh 138 [yc g0, yc g1, yc g2], yh 139 [yc k0, yc k1], yh 90 [yc g3, yc g4]]) ([yi 46 (yc ga), yi 88 (yc ga), yh 138 [yc g0, yc g1, yc g2], yh 139 [yc k0, yc k1], yh 90 [yc g3, yc g4]]) hA2 (h:=fun gs w5 hA3 => ?_); refine kQ hK ⟨yp [_, _, _, _, _, _] hA3 (rfl), yp [_, _, _, _, _, _, _] hA3 (rfl)⟩ (h:=fun hHeld => ?_); refine yF 14 (h0:=fun K hK => ?_); go_simp
 (go_at_call 45; have hC := z6 dev (n := 5) (fs := [yi 46 (yc ga), yi 88 (yc ga), yh 138 [yc g0, yc g1, yc g2], yh 139 [yc k0, yc k1]]) (f9 := yh 90 [yc g3, yc g4]) (es := qe a dev pl) (e9 := 0) (L := ([.blk k1 3 [.int .i64 dev], .blk k0 23 [.pointer (some ⟨ga, 0, none⟩)], .blk g2 3 [.int .i64 pl], .blk g1 3 [.int .i64 dev], .blk g0 23 [.pointer (some ⟨ga, 0, none⟩)], .blk g4 3 [.int .i64 dev], .blk g3 23 [.pointer (some ⟨ga, 0, none⟩)]] : List HA)) (Y := yj ga x a) hA3 rfl rfl (by decide) (read_probes (fun _ h => ArrAt.of h (fun p hp => zR hp) OK.out.d0) yK (fun _ h => St.cell h (off := 0) (zT (zT (zT (zT (zT zH))))) rfl) (fun _ h => St.cell h (off := 0) (zT (zT (zT (zT zH)))) rfl) (fun _ h => St.cell h (off := 0) (zT (zT (zT zH))) rfl) (fun _ h => St.cell h (off := 0) (zT (zT zH)) rfl) (fun _ h => St.cell h (off := 0) (zT zH) rfl)) (fun hz => absurd (qK hz) H1.out); refine hC.mono ?_; rintro _ w5 hh; obtain ⟨rfl, h4⟩ := ybb H1.out hh; clear hC hh hA3; have hA4 := h4; clear h4)
 refine kD hK ⟨yp [_, _, _, _, _, _] hA4 (rfl), yp [_, _, _, _, _, _, _] hA4 (rfl)⟩ (h:=fun hHeld => ?_); refine jt 15 (h:=?_); refine jn ?_; clear hHeld; obtain ⟨E, hE⟩ : ∃ E, E = yt (qe a dev pl) := ⟨_, rfl⟩; have HQ := ya hE; rw [← hE] at HE H1; rw [← hE]; clear hE; go_wp2_with (first | (go_at_call 47; refine jc hA4 (jA E dev HE.out H1.out _) fun w6 hst6 => ?_; clear hA4)); go_ret2; exact ⟨.slice none 0 0, (by rw [HQ]; rfl), qo yP _ 1 (St.sub hst6 zA)⟩
theorem read_failP (k p : Nat) (h1 : yt (qe a (k : Int) (p : Int)) = 0) (h2 : 0 < (a.dv (k : Int)).fail) :
  Calls Tryz.prog 36 #[.pointer (some ⟨ga, 0, none⟩), .int .i64 (k : Int), .int .i64 (p : Int)] w fun e w' => ∃ u, e = .returned (.tuple #[u, .int .i64 (a.readE (k : Int) (p : Int))]) ∧ St w (yT ga x a) w' (.rowP yP u 5 1 (a.readB (k : Int) (p : Int)).length (yb (a.readB (k : Int) (p : Int))) :: yj ga x (a.read (k : Int) (p : Int))) := by
 have _ := hll; have hb := read_ok ok.d0 h1; have hin : a.inD (k : Int) = true := yG hb.1; have hfm := ok.fm _ (List.mem_of_getElem? (zI hin)); have HPS : Hid (∀ (M : List Nat) (L1 : List HA) (g3 g4 : Nat), HA.blk g3 23 [.pointer (some ⟨ga, 0, none⟩)] ∈ L1 → HA.blk g4 3 [.int .i64 (k : Int)] ∈ L1 →
   jq (yh 90 [yc g3, yc g4]) 13 (fun w' => St w M w' (L1 ++ yj ga x a)) (fun w' => St w M w' (L1 ++ yj ga x (a.failed (k : Int))))) := ya (by
  intro M L1 g3 g4 c0 c1; have := probe_read (w0 := w) (M := M) (L1 := L1) (ga := ga) (x := x) hin ⟨hfm.2.2.2.1, hfm.2.2.2.2⟩ c0 c1; unfold AR.failE at this; rw [if_pos h2] at this; exact this)
 have hee : a.failE (k : Int) = 13 := by unfold AR.failE; rw [if_pos h2]
 have hbb : a.readB (k : Int) (p : Int) = [] := by unfold AR.readB; rw [hb.2.1, hee]; rfl
 rw [hbb, hb.2.1, hb.2.2, hee]; have HS := ya hb.1; have H1 := ya h1; have OK := ya ok; have hst0 := hS; have hmf := rmf; clear hb hin hfm hee hbb h1 h2 ok hS; obtain ⟨a9, ha9⟩ : ∃ a9, a9 = a.failed (k : Int) := ⟨_, rfl⟩; rw [← ha9] at HPS ⊢; clear ha9; go_enter Tryz.func36, Tryz.ntmps36; go_wp2_with (first | (refine zbo hst0 fun g3 w1 hst1 => ?_; clear hst0) | (refine zbo hst1 fun g4 w2 hst2 => ?_; clear hst1)); have hX := hst2.drew; clear hst2; refine wD (S := fun w' => Ld 3 g4 0 (.int .i64 (k : Int)) w' ∧ Ld 23 g3 0 (.pointer (some ⟨ga, 0, none⟩)) w') ⟨yp [] hX (rfl), yp [_] hX (rfl)⟩ fun hHeld => ?_; refine jt 0 (h:=jt 1 (h:=jt 3 (h:=jt 5 (h:=jt 6 (h:=jt 7 (h:=jt 9 (h:=jt 10 (h:=jt 12 (h:=jt 2 (h:=jt 4 (h:=?_))))))))))); refine yF 8 (h0:=fun K hK => ?_); go_simp; go_at_call 87; refine (jy ga (k : Int) (p : Int) _).mono ?_; rintro _ w3 ⟨g0, g1, g2, rfl, h4⟩; have hA1 := St.call hX h4; clear h4; refine kD hK ⟨yp [_, _, _] hA1 (rfl), yp [_, _, _, _] hA1 (rfl)⟩ (h:=fun hHeld => ?_); refine yF 11 (h0:=fun K hK => ?_); go_simp; go_at_call 89; refine (zW ga (k : Int) _).mono ?_; rintro _ w4 ⟨k0, k1, rfl, h4⟩; have hA2 := St.call hA1 h4; clear h4; refine kD hK ⟨yp [_, _, _, _, _] hA2 (rfl), yp [_, _, _, _, _, _] hA2 (rfl)⟩ (h:=fun hHeld => ?_); refine rW 13 (h:=fun K hK => ?_); refine za ([yi 46 (yc ga), yi 88 (yc ga), yh 138 [yc g0, yc g1, yc g2], yh 139 [yc k0, yc k1], yh 90 [yc g3, yc g4]]) ([yi 46 (yc ga), yi 88 (yc ga), yh 138 [yc g0, yc g1, yc g2], yh 139 [yc k0, yc k1], yh 90 [yc g3, yc g4]]) hA2 (h:=fun gs w5 hA3 => ?_); refine kQ hK ⟨yp [_, _, _, _, _, _] hA3 (rfl), yp [_, _, _, _, _, _, _] hA3 (rfl)⟩ (h:=fun hHeld => ?_); refine yF 14 (h0:=fun K hK => ?_); go_simp
 (go_at_call 45; have hC := z6 (k : Int) (n := 5) (fs := [yi 46 (yc ga), yi 88 (yc ga), yh 138 [yc g0, yc g1, yc g2], yh 139 [yc k0, yc k1]]) (f9 := yh 90 [yc g3, yc g4]) (es := qe a (k : Int) (p : Int)) (e9 := 13) (L := ([.blk k1 3 [.int .i64 (k : Int)], .blk k0 23 [.pointer (some ⟨ga, 0, none⟩)], .blk g2 3 [.int .i64 (p : Int)], .blk g1 3 [.int .i64 (k : Int)], .blk g0 23 [.pointer (some ⟨ga, 0, none⟩)], .blk g4 3 [.int .i64 (k : Int)], .blk g3 23 [.pointer (some ⟨ga, 0, none⟩)]] : List HA)) (Y := yj ga x a9) hA3 rfl rfl (by decide) (read_probes (fun _ h => ArrAt.of h (fun p hp => zR hp) OK.out.d0) yK (fun _ h => St.cell h (off := 0) (zT (zT (zT (zT (zT zH))))) rfl) (fun _ h => St.cell h (off := 0) (zT (zT (zT (zT zH)))) rfl) (fun _ h => St.cell h (off := 0) (zT (zT (zT zH))) rfl) (fun _ h => St.cell h (off := 0) (zT (zT zH)) rfl) (fun _ h => St.cell h (off := 0) (zT zH) rfl)) (fun _ => HPS.out _ ([HA.blk gs 92 ([yi 46 (yc ga), yi 88 (yc ga), yh 138 [yc g0, yc g1, yc g2], yh 139 [yc k0, yc k1], yh 90 [yc g3, yc g4]]), .blk k1 3 [.int .i64 (k : Int)], .blk k0 23 [.pointer (some ⟨ga, 0, none⟩)], .blk g2 3 [.int .i64 (p : Int)], .blk g1 3 [.int .i64 (k : Int)], .blk g0 23 [.pointer (some ⟨ga, 0, none⟩)], .blk g4 3 [.int .i64 (k : Int)], .blk g3 23 [.pointer (some ⟨ga, 0, none⟩)]] : List HA) _ _ (zT (zT (zT (zT (zT (zT (zT zH))))))) (zT (zT (zT (zT (zT (zT zH))))))); refine hC.mono ?_; rintro _ w5 hh; obtain ⟨rfl, h4⟩ := qL H1.out (by decide) hh; clear hC hh hA3; have hA4 := h4; clear h4)
 refine kD hK ⟨yp [_, _, _, _, _, _] hA4 (rfl), yp [_, _, _, _, _, _, _] hA4 (rfl)⟩ (h:=fun hHeld => ?_); refine jt 15 (h:=?_); refine jn ?_; clear hHeld; go_wp2_with (first | (go_at_call 47; refine jc hA4 (jA 13 (k : Int) (by unfold isE; decide) (by decide) _) fun w6 hst6 => ?_; clear hA4)); go_ret2; exact ⟨.slice none 0 0, rfl, qo yP _ 1 (St.sub hst6 zA)⟩
theorem read_fineP (k p : Nat) (h1 : yt (qe a (k : Int) (p : Int)) = 0) (h2 : ¬ 0 < (a.dv (k : Int)).fail) :
  Calls Tryz.prog 36 #[.pointer (some ⟨ga, 0, none⟩), .int .i64 (k : Int), .int .i64 (p : Int)] w fun e w' => ∃ u, e = .returned (.tuple #[u, .int .i64 (a.readE (k : Int) (p : Int))]) ∧ St w (yT ga x a) w' (.rowP yP u 5 1 (a.readB (k : Int) (p : Int)).length (yb (a.readB (k : Int) (p : Int))) :: yj ga x (a.read (k : Int) (p : Int))) := by
 have hb := read_ok ok.d0 h1; have hin : a.inD (k : Int) = true := yG hb.1; have hfm := ok.fm _ (List.mem_of_getElem? (zI hin)); have HPS : Hid (∀ (M : List Nat) (L1 : List HA) (g3 g4 : Nat), HA.blk g3 23 [.pointer (some ⟨ga, 0, none⟩)] ∈ L1 → HA.blk g4 3 [.int .i64 (k : Int)] ∈ L1 →
   jq (yh 90 [yc g3, yc g4]) 0 (fun w' => St w M w' (L1 ++ yj ga x a)) (fun w' => St w M w' (L1 ++ yj ga x (a.failed (k : Int))))) := ya (by
  intro M L1 g3 g4 c0 c1; have := probe_read (w0 := w) (M := M) (L1 := L1) (ga := ga) (x := x) hin ⟨hfm.2.2.2.1, hfm.2.2.2.2⟩ c0 c1; unfold AR.failE at this; rw [if_neg h2] at this; exact this)
 have hee : a.failE (k : Int) = 0 := by unfold AR.failE; rw [if_neg h2]
 have hbb : a.readB (k : Int) (p : Int) = a.tells (k : Int) (p : Int) := by unfold AR.readB; rw [hb.2.1, hee]; rfl
 rw [hbb, hb.2.1, hb.2.2, hee]; have HS := ya hb.1; have H1 := ya h1; have OK := ya ok; have hst0 := hS; have hmf := rmf; have hfd : a.failed (k : Int) = a := by unfold AR.failed; rw [if_neg h2]
 rw [hfd] at HPS ⊢; have hT := qU ok hb.1 a.loose.length; rw [List.take_length] at hT; have HT := ya (show (a.tells (k : Int) (p : Int)).length = 256 from hT); obtain ⟨R, hR⟩ : ∃ R, R = a.tells (k : Int) (p : Int) := ⟨_, rfl⟩; have HR := ya hR; rw [← hR] at HT ⊢; clear hT hR hfd; clear hb hin hfm hee hbb h1 h2 ok hS; go_enter Tryz.func36, Tryz.ntmps36; go_wp2_with (first | (refine zbo hst0 fun g3 w1 hst1 => ?_; clear hst0) | (refine zbo hst1 fun g4 w2 hst2 => ?_; clear hst1)); have hX := hst2.drew; clear hst2; refine wD (S := fun w' => Ld 3 g4 0 (.int .i64 (k : Int)) w' ∧ Ld 23 g3 0 (.pointer (some ⟨ga, 0, none⟩)) w') ⟨yp [] hX (rfl), yp [_] hX (rfl)⟩ fun hHeld => ?_; refine jt 0 (h:=jt 1 (h:=jt 3 (h:=jt 5 (h:=jt 6 (h:=jt 7 (h:=jt 9 (h:=jt 10 (h:=jt 12 (h:=jt 2 (h:=jt 4 (h:=?_))))))))))); refine yF 8 (h0:=fun K hK => ?_); go_simp; go_at_call 87; refine (jy ga (k : Int) (p : Int) _).mono ?_; rintro _ w3 ⟨g0, g1, g2, rfl, h4⟩; have hA1 := St.call hX h4; clear h4; refine kD hK ⟨yp [_, _, _] hA1 (rfl), yp [_, _, _, _] hA1 (rfl)⟩ (h:=fun hHeld => ?_); refine yF 11 (h0:=fun K hK => ?_); go_simp; go_at_call 89; refine (zW ga (k : Int) _).mono ?_; rintro _ w4 ⟨k0, k1, rfl, h4⟩; have hA2 := St.call hA1 h4; clear h4; refine kD hK ⟨yp [_, _, _, _, _] hA2 (rfl), yp [_, _, _, _, _, _] hA2 (rfl)⟩ (h:=fun hHeld => ?_); refine rW 13 (h:=fun K hK => ?_); refine za ([yi 46 (yc ga), yi 88 (yc ga), yh 138 [yc g0, yc g1, yc g2], yh 139 [yc k0, yc k1], yh 90 [yc g3, yc g4]]) ([yi 46 (yc ga), yi 88 (yc ga), yh 138 [yc g0, yc g1, yc g2], yh 139 [yc k0, yc k1], yh 90 [yc g3, yc g4]]) hA2 (h:=fun gs w5 hA3 => ?_); refine kQ hK ⟨yp [_, _, _, _, _, _] hA3 (rfl), yp [_, _, _, _, _, _, _] hA3 (rfl)⟩ (h:=fun hHeld => ?_); refine yF 14 (h0:=fun K hK => ?_); go_simp
 (go_at_call 45; have hC := z6 (k : Int) (n := 5) (fs := [yi 46 (yc ga), yi 88 (yc ga), yh 138 [yc g0, yc g1, yc g2], yh 139 [yc k0, yc k1]]) (f9 := yh 90 [yc g3, yc g4]) (es := qe a (k : Int) (p : Int)) (e9 := 0) (L := ([.blk k1 3 [.int .i64 (k : Int)], .blk k0 23 [.pointer (some ⟨ga, 0, none⟩)], .blk g2 3 [.int .i64 (p : Int)], .blk g1 3 [.int .i64 (k : Int)], .blk g0 23 [.pointer (some ⟨ga, 0, none⟩)], .blk g4 3 [.int .i64 (k : Int)], .blk g3 23 [.pointer (some ⟨ga, 0, none⟩)]] : List HA)) (Y := yj ga x a) hA3 rfl rfl (by decide) (read_probes (fun _ h => ArrAt.of h (fun p hp => zR hp) OK.out.d0) yK (fun _ h => St.cell h (off := 0) (zT (zT (zT (zT (zT zH))))) rfl) (fun _ h => St.cell h (off := 0) (zT (zT (zT (zT zH)))) rfl) (fun _ h => St.cell h (off := 0) (zT (zT (zT zH))) rfl) (fun _ h => St.cell h (off := 0) (zT (zT zH)) rfl) (fun _ h => St.cell h (off := 0) (zT zH) rfl)) (fun _ => HPS.out _ ([HA.blk gs 92 ([yi 46 (yc ga), yi 88 (yc ga), yh 138 [yc g0, yc g1, yc g2], yh 139 [yc k0, yc k1], yh 90 [yc g3, yc g4]]), .blk k1 3 [.int .i64 (k : Int)], .blk k0 23 [.pointer (some ⟨ga, 0, none⟩)], .blk g2 3 [.int .i64 (p : Int)], .blk g1 3 [.int .i64 (k : Int)], .blk g0 23 [.pointer (some ⟨ga, 0, none⟩)], .blk g4 3 [.int .i64 (k : Int)], .blk g3 23 [.pointer (some ⟨ga, 0, none⟩)]] : List HA) _ _ (zT (zT (zT (zT (zT (zT (zT zH))))))) (zT (zT (zT (zT (zT (zT zH))))))); refine hC.mono ?_; rintro _ w5 hh; obtain ⟨rfl, h4⟩ := jI H1.out hh; clear hC hh hA3; have hA4 := h4; clear h4)
 refine kD hK ⟨yp [_, _, _, _, _, _] hA4 (rfl), yp [_, _, _, _, _, _, _] hA4 (rfl)⟩ (h:=fun hHeld => ?_); refine jt 15 (h:=?_); refine jn ?_; clear hHeld; go_wp2_with (first | (refine jl (Loads.at [_, _, _, _, _, _] hA4 rfl) ?_) | (refine jl (Loads.at [_, _, _, _, _, _, _] hA4 rfl) ?_) | (go_at_call 50; refine (tells_anyP (ArrAll.of hA4 (fun p hp => zR hp) OK.out.d0) OK.out hll k p HS.out).mono ?_; rw [← HR]; rintro _ w8 ⟨u, rfl, h4⟩; have hst6 := St.call hA4 h4; clear h4 hA4)); go_ret2; refine ⟨u, rfl, ?_⟩; rw [HT]; exact St.sub hst6 (.cons_cons _ zA)
end
end
theorem qi {w : World} {ga : Nat} {x : GA} {a : AR} (hS : St w (yT ga x a) w (yj ga x a)) (ok : a.Ok) (hll : a.loose.length < 1000000) (dev pl : Int) :
  Calls Tryz.prog 36 #[.pointer (some ⟨ga, 0, none⟩), .int .i64 dev, .int .i64 pl] w fun e w' => ∃ u, e = .returned (.tuple #[u, .int .i64 (a.readE dev pl)]) ∧ St w (yT ga x a) w' (.rowP yP u 5 1 (a.readB dev pl).length (yb (a.readB dev pl)) :: yj ga x (a.read dev pl)) := by
 by_cases h1 : yt (qe a dev pl) = 0
 ·have hb := read_ok ok.d0 h1; obtain ⟨k, rfl⟩ : ∃ k : Nat, dev = k := ⟨dev.toNat, by have := (yQ (yG hb.1)).1; omega⟩; obtain ⟨p, rfl⟩ : ∃ p : Nat, pl = p := ⟨pl.toNat, by have := (jE hb.1).1; omega⟩; by_cases h2 : 0 < (a.dv (k : Int)).fail
  ·exact read_failP hS ok hll k p h1 h2
  ·exact read_fineP hS ok hll k p h1 h2
 ·exact read_badP hS ok hll dev pl h1
end
section
open Hp
abbrev Wd := BitVec 32
def jd (x : Wd) (n : Nat) : Wd := x >>> n ||| x <<< (32 - n)
def kT : List Wd := [0x428a2f98, 0x71374491, 0xb5c0fbcf, 0xe9b5dba5, 0x3956c25b, 0x59f111f1, 0x923f82a4, 0xab1c5ed5,
 0xd807aa98, 0x12835b01, 0x243185be, 0x550c7dc3, 0x72be5d74, 0x80deb1fe, 0x9bdc06a7, 0xc19bf174,
 0xe49b69c1, 0xefbe4786, 0x0fc19dc6, 0x240ca1cc, 0x2de92c6f, 0x4a7484aa, 0x5cb0a9dc, 0x76f988da,
 0x983e5152, 0xa831c66d, 0xb00327c8, 0xbf597fc7, 0xc6e00bf3, 0xd5a79147, 0x06ca6351, 0x14292967,
 0x27b70a85, 0x2e1b2138, 0x4d2c6dfc, 0x53380d13, 0x650a7354, 0x766a0abb, 0x81c2c92e, 0x92722c85,
 0xa2bfe8a1, 0xa81a664b, 0xc24b8b70, 0xc76c51a3, 0xd192e819, 0xd6990624, 0xf40e3585, 0x106aa070,
 0x19a4c116, 0x1e376c08, 0x2748774c, 0x34b0bcb5, 0x391c0cb3, 0x4ed8aa4a, 0x5b9cca4f, 0x682e6ff3,
 0x748f82ee, 0x78a5636f, 0x84c87814, 0x8cc70208, 0x90befffa, 0xa4506ceb, 0xbef9a3f7, 0xc67178f2]
structure S8 where
 (a b c d e f g h : Wd)
deriving DecidableEq
def S8.list (s : S8) : List Wd := [s.a, s.b, s.c, s.d, s.e, s.f, s.g, s.h]
def S8.start : S8 := ⟨0x6a09e667, 0xbb67ae85, 0x3c6ef372, 0xa54ff53a, 0x510e527f, 0x9b05688c, 0x1f83d9ab, 0x5be0cd19⟩
def sg0 (x : Wd) : Wd := jd x 7 ^^^ jd x 18 ^^^ x >>> 3
def sg1 (y : Wd) : Wd := jd y 17 ^^^ jd y 19 ^^^ y >>> 10
def byW (p : List UInt8) (i : Nat) : Wd := BitVec.ofNat 32 (p.getD i 0).toNat
def word4 (p : List UInt8) (i : Nat) : Wd := byW p (4 * i) <<< 24 ||| byW p (4 * i + 1) <<< 16 ||| byW p (4 * i + 2) <<< 8 ||| byW p (4 * i + 3)
def nextW (p : List UInt8) (l : List Wd) : Wd :=
 if l.length < 16 then word4 p l.length
 else l.getD (l.length - 16) 0 + sg0 (l.getD (l.length - 15) 0) + l.getD (l.length - 7) 0 + sg1 (l.getD (l.length - 2) 0)
def wds (p : List UInt8) : Nat → List Wd
 | 0 => []
 | k + 1 => wds p k ++ [nextW p (wds p k)]
def zK (p : List UInt8) (i : Nat) : Wd := nextW p (wds p i)
def S8.rnd (s : S8) (k w : Wd) : S8 :=
 let t := s.h + (jd s.e 6 ^^^ jd s.e 11 ^^^ jd s.e 25) + (s.e &&& s.f ^^^ ~~~s.e &&& s.g) + k + w
 let u := (jd s.a 2 ^^^ jd s.a 13 ^^^ jd s.a 22) + (s.a &&& s.b ^^^ s.a &&& s.c ^^^ s.b &&& s.c)
 ⟨t + u, s.a, s.b, s.c, s.d + t, s.e, s.f, s.g⟩
def rnds (s : S8) (p : List UInt8) : Nat → S8
 | 0 => s
 | i + 1 => (rnds s p i).rnd (kT.getD i 0) (zK p i)
def S8.add (s r : S8) : S8 := ⟨s.a + r.a, s.b + r.b, s.c + r.c, s.d + r.d, s.e + r.e, s.f + r.f, s.g + r.g, s.h + r.h⟩
def S8.turn (s : S8) (p : List UInt8) : S8 := (rnds s p 64).add s
def zn (n : Nat) : Nat := (119 - n % 64) % 64
def qP (b : List UInt8) : List UInt8 := b ++ 128 :: (List.replicate (zn b.length) 0 ++ qG (8 * b.length) 8)
def qO (l : List UInt8) (k : Nat) : List UInt8 := (l.drop (64 * k)).take 64
def pieces (b : List UInt8) : List (List UInt8) := (List.range ((qP b).length / 64)).map (qO (qP b))
def sumS (b : List UInt8) : S8 := (pieces b).foldl S8.turn S8.start
def wBytes (x : Wd) : List UInt8 := [24, 16, 8, 0].map fun s => UInt8.ofNat (x >>> s).toNat
def S8.bytes (s : S8) : List UInt8 := s.list.flatMap wBytes
def z8 (b : List UInt8) : List UInt8 := (sumS b).bytes
theorem jL (p : List UInt8) (k : Nat) : (wds p k).length = k := by
 induction k with
 | zero => rfl
 | succ k ih => simp [wds, ih]
theorem wds_get (p : List UInt8) {k j : Nat} (h : j < k) : (wds p k).getD j 0 = zK p j := by
 induction k with
 | zero => omega
 | succ k ih =>
  rw [wds]; by_cases e : j = k
  ·subst e; simp [List.getD, jL, zK]
  ·rw [← ih (by omega)]; simp only [List.getD]; rw [List.getElem?_append_left (by rw [jL]; omega)]
theorem wdAt_lo (p : List UInt8) {i : Nat} (h : i < 16) : zK p i = word4 p i := by
 unfold zK nextW; rw [jL, if_pos h]
theorem wdAt_hi (p : List UInt8) {i : Nat} (h : 16 ≤ i) : zK p i = zK p (i - 16) + sg0 (zK p (i - 15)) + zK p (i - 7) + sg1 (zK p (i - 2)) := by
 have h0 : zK p i = nextW p (wds p i) := rfl; rw [h0, nextW, jL, if_neg (by omega), wds_get p (by omega), wds_get p (by omega), wds_get p (by omega), wds_get p (by omega)]
theorem noughts_mod (n : Nat) : (n + 1 + zn n) % 64 = 56 := by unfold zn; omega
theorem ybE (b : List UInt8) : (qP b).length = b.length + 9 + zn b.length := by
 unfold qP; simp [length_numB]; omega
theorem filled_mod (b : List UInt8) : (qP b).length % 64 = 0 := by
 have := noughts_mod b.length; rw [ybE]; omega
def wI (x : Wd) : Int := (x.toNat : Int)
def yf (l : List Wd) : List Value := l.map fun x => .int .u32 (wI x)
end
section
open Go.RowKit Hp
structure ER where
 rd : Int
 sm : Int
 he : Int
def fRd (e : ER) : ER := { e with rd := e.rd + 1 }
def fSm (e : ER) : ER := { e with sm := e.sm + 1 }
def fHe (e : ER) : ER := { e with he := e.he + 1 }
structure MV where
 a : AR
 e : List ER
def MV.er (m : MV) (dev : Int) : ER := m.e.getD dev.toNat ⟨0, 0, 0⟩
def MV.kind (m : MV) (dev pl : Int) (S : List UInt8) : Int :=
 if m.a.readE dev pl = 10 then 3 else if m.a.readE dev pl ≠ 0 then 2 else if z8 (m.a.readB dev pl) = S then 0 else 1
def MV.lookB (m : MV) (dev pl : Int) (S : List UInt8) : List UInt8 := if m.kind dev pl S = 0 then m.a.readB dev pl else []
def MV.looked (m : MV) (dev pl : Int) (S : List UInt8) : MV :=
 ⟨m.a.read dev pl, if m.a.readE dev pl = 13 then m.e.modify dev.toNat fRd else if m.kind dev pl S = 1 then m.e.modify dev.toNat fSm else m.e⟩
def MV.healed (m : MV) (dev pl : Int) (b : List UInt8) : MV := ⟨m.a.write dev pl b, if m.a.writeE dev pl b = 0 then m.e.modify dev.toNat fHe else m.e⟩
def MV.heals (m : MV) (l : List (Int × Int)) (b : List UInt8) : MV := l.foldl (fun m x => m.healed x.1 x.2 b) m
structure FR where
 er : Int
 b : List UInt8
 ill : List (Int × Int)
 m : MV
def yB (S : List UInt8) (but : Int) : MV → List (Int × Int) → List (Int × Int) → FR
 | m, [], ill => ⟨if ill = [] then 13 else 12, [], [], m⟩
 | m, x :: l, ill =>
  if x.1 = but then yB S but m l ill
  else if m.kind x.1 x.2 S = 0 then ⟨0, m.lookB x.1 x.2 S, ill, m.looked x.1 x.2 S⟩
  else if m.kind x.1 x.2 S = 1 then yB S but (m.looked x.1 x.2 S) l (ill ++ [x])
  else if m.kind x.1 x.2 S = 3 then ⟨10, [], [], m.looked x.1 x.2 S⟩
  else yB S but (m.looked x.1 x.2 S) l ill
def MV.lies (m : MV) (l : List (Int × Int)) : Bool := l.all fun x => m.a.inS x.1 x.2 && decide (5 ≤ x.2)
def MV.askE (m : MV) (p : PV) : Int := if (p.ok && !p.hole) && m.lies p.l then 0 else 2
structure GR where
 er : Int
 b : List UInt8
 m : MV
def MV.get (m : MV) (p : PV) : GR :=
 if m.askE p ≠ 0 then ⟨m.askE p, [], m⟩
 else if (yB p.S (-1) m p.l []).er ≠ 0 then ⟨(yB p.S (-1) m p.l []).er, [], (yB p.S (-1) m p.l []).m⟩
 else ⟨0, (yB p.S (-1) m p.l []).b, (yB p.S (-1) m p.l []).m.heals (yB p.S (-1) m p.l []).ill (yB p.S (-1) m p.l []).b⟩
structure CR where
 good : Nat
 lost : Nat
 ill : List (Int × Int)
 b : List UInt8
 m : MV
 out : Bool
def CR.next (S : List UInt8) (c : CR) (x : Int × Int) : CR :=
 if c.out then c
 else if c.m.kind x.1 x.2 S = 0 then { c with good := c.good + 1, b := if c.good = 0 then c.m.lookB x.1 x.2 S else c.b, m := c.m.looked x.1 x.2 S }
 else if c.m.kind x.1 x.2 S = 1 then { c with ill := c.ill ++ [x], m := c.m.looked x.1 x.2 S }
 else if c.m.kind x.1 x.2 S = 2 then { c with lost := c.lost + 1, m := c.m.looked x.1 x.2 S }
 else { c with m := c.m.looked x.1 x.2 S, out := true }
structure HR where
 he : Nat
 bad : Nat
 m : MV
def HR.next (any : Bool) (b : List UInt8) (h : HR) (x : Int × Int) : HR :=
 if any && (h.m.a.writeE x.1 x.2 b == 0) then ⟨h.he + 1, h.bad, h.m.healed x.1 x.2 b⟩ else ⟨h.he, h.bad + 1, if any then h.m.healed x.1 x.2 b else h.m⟩
structure SR where
 er : Int
 good : Nat
 he : Nat
 bad : Nat
 lost : Nat
 m : MV
def MV.look (m : MV) (p : PV) : CR := p.l.foldl (CR.next p.S) ⟨0, 0, [], [], m, false⟩
def CR.mend (c : CR) : HR := c.ill.foldl (HR.next (decide (0 < c.good)) c.b) ⟨0, 0, c.m⟩
def MV.scan (m : MV) (p : PV) : SR :=
 if m.askE p ≠ 0 then ⟨m.askE p, 0, 0, 0, 0, m⟩
 else if (m.look p).out then ⟨10, 0, 0, 0, 0, (m.look p).m⟩
 else ⟨0, (m.look p).good, (m.look p).mend.he, (m.look p).mend.bad, (m.look p).lost, (m.look p).mend.m⟩
def yL (dev : Int) (l : List (Int × Int)) : Int := l.foldl (fun at' x => if x.1 = dev then x.2 else at') (-1)
structure OR where
 er : Int
 m : MV
def MV.restore (m : MV) (p : PV) (dev : Int) : OR :=
 if m.askE p ≠ 0 then ⟨m.askE p, m⟩
 else if yL dev p.l < 0 then ⟨6, m⟩
 else if m.a.up dev = false then ⟨14, m⟩
 else if (yB p.S dev m p.l []).er ≠ 0 then ⟨(yB p.S dev m p.l []).er, (yB p.S dev m p.l []).m⟩
 else ⟨(yB p.S dev m p.l []).m.a.writeE dev (yL dev p.l) (yB p.S dev m p.l []).b, { (yB p.S dev m p.l []).m with a := (yB p.S dev m p.l []).m.a.write dev (yL dev p.l) (yB p.S dev m p.l []).b }⟩
structure NR where
 er : Int
 n : Nat
 a : AR
def jD (n : Nat) (a : AR) : NR := if n = 0 then ⟨13, 0, a⟩ else ⟨0, n, a⟩
def zU (b : List UInt8) : AR → Nat → List (Int × Int) → NR
 | a, n, [] => jD n a
 | a, n, x :: l =>
  if a.writeE x.1 x.2 b = 0 then zU b (a.write x.1 x.2 b) (n + 1) l
  else if a.writeE x.1 x.2 b = 10 then ⟨10, 0, a.write x.1 x.2 b⟩
  else zU b (a.write x.1 x.2 b) n l
def qQ : List (Int × Int) → Bool
 | [] => true
 | x :: l => l.all (fun y => y.1 != x.1) && qQ l
def MV.putOk (m : MV) (l : List (Int × Int)) (b : List UInt8) : Bool := (decide (b.length = 256) && decide (1 ≤ l.length ∧ l.length ≤ 3)) && (m.lies l && qQ l)
def MV.put (m : MV) (l : List (Int × Int)) (b : List UInt8) : NR := if m.putOk l b then zU b m.a 0 l else ⟨2, 0, m.a⟩
def zr (d : Nat) : Nat → AR → Nat → NR
 | 0, a, n => jD n a
 | k + 1, a, n =>
  if a.up ((d - (k + 1) : Nat) : Int) = false then zr d k a n
  else if a.flushE ((d - (k + 1) : Nat) : Int) = 0 then zr d k (a.flush ((d - (k + 1) : Nat) : Int)) (n + 1)
  else if a.flushE ((d - (k + 1) : Nat) : Int) = 10 then ⟨10, 0, a.flush ((d - (k + 1) : Nat) : Int)⟩
  else zr d k (a.flush ((d - (k + 1) : Nat) : Int)) n
def MV.flush (m : MV) : NR := if m.a.out then ⟨10, 0, m.a⟩ else zr m.a.devs.length m.a.devs.length m.a 0
def MV.errs (m : MV) (dev : Int) : ER := if m.a.inD dev then m.er dev else ⟨0, 0, 0⟩
structure MGood (m : MV) (N : Nat) : Prop where
 sc : Sc m.a N
 el : m.e.length = 8
 en : ∀ e ∈ m.e, 0 ≤ e.rd ∧ e.rd ≤ N ∧ 0 ≤ e.sm ∧ e.sm ≤ N ∧ 0 ≤ e.he ∧ e.he ≤ N
theorem MGood.mono {m : MV} {N K : Nat} (h : MGood m N) (hk : N ≤ K) : MGood m K :=
 ⟨⟨h.sc.ok, h.sc.sec, ⟨h.sc.st.1, by have := h.sc.st.2; omega⟩, by have := h.sc.ll; omega⟩, h.el, fun e he => by have := h.en e he; omega⟩
theorem MGood.arr {m : MV} {N : Nat} {a : AR} (h : MGood m N) (ok : a.Ok) (hs : Stays m.a a) : MGood { m with a := a } (N + 1) :=
 ⟨h.sc.next ok hs, h.el, fun e he => by have := h.en e he; omega⟩
theorem MGood.up {m : MV} {N : Nat} {a : AR} {f : ER → ER} (h : MGood m N) (ok : a.Ok) (hs : Stays m.a a) (k : Nat) (hf : ∀ e : ER, (f e).rd = e.rd ∧ (f e).sm = e.sm ∧ (f e).he = e.he ∨ (f e).rd = e.rd + 1 ∧ (f e).sm = e.sm ∧ (f e).he = e.he ∨ (f e).rd = e.rd ∧ (f e).sm = e.sm + 1 ∧ (f e).he = e.he ∨ (f e).rd = e.rd ∧ (f e).sm = e.sm ∧ (f e).he = e.he + 1) : MGood ⟨a, m.e.modify k f⟩ (N + 1) := by
 refine ⟨h.sc.next ok hs, by show (m.e.modify k f).length = 8; rw [List.length_modify]; exact h.el, fun e he => ?_⟩; obtain ⟨j, hj⟩ := List.getElem?_of_mem he; have hj' : (m.e.modify k f)[j]? = some e := hj; rw [List.getElem?_modify] at hj'; cases hq : m.e[j]? with
 | none => rw [hq] at hj'; simp at hj'
 | some y =>
  have hy := h.en y (List.mem_of_getElem? hq); rw [hq] at hj'; have hfy := hf y; by_cases hkj : k = j
  ·simp [hkj] at hj'; rw [← hj']; omega
  ·simp [hkj] at hj'; rw [← hj']; omega
theorem MGood.looked {m : MV} {N : Nat} (h : MGood m N) (dev pl : Int) (S : List UInt8) : MGood (m.looked dev pl S) (N + 1) := by
 unfold MV.looked; split
 ·exact h.up (h.sc.ok.read _ _) (Stays.read _ _ _) _ fun e => .inr (.inl ⟨rfl, rfl, rfl⟩)
 ·split
  ·exact h.up (h.sc.ok.read _ _) (Stays.read _ _ _) _ fun e => .inr (.inr (.inl ⟨rfl, rfl, rfl⟩))
  ·exact h.arr (h.sc.ok.read _ _) (Stays.read _ _ _)
theorem MGood.healed {m : MV} {N : Nat} (h : MGood m N) (dev pl : Int) (b : List UInt8) : MGood (m.healed dev pl b) (N + 1) := by
 unfold MV.healed; split
 ·exact h.up (h.sc.ok.write _ _ _) (Stays.write _ _ _ _) _ fun e => .inr (.inr (.inr ⟨rfl, rfl, rfl⟩))
 ·exact h.arr (h.sc.ok.write _ _ _) (Stays.write _ _ _ _)
theorem MGood.heals {b : List UInt8} : ∀ {l : List (Int × Int)} {m : MV} {N : Nat}, MGood m N → MGood (m.heals l b) (N + l.length)
 | [], _, _, h => h
 | x :: l, m, N, h => by
  have := MGood.heals (b := b) (l := l) (h.healed x.1 x.2 b); rw [List.length_cons, show N + (l.length + 1) = N + 1 + l.length by omega]; exact this
end
section
open Hp
instance tyS3 : TyS Tryz.prog 3 := ⟨by kernel_rfl⟩
instance tyS4 : TyS Tryz.prog 4 := ⟨by kernel_rfl⟩
instance tyS5 : TyS Tryz.prog 5 := ⟨by kernel_rfl⟩
instance tyS22 : TyS Tryz.prog 28 := ⟨by kernel_rfl⟩
instance tyI3 : TyI Tryz.prog 3 .i64 := ⟨by kernel_rfl⟩
instance tyI5 : TyI Tryz.prog 5 .u8 := ⟨by kernel_rfl⟩
instance tyStr9 : TyStr Tryz.prog 9 := ⟨by kernel_rfl⟩
instance tySl22 : TySl Tryz.prog 28 5 := ⟨by kernel_rfl⟩
instance tyE5 : TyE Tryz.prog 5 1 1 := ⟨by kernel_rfl⟩
instance tyE3 : TyE Tryz.prog 3 1 8 := ⟨by kernel_rfl⟩
instance tyN3 : TyN Tryz.prog 3 1 := ⟨by kernel_rfl⟩
instance tyN4 : TyN Tryz.prog 4 1 := ⟨by kernel_rfl⟩
instance tyN5 : TyN Tryz.prog 5 1 := ⟨by kernel_rfl⟩
instance tyN22 : TyN Tryz.prog 28 1 := ⟨by kernel_rfl⟩
instance tyS25 : TyS Tryz.prog 30 := ⟨by kernel_rfl⟩
instance tyN25 : TyN Tryz.prog 30 1 := ⟨by kernel_rfl⟩
instance tySl25 : TySl Tryz.prog 30 83 := ⟨by kernel_rfl⟩
instance tyA42 : TyA Tryz.prog 83 2 := ⟨by kernel_rfl⟩
instance tyN42 : TyN Tryz.prog 83 2 := ⟨by kernel_rfl⟩
instance tyE42 : TyE Tryz.prog 83 2 16 := ⟨by kernel_rfl⟩
instance tyZ42 : TyZ Tryz.prog 83 [.int .i64 0, .int .i64 0] := ⟨by kernel_rfl⟩
instance tyZ62 : TyZ Tryz.prog 204 (List.replicate 8 (.bool false)) := ⟨by kernel_rfl⟩
instance tyA27 : TyA Tryz.prog 32 32 := ⟨by kernel_rfl⟩
instance tyA29 : TyA Tryz.prog 34 35 := ⟨by kernel_rfl⟩
instance tyN29 : TyN Tryz.prog 34 35 := ⟨by kernel_rfl⟩
instance tyS30 : TyS Tryz.prog 37 := ⟨by kernel_rfl⟩
instance tyN30 : TyN Tryz.prog 37 1 := ⟨by kernel_rfl⟩
instance tyArr27 : TyArr Tryz.prog 32 32 5 := ⟨by kernel_rfl, by kernel_rfl, by kernel_rfl, by kernel_rfl⟩
instance tyB27 : TyB Tryz.prog 32 (yb nones) := ⟨by kernel_rfl⟩
instance tyZ29 : TyZ Tryz.prog 34 (yd (.slice none 0 0) 0 0 nones) := ⟨by kernel_rfl⟩
instance tyB29 : TyB Tryz.prog 34 (yd (.slice none 0 0) 0 0 nones) := ⟨by kernel_rfl⟩
instance tyP42 : TyP2 Tryz.prog 83 := ⟨by kernel_rfl⟩
@[go_sem ↓] theorem eqlAddr (a b c d : Int) (w : World) : (binOp .eql 83 (.agg #[.int .i64 a, .int .i64 b]) (.agg #[.int .i64 c, .int .i64 d])).run Tryz.prog w = .ok (.bool ((a == c) && (b == d))) w := run_eql_p2 tyP42 a b c d _ _ w
@[go_sem ↓] theorem neqAddr (a b c d : Int) (w : World) : (binOp .neq 83 (.agg #[.int .i64 a, .int .i64 b]) (.agg #[.int .i64 c, .int .i64 d])).run Tryz.prog w = .ok (.bool (!((a == c) && (b == d)))) w := run_neq_p2 tyP42 a b c d _ _ w
@[go_sem ↓] theorem guardAddr (op : BinOp) (x y : Operand) (xs ys : Array Value) (w : World) : (eqGuard op 83 x y (.agg xs) (.agg ys)).run Tryz.prog w = .ok () w := run_guard_p2 tyP42 op x y xs ys w
instance tyZ5 : TyZ Tryz.prog 5 [.int .u8 0] := ⟨by kernel_rfl⟩
end
section
open Go.RowKit
namespace Hp
variable {P : Program} {md : Region.Mode} {ops : Array Oper} {Q : Exit → Act → World → Prop} {S : World → Prop}
end Hp
namespace Hp
variable {P : Program}
def intsV (q : IntKind) (l : List Int) : List Value := l.map (.int q)
class TyArrI (P : Program) (T : TypeId) (n : outParam Nat) (q : outParam IntKind) (e : outParam TypeId) : Prop where
 out : P.underlying T = some (.array n e) ∧ P.underlying e = some (.int q) ∧ (P.info? e).map (·.size) = some 1 ∧ P.eqGuardType P.depth T = false
section
variable {ops : Array Oper} {rest : List Oper} {o : Oper} {a : Act} {w : World} {Q : Exit → Act → World → Prop}
theorem wl_neq_bytes {T T' n e : Nat} {x y : Operand} {l k : List UInt8} (hop : o.op = .binOp .neq T x y T') (hw : Region.wanted o (yielded ops a.tmps) = true) (hx : a.eval x = .agg (yb l).toArray) (hy : a.eval y = .agg (yb k).toArray)
  [h : TyArr P T n e] (hlk : l.length = n ∧ k.length = n) (hh : wpList P ops Q rest (a.put o.dst (.bool (!(l == k)))) w) : wpList P ops Q (o :: rest) a w := by
 refine jW hw ?_ hh; unfold execOp; simp only [hop, hx, hy, Sem.run_bind, run_eqGuard_agg h.out.2.2.2, Result.andThen_ok, run_neq_bytes h l k hlk.1 hlk.2, Sem.run_pure]
end
end Hp
end
section
open Go.RowKit Hp
instance mSp : TyS Tryz.prog 24 := ⟨by kernel_rfl⟩
instance mNp : TyN Tryz.prog 24 1 := ⟨by kernel_rfl⟩
instance mAM : TyA Tryz.prog 97 25 := ⟨by kernel_rfl⟩
instance mNM : TyN Tryz.prog 97 25 := ⟨by kernel_rfl⟩
instance mAC : TyA Tryz.prog 128 2 := ⟨by kernel_rfl⟩
instance mNC : TyN Tryz.prog 128 2 := ⟨by kernel_rfl⟩
instance mZC : TyZ Tryz.prog 128 [.int .i64 0, .slice none 0 0] := ⟨by kernel_rfl⟩
instance mAE : TyA Tryz.prog 71 3 := ⟨by kernel_rfl⟩
instance mNE : TyN Tryz.prog 71 3 := ⟨by kernel_rfl⟩
instance mZE : TyZ Tryz.prog 71 [.int .i64 0, .int .i64 0, .int .i64 0] := ⟨by kernel_rfl⟩
instance mBE : TyB Tryz.prog 71 [.int .i64 0, .int .i64 0, .int .i64 0] := ⟨by kernel_rfl⟩
instance mAS : TyA Tryz.prog 59 4 := ⟨by kernel_rfl⟩
instance mNS : TyN Tryz.prog 59 4 := ⟨by kernel_rfl⟩
instance mZS : TyZ Tryz.prog 59 [.int .i64 0, .int .i64 0, .int .i64 0, .int .i64 0] := ⟨by kernel_rfl⟩
instance mBS : TyB Tryz.prog 59 [.int .i64 0, .int .i64 0, .int .i64 0, .int .i64 0] := ⟨by kernel_rfl⟩
instance mZA : TyZ Tryz.prog 30 [.slice none 0 0] := ⟨by kernel_rfl⟩
instance mZN : TyZ Tryz.prog 37 [.int .i64 0] := ⟨by kernel_rfl⟩
def ER.cells (e : ER) : List Value := [.int .i64 e.rd, .int .i64 e.sm, .int .i64 e.he]
def mirC (ga : Nat) (m : MV) : List Value := .pointer (some ⟨ga, 0, none⟩) :: m.e.flatMap ER.cells
def mB (gm ga : Nat) (m : MV) : HA := .blk gm 97 (mirC ga m)
def mP (gm ga : Nat) (x : GA) (m : MV) : List HA := mB gm ga m :: yj ga x m.a
theorem St.mcell {w0 w : World} {M : List Nat} {R : List HA} {gm ga : Nat} {x : GA} {m : MV} (h : St w0 M w (mP gm ga x m ++ R)) : w.cell? ⟨gm, 0, none⟩ = some (.pointer (some ⟨ga, 0, none⟩)) :=
 h.cell (T := 97) (cs := mirC ga m) zH rfl
theorem St.marr {w0 w : World} {M : List Nat} {R : List HA} {gm ga : Nat} {x : GA} {m : MV} (h : St w0 M w (mP gm ga x m ++ R)) (hn : m.a.devs ≠ []) : ArrAll w ga x m.a := ArrAll.of h (fun p hp => zT (List.mem_append_left _ hp)) hn
structure MirAt (w : World) (gm ga : Nat) (x : GA) (m : MV) : Prop where
 c : w.cell? ⟨gm, 0, none⟩ = some (.pointer (some ⟨ga, 0, none⟩))
 arr : ArrAll w ga x m.a
theorem zw {w0 w : World} {M : List Nat} {R : List HA} {gm ga : Nat} {x : GA} {m : MV} (h : St w0 M w (mP gm ga x m ++ R)) (hn : m.a.devs ≠ []) : MirAt w gm ga x m := ⟨St.mcell h, St.marr h hn⟩
theorem MirAt.later {w0 w : World} {L : List HA} {gm ga : Nat} {x : GA} {m : MV} (hst : St w0 [] w L) (h : MirAt w0 gm ga x m) : MirAt w gm ga x m := ⟨hst.old_cell h.c (by simp), h.arr.later hst⟩
def PM (gm : Nat) : Value := .pointer (some ⟨gm, 0, none⟩)
theorem lies_no {m : MV} {l : List (Int × Int)} {k : Nat} (hk : k < l.length) (h : (m.a.inS (l.getD k (0, 0)).1 (l.getD k (0, 0)).2 && decide (5 ≤ (l.getD k (0, 0)).2)) = false) : m.lies l = false := by
 unfold MV.lies; rw [List.all_eq_false]; refine ⟨l[k], List.getElem_mem hk, ?_⟩; rw [List.getD_eq_getElem?_getD, List.getElem?_eq_getElem hk] at h; simpa using h
theorem lies_yes {m : MV} {l : List (Int × Int)} (h : ∀ q, q < l.length → (m.a.inS (l.getD q (0, 0)).1 (l.getD q (0, 0)).2 && decide (5 ≤ (l.getD q (0, 0)).2)) = true) : m.lies l = true := by
 unfold MV.lies; rw [List.all_eq_true]; intro y hy; obtain ⟨k, hk, rfl⟩ := List.getElem_of_mem hy; have := h k hk; rwa [List.getD_eq_getElem?_getD, List.getElem?_eq_getElem hk] at this
theorem in_parts (a : AR) (x : Int × Int) : (a.inS x.1 x.2 && decide (5 ≤ x.2)) = decide (0 ≤ x.1 ∧ x.1 < (a.devs.length : Int) ∧ 5 ≤ x.2 ∧ x.2 < (a.secs : Int)) := by
 unfold AR.inS AR.inD; rw [Bool.eq_iff_iff]; simp only [Bool.and_eq_true, decide_eq_true_eq]; omega
theorem apart_no {l : List (Int × Int)} {i j : Nat} (hi : i < l.length) (hj : j < i) (h : (l.getD i (0, 0)).1 = (l.getD j (0, 0)).1) : qQ l = false := by
 induction l generalizing i j with
 | nil => simp at hi
 | cons x l ih =>
  unfold qQ; cases i with
  | zero => omega
  | succ i =>
   have hi' : i < l.length := by simpa using hi
   cases j with
   | zero =>
    rw [Bool.and_eq_false_iff]; left; rw [List.all_eq_false]; refine ⟨l[i], List.getElem_mem hi', ?_⟩; simp [List.getD_eq_getElem?_getD, hi'] at h; simp [h]
   | succ j =>
    rw [ih (j := j) hi' (by omega) (by simpa [List.getD_eq_getElem?_getD] using h), Bool.and_false]
theorem apart_yes {l : List (Int × Int)} (h : ∀ i j, i < l.length → j < i → (l.getD i (0, 0)).1 ≠ (l.getD j (0, 0)).1) : qQ l = true := by
 induction l with
 | nil => rfl
 | cons x l ih =>
  unfold qQ; rw [Bool.and_eq_true]; refine ⟨?_, ih fun i j hi hj => ?_⟩
  ·rw [List.all_eq_true]; intro y hy; obtain ⟨k, hk, rfl⟩ := List.getElem_of_mem hy; have := h (k + 1) 0 (by simpa using hk) (by omega); simp [List.getD_eq_getElem?_getD, hk] at this; simpa using this
  ·have := h (i + 1) (j + 1) (by simpa using hi) (by omega); simpa [List.getD_eq_getElem?_getD] using this
end
end Go.Proofs.YtmdfbdfijnmhkaaGreat
