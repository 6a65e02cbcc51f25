import Derived.Test.YtmdfbdfijnmhkaaR23
import Derived.Test.YtmdfbdfijnmhkaaKB
namespace Go.Proofs.Ytmdfbdfijnmhkaa
set_option linter.unusedVariables false
set_option linter.unusedSimpArgs false
open Go.RowKit Hp
attribute [local irreducible] Go.Calls Go.wpList
set_option maxRecDepth 100000
set_option maxHeartbeats 4000000
end Go.Proofs.Ytmdfbdfijnmhkaa
namespace Go.Proofs.Ytmdfbdfijnmhkaa
set_option linter.unusedVariables false
set_option linter.unusedSimpArgs false
open Go.RowKit Hp
set_option maxRecDepth 100000
theorem secs_eq (a : AR) : a.secs = ((a.devs[0]?).map fun d => d.firm.length).getD 0 := by
  unfold AR.secs
  cases a.devs <;> rfl
theorem upd_secs {a : AR} {dev : Int} {f : DV → DV} (hin : a.inD dev = true) (hl : (f (a.dv dev)).firm.length = (a.dv dev).firm.length) : (a.upd dev f).secs = a.secs := by
  have hd := devs_get hin
  rw [secs_eq, secs_eq]
  unfold AR.upd
  rw [modify_get]
  by_cases h0 : dev.toNat = 0
  · rw [if_pos h0, ← h0, hd, Option.map_some, Option.map_some, Option.map_some, hl]
  · rw [if_neg h0]
theorem mem_upd {a : AR} {dev : Int} {f : DV → DV} {d : DV} (hin : a.inD dev = true) (hd : d ∈ (a.upd dev f).devs) : d = f (a.dv dev) ∨ d ∈ a.devs := by
  unfold AR.upd at hd
  obtain ⟨j, hj⟩ := List.getElem?_of_mem hd
  rw [modify_get] at hj
  by_cases h0 : dev.toNat = j
  · subst h0
    rw [if_pos rfl, devs_get hin, Option.map_some] at hj
    exact .inl (Option.some.inj hj).symm
  · rw [if_neg h0] at hj
    exact .inr (List.mem_of_getElem? hj)
def DV.Fine (s : Nat) (d : DV) : Prop := d.firm.length = s ∧ (∀ t ∈ d.firm, t.length = 256) ∧ (d.st = true → 0 ≤ d.to ∧ d.to < s) ∧ 0 ≤ d.fail ∧ d.fail ≤ 9223372036854775807
theorem AR.Ok.dv {a : AR} (ok : a.Ok) {dev : Int} (hin : a.inD dev = true) : (a.dv dev).Fine a.secs := ok.fm _ (List.mem_of_getElem? (devs_get hin))
theorem AR.Ok.upd {a : AR} (ok : a.Ok) {dev : Int} {f : DV → DV} (hin : a.inD dev = true) (hf : (f (a.dv dev)).Fine a.secs) : (a.upd dev f).Ok := by
  have hs : (a.upd dev f).secs = a.secs := upd_secs hin (by rw [hf.1, (ok.dv hin).1])
  have hl : (a.upd dev f).devs.length = a.devs.length := upd_len _ _ _
  refine ⟨?_, by rw [hl]; exact ok.dn, by rw [hs]; exact ok.sn, fun d hd => ?_, ?_, ok.fu⟩
  · intro h
    rw [h] at hl
    exact ok.d0 (List.eq_nil_of_length_eq_zero hl.symm)
  · rw [hs]
    rcases mem_upd hin hd with rfl | h
    · exact hf
    · exact ok.fm d h
  · intro w hw
    rw [hl, hs]
    exact ok.lw w hw
theorem AR.Ok.loose {a : AR} (ok : a.Ok) {l : List LW} (h : ∀ w ∈ l, w.dev < a.devs.length ∧ w.pl < a.secs ∧ w.b.length = 256) : ({ a with loose := l } : AR).Ok := ⟨ok.d0, ok.dn, ok.sn, ok.fm, h, ok.fu⟩
theorem AR.Ok.step {a : AR} (ok : a.Ok) : a.step.Ok := by
  have h := ok.fu
  unfold AR.step
  split
  · exact ⟨ok.d0, ok.dn, ok.sn, ok.fm, ok.lw, ok.fu⟩
  · refine ⟨ok.d0, ok.dn, ok.sn, ok.fm, ok.lw, ?_⟩
    show -1 ≤ (if 0 < a.fuse then a.fuse - 1 else a.fuse) ∧ (if 0 < a.fuse then a.fuse - 1 else a.fuse) ≤ 9223372036854775807
    split <;> omega
theorem AR.Ok.lay {a : AR} (ok : a.Ok) {dev pl : Int} {b : List UInt8} (hs : a.inS dev pl = true) (hb : b.length = 256) : (a.lay dev pl b).Ok := by
  have hin := inS_inD hs
  have hf := ok.dv hin
  have hd := inD_dev hin
  have hp := inS_pl hs
  unfold AR.lay
  split
  · exact ok.upd hin hf
  · split
    · rename_i hst
      have ok2 := ok.upd (f := fun d => { d with st := false }) hin ⟨hf.1, hf.2.1, (fun h => by cases h), hf.2.2.2⟩
      refine ok2.loose fun w hw => ?_
      rcases List.mem_append.1 hw with h | h
      · have := ok2.lw w h
        exact this
      · simp only [List.mem_singleton] at h
        subst h
        have hto := hf.2.2.1 hst
        rw [upd_len, upd_secs hin rfl]
        exact ⟨by show dev.toNat < _; omega, by show ((a.dv dev).to).toNat < _; omega, hb⟩
    · refine ok.loose fun w hw => ?_
      rcases List.mem_append.1 hw with h | h
      · exact ok.lw w h
      · simp only [List.mem_singleton] at h
        subst h
        exact ⟨by show dev.toNat < _; omega, by show pl.toNat < _; omega, hb⟩
theorem AR.Ok.write {a : AR} (ok : a.Ok) (dev pl : Int) (b : List UInt8) : (a.write dev pl b).Ok := by
  unfold AR.write
  split
  · exact ok
  · rename_i h
    split
    · exact ok.step
    · have hs : a.inS dev pl = true := by
        cases hh : a.inS dev pl
        · exact absurd (.inr (.inr (.inl hh))) h
        · rfl
      have hb : b.length = 256 := by
        by_cases hh : b.length = 256
        · exact hh
        · exact absurd (.inr (.inr (.inr (.inl hh)))) h
      refine ok.step.lay ?_ hb
      unfold AR.inS at hs ⊢
      rw [step_inD, step_secs]
      exact hs
theorem AR.Ok.read {a : AR} (ok : a.Ok) (dev pl : Int) : (a.read dev pl).Ok := by
  unfold AR.read
  split
  · rename_i h
    have hs : a.inS dev pl = true ∧ 0 < (a.dv dev).fail := by
      unfold AR.readE at h
      split at h
      · cases h
      · split at h
        · cases h
        · split at h
          · cases h
          · rename_i hh
            split at h
            · cases h
            · split at h
              · rename_i h5
                exact ⟨by simpa using hh, h5⟩
              · cases h
    have hf := ok.dv (inS_inD hs.1)
    exact ok.upd (inS_inD hs.1) ⟨hf.1, hf.2.1, hf.2.2.1, by show 0 ≤ (a.dv dev).fail - 1; omega, by show (a.dv dev).fail - 1 ≤ _; have := hf.2.2.2.2; omega⟩
  · exact ok
theorem AR.Ok.firms {a : AR} (ok : a.Ok) {k : Nat} (hin : a.inD (k : Int) = true) : (a.firms k).Ok := by
  have hf := ok.dv hin
  have ok2 := ok.upd (f := fun d => { d with firm := (a.loose.filter fun w => w.dev == k).foldl setS d.firm }) hin
    ⟨by rw [show ({ (a.dv (k : Int)) with firm := (a.loose.filter fun w => w.dev == k).foldl setS (a.dv (k : Int)).firm } : DV).firm.length = (a.dv (k : Int)).firm.length from foldS_len _ _]; exact hf.1,
      foldS_all hf.2.1 (fun w hw => (ok.lw w (List.mem_filter.1 hw).1).2.2), hf.2.2⟩
  exact ok2.loose fun w hw => ok2.lw w (List.mem_filter.1 hw).1
theorem AR.Ok.flush {a : AR} (ok : a.Ok) (dev : Int) : (a.flush dev).Ok := by
  unfold AR.flush
  split
  · exact ok
  · rename_i h
    split
    · exact ok.step
    · have hs : a.inD dev = true := by
        cases hh : a.inD dev
        · exact absurd (.inr (.inr (.inl hh))) h
        · rfl
      have h0 := inD_dev hs
      refine ok.step.firms ?_
      rw [step_inD, Int.toNat_of_nonneg h0.1]
      exact hs
theorem St.behind {w0 w : World} {M : List Nat} {A R : List HA} {p : HA} (h : St w0 M w (p :: (A ++ R))) : St w0 M w (A ++ p :: R) := St.perm h (List.perm_middle.symm)
theorem St.arr {w0 w : World} {M : List Nat} {R : List HA} {ga : Nat} {x : GA} {a : AR} (h : St w0 M w (arP ga x a ++ R)) : St w (arF ga x a) w (arP ga x a) := (St.sub h (List.sublist_append_left _ _)).selfF
end Go.Proofs.Ytmdfbdfijnmhkaa
namespace Go.Proofs.Ytmdfbdfijnmhkaa
set_option linter.unusedVariables false
set_option linter.unusedSimpArgs false
open Go.RowKit Hp
attribute [local irreducible] Go.Calls Go.wpList
set_option maxRecDepth 100000
set_option maxHeartbeats 4000000
end Go.Proofs.Ytmdfbdfijnmhkaa
namespace Go.Proofs.Ytmdfbdfijnmhkaa
set_option linter.unusedVariables false
set_option linter.unusedSimpArgs false
open Go.RowKit Hp
end Go.Proofs.Ytmdfbdfijnmhkaa
namespace Go.Proofs.Ytmdfbdfijnmhkaa
set_option linter.unusedVariables false
set_option linter.unusedSimpArgs false
open Go.RowKit Hp
attribute [local irreducible] Go.Calls Go.wpList
set_option maxRecDepth 100000
set_option maxHeartbeats 4000000
end Go.Proofs.Ytmdfbdfijnmhkaa
namespace Go.Proofs.Ytmdfbdfijnmhkaa
set_option linter.unusedVariables false
set_option linter.unusedSimpArgs false
open Go.RowKit Hp
attribute [local irreducible] Go.Calls Go.wpList
set_option maxRecDepth 100000
set_option maxHeartbeats 4000000
end Go.Proofs.Ytmdfbdfijnmhkaa
namespace Go.Proofs.Ytmdfbdfijnmhkaa
set_option linter.unusedVariables false
set_option linter.unusedSimpArgs false
open Go.RowKit Hp
attribute [local irreducible] Go.Calls Go.wpList
set_option maxRecDepth 100000
set_option maxHeartbeats 4000000
def AR.rest (a : AR) (k : Nat) : AR := { a with loose := a.loose.filter fun w => w.dev != k }
theorem befallsE_fine {w : World} {M : List Nat} {Lb : List HA} {ga : Nat} {x : GA} {a a' : AR} (hS : St w M w (Lb ++ arP ga x a)) (ok : a.Ok) (dev : Int) (fn : Nat) (cap : List Value) (v : Value) (m : Nat) (ws : List Value) (rs : List Int)
    (hfn : ∀ (a : Array Value) (w : World), (callFunc fn a).run Try.prog w = .ok (.enter fn a) w)
    (hr : ∀ (X : List HA) (w' : World), St w M w' (X ++ (Lb ++ arP ga x a)) → Rd w' v 1 m ws) (hw : ws.length = m) (hrs : rs.length = m) (hm : m ≤ 10) (h1c : ws.all (·.oneCell') = true)
    (hp : ∀ (X : List HA) (j : Nat) (f : Value) (e : Int), ws[j]? = some f → rs[j]? = some e → (∀ i < j, rs.getD i 0 = 0) → Probe f e (fun w' => St w M w' (X ++ (Lb ++ arP ga x a))) (fun w' => St w M w' (X ++ (Lb ++ arP ga x a))))
    (hin : firstE rs = 0 → a.inD dev = true) (hE : ∀ e ∈ rs, e = 0 ∨ isE e)
    (hD : firstE rs = 0 → (a.dv dev).gone = false → ∀ (X : List HA) (w' : World), St w M w' (X ++ (Lb ++ arP ga x a)) → Calls Try.prog fn (List.toArray (.pointer (some ⟨x.gd, dev.toNat * 5, none⟩) :: cap)) w' fun e w'' => e = .returned (.tuple #[]) ∧ ∃ x', St w M w'' (X ++ (Lb ++ arP ga x' a'))) (h1 : firstE rs = 0) (h2 : (a.dv dev).gone = false) :
    Calls Try.prog 29 #[.pointer (some ⟨ga, 0, none⟩), .int .i64 dev, .func (.func fn) #[] (List.toArray cap), v] w fun e w' => e = .returned (.int .i64 (0)) ∧ ∃ X x', St w M w' (X ++ (Lb ++ arP ga x' a')) := by
  have hst0 : St w M w ([] ++ (Lb ++ arP ga x a)) := hS
  have HR := hid hr
  have HW := hid hw
  have HRS := hid hrs
  have HP := hid hp
  have HIN := hid hin
  have HDD := hid hD
  have H1 := hid h1
  have OK := hid ok
  have H1C := hid h1c
  have hmf := rmf
  have hin2 := hin h1
  obtain ⟨k, rfl⟩ : ∃ k : Nat, dev = k := ⟨dev.toNat, by have := (inD_dev hin2).1; omega⟩
  have hlt : k < a.devs.length := by have := (inD_dev hin2).2; omega
  have HI2 := hid hin2
  clear hin2
  have H2 := hid h2
  have HG : Hid (orE (!(a.dv (k : Int)).gone) 14 = 0) := hid (by rw [h2]; rfl)
  clear hr hw hrs hp hin hD h1 ok hE h1c hS h2
  go_enter Try.func29, Try.ntmps29
  go_wp2_with (first | go_big_skip | go_big_guard | (apply wl_bsX ([methV 53 (ptrV ga)]) ([methV 53 (ptrV ga)]) hst0; rfl; rfl; exact rfl; exact rfl; infer_instance; infer_instance; rfl; rfl; rfl; intro g1 w1 hst1; clear hst0; have hst2 : St w M w1 (.row (.slice (some ⟨g1, 0, none⟩) 1 1) 85 1 1 [methV 53 (ptrV ga)] :: (Lb ++ arP ga x a)) := St.toRow (n := 1) (cap := 1) (sz := 1) hst1 rfl (Nat.le_refl _) (by decide); clear hst1) | (apply wl_appX (m := m) (ys := ws) [] hst2; rfl; rfl; exact rfl; exact rfl; infer_instance; infer_instance; infer_instance; exact HR.out [_] _ hst2; exact H1C.out; (refine ⟨by decide, by unfold maxLen; omega, by omega⟩); intro v1 w2 hst3 _; clear hst2) | (go_at_call 55; refine (isHere_any ga (k : Int) _).mono ?_; rintro _ w4 ⟨k0, k1, rfl, h4⟩; have hst4 := St.call hst3 h4; clear h4 hst3) | (apply wl_bsX ([cloV 78 [ptrV k0, ptrV k1]]) ([cloV 78 [ptrV k0, ptrV k1]]) hst4; rfl; rfl; exact rfl; exact rfl; infer_instance; infer_instance; rfl; rfl; rfl; intro gb w5 hst5; clear hst4) | (apply wl_appX (m := 1) (ys := [cloV 78 [ptrV k0, ptrV k1]]) [_, _, _] hst5; rfl; rfl; exact rfl; exact rfl; infer_instance; infer_instance; infer_instance; exact Rd.blk (n := 1) hst5 (.head _) (Nat.le_refl _) (by decide) rfl rfl; rfl; (refine ⟨by decide, by unfold maxLen; omega, by omega⟩); intro v2 w6 hst6 _; clear hst5) | (go_at_call 52; have hC := checks_any (k : Int) (v := v2) (n := 1 + m + 1) (fs := methV 53 (ptrV ga) :: ws) (f9 := cloV 78 [ptrV k0, ptrV k1]) (es := 0 :: rs) (e9 := orE (!(a.dv ((k : Int))).gone) 14) (A := fun w' => St w M w' (([HA.blk gb 85 [cloV 78 [ptrV k0, ptrV k1]], .blk k1 3 [.int .i64 (k : Int)], .blk k0 25 [.pointer (some ⟨ga, 0, none⟩)], .row v2 85 1 (1 + m + 1) (([methV 53 (ptrV ga)] ++ ws) ++ [cloV 78 [ptrV k0, ptrV k1]])] : List HA) ++ (Lb ++ arP ga x a))) (B := fun w' => St w M w' (([HA.blk gb 85 [cloV 78 [ptrV k0, ptrV k1]], .blk k1 3 [.int .i64 (k : Int)], .blk k0 25 [.pointer (some ⟨ga, 0, none⟩)], .row v2 85 1 (1 + m + 1) (([methV 53 (ptrV ga)] ++ ws) ++ [cloV 78 [ptrV k0, ptrV k1]])] : List HA) ++ (Lb ++ arP ga x a))) _ (fun _ h => Rd.row h (.tail _ (.tail _ (.tail _ (.head _))))) (by rw [List.length_cons, List.length_cons, HW.out, HRS.out]) (by rw [List.length_cons, HW.out]; omega) (by omega) (fun j f e hf he hz => (match j, hf, he, hz with | 0, hf, he, _ => (by cases hf; cases he; exact probe_made (fun _ h => ArrAt.of h (fun p hp => List.mem_append_right _ (List.mem_append_right _ hp)) OK.out.d0) keeps_st) | j + 1, hf, he, hz => HP.out _ j f e (by simpa using hf) (by simpa using he) (getD_cons0 hz))) (fun hz => probe_isHere (fun _ h => ArrAt.of h (fun p hp => List.mem_append_right _ (List.mem_append_right _ hp)) OK.out.d0) keeps_st (HIN.out (by rw [← firstE_cons0]; exact firstE_zero hz)) (fun _ h => St.cell h (off := 0) (.tail _ (.tail _ (.head _))) rfl) (fun _ h => St.cell h (off := 0) (.tail _ (.head _)) rfl)) hst6; rw [HG.out] at hC; refine hC.mono ?_; rintro _ w8 hh; obtain ⟨rfl, h4⟩ := checks_fine (by rw [firstE_cons0]; exact H1.out) hh; clear hC hh hst6; have hst7 := h4; clear h4) | (refine wl_loadE rfl rfl rfl ?_; refine ⟨_, Loads.cell (T := 67) TyS.out (St.cell hst7 (off := 0) (g := ga) (T := 70) (cs := arrC x a) (List.mem_append_right _ (List.mem_append_right _ (.head _))) rfl), ?_⟩) | (refine wl_index (k := k) rfl rfl rfl rfl hlt ?_) | ((refine (HDD.out H1.out H2.out _ _ hst7).mono ?_); rintro _ w9 ⟨rfl, x', h4⟩; have hst8 := h4; clear h4 hst7))
  go_ret
  exact ⟨rfl, _, _, hst8⟩
theorem arr_in {w0 w : World} {M : List Nat} {X : List HA} {ga : Nat} {x : GA} {a : AR} (h : St w0 M w (X ++ arP ga x a)) : St w (arF ga x a) w (arP ga x a) := (St.sub h (List.sublist_append_right _ _)).selfF
theorem arr_out {w0 w w' : World} {M : List Nat} {X : List HA} {ga : Nat} {x x' : GA} {a a' : AR} (h : St w0 M w (X ++ arP ga x a)) (h4 : St w (arF ga x a) w' (arP ga x' a')) : St w0 M w' (X ++ arP ga x' a') :=
  St.perm (St.callF (arP ga x a) (St.perm h List.perm_append_comm) h4) List.perm_append_comm
theorem arr_off {w0 w : World} {M : List Nat} {X : List HA} {ga : Nat} {x : GA} {a : AR} (h : St w0 M w (X ++ arP ga x a)) {g : Nat} {T : TypeId} {cs : List Value} (hm : HA.blk g T cs ∈ X) : g ∉ arF ga x a := by
  intro hF
  have hap := h.apart
  unfold Apart at hap
  rw [List.pairwise_append] at hap
  obtain ⟨y, hy, hk⟩ := List.mem_filterMap.1 hF
  exact hap.2.2 _ hm y hy g rfl hk
theorem befallsE_any {w : World} {M : List Nat} {Lb : List HA} {ga : Nat} {x : GA} {a : AR} (hS : St w M w (Lb ++ arP ga x a)) (ok : a.Ok) (dev : Int) (fn : Nat) (cap : List Value) (v : Value) (m : Nat) (ws : List Value) (rs : List Int) (a' : AR)
    (hfn : ∀ (a : Array Value) (w : World), (callFunc fn a).run Try.prog w = .ok (.enter fn a) w)
    (hr : ∀ (X : List HA) (w' : World), St w M w' (X ++ (Lb ++ arP ga x a)) → Rd w' v 1 m ws) (hw : ws.length = m) (hrs : rs.length = m) (hm : m ≤ 10) (h1c : ws.all (·.oneCell') = true)
    (hp : ∀ (X : List HA) (j : Nat) (f : Value) (e : Int), ws[j]? = some f → rs[j]? = some e → (∀ i < j, rs.getD i 0 = 0) → Probe f e (fun w' => St w M w' (X ++ (Lb ++ arP ga x a))) (fun w' => St w M w' (X ++ (Lb ++ arP ga x a))))
    (hin : firstE rs = 0 → a.inD dev = true) (hE : ∀ e ∈ rs, e = 0 ∨ isE e)
    (hD : firstE rs = 0 → (a.dv dev).gone = false → ∀ (w' : World), (∀ (g : Nat) (T : TypeId) (cs : List Value), HA.blk g T cs ∈ Lb → w'.heap[g]? = some (.cells cs.toArray T (0, 0)) ∧ g ∉ arF ga x a) → St w' (arF ga x a) w' (arP ga x a) →
      Calls Try.prog fn (List.toArray (.pointer (some ⟨x.gd, dev.toNat * 5, none⟩) :: cap)) w' fun e w'' => e = .returned (.tuple #[]) ∧ ∃ x', St w' (arF ga x a) w'' (arP ga x' a')) :
    Calls Try.prog 29 #[.pointer (some ⟨ga, 0, none⟩), .int .i64 dev, .func (.func fn) #[] (List.toArray cap), v] w fun e w' => e = .returned (.int .i64 (a.fellE dev rs)) ∧ ∃ X x', St w M w' (X ++ (Lb ++ arP ga x' (if a.fellE dev rs = 0 then a' else a))) := by
  have hD' : firstE rs = 0 → (a.dv dev).gone = false → ∀ (X : List HA) (w' : World), St w M w' (X ++ (Lb ++ arP ga x a)) → Calls Try.prog fn (List.toArray (.pointer (some ⟨x.gd, dev.toNat * 5, none⟩) :: cap)) w' fun e w'' => e = .returned (.tuple #[]) ∧ ∃ x', St w M w'' (X ++ (Lb ++ arP ga x' a')) := by
    intro h1 h2 X w' h
    rw [← List.append_assoc] at h
    refine (hD h1 h2 w' (fun g T cs hm => ⟨h.all (.blk g T cs) (List.mem_append_left _ (List.mem_append_right _ hm)), arr_off h (List.mem_append_right _ hm)⟩) (arr_in h)).mono ?_
    rintro _ w'' ⟨rfl, x', h4⟩
    have h5 := arr_out h h4
    rw [List.append_assoc] at h5
    exact ⟨rfl, x', h5⟩
  have hD0 : firstE rs = 0 → (a.dv dev).gone = true → False → ∀ (X : List HA) (w' : World), True := fun _ _ _ _ _ => trivial
  unfold AR.fellE
  rw [firstE_snoc]
  by_cases h1 : firstE rs = 0
  · rw [if_pos h1]
    cases h2 : (a.dv dev).gone
    · rw [if_pos (by decide)]
      exact befallsE_fine hS ok dev fn cap v m ws rs hfn hr hw hrs hm h1c hp hin hE hD' h1 h2
    · rw [if_neg (by decide)]
      refine (befalls_gone (x' := x) (a' := a) hS ok dev fn cap v m ws rs hfn hr hw hrs hm h1c hp hin hE (fun _ h3 => absurd h3 (by rw [h2]; decide)) h1 h2).mono ?_
      rintro _ w' ⟨rfl, X, h4⟩
      exact ⟨rfl, X, x, h4⟩
  · rw [if_neg h1, if_neg h1]
    refine (befalls_bad (x' := x) (a' := a) hS ok dev fn cap v m ws rs hfn hr hw hrs hm h1c hp hin hE (fun h3 => absurd h3 h1) h1).mono ?_
    rintro _ w' ⟨rfl, X, h4⟩
    exact ⟨rfl, X, x, h4⟩
theorem AR.Ok.rest {a : AR} (ok : a.Ok) (k : Nat) : (a.rest k).Ok := ok.loose fun w hw => ok.lw w (List.mem_filter.1 hw).1
theorem fellE_in {a : AR} {dev : Int} {rs : List Int} {e : Int} (he : e ≠ 0) {b : Bool} (hb : orE b e ∈ rs) (h : a.fellE dev rs = 0) : b = true := by
  unfold AR.fellE at h
  exact orE_zero he (firstE_all h _ (List.mem_append_left _ hb))
end Go.Proofs.Ytmdfbdfijnmhkaa
namespace Go.Proofs.Ytmdfbdfijnmhkaa
set_option linter.unusedVariables false
set_option linter.unusedSimpArgs false
open Go.RowKit Hp
attribute [local irreducible] Go.Calls Go.wpList
set_option maxRecDepth 100000
set_option maxHeartbeats 4000000
section
attribute [local go_sem ↓] loadedPA loadedIn
end
end Go.Proofs.Ytmdfbdfijnmhkaa
namespace Go.Proofs.Ytmdfbdfijnmhkaa
set_option linter.unusedVariables false
set_option linter.unusedSimpArgs false
open Go.RowKit Hp
attribute [local irreducible] Go.Calls Go.wpList
set_option maxRecDepth 100000
set_option maxHeartbeats 4000000
section
attribute [local go_sem ↓] loadedSD
end
end Go.Proofs.Ytmdfbdfijnmhkaa
namespace Go.Proofs.Ytmdfbdfijnmhkaa
set_option linter.unusedVariables false
set_option linter.unusedSimpArgs false
open Go.RowKit Hp
attribute [local irreducible] Go.Calls Go.wpList
set_option maxRecDepth 100000
set_option maxHeartbeats 4000000
def u8I (b : UInt8) : Int := (b.toNat : Int)
theorem ofInt8 (x : UInt8) : BitVec.ofInt 8 (x.toNat : Int) = x.toBitVec := by
  rw [BitVec.ofInt_natCast]
  exact BitVec.ofNat_toNat (n := 8) 8 x.toBitVec ▸ (by rw [BitVec.setWidth_eq])
theorem xor8 (T : TypeId) (x y : UInt8) : binOp .xor T (.int .u8 (u8I x)) (.int .u8 (u8I y)) = pure (.int .u8 (u8I (x ^^^ y))) := by
  show pure (Value.int .u8 (IntKind.u8.wrap ((BitVec.ofInt 8 (x.toNat : Int) ^^^ BitVec.ofInt 8 (y.toNat : Int)).toNat : Int))) = _
  rw [ofInt8, ofInt8]
  have h : (x.toBitVec ^^^ y.toBitVec).toNat = (x ^^^ y).toNat := rfl
  have hl : (x ^^^ y).toNat < 256 := (x ^^^ y).toNat_lt
  rw [h]
  have h9 : IntKind.u8.wrap (((x ^^^ y).toNat : Nat) : Int) = ((x ^^^ y).toNat : Int) := by
    show (((x ^^^ y).toNat : Nat) : Int) % 256 = _
    omega
  rw [h9]
  rfl
theorem xor8r (T : TypeId) (x y : UInt8) (w : World) : (binOp .xor T (.int .u8 (u8I x)) (.int .u8 (u8I y))).run Try.prog w = .ok (.int .u8 (u8I (x ^^^ y))) w := by rw [xor8]; rfl
def fSpoil (p q : Nat) (m : UInt8) : DV → DV := fun d => { d with firm := d.firm.set p ((d.firm.getD p []).set q ((d.firm.getD p []).getD q 0 ^^^ m)) }
def AR.spoilL (a : AR) (dev pl place : Int) : List Int := [orE (a.inS dev pl) 5, orE (decide (0 ≤ place) && decide (place < 256)) 5]
def AR.spoilE (a : AR) (dev pl place : Int) : Int := a.fellE dev (a.spoilL dev pl place)
def AR.spoil (a : AR) (dev pl place : Int) (m : UInt8) : AR := if a.spoilE dev pl place = 0 then a.upd dev (fSpoil pl.toNat place.toNat m) else a
theorem fSpoil_fine {s : Nat} {d : DV} (h : d.Fine s) {p q : Nat} (m : UInt8) (hp : p < s) : (fSpoil p q m d).Fine s := by
  refine ⟨by unfold fSpoil; simp [h.1], fun t ht => ?_, h.2.2.1, h.2.2.2⟩
  unfold fSpoil at ht
  rcases List.mem_or_eq_of_mem_set ht with h1 | rfl
  · exact h.2.1 t h1
  · rw [List.length_set, List.getD_eq_getElem?_getD, List.getElem?_eq_getElem (by rw [h.1]; exact hp)]
    exact h.2.1 _ (List.getElem_mem _)
theorem AR.Ok.spoil {a : AR} (ok : a.Ok) (dev pl place : Int) (m : UInt8) : (a.spoil dev pl place m).Ok := by
  unfold AR.spoil
  split
  · rename_i h
    have hs : a.inS dev pl = true := fellE_in (by decide) (.head _) h
    have hp := inS_pl hs
    exact ok.upd (f := fSpoil pl.toNat place.toNat m) (inS_inD hs) (fSpoil_fine (ok.dv (inS_inD hs)) m (by omega))
  · exact ok
theorem putAt_one (l : List Value) (i : Nat) (v : Value) (hi : i < l.length) : putAt l i [v] = l.set i v := by
  rw [List.set_eq_take_append_cons_drop, if_pos hi]
  rfl
theorem secs_get {l : List (List UInt8)} {p q : Nat} (hl : ∀ s ∈ l, s.length = 256) (hp : p < l.length) (hq : q < 256) : (secsV l)[p * 256 + q]? = some (.int .u8 (u8I ((l.getD p []).getD q 0))) := by
  have h := flat_at (f := bytesV) (sz := 256) (fun d hd => by rw [length_bytesV]; exact hl d hd) (List.getElem?_eq_getElem hp)
  have h1 : ((secsV l).drop (p * 256))[q]? = (bytesV l[p])[q]? := by
    have h2 : (((l.flatMap bytesV).drop (p * 256)).take 256)[q]? = (bytesV l[p])[q]? := by rw [h]
    rw [List.getElem?_take, if_pos hq] at h2
    exact h2
  have hs : l[p].length = 256 := hl _ (List.getElem_mem hp)
  rw [List.getElem?_drop] at h1
  rw [h1, List.getD_eq_getElem?_getD (l := l), List.getElem?_eq_getElem hp]
  show (l[p].map _)[q]? = some (Value.int .u8 (u8I (l[p].getD q 0)))
  rw [List.getElem?_map, List.getD_eq_getElem?_getD, List.getElem?_eq_getElem (by omega)]
  rfl
theorem secs_putq {l : List (List UInt8)} {p q : Nat} (b : UInt8) (hl : ∀ s ∈ l, s.length = 256) (hp : p < l.length) (hq : q < 256) : putAt (secsV l) (p * 256 + q) [.int .u8 (u8I b)] = secsV (l.set p ((l.getD p []).set q b)) := by
  have hlen := secsV_len hl
  have hb : p * 256 + q < (secsV l).length := by
    rw [hlen]
    have : (p + 1) * 256 ≤ l.length * 256 := Nat.mul_le_mul_right _ hp
    omega
  rw [putAt_one _ _ _ hb]
  clear hb hlen
  induction l generalizing p with
  | nil => simp at hp
  | cons s l ih =>
    have hs : (bytesV s).length = 256 := by rw [length_bytesV]; exact hl s (.head _)
    unfold secsV at ih ⊢
    cases p with
    | zero =>
      rw [List.set_cons_zero, List.flatMap_cons, List.flatMap_cons, Nat.zero_mul, Nat.zero_add, List.set_append_left _ _ (by omega)]
      congr 1
      show (s.map _).set q _ = (s.set q b).map _
      rw [List.map_set]
      rfl
    | succ p =>
      have := ih (p := p) (fun s hs => hl s (.tail _ hs)) (by simpa using hp)
      rw [List.set_cons_succ, List.flatMap_cons, List.flatMap_cons, List.getD_cons_succ, ← this, show (p + 1) * 256 + q = 256 + (p * 256 + q) by omega, List.set_append_right _ _ (by omega), hs, show 256 + (p * 256 + q) - 256 = p * 256 + q by omega]
section
theorem loadedU8 (A : Addr) : loadVar 5 A = loadVarH 5 A := rfl
attribute [local go_sem ↓] loadedSS loadedIn loadedU8
attribute [local go_sem 5000] xor8 xor8r
theorem spoil2_any {w : World} {ga : Nat} {x : GA} {a : AR} {k p q gA gB gC : Nat} {m : UInt8} (hS : St w (arF ga x a) w (arP ga x a)) (ok : a.Ok) (hs : a.inS (k : Int) (p : Int) = true) (hq : q < 256)
    (hA : w.cell? ⟨gA, 0, none⟩ = some (.int .i64 (p : Int))) (hA2 : gA ∉ arF ga x a) (hB : w.cell? ⟨gB, 0, none⟩ = some (.int .i64 (q : Int))) (hB2 : gB ∉ arF ga x a) (hC : w.cell? ⟨gC, 0, none⟩ = some (.int .u8 (u8I m))) (hC2 : gC ∉ arF ga x a) :
    Calls Try.prog 30 #[.pointer (some ⟨x.gd, k * 5, none⟩), ptrV gA, ptrV gB, ptrV gC] w fun e w' => e = .returned (.tuple #[]) ∧ ∃ x', St w (arF ga x a) w' (arP ga x' (a.upd (k : Int) (fSpoil p q m))) := by
  have hin := inS_inD hs
  have hf := ok.dv hin
  have hp : p < (a.dv (k : Int)).firm.length := by have := inS_pl hs; rw [hf.1]; omega
  obtain ⟨D, hD⟩ : ∃ D, D = a.dv (k : Int) := ⟨_, rfl⟩
  rw [← hD] at hf hp
  obtain ⟨FS1, hFS1⟩ : ∃ FS1, FS1 = (a.devs.take k).map blkD := ⟨_, rfl⟩
  obtain ⟨FS2, hFS2⟩ : ∃ FS2, FS2 = (a.devs.drop (k + 1)).map blkD := ⟨_, rfl⟩
  have HFS : Hid (a.devs.map (fun d => HA.blk d.g 89 (secsV d.firm)) = FS1 ++ .blk D.g 89 (secsV D.firm) :: FS2) := hid (by rw [hFS1, hFS2, hD]; exact devs_split0 hin)
  have HG := hid (secs_get hf.2.1 hp hq)
  have HPUT := hid (secs_putq ((D.firm.getD p []).getD q 0 ^^^ m) hf.2.1 hp hq)
  have HFIT : Hid (p * 256 + q + 1 ≤ (secsV D.firm).length) := hid (by
    rw [secsV_len hf.2.1]
    have : (p + 1) * 256 ≤ D.firm.length * 256 := Nat.mul_le_mul_right _ hp
    omega)
  have HDC : Hid ((devC a ++ x.rest)[k * 5 + 0]? = some (.slice (some ⟨D.g, 0, none⟩) D.firm.length D.firm.length)) := hid (by rw [hD]; exact devC_get (rest := x.rest) hin (i := 0) rfl (by decide))
  have HFIN : Hid (arP ga x (a.upd (k : Int) (fSpoil p q m)) = .blk ga 70 (arrC x a) :: .blk x.gd 93 (devC a ++ x.rest) :: .row x.lv 128 258 a.loose.length (looC a) :: (FS1 ++ .blk D.g 89 (secsV (fSpoil p q m D).firm) :: FS2)) := hid (by
    have h1 := devs_split hin (fSpoil p q m)
    have h2 := devC_firm (a := a) (k : Int) (f := fSpoil p q m) (fun d => by unfold DV.cells fSpoil; rw [List.length_set]; rfl)
    rw [hFS1, hFS2, hD]
    unfold arP arrC
    rw [h2, upd_len]
    rw [show (a.upd (k : Int) (fSpoil p q m)).devs.map (fun d => HA.blk d.g 89 (secsV d.firm)) = _ from h1]
    rfl)
  have hst0 : St w (arF ga x a) w (.blk ga 70 (arrC x a) :: .blk x.gd 93 (devC a ++ x.rest) :: .row x.lv 128 258 a.loose.length (looC a) :: (FS1 ++ .blk D.g 89 (secsV D.firm) :: FS2)) := by rw [← HFS.out]; exact hS
  obtain ⟨V, hV⟩ : ∃ V : UInt8, V = (D.firm.getD p []).getD q 0 := ⟨_, rfl⟩
  have HV := hid hV
  rw [← hV] at HG HPUT
  have HA := hid hA
  have HA2 := hid hA2
  have HB := hid hB
  have HB2 := hid hB2
  have HC := hid hC
  have HC2 := hid hC2
  clear hs hin hf hD hFS1 hFS2 hV hA hA2 hB hB2 hC hC2 ok hS
  unfold ptrV
  go_enter Try.func30, Try.ntmps30
  have hq2 : (q : Int) < 256 := by omega
  have hX := hst0.drew
  clear hst0
  refine wp_region_held_drew (S := (fun w' => (loadVarH 90 ⟨x.gd, k * 5, none⟩).run Try.prog w' = .ok (.slice (some ⟨D.g, 0, none⟩) D.firm.length D.firm.length) w' ∧ (loadVarH 3 ⟨gA, 0, none⟩).run Try.prog w' = .ok (.int .i64 (p : Int)) w' ∧ (loadVarH 3 ⟨gB, 0, none⟩).run Try.prog w' = .ok (.int .i64 (q : Int)) w' ∧ (loadVarH 5 ⟨gC, 0, none⟩).run Try.prog w' = .ok (.int .u8 (u8I m)) w')) (by kernel_rfl) (by exact ⟨ldS [_] hX HDC.out, ldOMx hX HA.out HA2.out, ldOMx hX HB.out HB2.out, ldOMx hX HC.out HC2.out⟩) (fun hHeld => ?_)
  refine wpAnyH_take (i := 0) (oi := ⟨some 5, _, _, _, _, _⟩) (v := ?_) rfl (by kernel_rfl) (by kernel_rfl) (by kernel_rfl) (fun _ _ _ h => h) (Or.inl ⟨by rfl, ?_⟩) (by assumption) ?_
  rotate_left
  · intro w hSw; (try dsimp only at hSw); go_simp; try with_reducible rfl
  (try simp only [Act.put, List.setIfInBounds_toArray, List.set_cons_zero, List.set_cons_succ])
  refine wpAnyH_take (i := 4) (oi := ⟨some 9, _, _, _, _, _⟩) (v := ?_) rfl (by kernel_rfl) (by kernel_rfl) (by kernel_rfl) (fun _ _ _ h => h) (Or.inl ⟨by rfl, ?_⟩) (by assumption) ?_
  rotate_left
  · intro w hSw; (try dsimp only at hSw); go_simp; try with_reducible rfl
  (try simp only [Act.put, List.setIfInBounds_toArray, List.set_cons_zero, List.set_cons_succ])
  refine wpAnyH_take (i := 5) (oi := ⟨some 10, _, _, _, _, _⟩) (v := ?_) rfl (by kernel_rfl) (by kernel_rfl) (by kernel_rfl) (fun _ _ _ h => h) (Or.inl ⟨by rfl, ?_⟩) (by assumption) ?_
  rotate_left
  · intro w hSw; (try dsimp only at hSw); go_simp; try with_reducible rfl
  (try simp only [Act.put, List.setIfInBounds_toArray, List.set_cons_zero, List.set_cons_succ])
  refine wpAnyH_take (i := 9) (oi := ⟨some 14, _, _, _, _, _⟩) (v := ?_) rfl (by kernel_rfl) (by kernel_rfl) (by kernel_rfl) (fun _ _ _ h => h) (Or.inl ⟨by rfl, ?_⟩) (by assumption) ?_
  rotate_left
  · intro w hSw; (try dsimp only at hSw); go_simp; try with_reducible rfl
  (try simp only [Act.put, List.setIfInBounds_toArray, List.set_cons_zero, List.set_cons_succ])
  refine wpAnyH_take (i := 1) (oi := ⟨some 6, _, _, _, _, _⟩) (v := ?_) rfl (by kernel_rfl) (by kernel_rfl) (by kernel_rfl) (fun _ _ _ h => h) (Or.inl ⟨by rfl, ?_⟩) (by assumption) ?_
  rotate_left
  · intro w hSw; (try dsimp only at hSw); go_simp; try with_reducible rfl
  (try simp only [Act.put, List.setIfInBounds_toArray, List.set_cons_zero, List.set_cons_succ])
  refine wpAnyH_take (i := 2) (oi := ⟨some 7, _, _, _, _, _⟩) (v := ?_) rfl (by kernel_rfl) (by kernel_rfl) (by kernel_rfl) (fun _ _ _ h => h) (Or.inl ⟨by rfl, ?_⟩) (by assumption) ?_
  rotate_left
  · intro w hSw; (try dsimp only at hSw); go_simp; try with_reducible rfl
  (try simp only [Act.put, List.setIfInBounds_toArray, List.set_cons_zero, List.set_cons_succ])
  refine wpAnyH_take (i := 3) (oi := ⟨some 8, _, _, _, _, _⟩) (v := ?_) rfl (by kernel_rfl) (by kernel_rfl) (by kernel_rfl) (fun _ _ _ h => h) (Or.inl ⟨by rfl, ?_⟩) (by assumption) ?_
  rotate_left
  · intro w hSw; (try dsimp only at hSw); go_simp; try with_reducible rfl
  (try simp only [Act.put, List.setIfInBounds_toArray, List.set_cons_zero, List.set_cons_succ])
  refine wpAnyH_take (i := 6) (oi := ⟨some 11, _, _, _, _, _⟩) (v := ?_) rfl (by kernel_rfl) (by kernel_rfl) (by kernel_rfl) (fun _ _ _ h => h) (Or.inl ⟨by rfl, ?_⟩) (by assumption) ?_
  rotate_left
  · intro w hSw; (try dsimp only at hSw); go_simp; try with_reducible rfl
  (try simp only [Act.put, List.setIfInBounds_toArray, List.set_cons_zero, List.set_cons_succ])
  refine wpAnyH_take (i := 11) (oi := ⟨some 16, _, _, _, _, _⟩) (v := ?_) rfl (by kernel_rfl) (by kernel_rfl) (by kernel_rfl) (fun _ _ _ h => h) (Or.inl ⟨by rfl, ?_⟩) (by assumption) ?_
  rotate_left
  · intro w hSw; (try dsimp only at hSw); go_simp; try with_reducible rfl
  (try simp only [Act.put, List.setIfInBounds_toArray, List.set_cons_zero, List.set_cons_succ])
  refine wpAnyH_take (i := 7) (oi := ⟨some 12, _, _, _, _, _⟩) (v := ?_) rfl (by kernel_rfl) (by kernel_rfl) (by kernel_rfl) (fun _ _ _ h => h) (Or.inl ⟨by rfl, ?_⟩) (by assumption) ?_
  rotate_left
  · intro w hSw; (try dsimp only at hSw); go_simp; try with_reducible rfl
  (try simp only [Act.put, List.setIfInBounds_toArray, List.set_cons_zero, List.set_cons_succ])
  refine wpAnyH_ready (rs := [8]) (by kernel_rfl) (by simp) ?_
  refine (AllReadyH.cons (o := ⟨some 13, _, _, _, _, _⟩) rfl (fun K hK => ?_) AllReadyH.nil)
  rw [if_pos (by rfl)]
  refine ow_of_wl (ops := #[]) (by rfl) ?_
  refine wl_loadE rfl rfl rfl ?_
  refine ⟨_, Loads.cell (v := .int .u8 (u8I V)) TyS.out (St.cell hX (off := p * 256 + q) (.tail _ (.tail _ (.tail _ (List.mem_append_right _ (.head _))))) HG.out), ?_⟩
  refine q0_nil ?_
  refine hK.out _ _ ?_ (fun hHeld => ?_)
  · exact ⟨ldS [_] hX HDC.out, ldOMx hX HA.out HA2.out, ldOMx hX HB.out HB2.out, ldOMx hX HC.out HC2.out⟩
  clear hK K
  (try simp only [Act.put, List.setIfInBounds_toArray, List.set_cons_zero, List.set_cons_succ])
  refine wpAnyH_take (i := 10) (oi := ⟨some 15, _, _, _, _, _⟩) (v := ?_) rfl (by kernel_rfl) (by kernel_rfl) (by kernel_rfl) (fun _ _ _ h => h) (Or.inl ⟨by rfl, ?_⟩) (by assumption) ?_
  rotate_left
  · intro w hSw; (try dsimp only at hSw); go_simp; try with_reducible rfl
  (try simp only [Act.put, List.setIfInBounds_toArray, List.set_cons_zero, List.set_cons_succ])
  refine wpAnyH_take (i := 12) (oi := ⟨some 17, _, _, _, _, _⟩) (v := ?_) rfl (by kernel_rfl) (by kernel_rfl) (by kernel_rfl) (fun _ _ _ h => h) (Or.inl ⟨by rfl, ?_⟩) (by assumption) ?_
  rotate_left
  · intro w hSw; (try dsimp only at hSw); go_simp; try with_reducible rfl
  (try simp only [Act.put, List.setIfInBounds_toArray, List.set_cons_zero, List.set_cons_succ])
  refine wpAnyH_ready (rs := [13]) (by kernel_rfl) (by simp) ?_
  refine (AllReadyH.cons (o := ⟨none, _, _, _, _, _⟩) rfl (fun K hK => ?_) AllReadyH.nil)
  rw [if_pos (by rfl)]
  refine ow_of_wl (ops := #[]) (by rfl) ?_
  refine wl_store (_ :: _ :: _ :: FS1) hX rfl rfl rfl (v := .int _ _) rfl rfl rfl HFIT.out ?_
  intro w9 hA3
  refine q0_nil ?_
  refine hK.out _ _ ?_ (fun hHeld => ?_)
  · exact ⟨ldS [_] hA3 HDC.out, ldOMx hA3 HA.out HA2.out, ldOMx hA3 HB.out HB2.out, ldOMx hA3 HC.out HC2.out⟩
  clear hK K
  (try simp only [Act.put, List.setIfInBounds_toArray, List.set_cons_zero, List.set_cons_succ])
  refine wpAnyH_done (by kernel_rfl) ?_ _
  clear hHeld
  go_end0
  refine ⟨rfl, x, ?_⟩
  rw [HFIN.out]
  unfold fSpoil
  rw [← HV.out, ← HPUT.out]
  exact hA3
end
end Go.Proofs.Ytmdfbdfijnmhkaa
namespace Go.Proofs.Ytmdfbdfijnmhkaa
set_option linter.unusedVariables false
set_option linter.unusedSimpArgs false
open Go.RowKit Hp
attribute [local irreducible] Go.Calls Go.wpList
set_option maxRecDepth 100000
set_option maxHeartbeats 4000000
theorem spoilM_any {w : World} {ga : Nat} {x : GA} {a : AR} (hS : St w (arF ga x a) w (arP ga x a)) (ok : a.Ok) (dev pl place : Int) (m : UInt8) :
    Calls Try.prog 11 #[.pointer (some ⟨ga, 0, none⟩), .int .i64 dev, .int .i64 pl, .int .i64 place, .int .u8 (u8I m)] w fun e w' => e = .returned (.int .i64 (a.spoilE dev pl place)) ∧ ∃ x', St w (arF ga x a) w' (arP ga x' (a.spoil dev pl place m)) := by
  have hst0 := hS
  have OK := hid ok
  have hmf := rmf
  clear hS ok
  go_enter Try.func11, Try.ntmps11
  go_wp2_with (first | go_big_skip | go_big_guard | (refine wl_box hst0 rfl rfl rfl ?_; intro g7 w1 hst1; clear hst0) | (refine wl_box hst1 rfl rfl rfl ?_; intro g8 w2 hst2; clear hst1) | (refine wl_box hst2 rfl rfl rfl ?_; intro g9 w3 hst3; clear hst2) | (refine wl_loadE rfl rfl rfl ?_; first | refine ⟨_, Loads.at [_, _] hst3 rfl, ?_⟩) | (go_at_call 31; refine (isSector_any ga dev pl _).mono ?_; rintro _ w4 ⟨g0, g1, g2, rfl, h4⟩; have hst4 := St.call hst3 h4; clear h4 hst3) | (apply wl_bsX ([cloV 58 [ptrV g0, ptrV g1, ptrV g2], cloV 27 [ptrV g8]]) ([cloV 58 [ptrV g0, ptrV g1, ptrV g2], cloV 27 [ptrV g8]]) hst4; rfl; rfl; exact rfl; exact rfl; infer_instance; infer_instance; rfl; rfl; rfl; intro gs w5 hst5; clear hst4) | (go_at_call 29; have hQ := St.selfF (L := ([HA.blk gs 85 [cloV 58 [ptrV g0, ptrV g1, ptrV g2], cloV 27 [ptrV g8]], .blk g2 3 [.int .i64 pl], .blk g1 3 [.int .i64 dev], .blk g0 25 [.pointer (some ⟨ga, 0, none⟩)], .blk g9 5 [.int .u8 (u8I m)], .blk g8 3 [.int .i64 place], .blk g7 3 [.int .i64 pl]] : List HA) ++ arP ga x a) hst5; refine (befallsE_any hQ OK.out dev 30 [ptrV g7, ptrV g8, ptrV g9] (.slice (some ⟨gs, 0, none⟩) 2 2) 2 [cloV 58 [ptrV g0, ptrV g1, ptrV g2], cloV 27 [ptrV g8]] (a.spoilL dev pl place) (a.upd dev (fSpoil pl.toNat place.toNat m)) (fun _ _ => rfl) (fun X w' h => Rd.blk h (List.mem_append_right _ (.head _)) (Nat.le_refl _) (by decide) rfl rfl) rfl rfl (by decide) rfl (fun X j f e hf he _ => (match j, hf, he with | 0, hf, he => (by cases hf; cases he; exact probe_isSector (fun _ h => ArrAt.of h (fun p hp => List.mem_append_right _ (List.mem_append_right _ hp)) OK.out.d0) keeps_st (fun _ h => St.cell h (off := 0) (List.mem_append_right _ (.tail _ (.tail _ (.tail _ (.head _))))) rfl) (fun _ h => St.cell h (off := 0) (List.mem_append_right _ (.tail _ (.tail _ (.head _)))) rfl) (fun _ h => St.cell h (off := 0) (List.mem_append_right _ (.tail _ (.head _))) rfl)) | 1, hf, he => (by cases hf; cases he; exact probe_clo (fun _ _ => rfl) fun w h => (spoil1_any ((fun _ h => St.cell h (off := 0) (List.mem_append_right _ (.tail _ (.tail _ (.tail _ (.tail _ (.tail _ (.head _))))))) rfl) w h)).mono fun _ _ ⟨e, h4⟩ => ⟨e, keeps_st _ _ h h4⟩) | j + 2, hf, _ => (by simp at hf))) (fun h => inS_inD (orE_zero (by decide) (firstE_all h _ (.head _)))) (fun e he => (by unfold AR.spoilL at he; simp only [List.mem_cons, List.not_mem_nil, or_false] at he; rcases he with rfl | rfl <;> exact orE_isE _ _ (by unfold isE; decide))) (fun h1 _ w' hb h9 => (by have hs : a.inS dev pl = true := orE_zero (by decide) (firstE_all h1 _ (.head _)); have hq : (decide (0 ≤ place) && decide (place < 256)) = true := orE_zero (by decide) (firstE_all h1 _ (.tail _ (.head _))); simp only [Bool.and_eq_true, decide_eq_true_eq] at hq; obtain ⟨k, rfl⟩ : ∃ k : Nat, dev = k := ⟨dev.toNat, by have := (inD_dev (inS_inD hs)).1; omega⟩; obtain ⟨p, rfl⟩ : ∃ p : Nat, pl = p := ⟨pl.toNat, by have := (inS_pl hs).1; omega⟩; obtain ⟨q, rfl⟩ : ∃ q : Nat, place = q := ⟨place.toNat, by omega⟩; have hq2 : q < 256 := (by omega); exact spoil2_any h9 OK.out hs hq2 (cell_blk (hb g7 _ _ (.tail _ (.tail _ (.tail _ (.tail _ (.tail _ (.tail _ (.head _)))))))).1) (hb g7 _ _ (.tail _ (.tail _ (.tail _ (.tail _ (.tail _ (.tail _ (.head _)))))))).2 (cell_blk (hb g8 _ _ (.tail _ (.tail _ (.tail _ (.tail _ (.tail _ (.head _))))))).1) (hb g8 _ _ (.tail _ (.tail _ (.tail _ (.tail _ (.tail _ (.head _))))))).2 (cell_blk (hb g9 _ _ (.tail _ (.tail _ (.tail _ (.tail _ (.head _)))))).1) (hb g9 _ _ (.tail _ (.tail _ (.tail _ (.tail _ (.head _)))))).2))).mono ?_; rintro _ w9 ⟨rfl, X, x', h4⟩; have hst6 := St.thenF (L := ([HA.blk gs 85 [cloV 58 [ptrV g0, ptrV g1, ptrV g2], cloV 27 [ptrV g8]], .blk g2 3 [.int .i64 pl], .blk g1 3 [.int .i64 dev], .blk g0 25 [.pointer (some ⟨ga, 0, none⟩)], .blk g9 5 [.int .u8 (u8I m)], .blk g8 3 [.int .i64 place], .blk g7 3 [.int .i64 pl]] : List HA) ++ arP ga x a) hst5 h4; clear h4 hQ hst5))
  go_ret
  exact ⟨rfl, x', St.sub hst6 (.trans (List.sublist_append_right _ _) (List.sublist_append_right _ _))⟩
end Go.Proofs.Ytmdfbdfijnmhkaa
namespace Go.Proofs.Ytmdfbdfijnmhkaa
set_option linter.unusedVariables false
set_option linter.unusedSimpArgs false
open Go.RowKit Hp
set_option maxRecDepth 100000
theorem upd_secs2 {a : AR} {dev : Int} {f : DV → DV} (hl : ∀ d, (f d).firm.length = d.firm.length) : (a.upd dev f).secs = a.secs := by
  rw [secs_eq, secs_eq]
  unfold AR.upd
  rw [modify_get]
  split
  · cases a.devs[0]? with
    | none => rfl
    | some d => simp [hl]
  · rfl
structure Stays (a b : AR) : Prop where
  sec : b.secs = a.secs
  st : (0 ≤ a.steps → 0 ≤ b.steps) ∧ b.steps ≤ a.steps + 1
  ll : b.loose.length ≤ a.loose.length + 1
theorem Stays.refl (a : AR) : Stays a a := ⟨rfl, ⟨id, by omega⟩, Nat.le_succ _⟩
theorem Stays.upd (a : AR) (dev : Int) {f : DV → DV} (hl : ∀ d, (f d).firm.length = d.firm.length) : Stays a (a.upd dev f) := ⟨upd_secs2 hl, ⟨id, by show a.steps ≤ _; omega⟩, Nat.le_succ _⟩
theorem Stays.read (a : AR) (dev pl : Int) : Stays a (a.read dev pl) := by
  unfold AR.read
  split
  · exact Stays.upd a dev fun _ => rfl
  · exact Stays.refl a
theorem step_stays (a : AR) : a.step.secs = a.secs ∧ ((0 ≤ a.steps → 0 ≤ a.step.steps) ∧ a.step.steps ≤ a.steps + 1) ∧ a.step.loose = a.loose := by
  refine ⟨step_secs a, ?_, step_loose a⟩
  unfold AR.step
  split
  · exact ⟨id, by show a.steps ≤ _; omega⟩
  · exact ⟨fun h => by show 0 ≤ a.steps + 1; omega, Int.le_refl _⟩
theorem Stays.write (a : AR) (dev pl : Int) (b : List UInt8) : Stays a (a.write dev pl b) := by
  obtain ⟨h1, h2, h3⟩ := step_stays a
  unfold AR.write
  split
  · exact Stays.refl a
  · split
    · exact ⟨h1, h2, by rw [h3]; exact Nat.le_succ _⟩
    · unfold AR.lay
      split
      · exact ⟨(upd_secs2 (a := a.step) (f := fun d => { d with lo := false }) fun _ => rfl).trans h1, h2, by show a.step.loose.length ≤ _; rw [h3]; exact Nat.le_succ _⟩
      · split
        · refine ⟨(upd_secs2 (a := a.step) (f := fun d => { d with st := false }) fun _ => rfl).trans h1, h2, ?_⟩
          show (a.step.loose ++ [_]).length ≤ _
          rw [h3, List.length_append]
          exact Nat.le_refl _
        · refine ⟨h1, h2, ?_⟩
          show (a.step.loose ++ [_]).length ≤ _
          rw [h3, List.length_append]
          exact Nat.le_refl _
theorem Stays.flush (a : AR) (dev : Int) : Stays a (a.flush dev) := by
  obtain ⟨h1, h2, h3⟩ := step_stays a
  unfold AR.flush
  split
  · exact Stays.refl a
  · split
    · exact ⟨h1, h2, by rw [h3]; exact Nat.le_succ _⟩
    · refine ⟨(upd_secs2 (a := a.step) (f := fun d => { d with firm := (a.step.loose.filter fun w => w.dev == dev.toNat).foldl setS d.firm }) fun d => foldS_len _ _).trans h1, h2, ?_⟩
      show (a.step.loose.filter _).length ≤ _
      rw [h3]
      exact Nat.le_trans (List.length_filter_le _ _) (Nat.le_succ _)
theorem Stays.spoil (a : AR) (dev pl place : Int) (m : UInt8) : Stays a (a.spoil dev pl place m) := by
  unfold AR.spoil
  split
  · exact Stays.upd a dev fun d => by unfold fSpoil; exact List.length_set
  · exact Stays.refl a
structure Sc (a : AR) (m : Nat) : Prop where
  ok : a.Ok
  sec : 8 ≤ a.secs
  st : 0 ≤ a.steps ∧ a.steps ≤ (m : Int)
  ll : a.loose.length ≤ m
theorem Sc.next {a b : AR} {m : Nat} (h : Sc a m) (ok : b.Ok) (hs : Stays a b) : Sc b (m + 1) := by
  have h1 := h.st
  have h2 := hs.st
  have h3 := hs.ll
  have h4 := h.ll
  exact ⟨ok, by rw [hs.sec]; exact h.sec, ⟨h2.1 h1.1, by have := h2.2; omega⟩, by omega⟩
end Go.Proofs.Ytmdfbdfijnmhkaa
