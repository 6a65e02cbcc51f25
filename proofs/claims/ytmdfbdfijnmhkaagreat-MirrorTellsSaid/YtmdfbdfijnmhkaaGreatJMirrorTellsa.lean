import Derived.Test.YtmdfbdfijnmhkaaGreatR18
import Derived.Test.YtmdfbdfijnmhkaaGreatKTy
import Derived.Test.YtmdfbdfijnmhkaaGreatSepP
import Derived.Test.YtmdfbdfijnmhkaaGreatSepO
import Derived.Deep.RegionHeld3
import Derived.Outline
import Derived.IntWalk
namespace Go.Proofs.YtmdfbdfijnmhkaaGreat
set_option linter.unusedVariables false
set_option linter.unusedSimpArgs false
open Go.RowKit Hp
attribute [local irreducible] Go.Calls Go.wpList
set_option maxRecDepth 100000
set_option maxHeartbeats 4000000
theorem firstE_cons0 (l : List Int) : firstE (0 :: l) = firstE l := by simp [firstE]
theorem firstE_snoc (l : List Int) (e : Int) : firstE (l ++ [e]) = if firstE l = 0 then e else firstE l := by
  unfold firstE
  rw [List.find?_append]
  cases hf : l.find? (· ≠ 0) with
  | none =>
    by_cases h : e = 0 <;> simp [h]
  | some x =>
    have := List.find?_some hf
    simp at this
    simp [this]
theorem getD_cons0 {l : List Int} {j : Nat} (h : ∀ i < j + 1, (0 :: l).getD i 0 = 0) : ∀ i < j, l.getD i 0 = 0 := fun i hi => by
  have := h (i + 1) (by omega)
  simpa using this
theorem befalls_bad {w : World} {M : List Nat} {Lb : List HA} {ga : Nat} {x x' : GA} {a a' : AR} (hS : St w M w (Lb ++ arP ga x a)) (ok : a.Ok) (dev : Int) (fn : Nat) (cap : List Value) (v : Value) (m : Nat) (ws : List Value) (rs : List Int)
    (hfn : ∀ (a : Array Value) (w : World), (callFunc fn a).run Tryz.prog w = .ok (.enter fn a) w)
    (hr : ∀ (X : List HA) (w' : World), St w M w' (X ++ (Lb ++ arP ga x a)) → Rd w' v 1 m ws) (hw : ws.length = m) (hrs : rs.length = m) (hm : m ≤ 10) (h1c : ws.all (·.oneCell') = true)
    (hp : ∀ (X : List HA) (j : Nat) (f : Value) (e : Int), ws[j]? = some f → rs[j]? = some e → (∀ i < j, rs.getD i 0 = 0) → Probe f e (fun w' => St w M w' (X ++ (Lb ++ arP ga x a))) (fun w' => St w M w' (X ++ (Lb ++ arP ga x a))))
    (hin : firstE rs = 0 → a.inD dev = true) (hE : ∀ e ∈ rs, e = 0 ∨ isE e)
    (hD : firstE rs = 0 → (a.dv dev).gone = false → ∀ (X : List HA) (w' : World), St w M w' (X ++ (Lb ++ arP ga x a)) → Calls Tryz.prog fn (List.toArray (.pointer (some ⟨x.gd, dev.toNat * 5, none⟩) :: cap)) w' fun e w'' => e = .returned (.tuple #[]) ∧ St w M w'' (X ++ (Lb ++ arP ga x' a'))) (h1 : firstE rs ≠ 0) :
    Calls Tryz.prog 37 #[.pointer (some ⟨ga, 0, none⟩), .int .i64 dev, .func (.func fn) #[] (List.toArray cap), v] w fun e w' => e = .returned (.int .i64 (firstE rs)) ∧ ∃ X, St w M w' (X ++ (Lb ++ arP ga x a)) := by
  have hst0 : St w M w ([] ++ (Lb ++ arP ga x a)) := hS
  have HR := hid hr
  have HW := hid hw
  have HRS := hid hrs
  have HP := hid hp
  have HIN := hid hin
  have HDD := hid hD
  have H1 := hid h1
  have OK := hid ok
  have H1C := hid h1c
  have hmf := rmf
  have HE := hid (firstE_isE hE h1)
  clear hr hw hrs hp hin hD h1 ok hE h1c hS hfn
  go_enter Tryz.func37, Tryz.ntmps37
  go_wp2_with (first | go_big_skip | go_big_guard | (apply wl_bsX ([methV 46 (ptrV ga)]) ([methV 46 (ptrV ga)]) hst0; rfl; rfl; exact rfl; exact rfl; infer_instance; infer_instance; rfl; rfl; rfl; intro g1 w1 hst1; clear hst0; have hst2 : St w M w1 (.row (.slice (some ⟨g1, 0, none⟩) 1 1) 92 1 1 [methV 46 (ptrV ga)] :: (Lb ++ arP ga x a)) := St.toRow (n := 1) (cap := 1) (sz := 1) hst1 rfl (Nat.le_refl _) (by decide); clear hst1) | (apply wl_appX (m := m) (ys := ws) [] hst2; rfl; rfl; exact rfl; exact rfl; infer_instance; infer_instance; infer_instance; exact HR.out [_] _ hst2; exact H1C.out; (refine ⟨by decide, by unfold maxLen; omega, by omega⟩); intro v1 w2 hst3 _; clear hst2) | (go_at_call 89; refine (isHere_any ga dev _).mono ?_; rintro _ w4 ⟨k0, k1, rfl, h4⟩; have hst4 := St.call hst3 h4; clear h4 hst3) | (apply wl_bsX ([cloV 139 [ptrV k0, ptrV k1]]) ([cloV 139 [ptrV k0, ptrV k1]]) hst4; rfl; rfl; exact rfl; exact rfl; infer_instance; infer_instance; rfl; rfl; rfl; intro gb w5 hst5; clear hst4) | (apply wl_appX (m := 1) (ys := [cloV 139 [ptrV k0, ptrV k1]]) [_, _, _] hst5; rfl; rfl; exact rfl; exact rfl; infer_instance; infer_instance; infer_instance; exact Rd.blk (n := 1) hst5 (.head _) (Nat.le_refl _) (by decide) rfl rfl; rfl; (refine ⟨by decide, by unfold maxLen; omega, by omega⟩); intro v2 w6 hst6 _; clear hst5) | (go_at_call 45; have hC := checks_any dev (v := v2) (n := 1 + m + 1) (fs := methV 46 (ptrV ga) :: ws) (f9 := cloV 139 [ptrV k0, ptrV k1]) (es := 0 :: rs) (e9 := orE (!(a.dv (dev)).gone) 14) (A := fun w' => St w M w' (([HA.blk gb 92 [cloV 139 [ptrV k0, ptrV k1]], .blk k1 3 [.int .i64 dev], .blk k0 23 [.pointer (some ⟨ga, 0, none⟩)], .row v2 92 1 (1 + m + 1) (([methV 46 (ptrV ga)] ++ ws) ++ [cloV 139 [ptrV k0, ptrV k1]])] : List HA) ++ (Lb ++ arP ga x a))) (B := fun w' => St w M w' (([HA.blk gb 92 [cloV 139 [ptrV k0, ptrV k1]], .blk k1 3 [.int .i64 dev], .blk k0 23 [.pointer (some ⟨ga, 0, none⟩)], .row v2 92 1 (1 + m + 1) (([methV 46 (ptrV ga)] ++ ws) ++ [cloV 139 [ptrV k0, ptrV k1]])] : List HA) ++ (Lb ++ arP ga x a))) _ (fun _ h => Rd.row h (.tail _ (.tail _ (.tail _ (.head _))))) (by rw [List.length_cons, List.length_cons, HW.out, HRS.out]) (by rw [List.length_cons, HW.out]; omega) (by omega) (fun j f e hf he hz => (match j, hf, he, hz with | 0, hf, he, _ => (by cases hf; cases he; exact probe_made (fun _ h => ArrAt.of h (fun p hp => List.mem_append_right _ (List.mem_append_right _ hp)) OK.out.d0) keeps_st) | j + 1, hf, he, hz => HP.out _ j f e (by simpa using hf) (by simpa using he) (getD_cons0 hz))) (fun hz => probe_isHere (fun _ h => ArrAt.of h (fun p hp => List.mem_append_right _ (List.mem_append_right _ hp)) OK.out.d0) keeps_st (HIN.out (by rw [← firstE_cons0]; exact firstE_zero hz)) (fun _ h => St.cell h (off := 0) (.tail _ (.tail _ (.head _))) rfl) (fun _ h => St.cell h (off := 0) (.tail _ (.head _)) rfl)) hst6; refine hC.mono ?_; rintro _ w8 hh; obtain ⟨rfl, h4⟩ := checks_bad (by rw [firstE_cons0]; exact H1.out) hh; clear hC hh hst6; have hst7 := h4; clear h4; rw [firstE_cons0]; obtain ⟨E, hEE⟩ : ∃ E, E = firstE rs := ⟨_, rfl⟩; have HQ := hid hEE; rw [← hEE] at HE H1; rw [← hEE]; clear hEE) | (go_at_call 47; refine (number_isE E dev HE.out H1.out _).mono ?_; rintro _ w9 ⟨rfl, h4⟩; have hst8 := St.call0 hst7 h4; clear h4 hst7))
  go_ret
  exact ⟨congrArg _ (congrArg _ HQ.out), _, hst8⟩
theorem befalls_gone {w : World} {M : List Nat} {Lb : List HA} {ga : Nat} {x x' : GA} {a a' : AR} (hS : St w M w (Lb ++ arP ga x a)) (ok : a.Ok) (dev : Int) (fn : Nat) (cap : List Value) (v : Value) (m : Nat) (ws : List Value) (rs : List Int)
    (hfn : ∀ (a : Array Value) (w : World), (callFunc fn a).run Tryz.prog w = .ok (.enter fn a) w)
    (hr : ∀ (X : List HA) (w' : World), St w M w' (X ++ (Lb ++ arP ga x a)) → Rd w' v 1 m ws) (hw : ws.length = m) (hrs : rs.length = m) (hm : m ≤ 10) (h1c : ws.all (·.oneCell') = true)
    (hp : ∀ (X : List HA) (j : Nat) (f : Value) (e : Int), ws[j]? = some f → rs[j]? = some e → (∀ i < j, rs.getD i 0 = 0) → Probe f e (fun w' => St w M w' (X ++ (Lb ++ arP ga x a))) (fun w' => St w M w' (X ++ (Lb ++ arP ga x a))))
    (hin : firstE rs = 0 → a.inD dev = true) (hE : ∀ e ∈ rs, e = 0 ∨ isE e)
    (hD : firstE rs = 0 → (a.dv dev).gone = false → ∀ (X : List HA) (w' : World), St w M w' (X ++ (Lb ++ arP ga x a)) → Calls Tryz.prog fn (List.toArray (.pointer (some ⟨x.gd, dev.toNat * 5, none⟩) :: cap)) w' fun e w'' => e = .returned (.tuple #[]) ∧ St w M w'' (X ++ (Lb ++ arP ga x' a'))) (h1 : firstE rs = 0) (h2 : (a.dv dev).gone = true) :
    Calls Tryz.prog 37 #[.pointer (some ⟨ga, 0, none⟩), .int .i64 dev, .func (.func fn) #[] (List.toArray cap), v] w fun e w' => e = .returned (.int .i64 (14)) ∧ ∃ X, St w M w' (X ++ (Lb ++ arP ga x a)) := by
  have hst0 : St w M w ([] ++ (Lb ++ arP ga x a)) := hS
  have HR := hid hr
  have HW := hid hw
  have HRS := hid hrs
  have HP := hid hp
  have HIN := hid hin
  have HDD := hid hD
  have H1 := hid h1
  have OK := hid ok
  have H1C := hid h1c
  have hmf := rmf
  have hin2 := hin h1
  obtain ⟨k, rfl⟩ : ∃ k : Nat, dev = k := ⟨dev.toNat, by have := (inD_dev hin2).1; omega⟩
  have hlt : k < a.devs.length := by have := (inD_dev hin2).2; omega
  have HI2 := hid hin2
  clear hin2
  have H2 := hid h2
  have HG : Hid (orE (!(a.dv (k : Int)).gone) 14 = 14) := hid (by rw [h2]; rfl)
  clear hr hw hrs hp hin hD h1 ok hE h1c hS hfn h2
  go_enter Tryz.func37, Tryz.ntmps37
  go_wp2_with (first | go_big_skip | go_big_guard | (apply wl_bsX ([methV 46 (ptrV ga)]) ([methV 46 (ptrV ga)]) hst0; rfl; rfl; exact rfl; exact rfl; infer_instance; infer_instance; rfl; rfl; rfl; intro g1 w1 hst1; clear hst0; have hst2 : St w M w1 (.row (.slice (some ⟨g1, 0, none⟩) 1 1) 92 1 1 [methV 46 (ptrV ga)] :: (Lb ++ arP ga x a)) := St.toRow (n := 1) (cap := 1) (sz := 1) hst1 rfl (Nat.le_refl _) (by decide); clear hst1) | (apply wl_appX (m := m) (ys := ws) [] hst2; rfl; rfl; exact rfl; exact rfl; infer_instance; infer_instance; infer_instance; exact HR.out [_] _ hst2; exact H1C.out; (refine ⟨by decide, by unfold maxLen; omega, by omega⟩); intro v1 w2 hst3 _; clear hst2) | (go_at_call 89; refine (isHere_any ga (k : Int) _).mono ?_; rintro _ w4 ⟨k0, k1, rfl, h4⟩; have hst4 := St.call hst3 h4; clear h4 hst3) | (apply wl_bsX ([cloV 139 [ptrV k0, ptrV k1]]) ([cloV 139 [ptrV k0, ptrV k1]]) hst4; rfl; rfl; exact rfl; exact rfl; infer_instance; infer_instance; rfl; rfl; rfl; intro gb w5 hst5; clear hst4) | (apply wl_appX (m := 1) (ys := [cloV 139 [ptrV k0, ptrV k1]]) [_, _, _] hst5; rfl; rfl; exact rfl; exact rfl; infer_instance; infer_instance; infer_instance; exact Rd.blk (n := 1) hst5 (.head _) (Nat.le_refl _) (by decide) rfl rfl; rfl; (refine ⟨by decide, by unfold maxLen; omega, by omega⟩); intro v2 w6 hst6 _; clear hst5) | (go_at_call 45; have hC := checks_any (k : Int) (v := v2) (n := 1 + m + 1) (fs := methV 46 (ptrV ga) :: ws) (f9 := cloV 139 [ptrV k0, ptrV k1]) (es := 0 :: rs) (e9 := orE (!(a.dv ((k : Int))).gone) 14) (A := fun w' => St w M w' (([HA.blk gb 92 [cloV 139 [ptrV k0, ptrV k1]], .blk k1 3 [.int .i64 (k : Int)], .blk k0 23 [.pointer (some ⟨ga, 0, none⟩)], .row v2 92 1 (1 + m + 1) (([methV 46 (ptrV ga)] ++ ws) ++ [cloV 139 [ptrV k0, ptrV k1]])] : List HA) ++ (Lb ++ arP ga x a))) (B := fun w' => St w M w' (([HA.blk gb 92 [cloV 139 [ptrV k0, ptrV k1]], .blk k1 3 [.int .i64 (k : Int)], .blk k0 23 [.pointer (some ⟨ga, 0, none⟩)], .row v2 92 1 (1 + m + 1) (([methV 46 (ptrV ga)] ++ ws) ++ [cloV 139 [ptrV k0, ptrV k1]])] : List HA) ++ (Lb ++ arP ga x a))) _ (fun _ h => Rd.row h (.tail _ (.tail _ (.tail _ (.head _))))) (by rw [List.length_cons, List.length_cons, HW.out, HRS.out]) (by rw [List.length_cons, HW.out]; omega) (by omega) (fun j f e hf he hz => (match j, hf, he, hz with | 0, hf, he, _ => (by cases hf; cases he; exact probe_made (fun _ h => ArrAt.of h (fun p hp => List.mem_append_right _ (List.mem_append_right _ hp)) OK.out.d0) keeps_st) | j + 1, hf, he, hz => HP.out _ j f e (by simpa using hf) (by simpa using he) (getD_cons0 hz))) (fun hz => probe_isHere (fun _ h => ArrAt.of h (fun p hp => List.mem_append_right _ (List.mem_append_right _ hp)) OK.out.d0) keeps_st (HIN.out (by rw [← firstE_cons0]; exact firstE_zero hz)) (fun _ h => St.cell h (off := 0) (.tail _ (.tail _ (.head _))) rfl) (fun _ h => St.cell h (off := 0) (.tail _ (.head _)) rfl)) hst6; rw [HG.out] at hC; refine hC.mono ?_; rintro _ w8 hh; obtain ⟨rfl, h4⟩ := checks_last (by rw [firstE_cons0]; exact H1.out) (by decide) hh; clear hC hh hst6; have hst7 := h4; clear h4) | (go_at_call 47; refine (number_isE 14 (k : Int) (by unfold isE; decide) (by decide) _).mono ?_; rintro _ w9 ⟨rfl, h4⟩; have hst8 := St.call0 hst7 h4; clear h4 hst7))
  go_ret
  exact ⟨rfl, _, hst8⟩
theorem befalls_fine {w : World} {M : List Nat} {Lb : List HA} {ga : Nat} {x x' : GA} {a a' : AR} (hS : St w M w (Lb ++ arP ga x a)) (ok : a.Ok) (dev : Int) (fn : Nat) (cap : List Value) (v : Value) (m : Nat) (ws : List Value) (rs : List Int)
    (hfn : ∀ (a : Array Value) (w : World), (callFunc fn a).run Tryz.prog w = .ok (.enter fn a) w)
    (hr : ∀ (X : List HA) (w' : World), St w M w' (X ++ (Lb ++ arP ga x a)) → Rd w' v 1 m ws) (hw : ws.length = m) (hrs : rs.length = m) (hm : m ≤ 10) (h1c : ws.all (·.oneCell') = true)
    (hp : ∀ (X : List HA) (j : Nat) (f : Value) (e : Int), ws[j]? = some f → rs[j]? = some e → (∀ i < j, rs.getD i 0 = 0) → Probe f e (fun w' => St w M w' (X ++ (Lb ++ arP ga x a))) (fun w' => St w M w' (X ++ (Lb ++ arP ga x a))))
    (hin : firstE rs = 0 → a.inD dev = true) (hE : ∀ e ∈ rs, e = 0 ∨ isE e)
    (hD : firstE rs = 0 → (a.dv dev).gone = false → ∀ (X : List HA) (w' : World), St w M w' (X ++ (Lb ++ arP ga x a)) → Calls Tryz.prog fn (List.toArray (.pointer (some ⟨x.gd, dev.toNat * 5, none⟩) :: cap)) w' fun e w'' => e = .returned (.tuple #[]) ∧ St w M w'' (X ++ (Lb ++ arP ga x' a'))) (h1 : firstE rs = 0) (h2 : (a.dv dev).gone = false) :
    Calls Tryz.prog 37 #[.pointer (some ⟨ga, 0, none⟩), .int .i64 dev, .func (.func fn) #[] (List.toArray cap), v] w fun e w' => e = .returned (.int .i64 (0)) ∧ ∃ X, St w M w' (X ++ (Lb ++ arP ga x' a')) := by
  have hst0 : St w M w ([] ++ (Lb ++ arP ga x a)) := hS
  have HR := hid hr
  have HW := hid hw
  have HRS := hid hrs
  have HP := hid hp
  have HIN := hid hin
  have HDD := hid hD
  have H1 := hid h1
  have OK := hid ok
  have H1C := hid h1c
  have hmf := rmf
  have hin2 := hin h1
  obtain ⟨k, rfl⟩ : ∃ k : Nat, dev = k := ⟨dev.toNat, by have := (inD_dev hin2).1; omega⟩
  have hlt : k < a.devs.length := by have := (inD_dev hin2).2; omega
  have HI2 := hid hin2
  clear hin2
  have H2 := hid h2
  have HG : Hid (orE (!(a.dv (k : Int)).gone) 14 = 0) := hid (by rw [h2]; rfl)
  clear hr hw hrs hp hin hD h1 ok hE h1c hS h2
  go_enter Tryz.func37, Tryz.ntmps37
  go_wp2_with (first | go_big_skip | go_big_guard | (apply wl_bsX ([methV 46 (ptrV ga)]) ([methV 46 (ptrV ga)]) hst0; rfl; rfl; exact rfl; exact rfl; infer_instance; infer_instance; rfl; rfl; rfl; intro g1 w1 hst1; clear hst0; have hst2 : St w M w1 (.row (.slice (some ⟨g1, 0, none⟩) 1 1) 92 1 1 [methV 46 (ptrV ga)] :: (Lb ++ arP ga x a)) := St.toRow (n := 1) (cap := 1) (sz := 1) hst1 rfl (Nat.le_refl _) (by decide); clear hst1) | (apply wl_appX (m := m) (ys := ws) [] hst2; rfl; rfl; exact rfl; exact rfl; infer_instance; infer_instance; infer_instance; exact HR.out [_] _ hst2; exact H1C.out; (refine ⟨by decide, by unfold maxLen; omega, by omega⟩); intro v1 w2 hst3 _; clear hst2) | (go_at_call 89; refine (isHere_any ga (k : Int) _).mono ?_; rintro _ w4 ⟨k0, k1, rfl, h4⟩; have hst4 := St.call hst3 h4; clear h4 hst3) | (apply wl_bsX ([cloV 139 [ptrV k0, ptrV k1]]) ([cloV 139 [ptrV k0, ptrV k1]]) hst4; rfl; rfl; exact rfl; exact rfl; infer_instance; infer_instance; rfl; rfl; rfl; intro gb w5 hst5; clear hst4) | (apply wl_appX (m := 1) (ys := [cloV 139 [ptrV k0, ptrV k1]]) [_, _, _] hst5; rfl; rfl; exact rfl; exact rfl; infer_instance; infer_instance; infer_instance; exact Rd.blk (n := 1) hst5 (.head _) (Nat.le_refl _) (by decide) rfl rfl; rfl; (refine ⟨by decide, by unfold maxLen; omega, by omega⟩); intro v2 w6 hst6 _; clear hst5) | (go_at_call 45; have hC := checks_any (k : Int) (v := v2) (n := 1 + m + 1) (fs := methV 46 (ptrV ga) :: ws) (f9 := cloV 139 [ptrV k0, ptrV k1]) (es := 0 :: rs) (e9 := orE (!(a.dv ((k : Int))).gone) 14) (A := fun w' => St w M w' (([HA.blk gb 92 [cloV 139 [ptrV k0, ptrV k1]], .blk k1 3 [.int .i64 (k : Int)], .blk k0 23 [.pointer (some ⟨ga, 0, none⟩)], .row v2 92 1 (1 + m + 1) (([methV 46 (ptrV ga)] ++ ws) ++ [cloV 139 [ptrV k0, ptrV k1]])] : List HA) ++ (Lb ++ arP ga x a))) (B := fun w' => St w M w' (([HA.blk gb 92 [cloV 139 [ptrV k0, ptrV k1]], .blk k1 3 [.int .i64 (k : Int)], .blk k0 23 [.pointer (some ⟨ga, 0, none⟩)], .row v2 92 1 (1 + m + 1) (([methV 46 (ptrV ga)] ++ ws) ++ [cloV 139 [ptrV k0, ptrV k1]])] : List HA) ++ (Lb ++ arP ga x a))) _ (fun _ h => Rd.row h (.tail _ (.tail _ (.tail _ (.head _))))) (by rw [List.length_cons, List.length_cons, HW.out, HRS.out]) (by rw [List.length_cons, HW.out]; omega) (by omega) (fun j f e hf he hz => (match j, hf, he, hz with | 0, hf, he, _ => (by cases hf; cases he; exact probe_made (fun _ h => ArrAt.of h (fun p hp => List.mem_append_right _ (List.mem_append_right _ hp)) OK.out.d0) keeps_st) | j + 1, hf, he, hz => HP.out _ j f e (by simpa using hf) (by simpa using he) (getD_cons0 hz))) (fun hz => probe_isHere (fun _ h => ArrAt.of h (fun p hp => List.mem_append_right _ (List.mem_append_right _ hp)) OK.out.d0) keeps_st (HIN.out (by rw [← firstE_cons0]; exact firstE_zero hz)) (fun _ h => St.cell h (off := 0) (.tail _ (.tail _ (.head _))) rfl) (fun _ h => St.cell h (off := 0) (.tail _ (.head _)) rfl)) hst6; rw [HG.out] at hC; refine hC.mono ?_; rintro _ w8 hh; obtain ⟨rfl, h4⟩ := checks_fine (by rw [firstE_cons0]; exact H1.out) hh; clear hC hh hst6; have hst7 := h4; clear h4) | (refine wl_loadE rfl rfl rfl ?_; refine ⟨_, Loads.cell (T := 106) TyS.out (St.cell hst7 (off := 0) (g := ga) (T := 109) (cs := arrC x a) (List.mem_append_right _ (List.mem_append_right _ (.head _))) rfl), ?_⟩) | (refine wl_index (k := k) rfl rfl rfl rfl hlt ?_) | ((refine (HDD.out H1.out H2.out _ _ hst7).mono ?_); rintro _ w9 ⟨rfl, h4⟩; have hst8 := h4; clear h4 hst7))
  go_ret
  exact ⟨rfl, _, hst8⟩
end Go.Proofs.YtmdfbdfijnmhkaaGreat
namespace Go.Proofs.YtmdfbdfijnmhkaaGreat
set_option linter.unusedVariables false
set_option linter.unusedSimpArgs false
open Go.RowKit Hp
attribute [local irreducible] Go.Calls Go.wpList
set_option maxRecDepth 100000
set_option maxHeartbeats 4000000
def fLose : DV → DV := fun d => { d with lo := true }
def fStray (pl : Int) : DV → DV := fun d => { d with st := true, to := pl }
def fFail (n : Int) : DV → DV := fun d => { d with fail := n }
def AR.fell (a : AR) (dev : Int) (rs : List Int) (f : DV → DV) : AR := if firstE (rs ++ [orE (!(a.dv dev).gone) 14]) = 0 then a.upd dev f else a
def AR.fellE (a : AR) (dev : Int) (rs : List Int) : Int := firstE (rs ++ [orE (!(a.dv dev).gone) 14])
def AR.lose (a : AR) (dev : Int) : AR := a.fell dev [orE (a.inD dev) 5] fLose
def AR.loseE (a : AR) (dev : Int) : Int := a.fellE dev [orE (a.inD dev) 5]
def AR.stray (a : AR) (dev pl : Int) : AR := a.fell dev [orE (a.inS dev pl) 5] (fStray pl)
def AR.strayE (a : AR) (dev pl : Int) : Int := a.fellE dev [orE (a.inS dev pl) 5]
def AR.fails (a : AR) (dev n : Int) : AR := a.fell dev [orE (a.inD dev) 5, orE (decide (0 ≤ n)) 2] (fFail n)
def AR.failsE (a : AR) (dev n : Int) : Int := a.fellE dev [orE (a.inD dev) 5, orE (decide (0 ≤ n)) 2]
theorem upd_upd (a : AR) (dev : Int) (f g : DV → DV) : (a.upd dev f).upd dev g = a.upd dev fun d => g (f d) := by
  unfold AR.upd
  congr 1
  apply List.ext_getElem?
  intro j
  rw [modify_get, modify_get, modify_get]
  split
  · cases a.devs[j]? <;> rfl
  · rfl
theorem upd_frame {w w' : World} {M : List Nat} {L1 : List HA} {ga : Nat} {x : GA} {a : AR} {dev : Int} {f : DV → DV} (hf : ∀ d, (f d).g = d.g ∧ (f d).firm = d.firm) {fn : Nat} {args : Array Value} (h : St w M w' (L1 ++ arP ga x a))
    (hc : (∀ (g : Nat) (T : TypeId) (cs : List Value), HA.blk g T cs ∈ L1 → g ∉ [x.gd]) → St w' [x.gd] w' [.blk x.gd 89 (devC a ++ x.rest)] → Calls Tryz.prog fn args w' fun e w'' => e = .returned (.tuple #[]) ∧ St w' [x.gd] w'' [.blk x.gd 89 (devC (a.upd dev f) ++ x.rest)]) :
    Calls Tryz.prog fn args w' fun e w'' => e = .returned (.tuple #[]) ∧ St w M w'' (L1 ++ arP ga x (a.upd dev f)) := by
  have hgd : HA.blk x.gd 89 (devC a ++ x.rest) ∈ L1 ++ arP ga x a := by simp [arP]
  have h1 : St w' [x.gd] w' [.blk x.gd 89 (devC a ++ x.rest)] := St.one _ _ _ _ (h.all _ hgd)
  have hap := h.apart
  unfold Apart at hap
  rw [List.pairwise_append] at hap
  refine (hc (fun g T cs hm hq => ?_) h1).mono ?_
  · simp only [List.mem_singleton] at hq
    subst hq
    exact hap.2.2 _ hm (.blk x.gd 89 (devC a ++ x.rest)) (by simp [arP]) x.gd rfl rfl
  · rintro _ w'' ⟨rfl, h4⟩
    refine ⟨rfl, ?_⟩
    have h2 : St w M w' ((L1 ++ [HA.blk ga 109 (arrC x a)]) ++ .blk x.gd 89 (devC a ++ x.rest) :: .row x.lv 149 258 a.loose.length (looC a) :: a.devs.map (fun d => .blk d.g 144 (secsV d.firm))) := by
      rw [List.append_assoc]
      exact h
    have := St.call1 _ h2 h4
    rw [arP_upd ga x a dev hf]
    rw [List.nil_append, List.append_assoc] at this
    exact this
theorem lose1_any {w : World} {x : GA} {a : AR} {k : Nat} (hS : St w [x.gd] w [.blk x.gd 89 (devC a ++ x.rest)]) (hin : a.inD (k : Int) = true) :
    Calls Tryz.prog 105 #[.pointer (some ⟨x.gd, k * 5, none⟩)] w fun e w' => e = .returned (.tuple #[]) ∧ St w [x.gd] w' [.blk x.gd 89 (devC (a.upd (k : Int) fun d => { d with lo := true }) ++ x.rest)] := by
  have HC := hid (devC_get (rest := x.rest) hin (i := 2) (show (a.dv (k : Int)).cells[2]? = some (.int .u8 (b2i (a.dv (k : Int)).lo 1 + b2i (a.dv (k : Int)).st 2)) from rfl) (by decide))
  have HPUT := hid (devC_put (rest := x.rest) (f := fun d => { d with lo := true }) (v := .int .u8 (b2i true 1 + b2i (a.dv (k : Int)).st 2)) hin (i := 2) (by decide) rfl)
  clear hin
  go_enter Tryz.func105, Tryz.ntmps105
  go_wp2_with (first | go_big_skip | go_big_guard | (go_at_call 106; refine (set1_any (a.dv (k : Int)).lo (a.dv (k : Int)).st (off := k * 5 + 2) hS HC.out).mono ?_; rintro _ w3 ⟨rfl, h4⟩; have hs3 := h4; clear h4 hS))
  go_end0
  refine ⟨rfl, ?_⟩
  rw [← HPUT.out]
  exact hs3
theorem stray1_any {w : World} {x : GA} {a : AR} {k g5 : Nat} {pl : Int} (hS : St w [x.gd] w [.blk x.gd 89 (devC a ++ x.rest)]) (hb : w.cell? ⟨g5, 0, none⟩ = some (.int .i64 pl)) (hm : g5 ∉ [x.gd]) (hin : a.inD (k : Int) = true) :
    Calls Tryz.prog 107 #[.pointer (some ⟨x.gd, k * 5, none⟩), .pointer (some ⟨g5, 0, none⟩)] w fun e w' => e = .returned (.tuple #[]) ∧ St w [x.gd] w' [.blk x.gd 89 (devC (a.upd (k : Int) fun d => { d with st := true, to := pl }) ++ x.rest)] := by
  have HC := hid (devC_get (rest := x.rest) hin (i := 2) (show (a.dv (k : Int)).cells[2]? = some (.int .u8 (b2i (a.dv (k : Int)).lo 1 + b2i (a.dv (k : Int)).st 2)) from rfl) (by decide))
  have HPUT := hid (devC_put (rest := x.rest) (f := fun d => { d with st := true }) (v := .int .u8 (b2i (a.dv (k : Int)).lo 1 + b2i true 2)) hin (i := 2) (by decide) rfl)
  have HPU2 := hid (devC_put (a := a.upd (k : Int) fun d => { d with st := true }) (rest := x.rest) (f := fun d => { d with to := pl }) (v := .int .i64 pl) (dev := (k : Int)) (by rw [upd_inD]; exact hin) (i := 3) (by decide) rfl)
  rw [upd_upd] at HPU2
  have HB := hid hb
  have HM := hid hm
  have HL := hid (List.getElem?_eq_some_iff.1 (devC_get (a := a.upd (k : Int) fun d => { d with st := true }) (dev := (k : Int)) (rest := x.rest) (by rw [upd_inD]; exact hin) (i := 3) rfl (by decide))).1
  replace HL : Hid (k * 5 + 3 + 1 ≤ (devC (a.upd (k : Int) fun d => { d with st := true }) ++ x.rest).length) := HL
  clear hin hb hm
  go_enter Tryz.func107, Tryz.ntmps107
  go_wp2_with (first | go_big_skip | go_big_guard | (go_at_call 106; refine (set2_any (a.dv (k : Int)).lo (a.dv (k : Int)).st (off := k * 5 + 2) hS HC.out).mono ?_; rw [show k * 5 = (k : Int).toNat * 5 from rfl, HPUT.out]; rintro _ w3 ⟨rfl, h4⟩; have hs3 := h4; clear h4 hS) | (refine wl_loadE rfl rfl rfl ?_; refine ⟨_, Loads.oldM hs3 HB.out HM.out, ?_⟩) | (refine wl_store [] hs3 rfl rfl rfl (v := .int _ _) rfl rfl rfl HL.out ?_; intro w4 hs4; clear hs3))
  go_end0
  refine ⟨rfl, ?_⟩
  rw [← HPU2.out]
  exact hs4
theorem fail2_any {w : World} {x : GA} {a : AR} {k g5 : Nat} {n : Int} (hS : St w [x.gd] w [.blk x.gd 89 (devC a ++ x.rest)]) (hb : w.cell? ⟨g5, 0, none⟩ = some (.int .i64 n)) (hm : g5 ∉ [x.gd]) (hin : a.inD (k : Int) = true) :
    Calls Tryz.prog 109 #[.pointer (some ⟨x.gd, k * 5, none⟩), .pointer (some ⟨g5, 0, none⟩)] w fun e w' => e = .returned (.tuple #[]) ∧ St w [x.gd] w' [.blk x.gd 89 (devC (a.upd (k : Int) fun d => { d with fail := n }) ++ x.rest)] := by
  have HPU2 := hid (devC_put (rest := x.rest) (f := fun d => { d with fail := n }) (v := .int .i64 n) hin (i := 4) (by decide) rfl)
  have HB := hid hb
  have HM := hid hm
  have HL := hid (List.getElem?_eq_some_iff.1 (devC_get (rest := x.rest) hin (i := 4) rfl (by decide))).1
  replace HL : Hid (k * 5 + 4 + 1 ≤ (devC a ++ x.rest).length) := HL
  clear hin hb hm
  go_enter Tryz.func109, Tryz.ntmps109
  go_wp2_with (first | go_big_skip | go_big_guard | (refine wl_loadE rfl rfl rfl ?_; refine ⟨_, Loads.oldM hS HB.out HM.out, ?_⟩) | (refine wl_store [] hS rfl rfl rfl (v := .int _ _) rfl rfl rfl HL.out ?_; intro w4 hs4; clear hS))
  go_end0
  refine ⟨rfl, ?_⟩
  rw [← HPU2.out]
  exact hs4
theorem befalls_any {w : World} {M : List Nat} {Lb : List HA} {ga : Nat} {x : GA} {a : AR} (hS : St w M w (Lb ++ arP ga x a)) (ok : a.Ok) (dev : Int) (fn : Nat) (cap : List Value) (v : Value) (m : Nat) (ws : List Value) (rs : List Int) (f : DV → DV)
    (hfn : ∀ (a : Array Value) (w : World), (callFunc fn a).run Tryz.prog w = .ok (.enter fn a) w)
    (hr : ∀ (X : List HA) (w' : World), St w M w' (X ++ (Lb ++ arP ga x a)) → Rd w' v 1 m ws) (hw : ws.length = m) (hrs : rs.length = m) (hm : m ≤ 10) (h1c : ws.all (·.oneCell') = true)
    (hp : ∀ (X : List HA) (j : Nat) (f : Value) (e : Int), ws[j]? = some f → rs[j]? = some e → (∀ i < j, rs.getD i 0 = 0) → Probe f e (fun w' => St w M w' (X ++ (Lb ++ arP ga x a))) (fun w' => St w M w' (X ++ (Lb ++ arP ga x a))))
    (hin : firstE rs = 0 → a.inD dev = true) (hE : ∀ e ∈ rs, e = 0 ∨ isE e) (hf : ∀ d, (f d).g = d.g ∧ (f d).firm = d.firm)
    (hD : firstE rs = 0 → (a.dv dev).gone = false → ∀ (X : List HA) (w' : World), (∀ (g : Nat) (T : TypeId) (cs : List Value), HA.blk g T cs ∈ Lb → w'.heap[g]? = some (.cells cs.toArray T (0, 0)) ∧ g ∉ [x.gd]) → St w' [x.gd] w' [.blk x.gd 89 (devC a ++ x.rest)] →
      Calls Tryz.prog fn (List.toArray (.pointer (some ⟨x.gd, dev.toNat * 5, none⟩) :: cap)) w' fun e w'' => e = .returned (.tuple #[]) ∧ St w' [x.gd] w'' [.blk x.gd 89 (devC (a.upd dev f) ++ x.rest)]) :
    Calls Tryz.prog 37 #[.pointer (some ⟨ga, 0, none⟩), .int .i64 dev, .func (.func fn) #[] (List.toArray cap), v] w fun e w' => e = .returned (.int .i64 (a.fellE dev rs)) ∧ ∃ X, St w M w' (X ++ (Lb ++ arP ga x (a.fell dev rs f))) := by
  have hD' : firstE rs = 0 → (a.dv dev).gone = false → ∀ (X : List HA) (w' : World), St w M w' (X ++ (Lb ++ arP ga x a)) → Calls Tryz.prog fn (List.toArray (.pointer (some ⟨x.gd, dev.toNat * 5, none⟩) :: cap)) w' fun e w'' => e = .returned (.tuple #[]) ∧ St w M w'' (X ++ (Lb ++ arP ga x (a.upd dev f))) := by
    intro h1 h2 X w' h
    rw [← List.append_assoc] at h
    refine (upd_frame hf h fun hne h3 => hD h1 h2 X w' (fun g T cs hm => ⟨h.all (.blk g T cs) (List.mem_append_left _ (List.mem_append_right _ hm)), hne g T cs (List.mem_append_right _ hm)⟩) h3).mono ?_
    rintro _ w'' ⟨rfl, h4⟩
    rw [List.append_assoc] at h4
    exact ⟨rfl, h4⟩
  unfold AR.fellE AR.fell
  rw [firstE_snoc]
  by_cases h1 : firstE rs = 0
  · rw [if_pos h1]
    cases h2 : (a.dv dev).gone
    · exact befalls_fine hS ok dev fn cap v m ws rs hfn hr hw hrs hm h1c hp hin hE hD' h1 h2
    · rw [if_neg (by decide)]
      exact befalls_gone hS ok dev fn cap v m ws rs hfn hr hw hrs hm h1c hp hin hE hD' h1 h2
  · rw [if_neg h1, if_neg h1]
    exact befalls_bad hS ok dev fn cap v m ws rs hfn hr hw hrs hm h1c hp hin hE hD' h1
theorem cell_blk {w : World} {g : Nat} {T : TypeId} {v : Value} (h : w.heap[g]? = some (.cells (List.toArray [v]) T (0, 0))) : w.cell? ⟨g, 0, none⟩ = some v := St.cell (St.one w g T [v] h) (off := 0) (.head _) rfl
theorem loseM_any {w : World} {ga : Nat} {x : GA} {a : AR} (hS : St w (arF ga x a) w (arP ga x a)) (ok : a.Ok) (dev : Int) :
    Calls Tryz.prog 55 #[.pointer (some ⟨ga, 0, none⟩), .int .i64 dev] w fun e w' => e = .returned (.int .i64 (a.loseE dev)) ∧ St w (arF ga x a) w' (arP ga x (a.lose dev)) := by
  have hst1 := hS
  have OK := hid ok
  have hmf := rmf
  clear hS ok
  go_enter Tryz.func55, Tryz.ntmps55
  go_wp2_with (first | go_big_skip | go_big_guard | (go_at_call 40; refine (isDevice_any ga dev _).mono ?_; rintro _ w2 ⟨g0, g1, rfl, h4⟩; have hst2 := St.call hst1 h4; clear h4 hst1) | (apply wl_bsX ([cloV 93 [ptrV g0, ptrV g1]]) ([cloV 93 [ptrV g0, ptrV g1]]) hst2; rfl; rfl; exact rfl; exact rfl; infer_instance; infer_instance; rfl; rfl; rfl; intro gs w3 hst3; clear hst2) | (go_at_call 37; have hQ : St w3 (([HA.blk gs 92 [cloV 93 [ptrV g0, ptrV g1]], .blk g1 3 [.int .i64 dev], .blk g0 23 [.pointer (some ⟨ga, 0, none⟩)]] ++ arP ga x a).filterMap HA.foot) w3 ([HA.blk gs 92 [cloV 93 [ptrV g0, ptrV g1]], .blk g1 3 [.int .i64 dev], .blk g0 23 [.pointer (some ⟨ga, 0, none⟩)]] ++ arP ga x a) := St.selfF hst3; refine (befalls_any hQ OK.out dev 105 [] (.slice (some ⟨gs, 0, none⟩) 1 1) 1 [cloV 93 [ptrV g0, ptrV g1]] [orE (a.inD dev) 5] (fLose) (fun _ _ => rfl) (fun X w' h => Rd.blk h (List.mem_append_right _ (.head _)) (Nat.le_refl _) (by decide) rfl rfl) rfl rfl (by decide) rfl (fun X j f e hf he _ => (match j, hf, he with | 0, hf, he => (by cases hf; cases he; exact probe_isDevice (fun _ h => ArrAt.of h (fun p hp => List.mem_append_right _ (List.mem_append_right _ hp)) OK.out.d0) keeps_st (fun _ h => St.cell h (off := 0) (List.mem_append_right _ (.tail _ (.tail _ (.head _)))) rfl) (fun _ h => St.cell h (off := 0) (List.mem_append_right _ (.tail _ (.head _))) rfl)) | j + 1, hf, _ => (by simp at hf))) (fun h => orE_zero (by decide) (firstE_all h _ (.head _))) (fun e he => (by simp only [List.mem_cons, List.not_mem_nil, or_false] at he; rcases he with rfl; exact orE_isE _ _ (by unfold isE; decide))) (fun d => ⟨rfl, rfl⟩) (fun h1 _ X w' hb h9 => (by have hin : a.inD dev = true := (fun (h : firstE [orE (a.inD dev) 5] = 0) => orE_zero (by decide) (firstE_all h _ (.head _))) h1; obtain ⟨k, rfl⟩ : ∃ k : Nat, dev = k := ⟨dev.toNat, by have := (inD_dev hin).1; omega⟩; exact lose1_any h9 hin))).mono ?_; rintro _ w4 ⟨rfl, X, h4⟩; have hst4 := St.thenF hst3 h4; clear h4 hst3 hQ))
  go_ret
  exact ⟨rfl, St.sub hst4 (.trans (List.sublist_append_right _ _) (List.sublist_append_right _ _))⟩
theorem strayM_any {w : World} {ga : Nat} {x : GA} {a : AR} (hS : St w (arF ga x a) w (arP ga x a)) (ok : a.Ok) (dev : Int) (pl : Int) :
    Calls Tryz.prog 56 #[.pointer (some ⟨ga, 0, none⟩), .int .i64 dev, .int .i64 pl] w fun e w' => e = .returned (.int .i64 (a.strayE dev pl)) ∧ St w (arF ga x a) w' (arP ga x (a.stray dev pl)) := by
  have hst0 := hS
  have OK := hid ok
  have hmf := rmf
  clear hS ok
  go_enter Tryz.func56, Tryz.ntmps56
  go_wp2_with (first | go_big_skip | go_big_guard | (refine wl_box hst0 rfl rfl rfl ?_; intro g5 w1 hst1; clear hst0) | (refine wl_loadE rfl rfl rfl ?_; first | refine ⟨_, Loads.at [] hst1 rfl, ?_⟩) | (go_at_call 87; refine (isSector_any ga dev pl _).mono ?_; rintro _ w2 ⟨g0, g1, g2, rfl, h4⟩; have hst2 := St.call hst1 h4; clear h4 hst1) | (apply wl_bsX ([cloV 138 [ptrV g0, ptrV g1, ptrV g2]]) ([cloV 138 [ptrV g0, ptrV g1, ptrV g2]]) hst2; rfl; rfl; exact rfl; exact rfl; infer_instance; infer_instance; rfl; rfl; rfl; intro gs w3 hst3; clear hst2) | (go_at_call 37; have hQ : St w3 (([HA.blk gs 92 [cloV 138 [ptrV g0, ptrV g1, ptrV g2]], .blk g2 3 [.int .i64 pl], .blk g1 3 [.int .i64 dev], .blk g0 23 [.pointer (some ⟨ga, 0, none⟩)], .blk g5 3 [.int .i64 pl]] ++ arP ga x a).filterMap HA.foot) w3 ([HA.blk gs 92 [cloV 138 [ptrV g0, ptrV g1, ptrV g2]], .blk g2 3 [.int .i64 pl], .blk g1 3 [.int .i64 dev], .blk g0 23 [.pointer (some ⟨ga, 0, none⟩)], .blk g5 3 [.int .i64 pl]] ++ arP ga x a) := St.selfF hst3; refine (befalls_any hQ OK.out dev 107 [ptrV g5] (.slice (some ⟨gs, 0, none⟩) 1 1) 1 [cloV 138 [ptrV g0, ptrV g1, ptrV g2]] [orE (a.inS dev pl) 5] (fStray pl) (fun _ _ => rfl) (fun X w' h => Rd.blk h (List.mem_append_right _ (.head _)) (Nat.le_refl _) (by decide) rfl rfl) rfl rfl (by decide) rfl (fun X j f e hf he _ => (match j, hf, he with | 0, hf, he => (by cases hf; cases he; exact probe_isSector (fun _ h => ArrAt.of h (fun p hp => List.mem_append_right _ (List.mem_append_right _ hp)) OK.out.d0) keeps_st (fun _ h => St.cell h (off := 0) (List.mem_append_right _ (.tail _ (.tail _ (.tail _ (.head _))))) rfl) (fun _ h => St.cell h (off := 0) (List.mem_append_right _ (.tail _ (.tail _ (.head _)))) rfl) (fun _ h => St.cell h (off := 0) (List.mem_append_right _ (.tail _ (.head _))) rfl)) | j + 1, hf, _ => (by simp at hf))) (fun h => inS_inD (orE_zero (by decide) (firstE_all h _ (.head _)))) (fun e he => (by simp only [List.mem_cons, List.not_mem_nil, or_false] at he; rcases he with rfl; exact orE_isE _ _ (by unfold isE; decide))) (fun d => ⟨rfl, rfl⟩) (fun h1 _ X w' hb h9 => (by have hin : a.inD dev = true := (fun (h : firstE [orE (a.inS dev pl) 5] = 0) => inS_inD (orE_zero (by decide) (firstE_all h _ (.head _)))) h1; obtain ⟨k, rfl⟩ : ∃ k : Nat, dev = k := ⟨dev.toNat, by have := (inD_dev hin).1; omega⟩; exact stray1_any h9 (cell_blk (hb g5 _ _ (.tail _ (.tail _ (.tail _ (.tail _ (.head _)))))).1) (hb g5 _ _ (.tail _ (.tail _ (.tail _ (.tail _ (.head _)))))).2 hin))).mono ?_; rintro _ w4 ⟨rfl, X, h4⟩; have hst4 := St.thenF hst3 h4; clear h4 hst3 hQ))
  go_ret
  exact ⟨rfl, St.sub hst4 (.trans (List.sublist_append_right _ _) (List.sublist_append_right _ _))⟩
theorem failsM_any {w : World} {ga : Nat} {x : GA} {a : AR} (hS : St w (arF ga x a) w (arP ga x a)) (ok : a.Ok) (dev : Int) (n : Int) :
    Calls Tryz.prog 57 #[.pointer (some ⟨ga, 0, none⟩), .int .i64 dev, .int .i64 n] w fun e w' => e = .returned (.int .i64 (a.failsE dev n)) ∧ St w (arF ga x a) w' (arP ga x (a.fails dev n)) := by
  have hst0 := hS
  have OK := hid ok
  have hmf := rmf
  clear hS ok
  go_enter Tryz.func57, Tryz.ntmps57
  go_wp2_with (first | go_big_skip | go_big_guard | (refine wl_box hst0 rfl rfl rfl ?_; intro g5 w1 hst1; clear hst0) | (go_at_call 40; refine (isDevice_any ga dev _).mono ?_; rintro _ w2 ⟨g0, g1, rfl, h4⟩; have hst2 := St.call hst1 h4; clear h4 hst1) | (apply wl_bsX ([cloV 93 [ptrV g0, ptrV g1], cloV 108 [ptrV g5]]) ([cloV 93 [ptrV g0, ptrV g1], cloV 108 [ptrV g5]]) hst2; rfl; rfl; exact rfl; exact rfl; infer_instance; infer_instance; rfl; rfl; rfl; intro gs w3 hst3; clear hst2) | (go_at_call 37; have hQ : St w3 (([HA.blk gs 92 [cloV 93 [ptrV g0, ptrV g1], cloV 108 [ptrV g5]], .blk g1 3 [.int .i64 dev], .blk g0 23 [.pointer (some ⟨ga, 0, none⟩)], .blk g5 3 [.int .i64 n]] ++ arP ga x a).filterMap HA.foot) w3 ([HA.blk gs 92 [cloV 93 [ptrV g0, ptrV g1], cloV 108 [ptrV g5]], .blk g1 3 [.int .i64 dev], .blk g0 23 [.pointer (some ⟨ga, 0, none⟩)], .blk g5 3 [.int .i64 n]] ++ arP ga x a) := St.selfF hst3; refine (befalls_any hQ OK.out dev 109 [ptrV g5] (.slice (some ⟨gs, 0, none⟩) 2 2) 2 [cloV 93 [ptrV g0, ptrV g1], cloV 108 [ptrV g5]] [orE (a.inD dev) 5, orE (decide (0 ≤ n)) 2] (fFail n) (fun _ _ => rfl) (fun X w' h => Rd.blk h (List.mem_append_right _ (.head _)) (Nat.le_refl _) (by decide) rfl rfl) rfl rfl (by decide) rfl (fun X j f e hf he _ => (match j, hf, he with | 0, hf, he => (by cases hf; cases he; exact probe_isDevice (fun _ h => ArrAt.of h (fun p hp => List.mem_append_right _ (List.mem_append_right _ hp)) OK.out.d0) keeps_st (fun _ h => St.cell h (off := 0) (List.mem_append_right _ (.tail _ (.tail _ (.head _)))) rfl) (fun _ h => St.cell h (off := 0) (List.mem_append_right _ (.tail _ (.head _))) rfl)) | 1, hf, he => (by cases hf; cases he; exact probe_clo (fun _ _ => rfl) fun w h => (fail1_any (St.cell h (off := 0) (List.mem_append_right _ (.tail _ (.tail _ (.tail _ (.head _))))) rfl)).mono fun _ _ ⟨e, h4⟩ => ⟨e, keeps_st _ _ h h4⟩) | j + 2, hf, _ => (by simp at hf))) (fun h => orE_zero (by decide) (firstE_all h _ (.head _))) (fun e he => (by simp only [List.mem_cons, List.not_mem_nil, or_false] at he; rcases he with rfl | rfl <;> exact orE_isE _ _ (by unfold isE; decide))) (fun d => ⟨rfl, rfl⟩) (fun h1 _ X w' hb h9 => (by have hin : a.inD dev = true := (fun (h : firstE [orE (a.inD dev) 5, orE (decide (0 ≤ n)) 2] = 0) => orE_zero (by decide) (firstE_all h _ (.head _))) h1; obtain ⟨k, rfl⟩ : ∃ k : Nat, dev = k := ⟨dev.toNat, by have := (inD_dev hin).1; omega⟩; exact fail2_any h9 (cell_blk (hb g5 _ _ (.tail _ (.tail _ (.tail _ (.head _))))).1) (hb g5 _ _ (.tail _ (.tail _ (.tail _ (.head _))))).2 hin))).mono ?_; rintro _ w4 ⟨rfl, X, h4⟩; have hst4 := St.thenF hst3 h4; clear h4 hst3 hQ))
  go_ret
  exact ⟨rfl, St.sub hst4 (.trans (List.sublist_append_right _ _) (List.sublist_append_right _ _))⟩
end Go.Proofs.YtmdfbdfijnmhkaaGreat
namespace Go.Proofs.YtmdfbdfijnmhkaaGreat
set_option linter.unusedVariables false
set_option linter.unusedSimpArgs false
open Go.RowKit Hp
attribute [local irreducible] Go.Calls Go.wpList
set_option maxRecDepth 100000
set_option maxHeartbeats 4000000
theorem madeCells_rep (v : Value) (sz n : Nat) (hs : 0 < sz) : madeCells (List.replicate sz v).toArray n = (List.replicate n v).toArray := by
  apply Array.ext
  · simp [madeCells]
  · intro i h1 h2
    have hi : i % sz < sz := Nat.mod_lt _ hs
    simp [madeCells, hi]
theorem wl_makeR {ops : Array Oper} {rest : List Oper} {o : Oper} {a : Act} {w0 w : World} {M : List Nat} {L : List HA} {Q : Exit → Act → World → Prop} {T e : TypeId} {x y : Operand} {bytes sz : Nat} {z : Value} {u v : Int} (l c : Nat) (hst : St w0 M w L) (hop : o.op = .makeSlice T x y)
    (hw : Region.wanted o (yielded ops a.tmps) = true) (hx : a.eval x = .int .i64 u) (hy : a.eval y = .int .i64 v) (ht : TySl Tryz.prog T e) (he : TyE Tryz.prog e sz bytes) (hz : TyZ Tryz.prog e (List.replicate sz z)) (hsz : 0 < sz) (hu : u = (l : Int)) (hv : v = (c : Int)) (hlc : l ≤ c) (hb : c * bytes ≤ 281474976710656 ∧ c ≤ 9223372036854775807)
    (h : ∀ g w', St w0 M w' (.blk g e (List.replicate (c * sz) z) :: L) → wpList Tryz.prog ops Q rest (a.put o.dst (.slice (some ⟨g, 0, none⟩) l c)) w') : wpList Tryz.prog ops Q (o :: rest) a w := by
  subst hu hv
  obtain ⟨i, zz, hi, hzz, hs, hbs, hzs⟩ := tyE_spec he.out
  have hzl : zz.cells = (List.replicate sz z).toArray := by
    have := hz.out
    unfold tyZ at this
    simp [hi, hzz] at this
    exact Array.toList_inj.1 (by simpa using this)
  have hm := run_make (P := Tryz.prog) w T e i zz ht.out hi hzz .i64 .i64 l c (by omega) (by omega) (by rw [hbs, ← Int.natCast_mul, Nat.mul_comm]; have h3 := hb.1; revert h3; generalize c * bytes = q; intro h3; omega) (by have := hb.2; omega)
  rw [hzl, hs, madeCells_rep _ _ _ hsz] at hm
  simp only [Int.toNat_natCast] at hm
  refine wl_run hw ?_ (h _ _ (hst.alloc e (List.replicate (c * sz) z)))
  unfold execOp
  simp only [hop, hx, hy, Sem.run_bind, hm, Sem.run_pure, Result.andThen_ok]
theorem row_open {w0 w : World} {M : List Nat} {L1 L2 : List HA} {v : Value} {T : TypeId} {sz n : Nat} {xs : List Value} (h : St w0 M w (L1 ++ .row v T sz n xs :: L2)) (hn : 0 < n) : ∃ g c rest, v = .slice (some ⟨g, 0, none⟩) n c ∧ St w0 M w (L1 ++ .blk g T (xs ++ rest) :: L2) := by
  obtain ⟨hl, h2⟩ := h.owns (v := v) (T := T) (sz := sz) (n := n) (xs := xs) (by simp)
  rcases h2 with ⟨_, hz⟩ | ⟨g, cap, cur, rfl, _, hh, _, _, _, hp⟩
  · omega
  · refine ⟨g, cap, cur.toList.drop (n * sz), rfl, h.rep (y := .blk g T (xs ++ cur.toList.drop (n * sz))) rfl fun _ => ?_⟩
    show w.heap[g]? = _
    rw [hh, ← hp, List.take_append_drop]
def blank (s : Nat) (g : Nat) : DV := ⟨g, List.replicate s (List.replicate 256 0), false, false, false, 0, 0⟩
def newA (s : Nat) (gs : List Nat) : AR := ⟨gs.map (blank s), [], -1, false, 0⟩
theorem bytesV_zero (n : Nat) : bytesV (List.replicate n 0) = List.replicate n (.int .u8 0) := by simp [bytesV]
theorem secsV_zero (s : Nat) : secsV (List.replicate s (List.replicate 256 0)) = List.replicate (s * 256) (.int .u8 0) := by
  induction s with
  | zero => rfl
  | succ s ih =>
    unfold secsV at ih ⊢
    rw [List.replicate_succ, List.flatMap_cons, ih, bytesV_zero, List.replicate_append_replicate, Nat.add_mul, Nat.one_mul, Nat.add_comm]
theorem blank_firm (s g : Nat) : (blank s g).firm.length = s := by simp [blank]
theorem newA_ok {s : Nat} {gs : List Nat} (hd : 1 ≤ gs.length ∧ gs.length ≤ 8) (hs : s ≤ 4096) : (newA s gs).Ok := by
  have hsec : (newA s gs).secs = s := by
    unfold AR.secs newA
    match gs, hd.1 with
    | g :: gs, _ => simp [blank]
  refine ⟨?_, ?_, by omega, ?_, ?_, ?_⟩
  · intro h
    have : (newA s gs).devs.length = 0 := by rw [h]; rfl
    simp [newA] at this
    rw [this] at hd
    simp at hd
  · simp [newA]; omega
  · intro d hd2
    simp only [newA, List.mem_map] at hd2
    obtain ⟨g, _, rfl⟩ := hd2
    rw [hsec]
    refine ⟨blank_firm s g, fun t ht => ?_, fun h => by simp [blank] at h, by simp [blank], by simp [blank]⟩
    rw [(List.mem_replicate.1 ht).2, List.length_replicate]
  · intro w hw
    simp [newA] at hw
  · simp [newA]
section
theorem newM_any (d s : Nat) (hd : 2 ≤ d ∧ d ≤ 8) (hs : 8 ≤ s ∧ s ≤ 4096) (w : World) :
    Calls Tryz.prog 28 #[.int .i64 (d : Int), .int .i64 (s : Int)] w fun e w' => ∃ ga x gs, e = .returned (.tuple #[.pointer (some ⟨ga, 0, none⟩), .int .i64 0]) ∧ gs.length = d ∧ St w [] w' (arP ga x (newA s gs)) := by
  have hst0 := St.refl w
  have d1 : decide ((d : Int) < 2) = false := decide_eq_false (by omega)
  have d2 : decide ((d : Int) > 8) = false := decide_eq_false (by omega)
  have d2' : decide ((8 : Int) < (d : Int)) = false := d2
  have d3 : decide ((s : Int) < 8) = false := decide_eq_false (by omega)
  have d4 : decide ((s : Int) > 4096) = false := decide_eq_false (by omega)
  have d4' : decide ((4096 : Int) < (s : Int)) = false := d4
  have e1 : ¬ d < 2 := by omega
  have e2 : ¬ 8 < d := by omega
  have e3 : ¬ s < 8 := by omega
  have e4 : ¬ 4096 < s := by omega
  go_enter Tryz.func28, Tryz.ntmps28
  go_wp2_with (first | go_big_skip | go_big_guard | (refine wl_buildX (cs := [.slice none 0 0, .slice none 0 0, .int .i64 (-1), .bool false, .int .i64 0]) [(2, _)] rfl rfl (by exact rfl) (by kernel_rfl) ?_) | (refine wl_boxA hst0 rfl rfl rfl ?_; intro ga _ hst1; clear hst0))
  go_loopw [24] (fun i wr => ∃ (j : Nat) (gs : List Nat) (dv : Value), j ≤ d ∧ i = .int .i64 (j : Int) ∧ gs.length = j ∧ St w [] wr (.blk ga 109 [dv, .slice none 0 0, .int .i64 (-1), .bool false, .int .i64 0] :: .row dv 89 5 j ((gs.map (blank s)).flatMap DV.cells) :: (gs.map (blank s)).map blkD)) (fun i _ => d - (intOf i).toNat)
  case atStart =>
    refine ⟨0, [], .slice none 0 0, Nat.zero_le _, rfl, rfl, ?_⟩
    exact St.perm (St.nilR 89 5 hst1) (List.Perm.swap _ _ _)
  case round =>
    clear hst1
    obtain ⟨j, gs, dv, hj, rfl, hgl, hst⟩ := hrel
    by_cases hlj : j < d
    · have d5 : decide ((j : Int) < (d : Int)) = true := decide_eq_true (by omega)
      have z1 : IntKind.i64.wrap ((j : Int) + 1) = (j : Int) + 1 := IntWalk.i64_in _ (by omega)
      have HGL := hid hgl
      obtain ⟨XS, hXS⟩ : ∃ XS, XS = (gs.map (blank s)).flatMap DV.cells := ⟨_, rfl⟩
      obtain ⟨FZ, hFS⟩ : ∃ FZ, FZ = (gs.map (blank s)).map blkD := ⟨_, rfl⟩
      have HXS := hid hXS
      have HFS := hid hFS
      rw [← hXS, ← hFS] at hst
      clear hgl hXS hFS
      go_wp2_with (first | go_big_skip | go_big_guard | fail)
      have hX := hst.drew
      clear hst
      refine wp_region_held_drew (S := (fun w' => True)) (by kernel_rfl) (by exact trivial) (fun hHeld => ?_)
      refine tkH 0 26 ?_ rfl (by kernel_rfl) (fun _ _ _ h => h) (by rfl) (by assumption) ?_ ?_
      rotate_left
      · intro w hSw; (try dsimp only at hSw); go_simp; try with_reducible rfl
      (try simp only [pmL, pnL, sc0, sc1])
      refine tkH 1 27 ?_ rfl (by kernel_rfl) (fun _ _ _ h => h) (by rfl) (by assumption) ?_ ?_
      rotate_left
      · intro w hSw; (try dsimp only at hSw); go_simp; try with_reducible rfl
      (try simp only [pmL, pnL, sc0, sc1])
      refine tkH 5 31 ?_ rfl (by kernel_rfl) (fun _ _ _ h => h) (by rfl) (by assumption) ?_ ?_
      rotate_left
      · intro w hSw; (try dsimp only at hSw); go_simp; try with_reducible rfl
      (try simp only [pmL, pnL, sc0, sc1])
      refine tkH 2 28 ?_ rfl (by kernel_rfl) (fun _ _ _ h => h) (by rfl) (by assumption) ?_ ?_
      rotate_left
      · intro w hSw; (try dsimp only at hSw); go_simp; try with_reducible rfl
      (try simp only [pmL, pnL, sc0, sc1])
      refine tkH 3 29 ?_ rfl (by kernel_rfl) (fun _ _ _ h => h) (by rfl) (by assumption) ?_ ?_
      rotate_left
      · intro w hSw; (try dsimp only at hSw); go_simp; try with_reducible rfl
      (try simp only [pmL, pnL, sc0, sc1])
      refine wpAnyH_ready (rs := [4, 6]) (by kernel_rfl) (by simp) ?_
      refine (AllReadyH.cons (o := ⟨some 30, _, _, _, _, _⟩) rfl (fun K hK => ?_) (AllReadyH.cons (o := ⟨some 32, _, _, _, _, _⟩) rfl (fun K hK => ?_) AllReadyH.nil))
      · rw [if_pos (by rfl)]
        refine ow_of_wl (ops := #[]) (by rfl) ?_
        refine wl_loadE rfl rfl rfl ?_
        refine ⟨_, Loads.at [] hX rfl, ?_⟩
        refine q0_nil ?_
        refine hK.out _ _ ?_ (fun hHeld => ?_)
        · exact trivial
        clear hK K
        (try simp only [pmL, pnL, sc0, sc1])
        refine wpAnyH_ready (rs := [6]) (by kernel_rfl) (by simp) ?_
        refine (AllReadyH.cons (o := ⟨some 32, _, _, _, _, _⟩) rfl (fun K hK => ?_) AllReadyH.nil)
        rw [if_pos (by rfl)]
        refine ow_of_wl (ops := #[]) (by rfl) ?_
        apply wl_makeR (sz := 256) (z := .int .u8 0) s s hX
        rfl
        rfl
        exact rfl
        exact rfl
        infer_instance
        infer_instance
        infer_instance
        decide
        exact rfl
        exact rfl
        exact Nat.le_refl _
        (refine ⟨by omega, by omega⟩)
        intro gf w3 hM1
        refine q0_nil ?_
        refine hK.out _ _ ?_ (fun hHeld => ?_)
        · exact trivial
        clear hK K
        (try simp only [pmL, pnL, sc0, sc1])
        refine wpAnyH_ready (rs := [7]) (by kernel_rfl) (by simp) ?_
        refine (AllReadyH.cons (o := ⟨some 33, _, _, _, _, _⟩) rfl (fun K hK => ?_) AllReadyH.nil)
        rw [if_pos (by rfl)]
        refine ow_of_wl (ops := #[]) (by rfl) ?_
        refine wl_buildX (cs := [.slice (some ⟨gf, 0, none⟩) s s, .bool false, .int .u8 0, .int .i64 0, .int .i64 0]) [(0, .slice (some ⟨gf, 0, none⟩) s s)] rfl rfl (by exact rfl) (by kernel_rfl) ?_
        refine q0_nil ?_
        refine hK.out _ _ ?_ (fun hHeld => ?_)
        · exact trivial
        clear hK K
        (try simp only [pmL, pnL, sc0, sc1])
        refine wpAnyH_ready (rs := [8]) (by kernel_rfl) (by simp) ?_
        refine (AllReadyH.cons (o := ⟨some 34, _, _, _, _, _⟩) rfl (fun K hK => ?_) AllReadyH.nil)
        rw [if_pos (by rfl)]
        refine ow_of_wl (ops := #[]) (by rfl) ?_
        apply wl_bsX [.agg (List.toArray [.slice (some ⟨gf, 0, none⟩) s s, .bool false, .int .u8 0, .int .i64 0, .int .i64 0])] ([.slice (some ⟨gf, 0, none⟩) s s, .bool false, .int .u8 0, .int .i64 0, .int .i64 0]) hM1
        rfl
        rfl
        exact rfl
        exact rfl
        infer_instance
        infer_instance
        rfl
        rfl
        rfl
        intro gb w4 hM2
        refine q0_nil ?_
        refine hK.out _ _ ?_ (fun hHeld => ?_)
        · exact trivial
        clear hK K
        (try simp only [pmL, pnL, sc0, sc1])
        refine wpAnyH_ready (rs := [9]) (by kernel_rfl) (by simp) ?_
        refine (AllReadyH.cons (o := ⟨some 35, _, _, _, _, _⟩) rfl (fun K hK => ?_) AllReadyH.nil)
        rw [if_pos (by rfl)]
        refine ow_of_wl (ops := #[]) (by rfl) ?_
        apply wl_appX (m := 1) (ys := [.slice (some ⟨gf, 0, none⟩) s s, .bool false, .int .u8 0, .int .i64 0, .int .i64 0]) [_, _, _] hM2
        rfl
        rfl
        exact rfl
        exact rfl
        infer_instance
        infer_instance
        infer_instance
        exact Rd.blk (n := 1) hM2 (.head _) (Nat.le_refl _) (by decide) rfl rfl
        rfl
        (refine ⟨by decide, by unfold maxLen; omega, by omega⟩)
        intro v9 w5 hM3 _
        obtain ⟨ao9, c9, rfl, _, _, _⟩ := row_form hM3 (.tail _ (.tail _ (.tail _ (.head _))))
        refine q0_nil ?_
        refine hK.out _ _ ?_ (fun hHeld => ?_)
        · exact trivial
        clear hK K
        (try simp only [pmL, pnL, sc0, sc1])
        refine tkH 10 36 ?_ rfl (by kernel_rfl) (fun _ _ _ h => h) (by rfl) (by assumption) ?_ ?_
        rotate_left
        · intro w hSw; (try dsimp only at hSw); go_simp; try with_reducible rfl
        (try simp only [pmL, pnL, sc0, sc1])
        refine tkH 11 37 ?_ rfl (by kernel_rfl) (fun _ _ _ h => h) (by rfl) (by assumption) ?_ ?_
        rotate_left
        · intro w hSw; (try dsimp only at hSw); go_simp; try with_reducible rfl
        (try simp only [pmL, pnL, sc0, sc1])
        refine wpAnyH_ready (rs := [12]) (by kernel_rfl) (by simp) ?_
        refine (AllReadyH.cons (o := ⟨none, _, _, _, _, _⟩) rfl (fun K hK => ?_) AllReadyH.nil)
        rw [if_pos (by rfl)]
        refine ow_of_wl (ops := #[]) (by rfl) ?_
        refine wl_store [_, _] hM3 rfl rfl rfl (v := .slice _ _ _) rfl rfl rfl (by show (0 : Nat) + 1 ≤ 5; decide) ?_
        intro w6 hM4
        refine q0_nil ?_
        refine hK.out _ _ ?_ (fun hHeld => ?_)
        · exact trivial
        clear hK K
        (try simp only [pmL, pnL, sc0, sc1])
        refine wpAnyH_done (by kernel_rfl) ?_ _
        clear hHeld
        go_wp2_with (first | go_big_skip | go_big_guard | fail)
        go_roundw
        case rel =>
          refine ⟨j + 1, gs ++ [gf], .slice ao9 (j + 1) c9, by omega, rfl, by rw [List.length_append, HGL.out]; rfl, ?_⟩
          have e1 : ((gs ++ [gf]).map (blank s)).flatMap DV.cells = XS ++ [.slice (some ⟨gf, 0, none⟩) s s, .bool false, .int .u8 0, .int .i64 0, .int .i64 0] := by
            rw [List.map_append, List.flatMap_append, ← HXS.out]
            congr 1
            show (blank s gf).cells ++ [] = _
            rw [List.append_nil]
            unfold DV.cells
            rw [blank_firm]
            rfl
          have e2 : ((gs ++ [gf]).map (blank s)).map blkD = FZ ++ [.blk gf 144 (List.replicate (s * 256) (.int .u8 0))] := by
            rw [List.map_append, List.map_append, ← HFS.out]
            congr 1
            show [blkD (blank s gf)] = _
            unfold blkD
            rw [show (blank s gf).firm = List.replicate s (List.replicate 256 0) from rfl, secsV_zero]
            rfl
          rw [e1, e2]
          have h9 := (St.front (L1 := [_, _, _]) (St.front (L1 := [_, _, _]) (St.front (L1 := [_]) hM4)))
          refine St.perm (St.sub h9 (.cons_cons _ (.cons_cons _ (.cons_cons _ (.cons _ (List.Sublist.refl _)))))) ?_
          exact List.Perm.cons _ (List.Perm.cons _ (List.perm_append_singleton _ _).symm)
        case measure => simp [intOf]; omega
      · rw [if_pos (by rfl)]
        refine ow_of_wl (ops := #[]) (by rfl) ?_
        apply wl_makeR (sz := 256) (z := .int .u8 0) s s hX
        rfl
        rfl
        exact rfl
        exact rfl
        infer_instance
        infer_instance
        infer_instance
        decide
        exact rfl
        exact rfl
        exact Nat.le_refl _
        (refine ⟨by omega, by omega⟩)
        intro gf w3 hM1
        refine q0_nil ?_
        refine hK.out _ _ ?_ (fun hHeld => ?_)
        · exact trivial
        clear hK K
        (try simp only [pmL, pnL, sc0, sc1])
        refine wpAnyH_ready (rs := [4, 7]) (by kernel_rfl) (by simp) ?_
        refine (AllReadyH.cons (o := ⟨some 30, _, _, _, _, _⟩) rfl (fun K hK => ?_) (AllReadyH.cons (o := ⟨some 33, _, _, _, _, _⟩) rfl (fun K hK => ?_) AllReadyH.nil))
        · rw [if_pos (by rfl)]
          refine ow_of_wl (ops := #[]) (by rfl) ?_
          refine wl_loadE rfl rfl rfl ?_
          refine ⟨_, Loads.at [_] hM1 rfl, ?_⟩
          refine q0_nil ?_
          refine hK.out _ _ ?_ (fun hHeld => ?_)
          · exact trivial
          clear hK K
          (try simp only [pmL, pnL, sc0, sc1])
          refine wpAnyH_ready (rs := [7]) (by kernel_rfl) (by simp) ?_
          refine (AllReadyH.cons (o := ⟨some 33, _, _, _, _, _⟩) rfl (fun K hK => ?_) AllReadyH.nil)
          rw [if_pos (by rfl)]
          refine ow_of_wl (ops := #[]) (by rfl) ?_
          refine wl_buildX (cs := [.slice (some ⟨gf, 0, none⟩) s s, .bool false, .int .u8 0, .int .i64 0, .int .i64 0]) [(0, .slice (some ⟨gf, 0, none⟩) s s)] rfl rfl (by exact rfl) (by kernel_rfl) ?_
          refine q0_nil ?_
          refine hK.out _ _ ?_ (fun hHeld => ?_)
          · exact trivial
          clear hK K
          (try simp only [pmL, pnL, sc0, sc1])
          refine wpAnyH_ready (rs := [8]) (by kernel_rfl) (by simp) ?_
          refine (AllReadyH.cons (o := ⟨some 34, _, _, _, _, _⟩) rfl (fun K hK => ?_) AllReadyH.nil)
          rw [if_pos (by rfl)]
          refine ow_of_wl (ops := #[]) (by rfl) ?_
          apply wl_bsX [.agg (List.toArray [.slice (some ⟨gf, 0, none⟩) s s, .bool false, .int .u8 0, .int .i64 0, .int .i64 0])] ([.slice (some ⟨gf, 0, none⟩) s s, .bool false, .int .u8 0, .int .i64 0, .int .i64 0]) hM1
          rfl
          rfl
          exact rfl
          exact rfl
          infer_instance
          infer_instance
          rfl
          rfl
          rfl
          intro gb w4 hM2
          refine q0_nil ?_
          refine hK.out _ _ ?_ (fun hHeld => ?_)
          · exact trivial
          clear hK K
          (try simp only [pmL, pnL, sc0, sc1])
          refine wpAnyH_ready (rs := [9]) (by kernel_rfl) (by simp) ?_
          refine (AllReadyH.cons (o := ⟨some 35, _, _, _, _, _⟩) rfl (fun K hK => ?_) AllReadyH.nil)
          rw [if_pos (by rfl)]
          refine ow_of_wl (ops := #[]) (by rfl) ?_
          apply wl_appX (m := 1) (ys := [.slice (some ⟨gf, 0, none⟩) s s, .bool false, .int .u8 0, .int .i64 0, .int .i64 0]) [_, _, _] hM2
          rfl
          rfl
          exact rfl
          exact rfl
          infer_instance
          infer_instance
          infer_instance
          exact Rd.blk (n := 1) hM2 (.head _) (Nat.le_refl _) (by decide) rfl rfl
          rfl
          (refine ⟨by decide, by unfold maxLen; omega, by omega⟩)
          intro v9 w5 hM3 _
          obtain ⟨ao9, c9, rfl, _, _, _⟩ := row_form hM3 (.tail _ (.tail _ (.tail _ (.head _))))
          refine q0_nil ?_
          refine hK.out _ _ ?_ (fun hHeld => ?_)
          · exact trivial
          clear hK K
          (try simp only [pmL, pnL, sc0, sc1])
          refine tkH 10 36 ?_ rfl (by kernel_rfl) (fun _ _ _ h => h) (by rfl) (by assumption) ?_ ?_
          rotate_left
          · intro w hSw; (try dsimp only at hSw); go_simp; try with_reducible rfl
          (try simp only [pmL, pnL, sc0, sc1])
          refine tkH 11 37 ?_ rfl (by kernel_rfl) (fun _ _ _ h => h) (by rfl) (by assumption) ?_ ?_
          rotate_left
          · intro w hSw; (try dsimp only at hSw); go_simp; try with_reducible rfl
          (try simp only [pmL, pnL, sc0, sc1])
          refine wpAnyH_ready (rs := [12]) (by kernel_rfl) (by simp) ?_
          refine (AllReadyH.cons (o := ⟨none, _, _, _, _, _⟩) rfl (fun K hK => ?_) AllReadyH.nil)
          rw [if_pos (by rfl)]
          refine ow_of_wl (ops := #[]) (by rfl) ?_
          refine wl_store [_, _] hM3 rfl rfl rfl (v := .slice _ _ _) rfl rfl rfl (by show (0 : Nat) + 1 ≤ 5; decide) ?_
          intro w6 hM4
          refine q0_nil ?_
          refine hK.out _ _ ?_ (fun hHeld => ?_)
          · exact trivial
          clear hK K
          (try simp only [pmL, pnL, sc0, sc1])
          refine wpAnyH_done (by kernel_rfl) ?_ _
          clear hHeld
          go_wp2_with (first | go_big_skip | go_big_guard | fail)
          go_roundw
          case rel =>
            refine ⟨j + 1, gs ++ [gf], .slice ao9 (j + 1) c9, by omega, rfl, by rw [List.length_append, HGL.out]; rfl, ?_⟩
            have e1 : ((gs ++ [gf]).map (blank s)).flatMap DV.cells = XS ++ [.slice (some ⟨gf, 0, none⟩) s s, .bool false, .int .u8 0, .int .i64 0, .int .i64 0] := by
              rw [List.map_append, List.flatMap_append, ← HXS.out]
              congr 1
              show (blank s gf).cells ++ [] = _
              rw [List.append_nil]
              unfold DV.cells
              rw [blank_firm]
              rfl
            have e2 : ((gs ++ [gf]).map (blank s)).map blkD = FZ ++ [.blk gf 144 (List.replicate (s * 256) (.int .u8 0))] := by
              rw [List.map_append, List.map_append, ← HFS.out]
              congr 1
              show [blkD (blank s gf)] = _
              unfold blkD
              rw [show (blank s gf).firm = List.replicate s (List.replicate 256 0) from rfl, secsV_zero]
              rfl
            rw [e1, e2]
            have h9 := (St.front (L1 := [_, _, _]) (St.front (L1 := [_, _, _]) (St.front (L1 := [_]) hM4)))
            refine St.perm (St.sub h9 (.cons_cons _ (.cons_cons _ (.cons_cons _ (.cons _ (List.Sublist.refl _)))))) ?_
            exact List.Perm.cons _ (List.Perm.cons _ (List.perm_append_singleton _ _).symm)
          case measure => simp [intOf]; omega
        · rw [if_pos (by rfl)]
          refine ow_of_wl (ops := #[]) (by rfl) ?_
          refine wl_buildX (cs := [.slice (some ⟨gf, 0, none⟩) s s, .bool false, .int .u8 0, .int .i64 0, .int .i64 0]) [(0, .slice (some ⟨gf, 0, none⟩) s s)] rfl rfl (by exact rfl) (by kernel_rfl) ?_
          refine q0_nil ?_
          refine hK.out _ _ ?_ (fun hHeld => ?_)
          · exact trivial
          clear hK K
          (try simp only [pmL, pnL, sc0, sc1])
          refine wpAnyH_ready (rs := [4, 8]) (by kernel_rfl) (by simp) ?_
          refine (AllReadyH.cons (o := ⟨some 30, _, _, _, _, _⟩) rfl (fun K hK => ?_) (AllReadyH.cons (o := ⟨some 34, _, _, _, _, _⟩) rfl (fun K hK => ?_) AllReadyH.nil))
          · rw [if_pos (by rfl)]
            refine ow_of_wl (ops := #[]) (by rfl) ?_
            refine wl_loadE rfl rfl rfl ?_
            refine ⟨_, Loads.at [_] hM1 rfl, ?_⟩
            refine q0_nil ?_
            refine hK.out _ _ ?_ (fun hHeld => ?_)
            · exact trivial
            clear hK K
            (try simp only [pmL, pnL, sc0, sc1])
            refine wpAnyH_ready (rs := [8]) (by kernel_rfl) (by simp) ?_
            refine (AllReadyH.cons (o := ⟨some 34, _, _, _, _, _⟩) rfl (fun K hK => ?_) AllReadyH.nil)
            rw [if_pos (by rfl)]
            refine ow_of_wl (ops := #[]) (by rfl) ?_
            apply wl_bsX [.agg (List.toArray [.slice (some ⟨gf, 0, none⟩) s s, .bool false, .int .u8 0, .int .i64 0, .int .i64 0])] ([.slice (some ⟨gf, 0, none⟩) s s, .bool false, .int .u8 0, .int .i64 0, .int .i64 0]) hM1
            rfl
            rfl
            exact rfl
            exact rfl
            infer_instance
            infer_instance
            rfl
            rfl
            rfl
            intro gb w4 hM2
            refine q0_nil ?_
            refine hK.out _ _ ?_ (fun hHeld => ?_)
            · exact trivial
            clear hK K
            (try simp only [pmL, pnL, sc0, sc1])
            refine wpAnyH_ready (rs := [9]) (by kernel_rfl) (by simp) ?_
            refine (AllReadyH.cons (o := ⟨some 35, _, _, _, _, _⟩) rfl (fun K hK => ?_) AllReadyH.nil)
            rw [if_pos (by rfl)]
            refine ow_of_wl (ops := #[]) (by rfl) ?_
            apply wl_appX (m := 1) (ys := [.slice (some ⟨gf, 0, none⟩) s s, .bool false, .int .u8 0, .int .i64 0, .int .i64 0]) [_, _, _] hM2
            rfl
            rfl
            exact rfl
            exact rfl
            infer_instance
            infer_instance
            infer_instance
            exact Rd.blk (n := 1) hM2 (.head _) (Nat.le_refl _) (by decide) rfl rfl
            rfl
            (refine ⟨by decide, by unfold maxLen; omega, by omega⟩)
            intro v9 w5 hM3 _
            obtain ⟨ao9, c9, rfl, _, _, _⟩ := row_form hM3 (.tail _ (.tail _ (.tail _ (.head _))))
            refine q0_nil ?_
            refine hK.out _ _ ?_ (fun hHeld => ?_)
            · exact trivial
            clear hK K
            (try simp only [pmL, pnL, sc0, sc1])
            refine tkH 10 36 ?_ rfl (by kernel_rfl) (fun _ _ _ h => h) (by rfl) (by assumption) ?_ ?_
            rotate_left
            · intro w hSw; (try dsimp only at hSw); go_simp; try with_reducible rfl
            (try simp only [pmL, pnL, sc0, sc1])
            refine tkH 11 37 ?_ rfl (by kernel_rfl) (fun _ _ _ h => h) (by rfl) (by assumption) ?_ ?_
            rotate_left
            · intro w hSw; (try dsimp only at hSw); go_simp; try with_reducible rfl
            (try simp only [pmL, pnL, sc0, sc1])
            refine wpAnyH_ready (rs := [12]) (by kernel_rfl) (by simp) ?_
            refine (AllReadyH.cons (o := ⟨none, _, _, _, _, _⟩) rfl (fun K hK => ?_) AllReadyH.nil)
            rw [if_pos (by rfl)]
            refine ow_of_wl (ops := #[]) (by rfl) ?_
            refine wl_store [_, _] hM3 rfl rfl rfl (v := .slice _ _ _) rfl rfl rfl (by show (0 : Nat) + 1 ≤ 5; decide) ?_
            intro w6 hM4
            refine q0_nil ?_
            refine hK.out _ _ ?_ (fun hHeld => ?_)
            · exact trivial
            clear hK K
            (try simp only [pmL, pnL, sc0, sc1])
            refine wpAnyH_done (by kernel_rfl) ?_ _
            clear hHeld
            go_wp2_with (first | go_big_skip | go_big_guard | fail)
            go_roundw
            case rel =>
              refine ⟨j + 1, gs ++ [gf], .slice ao9 (j + 1) c9, by omega, rfl, by rw [List.length_append, HGL.out]; rfl, ?_⟩
              have e1 : ((gs ++ [gf]).map (blank s)).flatMap DV.cells = XS ++ [.slice (some ⟨gf, 0, none⟩) s s, .bool false, .int .u8 0, .int .i64 0, .int .i64 0] := by
                rw [List.map_append, List.flatMap_append, ← HXS.out]
                congr 1
                show (blank s gf).cells ++ [] = _
                rw [List.append_nil]
                unfold DV.cells
                rw [blank_firm]
                rfl
              have e2 : ((gs ++ [gf]).map (blank s)).map blkD = FZ ++ [.blk gf 144 (List.replicate (s * 256) (.int .u8 0))] := by
                rw [List.map_append, List.map_append, ← HFS.out]
                congr 1
                show [blkD (blank s gf)] = _
                unfold blkD
                rw [show (blank s gf).firm = List.replicate s (List.replicate 256 0) from rfl, secsV_zero]
                rfl
              rw [e1, e2]
              have h9 := (St.front (L1 := [_, _, _]) (St.front (L1 := [_, _, _]) (St.front (L1 := [_]) hM4)))
              refine St.perm (St.sub h9 (.cons_cons _ (.cons_cons _ (.cons_cons _ (.cons _ (List.Sublist.refl _)))))) ?_
              exact List.Perm.cons _ (List.Perm.cons _ (List.perm_append_singleton _ _).symm)
            case measure => simp [intOf]; omega
          · rw [if_pos (by rfl)]
            refine ow_of_wl (ops := #[]) (by rfl) ?_
            apply wl_bsX [.agg (List.toArray [.slice (some ⟨gf, 0, none⟩) s s, .bool false, .int .u8 0, .int .i64 0, .int .i64 0])] ([.slice (some ⟨gf, 0, none⟩) s s, .bool false, .int .u8 0, .int .i64 0, .int .i64 0]) hM1
            rfl
            rfl
            exact rfl
            exact rfl
            infer_instance
            infer_instance
            rfl
            rfl
            rfl
            intro gb w4 hM2
            refine q0_nil ?_
            refine hK.out _ _ ?_ (fun hHeld => ?_)
            · exact trivial
            clear hK K
            (try simp only [pmL, pnL, sc0, sc1])
            refine wpAnyH_ready (rs := [4]) (by kernel_rfl) (by simp) ?_
            refine (AllReadyH.cons (o := ⟨some 30, _, _, _, _, _⟩) rfl (fun K hK => ?_) AllReadyH.nil)
            rw [if_pos (by rfl)]
            refine ow_of_wl (ops := #[]) (by rfl) ?_
            refine wl_loadE rfl rfl rfl ?_
            refine ⟨_, Loads.at [_, _] hM2 rfl, ?_⟩
            refine q0_nil ?_
            refine hK.out _ _ ?_ (fun hHeld => ?_)
            · exact trivial
            clear hK K
            (try simp only [pmL, pnL, sc0, sc1])
            refine wpAnyH_ready (rs := [9]) (by kernel_rfl) (by simp) ?_
            refine (AllReadyH.cons (o := ⟨some 35, _, _, _, _, _⟩) rfl (fun K hK => ?_) AllReadyH.nil)
            rw [if_pos (by rfl)]
            refine ow_of_wl (ops := #[]) (by rfl) ?_
            apply wl_appX (m := 1) (ys := [.slice (some ⟨gf, 0, none⟩) s s, .bool false, .int .u8 0, .int .i64 0, .int .i64 0]) [_, _, _] hM2
            rfl
            rfl
            exact rfl
            exact rfl
            infer_instance
            infer_instance
            infer_instance
            exact Rd.blk (n := 1) hM2 (.head _) (Nat.le_refl _) (by decide) rfl rfl
            rfl
            (refine ⟨by decide, by unfold maxLen; omega, by omega⟩)
            intro v9 w5 hM3 _
            obtain ⟨ao9, c9, rfl, _, _, _⟩ := row_form hM3 (.tail _ (.tail _ (.tail _ (.head _))))
            refine q0_nil ?_
            refine hK.out _ _ ?_ (fun hHeld => ?_)
            · exact trivial
            clear hK K
            (try simp only [pmL, pnL, sc0, sc1])
            refine tkH 10 36 ?_ rfl (by kernel_rfl) (fun _ _ _ h => h) (by rfl) (by assumption) ?_ ?_
            rotate_left
            · intro w hSw; (try dsimp only at hSw); go_simp; try with_reducible rfl
            (try simp only [pmL, pnL, sc0, sc1])
            refine tkH 11 37 ?_ rfl (by kernel_rfl) (fun _ _ _ h => h) (by rfl) (by assumption) ?_ ?_
            rotate_left
            · intro w hSw; (try dsimp only at hSw); go_simp; try with_reducible rfl
            (try simp only [pmL, pnL, sc0, sc1])
            refine wpAnyH_ready (rs := [12]) (by kernel_rfl) (by simp) ?_
            refine (AllReadyH.cons (o := ⟨none, _, _, _, _, _⟩) rfl (fun K hK => ?_) AllReadyH.nil)
            rw [if_pos (by rfl)]
            refine ow_of_wl (ops := #[]) (by rfl) ?_
            refine wl_store [_, _] hM3 rfl rfl rfl (v := .slice _ _ _) rfl rfl rfl (by show (0 : Nat) + 1 ≤ 5; decide) ?_
            intro w6 hM4
            refine q0_nil ?_
            refine hK.out _ _ ?_ (fun hHeld => ?_)
            · exact trivial
            clear hK K
            (try simp only [pmL, pnL, sc0, sc1])
            refine wpAnyH_done (by kernel_rfl) ?_ _
            clear hHeld
            go_wp2_with (first | go_big_skip | go_big_guard | fail)
            go_roundw
            case rel =>
              refine ⟨j + 1, gs ++ [gf], .slice ao9 (j + 1) c9, by omega, rfl, by rw [List.length_append, HGL.out]; rfl, ?_⟩
              have e1 : ((gs ++ [gf]).map (blank s)).flatMap DV.cells = XS ++ [.slice (some ⟨gf, 0, none⟩) s s, .bool false, .int .u8 0, .int .i64 0, .int .i64 0] := by
                rw [List.map_append, List.flatMap_append, ← HXS.out]
                congr 1
                show (blank s gf).cells ++ [] = _
                rw [List.append_nil]
                unfold DV.cells
                rw [blank_firm]
                rfl
              have e2 : ((gs ++ [gf]).map (blank s)).map blkD = FZ ++ [.blk gf 144 (List.replicate (s * 256) (.int .u8 0))] := by
                rw [List.map_append, List.map_append, ← HFS.out]
                congr 1
                show [blkD (blank s gf)] = _
                unfold blkD
                rw [show (blank s gf).firm = List.replicate s (List.replicate 256 0) from rfl, secsV_zero]
                rfl
              rw [e1, e2]
              have h9 := (St.front (L1 := [_, _, _]) (St.front (L1 := [_, _, _]) (St.front (L1 := [_]) hM4)))
              refine St.perm (St.sub h9 (.cons_cons _ (.cons_cons _ (.cons_cons _ (.cons _ (List.Sublist.refl _)))))) ?_
              exact List.Perm.cons _ (List.Perm.cons _ (List.perm_append_singleton _ _).symm)
            case measure => simp [intOf]; omega
    · have d5 : decide ((j : Int) < (d : Int)) = false := decide_eq_false (by omega)
      have hjd : j = d := by omega
      subst hjd
      go_wp2_with (first | go_big_skip | go_big_guard | fail)
      go_ret2
      obtain ⟨gd, cd, rest, rfl, h2⟩ := row_open (L1 := [_]) hst (by omega)
      refine ⟨ga, ⟨gd, cd, rest, .slice none 0 0⟩, gs, rfl, hgl, ?_⟩
      have h3 := St.nilR 149 258 h2
      have h4 := St.perm h3 (L' := .blk ga 109 [.slice (some ⟨gd, 0, none⟩) j cd, .slice none 0 0, .int .i64 (-1), .bool false, .int .i64 0] :: .blk gd 89 ((gs.map (blank s)).flatMap DV.cells ++ rest) :: .row (.slice none 0 0) 149 258 0 [] :: (gs.map (blank s)).map blkD)
        ((List.Perm.swap _ _ _).trans (List.Perm.cons _ (List.Perm.swap _ _ _)))
      have hl : (newA s gs).devs.length = j := by simp [newA, hgl]
      unfold arP arrC
      rw [hl]
      exact h4
end
end Go.Proofs.YtmdfbdfijnmhkaaGreat
namespace Go.Proofs.YtmdfbdfijnmhkaaGreat
set_option linter.unusedVariables false
set_option linter.unusedSimpArgs false
open Go.RowKit Hp
set_option maxRecDepth 100000
def setF (p : Nat) (b : List UInt8) (d : DV) : DV := { d with firm := d.firm.set p b }
def tornF (p : Nat) (b : List UInt8) (t : Nat) (d : DV) : DV := { d with firm := d.firm.set p (b.take t ++ (d.firm.getD p []).drop t) }
def crashF (t : Nat) (s : AR × Bool) (w : LW) (keep : Bool) : AR × Bool :=
  if keep then (s.1.upd (w.dev : Int) (setF w.pl w.b), s.2) else if s.2 then (s.1.upd (w.dev : Int) (tornF w.pl w.b t), false) else s
def crashN (a : AR) (keep : List Bool) (t : Nat) : Nat → AR × Bool
  | 0 => (a, true)
  | j + 1 => match a.loose[j]? with
    | none => crashN a keep t j
    | some w => crashF t (crashN a keep t j) w (keep.getD j false)
def clean (d : DV) : DV := { d with lo := false, st := false, fail := 0 }
def AR.crashed (a : AR) (keep : List Bool) (t : Nat) : AR := ⟨(crashN a keep t a.loose.length).1.devs.map clean, [], -1, false, a.steps⟩
def AR.crashE (a : AR) (torn : Int) : Int := if a.devs = [] then 1 else orE (decide (0 ≤ torn) && decide (torn < 256)) 2
def AR.crash (a : AR) (keep : List Bool) (torn : Int) : AR := if a.crashE torn = 0 then a.crashed keep torn.toNat else a
structure Good (a b : AR) : Prop where
  len : b.devs.length = a.devs.length
  cel : devC b = devC a
  fm : ∀ d ∈ b.devs, d.firm.length = a.secs ∧ ∀ s ∈ d.firm, s.length = 256
theorem Good.inD {a b : AR} (h : Good a b) (dev : Int) : b.inD dev = a.inD dev := by unfold AR.inD; rw [h.len]
theorem Good.refl {a : AR} (ok : a.Ok) : Good a a := ⟨rfl, rfl, fun d hd => ⟨(ok.fm d hd).1, (ok.fm d hd).2.1⟩⟩
theorem Good.upd {a b : AR} (h : Good a b) {k : Nat} (hk : a.inD (k : Int) = true) {f : DV → DV} (hf : ∀ d, (f d).g = d.g ∧ (f d).gone = d.gone ∧ (f d).lo = d.lo ∧ (f d).st = d.st ∧ (f d).to = d.to ∧ (f d).fail = d.fail ∧ (f d).firm.length = d.firm.length)
    (hs : ∀ s ∈ (f (b.dv (k : Int))).firm, s.length = 256) : Good a (b.upd (k : Int) f) := by
  have hin : b.inD (k : Int) = true := by rw [h.inD]; exact hk
  refine ⟨by rw [upd_len, h.len], ?_, fun d hd => ?_⟩
  · rw [devC_firm (k : Int) (fun d => ?_), h.cel]
    obtain ⟨h1, h2, h3, h4, h5, h6, h7⟩ := hf d
    unfold DV.cells DV.nx
    rw [h1, h2, h3, h4, h5, h6, h7]
  · have hm : d ∈ b.devs.modify k f := by unfold AR.upd at hd; rwa [Int.toNat_natCast] at hd
    obtain ⟨j, hj, rfl⟩ := List.getElem_of_mem hm
    have hj2 : (b.devs.modify k f)[j]? = some (b.devs.modify k f)[j] := List.getElem?_eq_getElem hj
    rw [modify_get] at hj2
    have hd0 := devs_get hin
    rw [Int.toNat_natCast] at hd0
    by_cases hkj : k = j
    · subst hkj
      rw [if_pos rfl, hd0, Option.map_some] at hj2
      have e := Option.some.inj hj2
      rw [← e]
      exact ⟨by rw [(hf _).2.2.2.2.2.2]; exact (h.fm _ (List.mem_of_getElem? hd0)).1, hs⟩
    · rw [if_neg hkj] at hj2
      exact h.fm _ (List.mem_of_getElem? hj2)
theorem setF_same (p : Nat) (b : List UInt8) (d : DV) : (setF p b d).g = d.g ∧ (setF p b d).gone = d.gone ∧ (setF p b d).lo = d.lo ∧ (setF p b d).st = d.st ∧ (setF p b d).to = d.to ∧ (setF p b d).fail = d.fail ∧ (setF p b d).firm.length = d.firm.length := ⟨rfl, rfl, rfl, rfl, rfl, rfl, by simp [setF]⟩
theorem tornF_same (p : Nat) (b : List UInt8) (t : Nat) (d : DV) : (tornF p b t d).g = d.g ∧ (tornF p b t d).gone = d.gone ∧ (tornF p b t d).lo = d.lo ∧ (tornF p b t d).st = d.st ∧ (tornF p b t d).to = d.to ∧ (tornF p b t d).fail = d.fail ∧ (tornF p b t d).firm.length = d.firm.length := ⟨rfl, rfl, rfl, rfl, rfl, rfl, by simp [tornF]⟩
theorem torn_len {l : List (List UInt8)} {p t : Nat} {b : List UInt8} (hl : ∀ s ∈ l, s.length = 256) (hb : b.length = 256) (hp : p < l.length) (ht : t ≤ 256) : (b.take t ++ (l.getD p []).drop t).length = 256 := by
  have h1 : (l.getD p []).length = 256 := by
    rw [List.getD_eq_getElem?_getD, List.getElem?_eq_getElem hp]
    exact hl _ (List.getElem_mem hp)
  rw [List.length_append, List.length_take, List.length_drop, h1, hb]
  omega
theorem Good.step {a b : AR} (h : Good a b) {w : LW} {t : Nat} {first keep : Bool} (hw : w.dev < a.devs.length ∧ w.pl < a.secs ∧ w.b.length = 256) (ht : t ≤ 256) : Good a (crashF t (b, first) w keep).1 := by
  have hk : a.inD (w.dev : Int) = true := by
    unfold AR.inD
    simp only [Bool.and_eq_true, decide_eq_true_eq]
    omega
  have hin : b.inD (w.dev : Int) = true := by rw [h.inD]; exact hk
  have hd := h.fm _ (List.mem_of_getElem? (devs_get hin))
  unfold crashF
  cases keep
  · rw [if_neg (by decide)]
    cases first
    · exact h
    · exact h.upd hk (tornF_same _ _ _) fun s hs => by
        rcases List.mem_or_eq_of_mem_set hs with h1 | rfl
        · exact hd.2 s h1
        · exact torn_len hd.2 hw.2.2 (by rw [hd.1]; exact hw.2.1) ht
  · exact h.upd hk (setF_same _ _) fun s hs => by
      rcases List.mem_or_eq_of_mem_set hs with h1 | rfl
      · exact hd.2 s h1
      · exact hw.2.2
theorem crashN_good {a : AR} (ok : a.Ok) (keep : List Bool) {t : Nat} (ht : t ≤ 256) : ∀ j, Good a (crashN a keep t j).1
  | 0 => Good.refl ok
  | j + 1 => by
    have ih := crashN_good ok keep ht j
    unfold crashN
    cases hw : a.loose[j]? with
    | none => exact ih
    | some w => exact ih.step (ok.lw w (List.mem_of_getElem? hw)) ht
theorem crashN_succ {a : AR} {keep : List Bool} {t j : Nat} {w : LW} (h : a.loose[j]? = some w) : crashN a keep t (j + 1) = crashF t (crashN a keep t j) w (keep.getD j false) := by
  show (match a.loose[j]? with | none => _ | some w => _) = _
  rw [h]
theorem secs_part {l : List (List UInt8)} {p t : Nat} {b : List UInt8} (hl : ∀ s ∈ l, s.length = 256) (hb : b.length = 256) (hp : p < l.length) (ht : t ≤ 256) : putAt (secsV l) (p * 256) (bytesV (b.take t)) = secsV (l.set p (b.take t ++ (l.getD p []).drop t)) := by
  have hbt : (bytesV (b.take t)).length = t := by rw [length_bytesV, List.length_take, hb]; omega
  rw [putAt_many, hbt]
  induction l generalizing p with
  | nil => simp at hp
  | cons s l ih =>
    have hs : (bytesV s).length = 256 := by rw [length_bytesV]; exact hl s (.head _)
    unfold secsV at ih ⊢
    cases p with
    | zero =>
      rw [List.set_cons_zero, List.flatMap_cons, List.flatMap_cons, Nat.zero_mul, List.take_zero, List.nil_append, Nat.zero_add, List.drop_append_of_le_length (by omega)]
      show _ = bytesV (b.take t ++ s.drop t) ++ _
      rw [← List.append_assoc]
      congr 1
      unfold bytesV
      rw [List.map_append, List.map_drop]
    | succ p =>
      have := ih (p := p) (fun s hs => hl s (.tail _ hs)) (by simpa using hp)
      rw [List.set_cons_succ, List.flatMap_cons, List.flatMap_cons, List.getD_cons_succ, ← this, show (p + 1) * 256 = 256 + p * 256 by omega, List.take_append, List.take_of_length_le (by omega), hs, show 256 + p * 256 - 256 = p * 256 by omega, List.append_assoc]
      congr 3
      rw [List.drop_append, List.drop_of_length_le (by omega), List.nil_append, hs, show 256 + p * 256 + t - 256 = p * 256 + t by omega]
def cleanN (b : AR) (j : Nat) : AR := { b with devs := (b.devs.take j).map clean ++ b.devs.drop j }
theorem cleanN_zero (b : AR) : cleanN b 0 = b := by unfold cleanN; simp
theorem cleanN_len (b : AR) (j : Nat) : (cleanN b j).devs.length = b.devs.length := by
  unfold cleanN
  simp
  omega
theorem cleanN_all (b : AR) : (cleanN b b.devs.length).devs = b.devs.map clean := by unfold cleanN; simp
theorem modify_mid {α : Type} (T R : List α) (D : α) (f : α → α) : (T ++ D :: R).modify T.length f = T ++ f D :: R := by
  apply List.ext_getElem?
  intro i
  rw [modify_get]
  by_cases hi : T.length = i
  · subst hi
    rw [if_pos rfl, List.getElem?_append_right (Nat.le_refl _), List.getElem?_append_right (Nat.le_refl _), Nat.sub_self]
    rfl
  · rw [if_neg hi]
    by_cases hlt : i < T.length
    · rw [List.getElem?_append_left hlt, List.getElem?_append_left hlt]
    · rw [List.getElem?_append_right (by omega), List.getElem?_append_right (by omega), show i - T.length = (i - T.length - 1) + 1 by omega]
      rfl
theorem cleanN_succ {b : AR} {j : Nat} (hj : j < b.devs.length) : cleanN b (j + 1) = (cleanN b j).upd (j : Int) clean := by
  have h1 : b.devs.drop j = b.devs[j] :: b.devs.drop (j + 1) := List.drop_eq_getElem_cons hj
  have hl : ((b.devs.take j).map clean).length = j := by simp; omega
  have h2 := modify_mid ((b.devs.take j).map clean) (b.devs.drop (j + 1)) b.devs[j] clean
  rw [hl] at h2
  unfold cleanN AR.upd
  congr 1
  show _ = ((b.devs.take j).map clean ++ b.devs.drop j).modify (j : Int).toNat clean
  rw [Int.toNat_natCast, h1, h2, List.take_add_one, List.getElem?_eq_getElem hj, List.map_append, List.append_assoc]
  rfl
theorem blk_clean (l : List DV) : (l.map clean).map blkD = l.map blkD := by
  rw [List.map_map]
  rfl
end Go.Proofs.YtmdfbdfijnmhkaaGreat
namespace Go.Proofs.YtmdfbdfijnmhkaaGreat
set_option linter.unusedVariables false
set_option linter.unusedSimpArgs false
open Go.RowKit Hp
attribute [local irreducible] Go.Calls Go.wpList
set_option maxRecDepth 100000
set_option maxHeartbeats 4000000
instance rSB : TyS Tryz.prog 47 := ⟨by kernel_rfl⟩
instance rSlB : TySl Tryz.prog 47 4 := ⟨by kernel_rfl⟩
instance rEB : TyE Tryz.prog 4 1 1 := ⟨by kernel_rfl⟩
def boolsV (l : List Bool) : List Value := l.map .bool
theorem boolsV_get {l : List Bool} {j : Nat} (h : j < l.length) : (boolsV l)[j]? = some (.bool (l.getD j false)) := by
  simp [boolsV, List.getD, h]
theorem slice256 (b o t : Nat) (ht : t ≤ 256) (w : World) : (Instr.sliceAt 144 (.pointer (some ⟨b, o, none⟩)) none (some (.int .i64 (t : Int))) none).run Tryz.prog w = .ok (.slice (some ⟨b, o, none⟩) t 256) w := by
  have hl : Tryz.prog.arrayLen 144 = 256 := by kernel_rfl
  have hz : ∀ w, (sizeOf (Tryz.prog.elem 144)).run Tryz.prog w = .ok 1 w := fun w => by kernel_rfl
  rw [run_sliceAt_array_h w 144 _ (by kernel_rfl) .i64 (t : Int) (by omega) (by rw [hl]; omega), hz, hl]
  simp [slicedAt, Addr.add_mid]
section
attribute [local go_sem ↓] loadedSD loadedIn loadedSS
theorem crash_odd {w : World} {ga : Nat} {x : GA} {a : AR} (hS : St w (arF ga x a) w (arP ga x a)) (ok : a.Ok) (hll : a.loose.length < 1000000) (kao : Option Addr) (kn kc : Nat) (keep : List Bool) (hr : Rd w (.slice kao kn kc) 1 kn (boolsV keep)) (hn : keep.length = kn) (ho : Off (.slice kao kn kc) (arF ga x a)) (torn : Int) (h1 : (decide (0 ≤ torn) && decide (torn < 256)) = false) :
    Calls Tryz.prog 53 #[.pointer (some ⟨ga, 0, none⟩), .slice kao kn kc, .int .i64 torn] w fun e w' => e = .returned (.int .i64 (a.crashE torn)) ∧ ∃ x', St w (arF ga x a) w' (arP ga x' (a.crash keep torn)) := by
  have he : a.crashE torn = 2 := by unfold AR.crashE; rw [if_neg ok.d0, h1]; rfl
  have hc : a.crash keep torn = a := by unfold AR.crash; rw [he]; rfl
  rw [he, hc]
  have HE : Hid (orE (decide (0 ≤ torn) && decide (torn < 256)) 2 = 2) := hid (by rw [h1]; rfl)
  have H1 : Hid (firstE [0] = 0) := hid rfl
  have OK := hid ok
  have hst0 := hS
  have hmf := rmf
  clear he hc h1 ok hS hr hn ho
  go_enter Tryz.func53, Tryz.ntmps53
  go_wp2_with (first | go_big_skip | go_big_guard | (refine wl_box hst0 rfl rfl rfl ?_; intro g5 w1 hst1; clear hst0) | (apply wl_bsX ([methV 46 (ptrV ga), cloV 103 [ptrV g5]]) ([methV 46 (ptrV ga), cloV 103 [ptrV g5]]) hst1; rfl; rfl; exact rfl; exact rfl; infer_instance; infer_instance; rfl; rfl; rfl; intro gs w2 hst2; clear hst1) | (go_at_call 45; have hC := checks_any (-1) (v := .slice (some ⟨gs, 0, none⟩) 2 2) (n := 2) (fs := [methV 46 (ptrV ga)]) (f9 := cloV 103 [ptrV g5]) (es := [0]) (e9 := orE (decide (0 ≤ torn) && decide (torn < 256)) 2) (A := (fun w' => St w (arF ga x a) w' (([HA.blk gs 92 [methV 46 (ptrV ga), cloV 103 [ptrV g5]], .blk g5 3 [.int .i64 torn]] : List HA) ++ arP ga x a))) (B := (fun w' => St w (arF ga x a) w' (([HA.blk gs 92 [methV 46 (ptrV ga), cloV 103 [ptrV g5]], .blk g5 3 [.int .i64 torn]] : List HA) ++ arP ga x a))) _ (fun _ h => Rd.blk h (.head _) (Nat.le_refl _) (by decide) rfl rfl) rfl rfl (by decide) (fun j f e hf he _ => (match j, hf, he with | 0, hf, he => (by cases hf; cases he; exact probe_made (fun _ h => ArrAt.of h (fun p hp => List.mem_append_right _ hp) OK.out.d0) keeps_st) | j + 1, hf, _ => (by simp at hf))) (fun _ => probe_clo (fun _ _ => rfl) fun w h => (crash1_any (St.cell h (off := 0) (.tail _ (.head _)) rfl)).mono fun _ _ ⟨e, h4⟩ => ⟨e, keeps_st _ _ h h4⟩) hst2; rw [HE.out] at hC; refine hC.mono ?_; rintro _ w5 hh; obtain ⟨rfl, h4⟩ := checks_last H1.out (by decide) hh; clear hC hh hst2; have hst3 := h4; clear h4) | (go_at_call 47; refine (number_isE 2 (-1) (by unfold isE; decide) (by decide) _).mono ?_; rintro _ w6 ⟨rfl, h4⟩; have hst6 := St.call0 hst3 h4; clear h4 hst3))
  go_ret
  exact ⟨rfl, x, St.sub hst6 (List.sublist_append_right _ _)⟩
theorem crash_fine {w : World} {ga : Nat} {x : GA} {a : AR} (hS : St w (arF ga x a) w (arP ga x a)) (ok : a.Ok) (hll : a.loose.length < 1000000) (kao : Option Addr) (kn kc : Nat) (keep : List Bool) (hr : Rd w (.slice kao kn kc) 1 kn (boolsV keep)) (hn : keep.length = kn) (ho : Off (.slice kao kn kc) (arF ga x a)) (t : Nat) (ht : t < 256) :
    Calls Tryz.prog 53 #[.pointer (some ⟨ga, 0, none⟩), .slice kao kn kc, .int .i64 (t : Int)] w fun e w' => e = .returned (.int .i64 (a.crashE (t : Int))) ∧ ∃ x', St w (arF ga x a) w' (arP ga x' (a.crash keep (t : Int))) := by
  have hbb : (decide ((0 : Int) ≤ (t : Int)) && decide ((t : Int) < 256)) = true := by simp only [Bool.and_eq_true, decide_eq_true_eq]; omega
  have he : a.crashE (t : Int) = 0 := by unfold AR.crashE; rw [if_neg ok.d0, hbb]; rfl
  have hc : a.crash keep (t : Int) = a.crashed keep t := by unfold AR.crash; rw [he]; rfl
  rw [he, hc]
  have HE : Hid (orE (decide ((0 : Int) ≤ (t : Int)) && decide ((t : Int) < 256)) 2 = 0) := hid (by rw [hbb]; rfl)
  have H1 : Hid (firstE [0] = 0) := hid rfl
  obtain ⟨lao, lc, hlv, _, _, _⟩ := row_form hS (.tail _ (.tail _ (.head _)))
  have HLV := hid hlv
  have HN := hid hn
  have HR := hid hr
  have HO := hid ho
  have HLW := hid ok.lw
  have HGD := hid (fun j => crashN_good ok keep (t := t) (by omega) j)
  have HCS := hid (fun j wj => crashN_succ (a := a) (keep := keep) (t := t) (j := j) (w := wj))
  have HFIN : Hid (∀ (rest : List Value), arP ga ⟨x.gd, x.cd, rest, .slice none 0 0⟩ (a.crashed keep t) = .blk ga 109 [.slice (some ⟨x.gd, 0, none⟩) a.devs.length x.cd, .slice none 0 0, .int .i64 (-1), .bool false, .int .i64 a.steps] :: .blk x.gd 89 (devC (cleanN (crashN a keep t a.loose.length).1 a.devs.length) ++ rest) :: .row (.slice none 0 0) 149 258 0 [] :: (crashN a keep t a.loose.length).1.devs.map blkD) := hid (fun rest => by
    have hlen := (crashN_good ok keep (t := t) (by omega) a.loose.length).len
    have e1 : devC (cleanN (crashN a keep t a.loose.length).1 a.devs.length) = devC (a.crashed keep t) := by
      unfold devC AR.crashed
      rw [← hlen, cleanN_all]
    have e2 : (a.crashed keep t).devs.map blkD = (crashN a keep t a.loose.length).1.devs.map blkD := blk_clean _
    have e3 : (a.crashed keep t).devs.length = a.devs.length := by rw [← hlen]; simp [AR.crashed]
    rw [e1, ← e2]
    show HA.blk ga _ [.slice _ (a.crashed keep t).devs.length _, _, _, _, _] :: _ = _
    rw [e3]
    rfl)
  obtain ⟨nl, hnl⟩ : ∃ nl, nl = a.loose.length := ⟨_, rfl⟩
  have HNL := hid hnl
  have hnlb : nl < 1000000 := by rw [hnl]; exact hll
  obtain ⟨B, hB⟩ : ∃ B : Nat → AR × Bool, B = crashN a keep t := ⟨_, rfl⟩
  have HB0 : Hid (B 0 = (a, true)) := hid (by rw [hB]; rfl)
  rw [← hB] at HGD HCS HFIN
  rw [← hnl] at HFIN hlv HLV
  have hsl := fun b o => slice256 b o t (by omega)
  have hdn := ok.dn
  have OK := hid ok
  have hst0 := hS
  have hmf := rmf
  clear he hc hbb ok hS hr hn ho hlv hnl hB
  go_enter Tryz.func53, Tryz.ntmps53
  go_wp2_with (first | go_big_skip | go_big_guard | (refine wl_box hst0 rfl rfl rfl ?_; intro g5 w1 hst1; clear hst0) | (apply wl_bsX ([methV 46 (ptrV ga), cloV 103 [ptrV g5]]) ([methV 46 (ptrV ga), cloV 103 [ptrV g5]]) hst1; rfl; rfl; exact rfl; exact rfl; infer_instance; infer_instance; rfl; rfl; rfl; intro gs w2 hst2; clear hst1) | (go_at_call 45; have hC := checks_any (-1) (v := .slice (some ⟨gs, 0, none⟩) 2 2) (n := 2) (fs := [methV 46 (ptrV ga)]) (f9 := cloV 103 [ptrV g5]) (es := [0]) (e9 := orE (decide (0 ≤ (t : Int)) && decide ((t : Int) < 256)) 2) (A := (fun w' => St w (arF ga x a) w' (([HA.blk gs 92 [methV 46 (ptrV ga), cloV 103 [ptrV g5]], .blk g5 3 [.int .i64 (t : Int)]] : List HA) ++ arP ga x a))) (B := (fun w' => St w (arF ga x a) w' (([HA.blk gs 92 [methV 46 (ptrV ga), cloV 103 [ptrV g5]], .blk g5 3 [.int .i64 (t : Int)]] : List HA) ++ arP ga x a))) _ (fun _ h => Rd.blk h (.head _) (Nat.le_refl _) (by decide) rfl rfl) rfl rfl (by decide) (fun j f e hf he _ => (match j, hf, he with | 0, hf, he => (by cases hf; cases he; exact probe_made (fun _ h => ArrAt.of h (fun p hp => List.mem_append_right _ hp) OK.out.d0) keeps_st) | j + 1, hf, _ => (by simp at hf))) (fun _ => probe_clo (fun _ _ => rfl) fun w h => (crash1_any (St.cell h (off := 0) (.tail _ (.head _)) rfl)).mono fun _ _ ⟨e, h4⟩ => ⟨e, keeps_st _ _ h h4⟩) hst2; rw [HE.out] at hC; refine hC.mono ?_; rintro _ w5 hh; obtain ⟨rfl, h4⟩ := checks_fine H1.out hh; clear hC hh hst2; have hst3 : St w (arF ga x a) w5 (.blk g5 3 [.int .i64 (t : Int)] :: .blk ga 109 [.slice (some ⟨x.gd, 0, none⟩) a.devs.length x.cd, .slice lao nl lc, .int .i64 a.fuse, .bool a.out, .int .i64 a.steps] :: .blk x.gd 89 (devC a ++ x.rest) :: .row (.slice lao nl lc) 149 258 nl (looV a.loose) :: a.devs.map blkD) := (by rw [← HLV.out, HNL.out]; exact St.sub h4 (.cons _ (List.Sublist.refl _))); clear h4) | (refine wl_loadE rfl rfl rfl ?_; first | refine ⟨_, Loads.at [_] hst3 rfl, ?_⟩))
  go_loopw [28, 8] (fun i f wr => ∃ j : Nat, j ≤ nl ∧ i = .int .i64 (j : Int) ∧ f = .bool (B j).2 ∧ St w (arF ga x a) wr (.blk g5 3 [.int .i64 (t : Int)] :: .blk ga 109 [.slice (some ⟨x.gd, 0, none⟩) a.devs.length x.cd, .slice lao nl lc, .int .i64 a.fuse, .bool a.out, .int .i64 a.steps] :: .blk x.gd 89 (devC a ++ x.rest) :: .row (.slice lao nl lc) 149 258 nl (looV a.loose) :: (B j).1.devs.map blkD)) (fun i _ _ => nl - (intOf i).toNat)
  case atStart => exact ⟨0, Nat.zero_le _, rfl, by rw [HB0.out], by rw [HB0.out]; exact hst3⟩
  case round =>
    clear hst3
    obtain ⟨j, hj, rfl, rfl, hst⟩ := hrel
    by_cases hlj : j < nl
    · have d1 : decide ((j : Int) < (nl : Int)) = true := decide_eq_true (by omega)
      have z1 : IntKind.i64.wrap ((j : Int) + 1) = (j : Int) + 1 := IntWalk.i64_in _ (by omega)
      obtain ⟨v, hv⟩ : ∃ v, a.loose[j]? = some v := ⟨_, List.getElem?_eq_getElem (by rw [← HNL.out]; exact hlj)⟩
      have hvw := HLW.out v (List.mem_of_getElem? hv)
      have hgd := HGD.out j
      have hinA : a.inD (v.dev : Int) = true := by
        unfold AR.inD
        simp only [Bool.and_eq_true, decide_eq_true_eq]
        omega
      have hin : (B j).1.inD (v.dev : Int) = true := by rw [hgd.inD]; exact hinA
      have hltd : v.dev < a.devs.length := hvw.1
      obtain ⟨D, hD⟩ : ∃ D, D = (B j).1.dv (v.dev : Int) := ⟨_, rfl⟩
      have hfm := hgd.fm _ (List.mem_of_getElem? (devs_get hin))
      rw [← hD] at hfm
      have hlp : v.pl < D.firm.length := by rw [hfm.1]; exact hvw.2.1
      have HDC : Hid ((devC a ++ x.rest)[v.dev * 5]? = some (.slice (some ⟨D.g, 0, none⟩) D.firm.length D.firm.length)) := hid (by rw [← hgd.cel, hD]; exact devC_get hin (i := 0) rfl (by decide))
      obtain ⟨FS1, hFS1⟩ : ∃ FS1, FS1 = ((B j).1.devs.take v.dev).map blkD := ⟨_, rfl⟩
      obtain ⟨FS2, hFS2⟩ : ∃ FS2, FS2 = ((B j).1.devs.drop (v.dev + 1)).map blkD := ⟨_, rfl⟩
      have HS0 : Hid ((B j).1.devs.map blkD = FS1 ++ .blk D.g 144 (secsV D.firm) :: FS2) := hid (by rw [hFS1, hFS2, hD]; exact devs_split0 hin)
      have HSF : Hid (∀ f : DV → DV, ((B j).1.upd (v.dev : Int) f).devs.map blkD = FS1 ++ blkD (f D) :: FS2) := hid (fun f => by rw [hFS1, hFS2, hD]; exact devs_split hin f)
      have HNX := hid (HCS.out j v hv)
      obtain ⟨lb, lo, rfl, hlr⟩ := Rd.at (Rd.row hst (.tail _ (.tail _ (.tail _ (.head _))))) hlj
      have HWR := hid (range_flat (sz := 258) (f := LW.cells) (fun d hd => LW.cells_len (HLW.out d hd).2.2) hv hlr)
      have HV258 := hid (LW.cells_len hvw.2.2)
      have HB256 := hid (show (bytesV v.b).length = 256 by rw [length_bytesV]; exact hvw.2.2)
      have HSET := hid (secs_put (l := D.firm) (p := v.pl) (b := v.b) hfm.2 hvw.2.2 hlp)
      have HTRN := hid (secs_part (l := D.firm) (p := v.pl) (b := v.b) (t := t) hfm.2 hvw.2.2 hlp (by omega))
      have HTL := hid (show (bytesV (v.b.take t)).length = t by rw [length_bytesV, List.length_take, hvw.2.2]; omega)
      have HLEN := hid (show v.pl * 256 + 256 ≤ (secsV D.firm).length by rw [secsV_len hfm.2]; omega)
      rw [HS0.out] at hst
      obtain ⟨first, hfirst⟩ : ∃ first, first = (B j).2 := ⟨_, rfl⟩
      have HFI := hid hfirst
      rw [← hfirst]
      obtain ⟨SC, hSC⟩ : ∃ SC, SC = secsV D.firm := ⟨_, rfl⟩
      rw [← hSC] at hst HSET HLEN HTRN
      have HSC := hid hSC
      clear hv hvw hgd hinA hin hD hfm hFS1 hFS2 hlr hfirst hSC
      go_wp2_with (first | go_big_skip | go_big_guard | (refine wl_index (k := j) rfl rfl rfl rfl hlj ?_) | (refine wl_loadE rfl rfl rfl ?_; refine ⟨_, Loads.range (T := 149) (cs := v.cells) (by rw [HV258.out]; exact TyA.out) HWR.out, ?_⟩) | (refine wl_alloc (T := 149) hst rfl rfl ?_; intro g10 _ hst2; clear hst) | (refine wl_storeA (T := 149) (vs := v.cells) [] hst2 rfl rfl rfl rfl HV258.out (ones_LW _) (by rw [List.length_cons, List.length_cons, List.length_replicate]) ?_; intro w4 hst3; clear hst2))
      have hW := hst3.drew
      clear hst3
      refine wp_region_held_drew (S := (fun w' => (loadVarH 106 ⟨ga, 0, none⟩).run Tryz.prog w' = .ok (.slice (some ⟨x.gd, 0, none⟩) a.devs.length x.cd) w' ∧ (loadVarH 3 ⟨g10, 0, none⟩).run Tryz.prog w' = .ok (.int .i64 (v.dev : Int)) w' ∧ (loadVarH 86 ⟨x.gd, v.dev * 5, none⟩).run Tryz.prog w' = .ok (.slice (some ⟨D.g, 0, none⟩) D.firm.length D.firm.length) w' ∧ (loadVarH 3 ⟨g10, 1, none⟩).run Tryz.prog w' = .ok (.int .i64 (v.pl : Int)) w')) (by kernel_rfl) (by exact ⟨ldS [_, _] hW (rfl), ldS [] hW (rfl), ldS [_, _, _] hW (HDC.out), ldS [] hW (rfl)⟩) (fun hHeld => ?_)
      refine tkH 0 33 ?_ rfl (by kernel_rfl) (fun _ _ _ h => h) (by rfl) (by assumption) ?_ ?_
      rotate_left
      · intro w hSw; (try dsimp only at hSw); go_simp; try with_reducible rfl
      (try simp only [pmL, pnL, sc0, sc1])
      refine tkH 4 37 ?_ rfl (by kernel_rfl) (fun _ _ _ h => h) (by rfl) (by assumption) ?_ ?_
      rotate_left
      · intro w hSw; (try dsimp only at hSw); go_simp; try with_reducible rfl
      (try simp only [pmL, pnL, sc0, sc1])
      refine tkH 9 42 ?_ rfl (by kernel_rfl) (fun _ _ _ h => h) (by rfl) (by assumption) ?_ ?_
      rotate_left
      · intro w hSw; (try dsimp only at hSw); go_simp; try with_reducible rfl
      (try simp only [pmL, pnL, sc0, sc1])
      refine tkH 1 34 ?_ rfl (by kernel_rfl) (fun _ _ _ h => h) (by rfl) (by assumption) ?_ ?_
      rotate_left
      · intro w hSw; (try dsimp only at hSw); go_simp; try with_reducible rfl
      (try simp only [pmL, pnL, sc0, sc1])
      refine tkH 5 38 ?_ rfl (by kernel_rfl) (fun _ _ _ h => h) (by rfl) (by assumption) ?_ ?_
      rotate_left
      · intro w hSw; (try dsimp only at hSw); go_simp; try with_reducible rfl
      (try simp only [pmL, pnL, sc0, sc1])
      refine tkH 10 43 ?_ rfl (by kernel_rfl) (fun _ _ _ h => h) (by rfl) (by assumption) ?_ ?_
      rotate_left
      · intro w hSw; (try dsimp only at hSw); go_simp; try with_reducible rfl
      (try simp only [pmL, pnL, sc0, sc1])
      refine tkH 2 35 ?_ rfl (by kernel_rfl) (fun _ _ _ h => h) (by rfl) (by assumption) ?_ ?_
      rotate_left
      · intro w hSw; (try dsimp only at hSw); go_simp; try with_reducible rfl
      (try simp only [pmL, pnL, sc0, sc1])
      refine tkH 3 36 ?_ rfl (by kernel_rfl) (fun _ _ _ h => h) (by rfl) (by assumption) ?_ ?_
      rotate_left
      · intro w hSw; (try dsimp only at hSw); go_simp; try with_reducible rfl
      (try simp only [pmL, pnL, sc0, sc1])
      refine tkH 6 39 ?_ rfl (by kernel_rfl) (fun _ _ _ h => h) (by rfl) (by assumption) ?_ ?_
      rotate_left
      · intro w hSw; (try dsimp only at hSw); go_simp; try with_reducible rfl
      (try simp only [pmL, pnL, sc0, sc1])
      refine tkH 7 40 ?_ rfl (by kernel_rfl) (fun _ _ _ h => h) (by rfl) (by assumption) ?_ ?_
      rotate_left
      · intro w hSw; (try dsimp only at hSw); go_simp; try with_reducible rfl
      (try simp only [pmL, pnL, sc0, sc1])
      refine tkH 8 41 ?_ rfl (by kernel_rfl) (fun _ _ _ h => h) (by rfl) (by assumption) ?_ ?_
      rotate_left
      · intro w hSw; (try dsimp only at hSw); go_simp; try with_reducible rfl
      (try simp only [pmL, pnL, sc0, sc1])
      refine tkH 11 44 ?_ rfl (by kernel_rfl) (fun _ _ _ h => h) (by rfl) (by assumption) ?_ ?_
      rotate_left
      · intro w hSw; (try dsimp only at hSw); go_simp; try with_reducible rfl
      (try simp only [pmL, pnL, sc0, sc1])
      refine tkH 12 11 ?_ rfl (by kernel_rfl) (fun _ _ _ h => h) (by rfl) (by assumption) ?_ ?_
      rotate_left
      · intro w hSw; (try dsimp only at hSw); go_simp; try with_reducible rfl
      (try simp only [pmL, pnL, sc0, sc1])
      refine wpAnyH_done (by kernel_rfl) ?_ _
      clear hHeld
      have hst4 := hW
      clear hW
      cases hq : keep.getD j false
      · by_cases hjk : j < kn
        · have d6 : decide ((j : Int) < (kn : Int)) = true := decide_eq_true (by omega)
          cases first
          · have HQ := hid hq
            clear hq
            obtain ⟨kb, ko, rfl, hkr⟩ := Rd.at HR.out hjk
            have HKM := hid (HO.out _ _ _ rfl (by omega))
            have HK := hid (hkr j _ (boolsV_get (by rw [HN.out]; exact hjk)))
            rw [HQ.out] at HK
            go_wp2_with (first | go_big_skip | go_big_guard | (refine wl_index (k := j) rfl rfl rfl rfl hjk ?_) | (refine wl_loadE rfl rfl rfl ?_; first | refine ⟨_, Loads.oldM hst4 (by rw [Nat.mul_one]; exact HK.out) HKM.out, ?_⟩ | refine ⟨_, Loads.atA (T := 144) (bytesV v.b) [] hst4 HB256.out (by show (bytesV v.b).take _ = _; exact List.take_length), ?_⟩))
            go_roundw
            case rel =>
              refine ⟨j + 1, by omega, rfl, ?_, ?_⟩
              · rw [HNX.out, HQ.out, ← Prod.eta (B j), ← HFI.out]
                rfl
              · rw [HNX.out, HQ.out, ← Prod.eta (B j), ← HFI.out]
                show St _ _ _ (_ :: _ :: _ :: _ :: (B j).1.devs.map blkD)
                rw [HS0.out, ← HSC.out]
                exact St.sub hst4 (.cons _ (List.Sublist.refl _))
            case measure => simp [intOf]; omega
          · have HQ := hid hq
            clear hq
            obtain ⟨kb, ko, rfl, hkr⟩ := Rd.at HR.out hjk
            have HKM := hid (HO.out _ _ _ rfl (by omega))
            have HK := hid (hkr j _ (boolsV_get (by rw [HN.out]; exact hjk)))
            rw [HQ.out] at HK
            go_wp2_with (first | go_big_skip | go_big_guard | (refine wl_index (k := j) rfl rfl rfl rfl hjk ?_) | (refine wl_loadE rfl rfl rfl ?_; first | refine ⟨_, Loads.oldM hst4 (by rw [Nat.mul_one]; exact HK.out) HKM.out, ?_⟩ | refine ⟨_, Loads.atA (T := 144) (bytesV v.b) [] hst4 HB256.out (by show (bytesV v.b).take _ = _; exact List.take_length), ?_⟩))
            have hV := hst4.drew
            clear hst4
            refine wp_region_held_drew (S := (fun w' => (loadVarH 3 ⟨g5, 0, none⟩).run Tryz.prog w' = .ok (.int .i64 (t : Int)) w')) (by kernel_rfl) (by exact ldS [_] hV (rfl)) (fun hHeld => ?_)
            refine tkH 0 62 ?_ rfl (by kernel_rfl) (fun _ _ _ h => h) (by rfl) (by assumption) ?_ ?_
            rotate_left
            · intro w hSw; (try dsimp only at hSw); go_simp; try with_reducible rfl
            (try simp only [pmL, pnL, sc0, sc1])
            refine tkH 2 64 ?_ rfl (by kernel_rfl) (fun _ _ _ h => h) (by rfl) (by assumption) ?_ ?_
            rotate_left
            · intro w hSw; (try dsimp only at hSw); go_simp; try with_reducible rfl
            (try simp only [pmL, pnL, sc0, sc1])
            refine tkH 4 66 ?_ rfl (by kernel_rfl) (fun _ _ _ h => h) (by rfl) (by assumption) ?_ ?_
            rotate_left
            · intro w hSw; (try dsimp only at hSw); go_simp; try with_reducible rfl
            (try simp only [pmL, pnL, sc0, sc1])
            refine tkH 5 67 ?_ rfl (by kernel_rfl) (fun _ _ _ h => h) (by rfl) (by assumption) ?_ ?_
            rotate_left
            · intro w hSw; (try dsimp only at hSw); go_simp; try with_reducible rfl
            (try simp only [pmL, pnL, sc0, sc1])
            refine tkH 1 63 ?_ rfl (by kernel_rfl) (fun _ _ _ h => h) (by rfl) (by assumption) ?_ ?_
            rotate_left
            · intro w hSw; (try dsimp only at hSw); go_simp; try with_reducible rfl
            (try simp only [pmL, pnL, sc0, sc1])
            refine tkH 6 68 ?_ rfl (by kernel_rfl) (fun _ _ _ h => h) (by rfl) (by assumption) ?_ ?_
            rotate_left
            · intro w hSw; (try dsimp only at hSw); go_simp; try with_reducible rfl
            (try simp only [pmL, pnL, sc0, sc1])
            refine tkH 3 65 ?_ rfl (by kernel_rfl) (fun _ _ _ h => h) (by rfl) (by assumption) ?_ ?_
            rotate_left
            · intro w hSw; (try dsimp only at hSw); go_simp; try with_reducible rfl
            (try simp only [pmL, pnL, sc0, sc1])
            refine wpAnyH_ready (rs := [7]) (by kernel_rfl) (by simp) ?_
            refine (AllReadyH.cons (o := ⟨some 69, _, _, _, _, _⟩) rfl (fun K hK => ?_) AllReadyH.nil)
            rw [if_pos (by rfl)]
            refine ow_of_wl (ops := #[]) (by rfl) ?_
            apply wl_copy (m := t) (xs := bytesV (v.b.take t)) ([_, _, _, _, _] ++ FS1) hV
            rfl
            rfl
            exact rfl
            exact rfl
            infer_instance
            infer_instance
            exact Rd.blk (n := t) (c := 256) (off := 2) hV (.head _) (by omega) (by decide) (by rw [HTL.out, Nat.mul_one]) (by show (bytesV v.b).take _ = _; rw [HTL.out]; unfold bytesV; rw [List.map_take])
            exact ones_bytesV _
            exact Nat.le_refl _
            (have := HLEN.out; omega)
            intro w14 hZ4
            refine q0_nil ?_
            refine hK.out _ _ ?_ (fun hHeld => ?_)
            · exact ldS [_] hZ4 (rfl)
            clear hK K
            (try simp only [pmL, pnL, sc0, sc1])
            refine wpAnyH_done (by kernel_rfl) ?_ _
            clear hHeld
            go_wp2_with (first | go_big_skip | go_big_guard | fail)
            go_roundw
            case rel =>
              refine ⟨j + 1, by omega, rfl, ?_, ?_⟩
              · rw [HNX.out, HQ.out, ← Prod.eta (B j), ← HFI.out]
                rfl
              · rw [HNX.out, HQ.out, ← Prod.eta (B j), ← HFI.out]
                show St _ _ _ (_ :: _ :: _ :: _ :: ((B j).1.upd (v.dev : Int) (tornF v.pl v.b t)).devs.map blkD)
                rw [HSF.out]
                show St _ _ _ (_ :: _ :: _ :: _ :: (FS1 ++ .blk D.g _ (secsV (D.firm.set v.pl (v.b.take t ++ (D.firm.getD v.pl []).drop t))) :: FS2))
                rw [← HTRN.out]
                exact St.sub hZ4 (.cons _ (List.Sublist.refl _))
            case measure => simp [intOf]; omega
        · have d6 : decide ((j : Int) < (kn : Int)) = false := decide_eq_false (by omega)
          cases first
          · have HQ := hid hq
            clear hq
            go_wp2_with (first | go_big_skip | go_big_guard | fail)
            go_roundw
            case rel =>
              refine ⟨j + 1, by omega, rfl, ?_, ?_⟩
              · rw [HNX.out, HQ.out, ← Prod.eta (B j), ← HFI.out]
                rfl
              · rw [HNX.out, HQ.out, ← Prod.eta (B j), ← HFI.out]
                show St _ _ _ (_ :: _ :: _ :: _ :: (B j).1.devs.map blkD)
                rw [HS0.out, ← HSC.out]
                exact St.sub hst4 (.cons _ (List.Sublist.refl _))
            case measure => simp [intOf]; omega
          · have HQ := hid hq
            clear hq
            go_wp2_with (first | go_big_skip | go_big_guard | fail)
            have hV := hst4.drew
            clear hst4
            refine wp_region_held_drew (S := (fun w' => (loadVarH 3 ⟨g5, 0, none⟩).run Tryz.prog w' = .ok (.int .i64 (t : Int)) w')) (by kernel_rfl) (by exact ldS [_] hV (rfl)) (fun hHeld => ?_)
            refine tkH 0 62 ?_ rfl (by kernel_rfl) (fun _ _ _ h => h) (by rfl) (by assumption) ?_ ?_
            rotate_left
            · intro w hSw; (try dsimp only at hSw); go_simp; try with_reducible rfl
            (try simp only [pmL, pnL, sc0, sc1])
            refine tkH 2 64 ?_ rfl (by kernel_rfl) (fun _ _ _ h => h) (by rfl) (by assumption) ?_ ?_
            rotate_left
            · intro w hSw; (try dsimp only at hSw); go_simp; try with_reducible rfl
            (try simp only [pmL, pnL, sc0, sc1])
            refine tkH 4 66 ?_ rfl (by kernel_rfl) (fun _ _ _ h => h) (by rfl) (by assumption) ?_ ?_
            rotate_left
            · intro w hSw; (try dsimp only at hSw); go_simp; try with_reducible rfl
            (try simp only [pmL, pnL, sc0, sc1])
            refine tkH 5 67 ?_ rfl (by kernel_rfl) (fun _ _ _ h => h) (by rfl) (by assumption) ?_ ?_
            rotate_left
            · intro w hSw; (try dsimp only at hSw); go_simp; try with_reducible rfl
            (try simp only [pmL, pnL, sc0, sc1])
            refine tkH 1 63 ?_ rfl (by kernel_rfl) (fun _ _ _ h => h) (by rfl) (by assumption) ?_ ?_
            rotate_left
            · intro w hSw; (try dsimp only at hSw); go_simp; try with_reducible rfl
            (try simp only [pmL, pnL, sc0, sc1])
            refine tkH 6 68 ?_ rfl (by kernel_rfl) (fun _ _ _ h => h) (by rfl) (by assumption) ?_ ?_
            rotate_left
            · intro w hSw; (try dsimp only at hSw); go_simp; try with_reducible rfl
            (try simp only [pmL, pnL, sc0, sc1])
            refine tkH 3 65 ?_ rfl (by kernel_rfl) (fun _ _ _ h => h) (by rfl) (by assumption) ?_ ?_
            rotate_left
            · intro w hSw; (try dsimp only at hSw); go_simp; try with_reducible rfl
            (try simp only [pmL, pnL, sc0, sc1])
            refine wpAnyH_ready (rs := [7]) (by kernel_rfl) (by simp) ?_
            refine (AllReadyH.cons (o := ⟨some 69, _, _, _, _, _⟩) rfl (fun K hK => ?_) AllReadyH.nil)
            rw [if_pos (by rfl)]
            refine ow_of_wl (ops := #[]) (by rfl) ?_
            apply wl_copy (m := t) (xs := bytesV (v.b.take t)) ([_, _, _, _, _] ++ FS1) hV
            rfl
            rfl
            exact rfl
            exact rfl
            infer_instance
            infer_instance
            exact Rd.blk (n := t) (c := 256) (off := 2) hV (.head _) (by omega) (by decide) (by rw [HTL.out, Nat.mul_one]) (by show (bytesV v.b).take _ = _; rw [HTL.out]; unfold bytesV; rw [List.map_take])
            exact ones_bytesV _
            exact Nat.le_refl _
            (have := HLEN.out; omega)
            intro w14 hZ4
            refine q0_nil ?_
            refine hK.out _ _ ?_ (fun hHeld => ?_)
            · exact ldS [_] hZ4 (rfl)
            clear hK K
            (try simp only [pmL, pnL, sc0, sc1])
            refine wpAnyH_done (by kernel_rfl) ?_ _
            clear hHeld
            go_wp2_with (first | go_big_skip | go_big_guard | fail)
            go_roundw
            case rel =>
              refine ⟨j + 1, by omega, rfl, ?_, ?_⟩
              · rw [HNX.out, HQ.out, ← Prod.eta (B j), ← HFI.out]
                rfl
              · rw [HNX.out, HQ.out, ← Prod.eta (B j), ← HFI.out]
                show St _ _ _ (_ :: _ :: _ :: _ :: ((B j).1.upd (v.dev : Int) (tornF v.pl v.b t)).devs.map blkD)
                rw [HSF.out]
                show St _ _ _ (_ :: _ :: _ :: _ :: (FS1 ++ .blk D.g _ (secsV (D.firm.set v.pl (v.b.take t ++ (D.firm.getD v.pl []).drop t))) :: FS2))
                rw [← HTRN.out]
                exact St.sub hZ4 (.cons _ (List.Sublist.refl _))
            case measure => simp [intOf]; omega
      · obtain hjk : j < kn := (by
          rcases Nat.lt_or_ge j kn with h | h
          · exact h
          · rw [List.getD_eq_getElem?_getD, List.getElem?_eq_none (by rw [HN.out]; exact h)] at hq
            cases hq)
        have HQ := hid hq
        clear hq
        have d6 : decide ((j : Int) < (kn : Int)) = true := decide_eq_true (by omega)
        obtain ⟨kb, ko, rfl, hkr⟩ := Rd.at HR.out hjk
        have HKM := hid (HO.out _ _ _ rfl (by omega))
        have HK := hid (hkr j _ (boolsV_get (by rw [HN.out]; exact hjk)))
        rw [HQ.out] at HK
        go_wp2_with (first | go_big_skip | go_big_guard | (refine wl_index (k := j) rfl rfl rfl rfl hjk ?_) | (refine wl_loadE rfl rfl rfl ?_; first | refine ⟨_, Loads.oldM hst4 (by rw [Nat.mul_one]; exact HK.out) HKM.out, ?_⟩ | refine ⟨_, Loads.atA (T := 144) (bytesV v.b) [] hst4 HB256.out (by show (bytesV v.b).take _ = _; exact List.take_length), ?_⟩) | (refine wl_store (T := 144) ([_, _, _, _, _] ++ FS1) hst4 rfl rfl rfl (v := .agg (bytesV v.b).toArray) (n := 256) rfl (by show (bytesV v.b).toArray.size = 256; rw [List.size_toArray]; exact HB256.out) (ones_bytesV _) (by show v.pl * 256 + (bytesV v.b).toArray.size ≤ _; rw [List.size_toArray, HB256.out]; exact HLEN.out) ?_; intro w13 hZ3; clear hst4))
        go_roundw
        case rel =>
          refine ⟨j + 1, by omega, rfl, ?_, ?_⟩
          · rw [HNX.out, HQ.out, ← Prod.eta (B j), ← HFI.out]
            rfl
          · rw [HNX.out, HQ.out, ← Prod.eta (B j), ← HFI.out]
            show St _ _ _ (_ :: _ :: _ :: _ :: ((B j).1.upd (v.dev : Int) (setF v.pl v.b)).devs.map blkD)
            rw [HSF.out]
            show St _ _ _ (_ :: _ :: _ :: _ :: (FS1 ++ .blk D.g _ (secsV (D.firm.set v.pl v.b)) :: FS2))
            rw [← HSET.out]
            exact St.sub hZ3 (.cons _ (List.Sublist.refl _))
        case measure => simp [intOf]; omega
    · have d1 : decide ((j : Int) < (nl : Int)) = false := decide_eq_false (by omega)
      have hjn : j = nl := by omega
      subst hjn
      obtain ⟨b, hb⟩ : ∃ b, b = (B j).1 := ⟨_, rfl⟩
      have hgb := HGD.out j
      rw [← hb] at hst hgb HFIN
      have hbl := hgb.len
      have HBC := hid hgb.cel
      clear hb hgb
      have HC0 : Hid (devC (cleanN b 0) = devC a) := hid (by rw [cleanN_zero]; exact HBC.out)
      obtain ⟨FB, hFB⟩ : ∃ FB, FB = b.devs.map blkD := ⟨_, rfl⟩
      have HFB := hid hFB
      rw [← hFB] at hst HFIN
      clear hFB
      go_wp2_with (first | go_big_skip | go_big_guard | (refine wl_store [_] hst rfl rfl rfl (v := .slice _ _ _) rfl rfl rfl (by show (1 : Nat) + 1 ≤ 5; decide) ?_; intro w7 hst5; clear hst) | (refine wl_store [_] hst5 rfl rfl rfl (v := .bool _) rfl rfl rfl (by show (3 : Nat) + 1 ≤ 5; decide) ?_; intro w8 hst6; clear hst5) | (refine wl_store [_] hst6 rfl rfl rfl (v := .int _ _) rfl rfl rfl (by show (2 : Nat) + 1 ≤ 5; decide) ?_; intro w9 hst7; clear hst6) | (refine wl_loadE rfl rfl rfl ?_; first | refine ⟨_, Loads.at [_] hst7 rfl, ?_⟩))
      replace hst7 : St w (arF ga x a) w9 (.blk g5 3 [.int .i64 (t : Int)] :: .blk ga 109 [.slice (some ⟨x.gd, 0, none⟩) a.devs.length x.cd, .slice none 0 0, .int .i64 (-1), .bool false, .int .i64 a.steps] :: .blk x.gd 89 (devC a ++ x.rest) :: .row (.slice lao j lc) 149 258 j (looV a.loose) :: FB) := hst7
      go_loopw [85] (fun i wr => ∃ k : Nat, k ≤ a.devs.length ∧ i = .int .i64 (k : Int) ∧ St w (arF ga x a) wr (.blk g5 3 [.int .i64 (t : Int)] :: .blk ga 109 [.slice (some ⟨x.gd, 0, none⟩) a.devs.length x.cd, .slice none 0 0, .int .i64 (-1), .bool false, .int .i64 a.steps] :: .blk x.gd 89 (devC (cleanN b k) ++ x.rest) :: .row (.slice lao j lc) 149 258 j (looV a.loose) :: FB)) (fun i _ => a.devs.length - (intOf i).toNat)
      case atStart => exact ⟨0, Nat.zero_le _, rfl, by rw [HC0.out]; exact hst7⟩
      case round =>
        clear hst7
        obtain ⟨k, hk, rfl, hst⟩ := hrel
        by_cases hlk : k < a.devs.length
        · have d7 : decide ((k : Int) < (a.devs.length : Int)) = true := decide_eq_true (by omega)
          have z1 : IntKind.i64.wrap ((k : Int) + 1) = (k : Int) + 1 := IntWalk.i64_in _ (by omega)
          have hin : (cleanN b k).inD (k : Int) = true := by
            unfold AR.inD
            rw [cleanN_len]
            simp only [Bool.and_eq_true, decide_eq_true_eq]
            omega
          have HP1 := hid (devC_put (a := cleanN b k) (dev := (k : Int)) (f := fun d => { d with lo := false, st := false }) (v := .int .u8 0) (rest := x.rest) hin (i := 2) (by decide) rfl)
          have HP2 := hid (devC_put (a := (cleanN b k).upd (k : Int) fun d => { d with lo := false, st := false }) (dev := (k : Int)) (f := fun d => { d with fail := 0 }) (v := .int .i64 0) (rest := x.rest) (by rw [upd_inD]; exact hin) (i := 4) (by decide) rfl)
          rw [upd_upd] at HP2
          have HCN : Hid (cleanN b (k + 1) = (cleanN b k).upd (k : Int) fun d => { d with lo := false, st := false, fail := 0 }) := hid (cleanN_succ (by omega))
          have HL1 := hid (List.getElem?_eq_some_iff.1 (devC_get (a := cleanN b k) (dev := (k : Int)) (rest := x.rest) hin (i := 2) rfl (by decide))).1
          have HL2 := hid (List.getElem?_eq_some_iff.1 (devC_get (a := (cleanN b k).upd (k : Int) fun d => { d with lo := false, st := false }) (dev := (k : Int)) (rest := x.rest) (by rw [upd_inD]; exact hin) (i := 4) rfl (by decide))).1
          replace HL1 : Hid (k * 5 + 2 + 1 ≤ (devC (cleanN b k) ++ x.rest).length) := HL1
          replace HL2 : Hid (k * 5 + 4 + 1 ≤ (devC ((cleanN b k).upd (k : Int) fun d => { d with lo := false, st := false }) ++ x.rest).length) := HL2
          clear hin
          go_wp2_with (first | go_big_skip | go_big_guard | (refine wl_loadE rfl rfl rfl ?_; first | refine ⟨_, Loads.at [_] hst rfl, ?_⟩) | (refine wl_index (k := k) rfl rfl rfl rfl hlk ?_) | (refine wl_store [_, _] hst rfl rfl rfl (v := .int _ _) rfl rfl rfl HL1.out ?_; intro w7 hst5; clear hst; rw [show putAt (devC (cleanN b k) ++ x.rest) (k * 5 + 2) (Value.int .u8 0).cells.toList = _ from HP1.out] at hst5) | (refine wl_store [_, _] hst5 rfl rfl rfl (v := .int _ _) rfl rfl rfl HL2.out ?_; intro w8 hst6; clear hst5))
          go_roundw
          case rel =>
            refine ⟨k + 1, by omega, rfl, ?_⟩
            rw [HCN.out, ← HP2.out]
            exact hst6
          case measure => simp [intOf]; omega
        · have d7 : decide ((k : Int) < (a.devs.length : Int)) = false := decide_eq_false (by omega)
          have hkn : k = a.devs.length := by omega
          go_wp2_with (first | go_big_skip | go_big_guard | fail)
          go_ret
          refine ⟨rfl, ⟨x.gd, x.cd, x.rest, .slice none 0 0⟩, ?_⟩
          rw [HFIN.out, ← hkn]
          rw [← hkn] at hst
          have h8 := St.nilR 149 258 (St.sub (L' := .blk ga 109 _ :: .blk x.gd 89 _ :: FB) hst (.cons _ (.cons_cons _ (.cons_cons _ (.cons _ (List.Sublist.refl _))))))
          exact St.perm h8 ((List.Perm.swap _ _ _).trans (List.Perm.cons _ (List.Perm.swap _ _ _)))
end
end Go.Proofs.YtmdfbdfijnmhkaaGreat
namespace Go.Proofs.YtmdfbdfijnmhkaaGreat
set_option linter.unusedVariables false
set_option linter.unusedSimpArgs false
open Go.RowKit Hp
attribute [local irreducible] Go.Calls
set_option maxHeartbeats 1000000
theorem sameBytes_any (v u : Value) (n m : Nat) (l k : List UInt8) (w : World) (hv : Rd w v 1 n (bytesV l)) (hu : Rd w u 1 m (bytesV k)) :
    Calls Tryz.prog 18 #[v, u] w fun e w' => e = .returned (.bool (l == k)) ∧ St w [] w' [] := by
  go_enter Tryz.func18, Tryz.ntmps18
  go_wp2_with (first | go_big_skip | go_big_guard | (refine wl_bytes_string rfl rfl rfl hv ?_) | (refine wl_bytes_string rfl rfl rfl hu ?_))
  go_ret
  exact ⟨rfl, St.refl w⟩
end Go.Proofs.YtmdfbdfijnmhkaaGreat
namespace Go.Proofs.YtmdfbdfijnmhkaaGreat
set_option linter.unusedVariables false
set_option linter.unusedSimpArgs false
open Go.RowKit Hp
attribute [local irreducible] Go.Calls Go.wpList
set_option maxRecDepth 100000
set_option maxHeartbeats 4000000
theorem crashM_any {w : World} {ga : Nat} {x : GA} {a : AR} (hS : St w (arF ga x a) w (arP ga x a)) (ok : a.Ok) (hll : a.loose.length < 1000000) (kao : Option Addr) (kn kc : Nat) (keep : List Bool) (hr : Rd w (.slice kao kn kc) 1 kn (boolsV keep)) (hn : keep.length = kn) (ho : Off (.slice kao kn kc) (arF ga x a)) (torn : Int) :
    Calls Tryz.prog 53 #[.pointer (some ⟨ga, 0, none⟩), .slice kao kn kc, .int .i64 torn] w fun e w' => e = .returned (.int .i64 (a.crashE torn)) ∧ ∃ x', St w (arF ga x a) w' (arP ga x' (a.crash keep torn)) := by
  cases h1 : (decide (0 ≤ torn) && decide (torn < 256))
  · exact crash_odd hS ok hll kao kn kc keep hr hn ho torn h1
  · simp only [Bool.and_eq_true, decide_eq_true_eq] at h1
    obtain ⟨t, rfl⟩ : ∃ t : Nat, torn = t := ⟨torn.toNat, by omega⟩
    exact crash_fine hS ok hll kao kn kc keep hr hn ho t (by omega)
end Go.Proofs.YtmdfbdfijnmhkaaGreat
namespace Go.Proofs.YtmdfbdfijnmhkaaGreat
set_option linter.unusedVariables false
set_option linter.unusedSimpArgs false
open Go.RowKit Hp
set_option maxRecDepth 100000
theorem secs_eq (a : AR) : a.secs = ((a.devs[0]?).map fun d => d.firm.length).getD 0 := by
  unfold AR.secs
  cases a.devs <;> rfl
theorem upd_secs {a : AR} {dev : Int} {f : DV → DV} (hin : a.inD dev = true) (hl : (f (a.dv dev)).firm.length = (a.dv dev).firm.length) : (a.upd dev f).secs = a.secs := by
  have hd := devs_get hin
  rw [secs_eq, secs_eq]
  unfold AR.upd
  rw [modify_get]
  by_cases h0 : dev.toNat = 0
  · rw [if_pos h0, ← h0, hd, Option.map_some, Option.map_some, Option.map_some, hl]
  · rw [if_neg h0]
theorem mem_upd {a : AR} {dev : Int} {f : DV → DV} {d : DV} (hin : a.inD dev = true) (hd : d ∈ (a.upd dev f).devs) : d = f (a.dv dev) ∨ d ∈ a.devs := by
  unfold AR.upd at hd
  obtain ⟨j, hj⟩ := List.getElem?_of_mem hd
  rw [modify_get] at hj
  by_cases h0 : dev.toNat = j
  · subst h0
    rw [if_pos rfl, devs_get hin, Option.map_some] at hj
    exact .inl (Option.some.inj hj).symm
  · rw [if_neg h0] at hj
    exact .inr (List.mem_of_getElem? hj)
def DV.Fine (s : Nat) (d : DV) : Prop := d.firm.length = s ∧ (∀ t ∈ d.firm, t.length = 256) ∧ (d.st = true → 0 ≤ d.to ∧ d.to < s) ∧ 0 ≤ d.fail ∧ d.fail ≤ 9223372036854775807
theorem AR.Ok.dv {a : AR} (ok : a.Ok) {dev : Int} (hin : a.inD dev = true) : (a.dv dev).Fine a.secs := ok.fm _ (List.mem_of_getElem? (devs_get hin))
theorem AR.Ok.upd {a : AR} (ok : a.Ok) {dev : Int} {f : DV → DV} (hin : a.inD dev = true) (hf : (f (a.dv dev)).Fine a.secs) : (a.upd dev f).Ok := by
  have hs : (a.upd dev f).secs = a.secs := upd_secs hin (by rw [hf.1, (ok.dv hin).1])
  have hl : (a.upd dev f).devs.length = a.devs.length := upd_len _ _ _
  refine ⟨?_, by rw [hl]; exact ok.dn, by rw [hs]; exact ok.sn, fun d hd => ?_, ?_, ok.fu⟩
  · intro h
    rw [h] at hl
    exact ok.d0 (List.eq_nil_of_length_eq_zero hl.symm)
  · rw [hs]
    rcases mem_upd hin hd with rfl | h
    · exact hf
    · exact ok.fm d h
  · intro w hw
    rw [hl, hs]
    exact ok.lw w hw
theorem AR.Ok.loose {a : AR} (ok : a.Ok) {l : List LW} (h : ∀ w ∈ l, w.dev < a.devs.length ∧ w.pl < a.secs ∧ w.b.length = 256) : ({ a with loose := l } : AR).Ok := ⟨ok.d0, ok.dn, ok.sn, ok.fm, h, ok.fu⟩
theorem AR.Ok.step {a : AR} (ok : a.Ok) : a.step.Ok := by
  have h := ok.fu
  unfold AR.step
  split
  · exact ⟨ok.d0, ok.dn, ok.sn, ok.fm, ok.lw, ok.fu⟩
  · refine ⟨ok.d0, ok.dn, ok.sn, ok.fm, ok.lw, ?_⟩
    show -1 ≤ (if 0 < a.fuse then a.fuse - 1 else a.fuse) ∧ (if 0 < a.fuse then a.fuse - 1 else a.fuse) ≤ 9223372036854775807
    split <;> omega
theorem AR.Ok.lay {a : AR} (ok : a.Ok) {dev pl : Int} {b : List UInt8} (hs : a.inS dev pl = true) (hb : b.length = 256) : (a.lay dev pl b).Ok := by
  have hin := inS_inD hs
  have hf := ok.dv hin
  have hd := inD_dev hin
  have hp := inS_pl hs
  unfold AR.lay
  split
  · exact ok.upd hin hf
  · split
    · rename_i hst
      have ok2 := ok.upd (f := fun d => { d with st := false }) hin ⟨hf.1, hf.2.1, (fun h => by cases h), hf.2.2.2⟩
      refine ok2.loose fun w hw => ?_
      rcases List.mem_append.1 hw with h | h
      · have := ok2.lw w h
        exact this
      · simp only [List.mem_singleton] at h
        subst h
        have hto := hf.2.2.1 hst
        rw [upd_len, upd_secs hin rfl]
        exact ⟨by show dev.toNat < _; omega, by show ((a.dv dev).to).toNat < _; omega, hb⟩
    · refine ok.loose fun w hw => ?_
      rcases List.mem_append.1 hw with h | h
      · exact ok.lw w h
      · simp only [List.mem_singleton] at h
        subst h
        exact ⟨by show dev.toNat < _; omega, by show pl.toNat < _; omega, hb⟩
theorem AR.Ok.write {a : AR} (ok : a.Ok) (dev pl : Int) (b : List UInt8) : (a.write dev pl b).Ok := by
  unfold AR.write
  split
  · exact ok
  · rename_i h
    split
    · exact ok.step
    · have hs : a.inS dev pl = true := by
        cases hh : a.inS dev pl
        · exact absurd (.inr (.inr (.inl hh))) h
        · rfl
      have hb : b.length = 256 := by
        by_cases hh : b.length = 256
        · exact hh
        · exact absurd (.inr (.inr (.inr (.inl hh)))) h
      refine ok.step.lay ?_ hb
      unfold AR.inS at hs ⊢
      rw [step_inD, step_secs]
      exact hs
theorem AR.Ok.read {a : AR} (ok : a.Ok) (dev pl : Int) : (a.read dev pl).Ok := by
  unfold AR.read
  split
  · rename_i h
    have hs : a.inS dev pl = true ∧ 0 < (a.dv dev).fail := by
      unfold AR.readE at h
      split at h
      · cases h
      · split at h
        · cases h
        · split at h
          · cases h
          · rename_i hh
            split at h
            · cases h
            · split at h
              · rename_i h5
                exact ⟨by simpa using hh, h5⟩
              · cases h
    have hf := ok.dv (inS_inD hs.1)
    exact ok.upd (inS_inD hs.1) ⟨hf.1, hf.2.1, hf.2.2.1, by show 0 ≤ (a.dv dev).fail - 1; omega, by show (a.dv dev).fail - 1 ≤ _; have := hf.2.2.2.2; omega⟩
  · exact ok
theorem AR.Ok.firms {a : AR} (ok : a.Ok) {k : Nat} (hin : a.inD (k : Int) = true) : (a.firms k).Ok := by
  have hf := ok.dv hin
  have ok2 := ok.upd (f := fun d => { d with firm := (a.loose.filter fun w => w.dev == k).foldl setS d.firm }) hin
    ⟨by rw [show ({ (a.dv (k : Int)) with firm := (a.loose.filter fun w => w.dev == k).foldl setS (a.dv (k : Int)).firm } : DV).firm.length = (a.dv (k : Int)).firm.length from foldS_len _ _]; exact hf.1,
      foldS_all hf.2.1 (fun w hw => (ok.lw w (List.mem_filter.1 hw).1).2.2), hf.2.2⟩
  exact ok2.loose fun w hw => ok2.lw w (List.mem_filter.1 hw).1
theorem AR.Ok.flush {a : AR} (ok : a.Ok) (dev : Int) : (a.flush dev).Ok := by
  unfold AR.flush
  split
  · exact ok
  · rename_i h
    split
    · exact ok.step
    · have hs : a.inD dev = true := by
        cases hh : a.inD dev
        · exact absurd (.inr (.inr (.inl hh))) h
        · rfl
      have h0 := inD_dev hs
      refine ok.step.firms ?_
      rw [step_inD, Int.toNat_of_nonneg h0.1]
      exact hs
theorem AR.Ok.fell {a : AR} (ok : a.Ok) {dev : Int} {rs : List Int} {f : DV → DV} (hf : firstE rs = 0 → a.inD dev = true ∧ (f (a.dv dev)).Fine a.secs) : (a.fell dev rs f).Ok := by
  unfold AR.fell
  split
  · rename_i h
    rw [firstE_snoc] at h
    by_cases h1 : firstE rs = 0
    · exact ok.upd (hf h1).1 (hf h1).2
    · rw [if_neg h1] at h
      exact absurd h h1
  · exact ok
theorem AR.Ok.lose {a : AR} (ok : a.Ok) (dev : Int) : (a.lose dev).Ok := ok.fell fun h => by
  have hin : a.inD dev = true := orE_zero (by decide) (firstE_all h _ (.head _))
  exact ⟨hin, ok.dv hin⟩
theorem AR.Ok.stray {a : AR} (ok : a.Ok) (dev pl : Int) : (a.stray dev pl).Ok := ok.fell fun h => by
  have hs : a.inS dev pl = true := orE_zero (by decide) (firstE_all h _ (.head _))
  have hf := ok.dv (inS_inD hs)
  exact ⟨inS_inD hs, hf.1, hf.2.1, fun _ => inS_pl hs, hf.2.2.2⟩
theorem AR.Ok.fails {a : AR} (ok : a.Ok) (dev n : Int) (hn : n ≤ 9223372036854775807) : (a.fails dev n).Ok := ok.fell fun h => by
  have hin : a.inD dev = true := orE_zero (by decide) (firstE_all h _ (.head _))
  have h0 : decide (0 ≤ n) = true := orE_zero (by decide) (firstE_all h _ (.tail _ (.head _)))
  have hf := ok.dv hin
  exact ⟨hin, hf.1, hf.2.1, hf.2.2.1, of_decide_eq_true h0, hn⟩
theorem AR.Ok.crash {a : AR} (ok : a.Ok) (keep : List Bool) (torn : Int) : (a.crash keep torn).Ok := by
  unfold AR.crash
  split
  · rename_i h
    have ht : torn.toNat ≤ 256 := by
      unfold AR.crashE at h
      rw [if_neg ok.d0] at h
      have := orE_zero (by decide) h
      simp only [Bool.and_eq_true, decide_eq_true_eq] at this
      omega
    have hg := crashN_good ok keep ht a.loose.length
    have hs : (a.crashed keep torn.toNat).secs = a.secs := by
      have h0 : (crashN a keep torn.toNat a.loose.length).1.devs ≠ [] := by
        intro he
        have := hg.len
        rw [he] at this
        exact ok.d0 (List.eq_nil_of_length_eq_zero this.symm)
      unfold AR.secs AR.crashed
      cases hd : (crashN a keep torn.toNat a.loose.length).1.devs with
      | nil => exact absurd hd h0
      | cons d l =>
        show (clean d).firm.length = _
        have := (hg.fm d (by rw [hd]; exact .head _)).1
        exact this
    have hl : (a.crashed keep torn.toNat).devs.length = a.devs.length := by
      unfold AR.crashed
      rw [List.length_map, hg.len]
    refine ⟨?_, by rw [hl]; exact ok.dn, by rw [hs]; exact ok.sn, fun d hd => ?_, (fun w hw => by cases hw), (by show (-1 : Int) ≤ -1 ∧ (-1 : Int) ≤ 9223372036854775807; decide)⟩
    · intro he
      rw [he] at hl
      exact ok.d0 (List.eq_nil_of_length_eq_zero hl.symm)
    · unfold AR.crashed at hd
      obtain ⟨d0, hd0, rfl⟩ := List.mem_map.1 hd
      have := hg.fm d0 hd0
      rw [hs]
      exact ⟨this.1, this.2, (fun h => by cases h), (by show (0 : Int) ≤ 0; decide), (by show (0 : Int) ≤ 9223372036854775807; decide)⟩
  · exact ok
theorem St.behind {w0 w : World} {M : List Nat} {A R : List HA} {p : HA} (h : St w0 M w (p :: (A ++ R))) : St w0 M w (A ++ p :: R) := St.perm h (List.perm_middle.symm)
theorem St.arr {w0 w : World} {M : List Nat} {R : List HA} {ga : Nat} {x : GA} {a : AR} (h : St w0 M w (arP ga x a ++ R)) : St w (arF ga x a) w (arP ga x a) := (St.sub h (List.sublist_append_left _ _)).selfF
end Go.Proofs.YtmdfbdfijnmhkaaGreat
namespace Go.Proofs.YtmdfbdfijnmhkaaGreat
set_option linter.unusedVariables false
set_option linter.unusedSimpArgs false
open Go.RowKit Hp
attribute [local irreducible] Go.Calls Go.wpList
set_option maxRecDepth 100000
set_option maxHeartbeats 4000000
def fuseL (a : AR) : List Int := [0, orE (!a.out) 10]
theorem fuseL_isE (a : AR) : ∀ e ∈ fuseL a, e = 0 ∨ isE e := by
  intro e he
  unfold fuseL at he
  simp only [List.mem_cons, List.not_mem_nil, or_false] at he
  rcases he with rfl | rfl
  · exact .inl rfl
  · exact orE_isE _ _ (by unfold isE; decide)
theorem fuse_eq {a : AR} (h0 : a.devs ≠ []) (n : Int) : a.fuseE n = if firstE (fuseL a) = 0 then orE (decide (0 ≤ n)) 2 else firstE (fuseL a) := by
  unfold AR.fuseE fuseL
  rw [if_neg h0]
  cases a.out
  · show (if False then (10 : Int) else if n < 0 then 2 else 0) = orE (decide (0 ≤ n)) 2
    rw [if_neg (fun h => h)]
    by_cases hn : 0 ≤ n
    · rw [if_neg (by omega), decide_eq_true hn]; rfl
    · rw [if_pos (by omega), decide_eq_false hn]; rfl
  · rfl
theorem AR.Ok.fused {a : AR} (ok : a.Ok) {n : Int} (hn : n ≤ 9223372036854775807) : (a.fused n).Ok := by
  unfold AR.fused
  split
  · rename_i h
    have h0 : 0 ≤ n := by
      unfold AR.fuseE at h
      split at h
      · cases h
      · split at h
        · cases h
        · split at h
          · cases h
          · omega
    exact ⟨ok.d0, ok.dn, ok.sn, ok.fm, ok.lw, by show -1 ≤ n ∧ n ≤ _; omega⟩
  · exact ok
theorem fuse_bad {w : World} {ga : Nat} {x : GA} {a : AR} (hS : St w (arF ga x a) w (arP ga x a)) (ok : a.Ok) (n : Int) (h1 : firstE (fuseL a) ≠ 0) :
    Calls Tryz.prog 54 #[.pointer (some ⟨ga, 0, none⟩), .int .i64 n] w fun e w' => e = .returned (.int .i64 (a.fuseE n)) ∧ St w (arF ga x a) w' (arP ga x (a.fused n)) := by
  have he : a.fuseE n = firstE (fuseL a) := by rw [fuse_eq ok.d0, if_neg h1]
  have hc : a.fused n = a := by unfold AR.fused; rw [if_neg (by rw [he]; exact h1)]
  rw [he, hc]
  have HE := hid (firstE_isE (fuseL_isE a) h1)
  have H1 := hid h1
  have OK := hid ok
  have hst0 := hS
  have hmf := rmf
  clear he hc h1 ok hS
  go_enter Tryz.func54, Tryz.ntmps54
  go_wp2_with (first | go_big_skip | go_big_guard | (refine wl_box hst0 rfl rfl rfl ?_; intro g3 w1 hst1; clear hst0) | (apply wl_bsX ([methV 46 (ptrV ga), methV 88 (ptrV ga), cloV 104 [ptrV g3]]) ([methV 46 (ptrV ga), methV 88 (ptrV ga), cloV 104 [ptrV g3]]) hst1; rfl; rfl; exact rfl; exact rfl; infer_instance; infer_instance; rfl; rfl; rfl; intro gs w2 hst2; clear hst1) | (go_at_call 45; have hC := checks_any (-1) (v := .slice (some ⟨gs, 0, none⟩) 3 3) (n := 3) (fs := [methV 46 (ptrV ga), methV 88 (ptrV ga)]) (f9 := cloV 104 [ptrV g3]) (es := fuseL a) (e9 := orE (decide (0 ≤ n)) 2) (A := (fun w' => St w (arF ga x a) w' (([HA.blk gs 92 ([methV 46 (ptrV ga), methV 88 (ptrV ga), cloV 104 [ptrV g3]]), .blk g3 3 [.int .i64 n]] : List HA) ++ arP ga x a))) (B := (fun w' => St w (arF ga x a) w' (([HA.blk gs 92 ([methV 46 (ptrV ga), methV 88 (ptrV ga), cloV 104 [ptrV g3]]), .blk g3 3 [.int .i64 n]] : List HA) ++ arP ga x a))) _ (fun _ h => Rd.blk h (.head _) (Nat.le_refl _) (by decide) rfl rfl) rfl rfl (by decide) (fun j f e hf he _ => (match j, hf, he with | 0, hf, he => (by cases hf; cases he; exact probe_made (fun _ h => ArrAt.of h (fun p hp => List.mem_append_right _ hp) OK.out.d0) keeps_st) | 1, hf, he => (by cases hf; cases he; exact probe_runs (fun _ h => ArrAt.of h (fun p hp => List.mem_append_right _ hp) OK.out.d0) keeps_st) | j + 2, hf, _ => (by simp at hf))) (fun _ => probe_clo (fun _ _ => rfl) fun w h => (fuse1_any (St.cell h (off := 0) (.tail _ (.head _)) rfl)).mono fun _ _ ⟨e, h4⟩ => ⟨e, keeps_st _ _ h h4⟩) hst2; refine hC.mono ?_; rintro _ w5 hh; obtain ⟨rfl, h4⟩ := checks_bad H1.out hh; clear hC hh hst2; have hst3 := h4; clear h4; obtain ⟨E, hEE⟩ : ∃ E, E = firstE (fuseL a) := ⟨_, rfl⟩; have HQ := hid hEE; rw [← hEE] at HE H1; rw [← hEE]; clear hEE) | (go_at_call 47; refine (number_isE E (-1) HE.out H1.out _).mono ?_; rintro _ w6 ⟨rfl, h4⟩; have hst6 := St.call0 hst3 h4; clear h4 hst3))
  go_ret
  exact ⟨congrArg _ (congrArg _ HQ.out), St.sub hst6 (List.sublist_append_right _ _)⟩
theorem fuse_neg {w : World} {ga : Nat} {x : GA} {a : AR} (hS : St w (arF ga x a) w (arP ga x a)) (ok : a.Ok) (n : Int) (h1 : firstE (fuseL a) = 0) (h2 : ¬ 0 ≤ n) :
    Calls Tryz.prog 54 #[.pointer (some ⟨ga, 0, none⟩), .int .i64 n] w fun e w' => e = .returned (.int .i64 (a.fuseE n)) ∧ St w (arF ga x a) w' (arP ga x (a.fused n)) := by
  have he : a.fuseE n = 2 := by rw [fuse_eq ok.d0, if_pos h1, decide_eq_false h2]; rfl
  have hc : a.fused n = a := by unfold AR.fused; rw [he]; rfl
  rw [he, hc]
  have HE : Hid (orE (decide (0 ≤ n)) 2 = 2) := hid (by rw [decide_eq_false h2]; rfl)
  have H1 := hid h1
  have OK := hid ok
  have hst0 := hS
  have hmf := rmf
  clear he hc h1 ok hS h2
  go_enter Tryz.func54, Tryz.ntmps54
  go_wp2_with (first | go_big_skip | go_big_guard | (refine wl_box hst0 rfl rfl rfl ?_; intro g3 w1 hst1; clear hst0) | (apply wl_bsX ([methV 46 (ptrV ga), methV 88 (ptrV ga), cloV 104 [ptrV g3]]) ([methV 46 (ptrV ga), methV 88 (ptrV ga), cloV 104 [ptrV g3]]) hst1; rfl; rfl; exact rfl; exact rfl; infer_instance; infer_instance; rfl; rfl; rfl; intro gs w2 hst2; clear hst1) | (go_at_call 45; have hC := checks_any (-1) (v := .slice (some ⟨gs, 0, none⟩) 3 3) (n := 3) (fs := [methV 46 (ptrV ga), methV 88 (ptrV ga)]) (f9 := cloV 104 [ptrV g3]) (es := fuseL a) (e9 := orE (decide (0 ≤ n)) 2) (A := (fun w' => St w (arF ga x a) w' (([HA.blk gs 92 ([methV 46 (ptrV ga), methV 88 (ptrV ga), cloV 104 [ptrV g3]]), .blk g3 3 [.int .i64 n]] : List HA) ++ arP ga x a))) (B := (fun w' => St w (arF ga x a) w' (([HA.blk gs 92 ([methV 46 (ptrV ga), methV 88 (ptrV ga), cloV 104 [ptrV g3]]), .blk g3 3 [.int .i64 n]] : List HA) ++ arP ga x a))) _ (fun _ h => Rd.blk h (.head _) (Nat.le_refl _) (by decide) rfl rfl) rfl rfl (by decide) (fun j f e hf he _ => (match j, hf, he with | 0, hf, he => (by cases hf; cases he; exact probe_made (fun _ h => ArrAt.of h (fun p hp => List.mem_append_right _ hp) OK.out.d0) keeps_st) | 1, hf, he => (by cases hf; cases he; exact probe_runs (fun _ h => ArrAt.of h (fun p hp => List.mem_append_right _ hp) OK.out.d0) keeps_st) | j + 2, hf, _ => (by simp at hf))) (fun _ => probe_clo (fun _ _ => rfl) fun w h => (fuse1_any (St.cell h (off := 0) (.tail _ (.head _)) rfl)).mono fun _ _ ⟨e, h4⟩ => ⟨e, keeps_st _ _ h h4⟩) hst2; rw [HE.out] at hC; refine hC.mono ?_; rintro _ w5 hh; obtain ⟨rfl, h4⟩ := checks_last H1.out (by decide) hh; clear hC hh hst2; have hst3 := h4; clear h4) | (go_at_call 47; refine (number_isE 2 (-1) (by unfold isE; decide) (by decide) _).mono ?_; rintro _ w6 ⟨rfl, h4⟩; have hst6 := St.call0 hst3 h4; clear h4 hst3))
  go_ret
  exact ⟨rfl, St.sub hst6 (List.sublist_append_right _ _)⟩
theorem fuse_fine {w : World} {ga : Nat} {x : GA} {a : AR} (hS : St w (arF ga x a) w (arP ga x a)) (ok : a.Ok) (n : Int) (h1 : firstE (fuseL a) = 0) (h2 : 0 ≤ n) :
    Calls Tryz.prog 54 #[.pointer (some ⟨ga, 0, none⟩), .int .i64 n] w fun e w' => e = .returned (.int .i64 (a.fuseE n)) ∧ St w (arF ga x a) w' (arP ga x (a.fused n)) := by
  have he : a.fuseE n = 0 := by rw [fuse_eq ok.d0, if_pos h1, decide_eq_true h2]; rfl
  have hc : a.fused n = ⟨a.devs, a.loose, n, a.out, a.steps⟩ := by unfold AR.fused; rw [he]; rfl
  rw [he, hc]
  have HE : Hid (orE (decide (0 ≤ n)) 2 = 0) := hid (by rw [decide_eq_true h2]; rfl)
  have H1 := hid h1
  have OK := hid ok
  have hst0 := hS
  have hmf := rmf
  clear he hc h1 ok hS h2
  go_enter Tryz.func54, Tryz.ntmps54
  go_wp2_with (first | go_big_skip | go_big_guard | (refine wl_box hst0 rfl rfl rfl ?_; intro g3 w1 hst1; clear hst0) | (apply wl_bsX ([methV 46 (ptrV ga), methV 88 (ptrV ga), cloV 104 [ptrV g3]]) ([methV 46 (ptrV ga), methV 88 (ptrV ga), cloV 104 [ptrV g3]]) hst1; rfl; rfl; exact rfl; exact rfl; infer_instance; infer_instance; rfl; rfl; rfl; intro gs w2 hst2; clear hst1) | (go_at_call 45; have hC := checks_any (-1) (v := .slice (some ⟨gs, 0, none⟩) 3 3) (n := 3) (fs := [methV 46 (ptrV ga), methV 88 (ptrV ga)]) (f9 := cloV 104 [ptrV g3]) (es := fuseL a) (e9 := orE (decide (0 ≤ n)) 2) (A := (fun w' => St w (arF ga x a) w' (([HA.blk gs 92 ([methV 46 (ptrV ga), methV 88 (ptrV ga), cloV 104 [ptrV g3]]), .blk g3 3 [.int .i64 n]] : List HA) ++ arP ga x a))) (B := (fun w' => St w (arF ga x a) w' (([HA.blk gs 92 ([methV 46 (ptrV ga), methV 88 (ptrV ga), cloV 104 [ptrV g3]]), .blk g3 3 [.int .i64 n]] : List HA) ++ arP ga x a))) _ (fun _ h => Rd.blk h (.head _) (Nat.le_refl _) (by decide) rfl rfl) rfl rfl (by decide) (fun j f e hf he _ => (match j, hf, he with | 0, hf, he => (by cases hf; cases he; exact probe_made (fun _ h => ArrAt.of h (fun p hp => List.mem_append_right _ hp) OK.out.d0) keeps_st) | 1, hf, he => (by cases hf; cases he; exact probe_runs (fun _ h => ArrAt.of h (fun p hp => List.mem_append_right _ hp) OK.out.d0) keeps_st) | j + 2, hf, _ => (by simp at hf))) (fun _ => probe_clo (fun _ _ => rfl) fun w h => (fuse1_any (St.cell h (off := 0) (.tail _ (.head _)) rfl)).mono fun _ _ ⟨e, h4⟩ => ⟨e, keeps_st _ _ h h4⟩) hst2; rw [HE.out] at hC; refine hC.mono ?_; rintro _ w5 hh; obtain ⟨rfl, h4⟩ := checks_fine H1.out hh; clear hC hh hst2; have hst3 := h4; clear h4) | (refine wl_loadE rfl rfl rfl ?_; first | refine ⟨_, Loads.at [_] hst3 rfl, ?_⟩) | (refine wl_store [_, _] hst3 rfl rfl rfl (v := .int _ _) rfl rfl rfl (by show (2 : Nat) + 1 ≤ 5; decide) ?_; intro w7 hst7; clear hst3))
  go_ret
  exact ⟨rfl, St.sub hst7 (.cons _ (.cons _ (List.Sublist.refl _)))⟩
theorem fuseM_any {w : World} {ga : Nat} {x : GA} {a : AR} (hS : St w (arF ga x a) w (arP ga x a)) (ok : a.Ok) (n : Int) :
    Calls Tryz.prog 54 #[.pointer (some ⟨ga, 0, none⟩), .int .i64 n] w fun e w' => e = .returned (.int .i64 (a.fuseE n)) ∧ St w (arF ga x a) w' (arP ga x (a.fused n)) := by
  by_cases h1 : firstE (fuseL a) = 0
  · by_cases h2 : 0 ≤ n
    · exact fuse_fine hS ok n h1 h2
    · exact fuse_neg hS ok n h1 h2
  · exact fuse_bad hS ok n h1
end Go.Proofs.YtmdfbdfijnmhkaaGreat
namespace Go.Proofs.YtmdfbdfijnmhkaaGreat
set_option linter.unusedVariables false
set_option linter.unusedSimpArgs false
open Go.RowKit Hp
theorem zeroCells_one {z : Array Value} (h : z.toList.all (·.oneCell') = true) (n : Nat) : ∀ v ∈ (Builtin.zeroCells z n).toList, v.oneCell' = true := by
  have := all_zeroCells (p := (·.oneCell')) h n
  exact List.all_eq_true.1 this
end Go.Proofs.YtmdfbdfijnmhkaaGreat
namespace Go.Proofs.YtmdfbdfijnmhkaaGreat
set_option linter.unusedVariables false
set_option linter.unusedSimpArgs false
open Go.RowKit Hp
attribute [local irreducible] Go.Calls Go.wpList
set_option maxRecDepth 100000
set_option maxHeartbeats 4000000
theorem drop1_any {w : World} {g3 : Nat} {d : Int} (h0 : w.cell? ⟨g3, 0, none⟩ = some (.int .i64 d)) (v : LW) : Calls Tryz.prog 92 #[.agg (List.toArray v.cells), .pointer (some ⟨g3, 0, none⟩)] w fun e w' => e = .returned (.bool ((v.dev : Int) == d)) ∧ St w [] w' [] := by
  have hst0 := St.refl w
  have H0 := hid h0
  clear h0
  obtain ⟨q, hq⟩ : ∃ q, q = ((v.dev : Int) == d) := ⟨_, rfl⟩
  have d1 : ((v.dev : Int) == d) = q := hq.symm
  rw [d1]
  clear hq
  go_enter Tryz.func92, Tryz.ntmps92
  go_wp2_with (first | go_big_skip | go_big_guard | (refine wl_boxA hst0 rfl rfl rfl ?_; intro g4 w1 hst1; clear hst0) | (refine wl_loadE rfl rfl rfl ?_; first | refine ⟨_, Loads.at [] hst1 rfl, ?_⟩ | refine ⟨_, Loads.old hst1 H0.out, ?_⟩))
  go_ret
  exact ⟨rfl, hst1.nil⟩
def firstW (k : Nat) (l : List LW) : Int := match l.findIdx? (fun w => w.dev == k) with
  | some i => (i : Int)
  | none => -1
theorem firstW_none {k : Nat} {l : List LW} (h : ∀ w ∈ l, (w.dev == k) = false) : firstW k l = -1 := by
  unfold firstW
  rw [List.findIdx?_eq_none_iff.2 (fun x hx => by rw [h x hx])]
theorem firstW_at {k j : Nat} {l : List LW} {v : LW} (h : ∀ i w, i < j → l[i]? = some w → (w.dev == k) = false) (hj : l[j]? = some v) (hv : (v.dev == k) = true) : firstW k l = (j : Int) := by
  unfold firstW
  have e : l.findIdx? (fun w => w.dev == k) = some j := by
    rw [List.findIdx?_eq_some_iff_getElem]
    obtain ⟨hlt, hg⟩ := List.getElem?_eq_some_iff.1 hj
    refine ⟨hlt, by rw [hg]; exact hv, fun i hi => ?_⟩
    have := h i _ hi (List.getElem?_eq_getElem (by omega))
    simp [this]
  rw [e]
theorem indexW_any {w : World} {g3 k : Nat} (h0 : w.cell? ⟨g3, 0, none⟩ = some (.int .i64 (k : Int))) (l : List LW) (ao : Option Addr) (n c : Nat) (hr : Rd w (.slice ao n c) 258 n (looV l)) (hn : l.length = n) (hb : ∀ v ∈ l, v.b.length = 256) (hbd : n < 1000000) :
    Calls Tryz.prog 140 #[.slice ao n c, cloV 92 [ptrV g3]] w fun e w' => e = .returned (.int .i64 (firstW k l)) ∧ St w [] w' [] := by
  have hst0 := St.refl w
  have H0 := hid h0
  have HR := hid hr
  have HN := hid hn
  have HB := hid hb
  obtain ⟨R, hR⟩ : ∃ R, R = firstW k l := ⟨_, rfl⟩
  have HRR := hid hR
  rw [← hR]
  clear h0 hr hn hb hR
  unfold cloV ptrV
  go_enter Tryz.func140, Tryz.ntmps140
  go_wp2_with (first | go_big_skip | go_big_guard | fail)
  go_loopw [8] (fun i wr => ∃ j : Nat, j ≤ n ∧ i = .int .i64 (j : Int) ∧ St w [] wr [] ∧ Hid (∀ i v, i < j → l[i]? = some v → (v.dev == k) = false)) (fun i _ => n - (intOf i).toNat)
  case atStart => exact ⟨0, Nat.zero_le _, rfl, hst0, hid (fun i v hi => by omega)⟩
  case round =>
    clear hst0
    obtain ⟨j, hj, rfl, hst, HP⟩ := hrel
    by_cases hlj : j < n
    · have d1 : decide ((j : Int) < (n : Int)) = true := decide_eq_true (by omega)
      have z1 : IntKind.i64.wrap ((j : Int) + 1) = (j : Int) + 1 := IntWalk.i64_in _ (by omega)
      obtain ⟨v, hv⟩ : ∃ v, l[j]? = some v := ⟨_, List.getElem?_eq_getElem (by rw [HN.out]; exact hlj)⟩
      have HV := hid hv
      have hvb := HB.out v (List.mem_of_getElem? hv)
      obtain ⟨lb, lo, rfl, hlr⟩ := Rd.at HR.out hlj
      have HWR := hid (range_flat (sz := 258) (f := LW.cells) (fun d hd => LW.cells_len (HB.out d hd)) hv hlr)
      have HV258 := hid (LW.cells_len hvb)
      clear hv hvb hlr
      by_cases k1 : v.dev = k
      · have d2 : ((v.dev : Int) == (k : Int)) = true := by simp [k1]
        have KK := hid k1
        clear k1
        go_wp2_with (first | go_big_skip | go_big_guard | (refine wl_index (k := j) rfl rfl rfl rfl hlj ?_) | (refine wl_loadE rfl rfl rfl ?_; refine ⟨_, Loads.oldA (cs := v.cells) hst HV258.out HWR.out, ?_⟩) | (go_at_call 92; refine (drop1_any (St.old_cell hst H0.out (by simp)) v).mono ?_; rintro _ w8 ⟨rfl, h4⟩; replace hst := St.call0 hst h4; clear h4))
        go_ret
        refine ⟨congrArg (fun z => Ending.returned (Value.int .i64 z)) (?_ : (_ : Int) = R), hst⟩
        rw [HRR.out]
        exact (firstW_at HP.out HV.out (by simpa using KK.out)).symm
      · have d2 : ((v.dev : Int) == (k : Int)) = false := by simp; omega
        have KK := hid k1
        clear k1
        go_wp2_with (first | go_big_skip | go_big_guard | (refine wl_index (k := j) rfl rfl rfl rfl hlj ?_) | (refine wl_loadE rfl rfl rfl ?_; refine ⟨_, Loads.oldA (cs := v.cells) hst HV258.out HWR.out, ?_⟩) | (go_at_call 92; refine (drop1_any (St.old_cell hst H0.out (by simp)) v).mono ?_; rintro _ w8 ⟨rfl, h4⟩; replace hst := St.call0 hst h4; clear h4))
        go_roundw
        case rel =>
          refine ⟨j + 1, by omega, rfl, hst, hid (fun i u hi hu => ?_)⟩
          by_cases hij : i < j
          · exact HP.out i u hij hu
          · have e : i = j := by omega
            subst e
            rw [HV.out] at hu
            cases hu
            simpa using KK.out
        case measure => simp [intOf]; omega
    · have d1 : decide ((j : Int) < (n : Int)) = false := decide_eq_false (by omega)
      go_wp2_with (first | go_big_skip | go_big_guard | fail)
      go_ret
      refine ⟨congrArg (fun z => Ending.returned (Value.int .i64 z)) (?_ : (_ : Int) = R), hst⟩
      rw [HRR.out]
      refine (firstW_none fun v hv => ?_).symm
      obtain ⟨i, hi⟩ := List.getElem?_of_mem hv
      have := (List.getElem?_eq_some_iff.1 hi).1
      exact HP.out i v (by have := HN.out; omega) hi
end Go.Proofs.YtmdfbdfijnmhkaaGreat
namespace Go.Proofs.YtmdfbdfijnmhkaaGreat
set_option linter.unusedVariables false
set_option linter.unusedSimpArgs false
open Go.RowKit Hp
attribute [local irreducible] Go.Calls Go.wpList
set_option maxRecDepth 100000
set_option maxHeartbeats 4000000
theorem wl_clearB {ops : Array Oper} {rest : List Oper} {o : Oper} {a : Act} {w0 w : World} {M : List Nat} {Q : Exit → Act → World → Prop} {t e T : TypeId} {x : Operand} {g off n c sz bytes : Nat} {cs : List Value} (L1 : List HA) {L2 : List HA} (hst : St w0 M w (L1 ++ .blk g T cs :: L2))
    (hop : o.op = .call { callee := .builtin .clear, args := #[x], argTypes := #[t] }) (hw : Region.wanted o (yielded ops a.tmps) = true) (hx : a.eval x = .slice (some ⟨g, off, none⟩) n c) (ht : TySl Tryz.prog t e) (he : TyE Tryz.prog e sz bytes) {zs : List Value} (hz : TyZ Tryz.prog e zs) (h1 : zs.all (·.oneCell') = true) (hn : 0 < n) (hf : off + n * sz ≤ cs.length)
    (h : ∀ w' cs', cs'.length = cs.length → cs'.take off = cs.take off → St w0 M w' (L1 ++ .blk g T cs' :: L2) → wpList Tryz.prog ops Q rest (a.put o.dst (.tuple #[])) w') : wpList Tryz.prog ops Q (o :: rest) a w := by
  obtain ⟨i, z, hi, hzi, hs, hb, hzs⟩ := tyE_spec he.out
  have hzz : z.cells.toList = zs := by
    have := hz.out
    unfold tyZ at this
    simpa [hi, hzi] using this
  have hg : w.heap[g]? = some (.cells cs.toArray T (0, 0)) := hst.all (.blk g T cs) (by simp)
  have hsz : (Builtin.zeroCells z.cells n).toList.length = n * sz := by rw [Array.length_toList, size_zeroCells, hzs]
  have hq : z.cells.toList.all (·.oneCell') = true := by rw [hzz]; exact h1
  have hrun := run_storeCells_at Tryz.prog g off T (Builtin.zeroCells z.cells n).toList 0 cs.toArray w hg (by rw [hsz]; simpa using hf) (zeroCells_one hq n)
  simp only [Nat.add_zero, List.append_assoc] at hrun
  have hl : (putAt cs off (Builtin.zeroCells z.cells n).toList).length = cs.length := by
    unfold putAt
    rw [List.length_append, List.length_append, hsz, List.length_take, List.length_drop]
    omega
  have htk : (putAt cs off (Builtin.zeroCells z.cells n).toList).take off = cs.take off := by
    unfold putAt
    rw [List.take_append_of_le_length (by rw [List.length_take]; omega), List.take_take, Nat.min_self]
  refine wl_run hw ?_ (h _ _ hl htk (hst.setRow _))
  obtain ⟨m, rfl⟩ : ∃ m, n = m + 1 := ⟨n - 1, by omega⟩
  unfold execOp
  simp only [hop, resolve, invoke, builtin, Sem.run_bind, Sem.run_pure, Result.andThen_ok, List.map_toArray, List.map_cons, List.map_nil, hx]
  have hzv : ∀ w, (zeroValue e).run Tryz.prog w = .ok z w := fun w => by simp [zeroValue, typeInfo, hi, hzi]
  simp only [Builtin.clear_, run_underlying ht.out, Sem.run_bind, Result.andThen_ok, hzv, hrun, List.getElem?_toArray, List.getElem?_cons_zero]
  rfl
theorem row_openL {w0 w : World} {M : List Nat} {L1 L2 : List HA} {v : Value} {T : TypeId} {sz n : Nat} {xs : List Value} (h : St w0 M w (L1 ++ .row v T sz n xs :: L2)) (hn : 0 < n) : ∃ g c rest, v = .slice (some ⟨g, 0, none⟩) n c ∧ n ≤ c ∧ c ≤ maxLen ∧ (xs ++ rest).length = c * sz ∧ St w0 M w (L1 ++ .blk g T (xs ++ rest) :: L2) := by
  obtain ⟨hl, h2⟩ := h.owns (v := v) (T := T) (sz := sz) (n := n) (xs := xs) (by simp)
  rcases h2 with ⟨_, hz⟩ | ⟨g, cap, cur, rfl, _, hh, hnc, hcm, hs, hp⟩
  · omega
  · have e : xs ++ cur.toList.drop (n * sz) = cur.toList := by rw [← hp, List.take_append_drop]
    refine ⟨g, cap, cur.toList.drop (n * sz), rfl, hnc, hcm, by rw [e]; simpa using hs, h.rep (y := .blk g T (xs ++ cur.toList.drop (n * sz))) rfl fun _ => ?_⟩
    show w.heap[g]? = _
    rw [hh, e]
theorem del_none {w : World} {g3 k : Nat} (h0 : w.cell? ⟨g3, 0, none⟩ = some (.int .i64 (k : Int))) (l : List LW) (ao : Option Addr) (n c : Nat) (hr : Rd w (.slice ao n c) 258 n (looV l)) (hn : l.length = n) (hb : ∀ v ∈ l, v.b.length = 256) (hbd : n < 1000000) (h1 : ∀ v ∈ l, (v.dev == k) = false) :
    Calls Tryz.prog 91 #[.slice ao n c, cloV 92 [ptrV g3]] w fun e w' => e = .returned (.slice ao n c) ∧ St w [] w' [] := by
  have hst0 := St.refl w
  have HC := hid (indexW_any h0 l ao n c hr hn hb hbd)
  rw [firstW_none h1] at HC
  clear h0 hr hn hb h1
  unfold cloV ptrV at HC ⊢
  go_enter Tryz.func91, Tryz.ntmps91
  go_wp2_with (first | go_big_skip | go_big_guard | (go_at_call 140; refine HC.out.mono ?_; rintro _ w2 ⟨rfl, h4⟩; have hst1 := St.call0 hst0 h4; clear h4 hst0))
  go_ret
  exact ⟨rfl, hst1⟩
theorem looV_drop {l : List LW} {j : Nat} {v : LW} (h : l[j]? = some v) : looV (l.drop j) = v.cells ++ looV (l.drop (j + 1)) := by
  obtain ⟨hlt, hg⟩ := List.getElem?_eq_some_iff.1 h
  rw [List.drop_eq_getElem_cons hlt, hg]
  rfl
theorem del_put {F mid V R : List Value} {i : Nat} (hF : F.length = i * 258) (hm : 258 ≤ mid.length) (hV : V.length = 258) : putAt (F ++ (mid ++ (V ++ R))) (i * 258) V = (F ++ V) ++ ((mid.drop 258 ++ V) ++ R) := by
  rw [putAt_many, hV, ← hF, List.take_left, ← List.drop_drop, List.drop_left, List.drop_append_of_le_length hm]
  simp only [List.append_assoc]
theorem filter_none {l : List LW} {k j : Nat} (h : ∀ i w, i < j → l[i]? = some w → (w.dev == k) = false) : (l.take j).filter (fun w => w.dev != k) = l.take j := by
  rw [List.filter_eq_self]
  intro v hv
  obtain ⟨i, hi⟩ := List.getElem?_of_mem hv
  rw [List.getElem?_take] at hi
  split at hi
  · rename_i hlt
    have := h i v hlt hi
    simp at this ⊢
    exact this
  · cases hi
theorem del_some {w : World} {g3 g k i0 : Nat} {v0 : LW} (h0 : w.cell? ⟨g3, 0, none⟩ = some (.int .i64 (k : Int))) (l : List LW) (n c : Nat) (rest : List Value) (hS : St w [g] w [.blk g 149 (looV l ++ rest)]) (hg3 : g3 ≠ g) (hc : n ≤ c ∧ c ≤ maxLen) (hcs : (looV l ++ rest).length = c * 258) (hn : l.length = n) (hb : ∀ v ∈ l, v.b.length = 256) (hbd : n < 1000000)
    (hi1 : ∀ i w, i < i0 → l[i]? = some w → (w.dev == k) = false) (hi2 : l[i0]? = some v0) (hi3 : (v0.dev == k) = true) :
    Calls Tryz.prog 91 #[.slice (some ⟨g, 0, none⟩) n c, cloV 92 [ptrV g3]] w fun e w' => ∃ c', e = .returned (.slice (some ⟨g, 0, none⟩) (l.filter fun w => w.dev != k).length c') ∧
      St w [g] w' [.row (.slice (some ⟨g, 0, none⟩) (l.filter fun w => w.dev != k).length c') 149 258 (l.filter fun w => w.dev != k).length (looV (l.filter fun w => w.dev != k))] := by
  have hst0 := hS
  have HC := hid (indexW_any h0 l (some ⟨g, 0, none⟩) n c (Rd.blk hS (.head _) hc.1 hc.2 (by rw [looV_len hb, hn]) (by rw [List.drop_zero, List.take_left])) hn hb hbd)
  rw [firstW_at hi1 hi2 hi3] at HC
  have hi0 : i0 < n := by rw [← hn]; exact (List.getElem?_eq_some_iff.1 hi2).1
  have H0 := hid h0
  have HN := hid hn
  have HB := hid hb
  have HG3 := hid hg3
  have hcm : c ≤ 9223372036854775807 := hc.2
  have hcn : n ≤ c := hc.1
  obtain ⟨Z, hZ⟩ : ∃ Z : Nat → List LW, Z = fun j => (l.take j).filter fun w => w.dev != k := ⟨_, rfl⟩
  have HZ0 : Hid (Z (i0 + 1) = l.take i0) := hid (by
    rw [hZ]
    show (l.take (i0 + 1)).filter (fun w => w.dev != k) = _
    rw [filter_take _ hi2, filter_none hi1, if_neg (by simp at hi3; simp [hi3]), List.append_nil])
  have HZL : Hid (∀ j, (Z j).length ≤ n) := hid (fun j => by
    rw [hZ, ← hn]
    have a2 := List.length_filter_le (fun w : LW => w.dev != k) (l.take j)
    have a4 : (l.take j).length ≤ l.length := by rw [List.length_take]; omega
    exact Nat.le_trans a2 a4)
  have HZB : Hid (∀ j, ∀ v ∈ Z j, v.b.length = 256) := hid (fun j v hv => by
    rw [hZ] at hv
    exact hb v (List.mem_of_mem_take (List.mem_filter.1 hv).1))
  have HZS : Hid (∀ j v, l[j]? = some v → Z (j + 1) = Z j ++ if v.dev != k then [v] else []) := hid (fun j v h => by rw [hZ]; exact filter_take _ h)
  have HZE : Hid (Z n = (l.filter fun w => w.dev != k)) := hid (by rw [hZ, ← hn]; show (l.take l.length).filter _ = _; rw [List.take_length])
  obtain ⟨RZ, hRZ⟩ : ∃ RZ, RZ = l.filter fun w => w.dev != k := ⟨_, rfl⟩
  rw [← hRZ] at HZE
  rw [← hRZ]
  have HI0 : Hid (looV l = looV (l.take i0) ++ (v0.cells ++ looV (l.drop (i0 + 1)))) := hid (by rw [← looV_drop hi2, ← looV_append, List.take_append_drop])
  have HI1 : Hid (v0.cells.length = 258) := hid (LW.cells_len (hb v0 (List.mem_of_getElem? hi2)))
  have HI2 : Hid ((l.take i0).length = i0) := hid (by rw [List.length_take]; omega)
  have HL := hid hcs
  have zi : IntKind.i64.wrap ((i0 : Int) + 1) = (i0 : Int) + 1 := IntWalk.i64_in _ (by omega)
  have di : ((i0 : Int) == -1) = false := by
    simp
  clear h0 hn hb hi1 hi2 hi3 hZ hRZ hS hg3 hcs hc
  unfold cloV ptrV at HC ⊢
  go_enter Tryz.func91, Tryz.ntmps91
  go_wp2_with (first | go_big_skip | go_big_guard | (go_at_call 140; refine HC.out.mono ?_; rintro _ w2 ⟨rfl, h4⟩; have hst1 := St.call0 hst0 h4; clear h4 hst0))
  go_loopw [5, 6] (fun iv jv wr => ∃ (j : Nat) (mid : List Value), i0 < j ∧ j ≤ n ∧ (Z j).length < j ∧ iv = .int .i64 ((Z j).length : Int) ∧ jv = .int .i64 (j : Int) ∧ mid.length = (j - (Z j).length) * 258 ∧ St w [g] wr [.blk g 149 (looV (Z j) ++ (mid ++ (looV (l.drop j) ++ rest)))]) (fun _ jv _ => n - (intOf jv).toNat)
  case atStart =>
    refine ⟨i0 + 1, v0.cells, by omega, by omega, ?_, ?_, by push_cast; rfl, ?_, ?_⟩
    · rw [HZ0.out, HI2.out]; omega
    · rw [HZ0.out, HI2.out]
    · rw [HZ0.out, HI2.out, HI1.out, show i0 + 1 - i0 = 1 by omega]
    · rw [HZ0.out, ← List.append_assoc v0.cells, ← List.append_assoc (looV (l.take i0)), ← HI0.out]
      exact hst1
  case round =>
    clear hst1 zi di
    obtain ⟨j, mid, hij, hjn, hzj, rfl, rfl, hmid, hst⟩ := hrel
    have HMID := hid hmid
    have HZJ := hid (HZL.out j)
    have HZB1 : Hid ((looV (Z j)).length = (Z j).length * 258) := hid (looV_len (HZB.out j))
    obtain ⟨i, hi⟩ : ∃ i, i = (Z j).length := ⟨_, rfl⟩
    have HI := hid hi
    rw [← hi] at hzj HZB1 HMID
    rw [← hi]
    clear hi hmid
    by_cases hlj : j < n
    · have d1 : decide ((j : Int) < (n : Int)) = true := decide_eq_true (by omega)
      have z1 : IntKind.i64.wrap ((j : Int) + 1) = (j : Int) + 1 := IntWalk.i64_in _ (by omega)
      have z2 : IntKind.i64.wrap ((i : Int) + 1) = (i : Int) + 1 := IntWalk.i64_in _ (by omega)
      obtain ⟨v, hv⟩ : ∃ v, l[j]? = some v := ⟨_, List.getElem?_eq_getElem (by rw [HN.out]; exact hlj)⟩
      have hvb := HB.out v (List.mem_of_getElem? hv)
      have HV258 := hid (LW.cells_len hvb)
      have HZ := hid (HZS.out j v hv)
      have HLD : Hid (looV (l.drop j) = v.cells ++ looV (l.drop (j + 1))) := hid (looV_drop hv)
      obtain ⟨RR, hRR⟩ : ∃ RR, RR = looV (l.drop (j + 1)) ++ rest := ⟨_, rfl⟩
      have HRR := hid hRR
      obtain ⟨F, hF⟩ : ∃ F, F = looV (Z j) := ⟨_, rfl⟩
      have HF := hid hF
      rw [← hF] at hst HZB1
      rw [HLD.out, List.append_assoc v.cells, ← hRR] at hst
      have HPUT := hid (del_put (F := F) (mid := mid) (V := v.cells) (R := RR) HZB1.out (by rw [HMID.out]; have : 1 ≤ j - i := by omega
                                                                                            calc 258 = 1 * 258 := rfl
                                                                                              _ ≤ (j - i) * 258 := Nat.mul_le_mul_right _ this) HV258.out)
      have HDR : Hid ((F ++ (mid ++ (v.cells ++ RR))).drop (j * 258) = v.cells ++ RR) := hid (by
        rw [← List.append_assoc F mid, List.drop_left' (by rw [List.length_append, HZB1.out, HMID.out, ← Nat.add_mul]; congr 1; omega)])
      have HFIT : Hid (i * 258 + 258 ≤ (F ++ (mid ++ (v.cells ++ RR))).length) := hid (by
        rw [List.length_append, List.length_append, List.length_append, HZB1.out, HV258.out]; omega)
      obtain ⟨CS, hCS⟩ : ∃ CS, CS = F ++ (mid ++ (v.cells ++ RR)) := ⟨_, rfl⟩
      rw [← hCS] at hst HPUT HDR HFIT
      have HLOAD : Hid ((CS.drop (j * 258)).take v.cells.length = v.cells) := hid (by rw [HDR.out, List.take_left])
      have HCS := hid hCS
      clear hv hvb hRR hF hCS HDR HLD
      by_cases k1 : v.dev = k
      · have d2 : ((v.dev : Int) == (k : Int)) = true := by simp [k1]
        have KK := hid k1
        clear k1
        go_wp2_with (first | go_big_skip | go_big_guard | (refine wl_index (k := j) rfl rfl rfl rfl hlj ?_) | (refine wl_index (k := i) rfl rfl rfl rfl (by omega) ?_) | (refine wl_loadE rfl rfl rfl ?_; first | refine ⟨_, Loads.atA v.cells [] hst HV258.out (by rw [Nat.zero_add]; exact HLOAD.out), ?_⟩ | refine ⟨_, Loads.atA v.cells [] hst3 HV258.out (by rw [List.drop_zero, List.take_length]), ?_⟩) | (refine wl_alloc (T := 149) hst rfl rfl ?_; intro g7 _ hst2; clear hst) | (refine wl_storeA (T := 149) (vs := v.cells) [] hst2 rfl rfl rfl rfl HV258.out (ones_LW _) (by rw [List.length_cons, List.length_cons, List.length_replicate]) ?_; intro w4 hst3; clear hst2) | (go_at_call 92; refine (drop1_any (St.old_cell hst3 H0.out (by simpa using HG3.out)) v).mono ?_; rintro _ w8 ⟨rfl, h4⟩; replace hst3 := St.call0 hst3 h4; clear h4) | (refine wl_store [_] hst3 rfl rfl rfl (v := .agg v.cells.toArray) rfl (by show v.cells.toArray.size = 258; rw [List.size_toArray]; exact HV258.out) (by show v.cells.toArray.toList.all _ = true; exact ones_LW v) (by rw [Nat.zero_add]; show i * 258 + v.cells.toArray.size ≤ _; rw [List.size_toArray, HV258.out]; exact HFIT.out) ?_; intro w9 hst4; clear hst3))
        go_roundw
        case rel =>
          have e1 : Z (j + 1) = Z j := by rw [HZ.out, if_neg (by simp [KK.out]), List.append_nil]
          refine ⟨j + 1, mid ++ v.cells, by omega, by omega, by rw [e1, ← HI.out]; omega, by rw [e1, ← HI.out], by push_cast; rfl, ?_, ?_⟩
          · rw [e1, ← HI.out, List.length_append, HMID.out, HV258.out, show j + 1 - i = (j - i) + 1 by omega, Nat.add_mul]
          · rw [e1, ← HF.out, List.append_assoc mid, ← HRR.out]
            have h7 := St.sub hst3 (.cons _ (List.Sublist.refl _))
            rw [HCS.out] at h7
            exact h7
        case measure => simp [intOf]; omega
      · have d2 : ((v.dev : Int) == (k : Int)) = false := by simp; omega
        have KK := hid k1
        clear k1
        go_wp2_with (first | go_big_skip | go_big_guard | (refine wl_index (k := j) rfl rfl rfl rfl hlj ?_) | (refine wl_index (k := i) rfl rfl rfl rfl (by omega) ?_) | (refine wl_loadE rfl rfl rfl ?_; first | refine ⟨_, Loads.atA v.cells [] hst HV258.out (by rw [Nat.zero_add]; exact HLOAD.out), ?_⟩ | refine ⟨_, Loads.atA v.cells [] hst3 HV258.out (by rw [List.drop_zero, List.take_length]), ?_⟩) | (refine wl_alloc (T := 149) hst rfl rfl ?_; intro g7 _ hst2; clear hst) | (refine wl_storeA (T := 149) (vs := v.cells) [] hst2 rfl rfl rfl rfl HV258.out (ones_LW _) (by rw [List.length_cons, List.length_cons, List.length_replicate]) ?_; intro w4 hst3; clear hst2) | (go_at_call 92; refine (drop1_any (St.old_cell hst3 H0.out (by simpa using HG3.out)) v).mono ?_; rintro _ w8 ⟨rfl, h4⟩; replace hst3 := St.call0 hst3 h4; clear h4) | (refine wl_store [_] hst3 rfl rfl rfl (v := .agg v.cells.toArray) rfl (by show v.cells.toArray.size = 258; rw [List.size_toArray]; exact HV258.out) (by show v.cells.toArray.toList.all _ = true; exact ones_LW v) (by rw [Nat.zero_add]; show i * 258 + v.cells.toArray.size ≤ _; rw [List.size_toArray, HV258.out]; exact HFIT.out) ?_; intro w9 hst4; clear hst3))
        go_roundw
        case rel =>
          have e1 : Z (j + 1) = Z j ++ [v] := by rw [HZ.out, if_pos (by simp [KK.out])]
          have e2 : (Z (j + 1)).length = i + 1 := by rw [e1, List.length_append, ← HI.out]; rfl
          refine ⟨j + 1, mid.drop 258 ++ v.cells, by omega, by omega, by rw [e2]; omega, by rw [e2]; push_cast; rfl, by push_cast; rfl, ?_, ?_⟩
          · rw [e2, List.length_append, List.length_drop, HMID.out, HV258.out, show j + 1 - (i + 1) = j - i by omega]
            have : 1 ≤ j - i := by omega
            have h258 : 1 * 258 ≤ (j - i) * 258 := Nat.mul_le_mul_right _ this
            omega
          · rw [e1, looV_append, looV_one, ← HF.out, ← HRR.out, ← HPUT.out]
            have h7 := St.sub hst4 (.cons _ (List.Sublist.refl _))
            rw [Nat.zero_add] at h7
            exact h7
        case measure => simp [intOf]; omega
    · have d1 : decide ((j : Int) < (n : Int)) = false := decide_eq_false (by omega)
      have hjn2 : j = n := by omega
      subst hjn2
      have HE : Hid (Z j = RZ) := hid HZE.out
      have HEI : Hid (i = RZ.length) := hid (by rw [HI.out, HE.out])
      rw [HE.out] at hst HZB1
      obtain ⟨CS, hCS⟩ : ∃ CS, CS = looV RZ ++ (mid ++ (looV (l.drop j) ++ rest)) := ⟨_, rfl⟩
      rw [← hCS] at hst
      have HCL : Hid (CS.length = c * 258) := hid (by
        have h1 := HL.out
        have h2 : looV l = looV (l.take j) := by rw [← HN.out, List.take_length]
        rw [hCS, List.drop_of_length_le (by rw [HN.out]; exact Nat.le_refl _)]
        rw [List.length_append, looV_len HB.out, HN.out] at h1
        rw [List.length_append, List.length_append, List.length_append, HZB1.out, HMID.out]
        show i * 258 + ((j - i) * 258 + (0 + rest.length)) = _
        rw [← h1]
        have : i * 258 + (j - i) * 258 = j * 258 := by rw [← Nat.add_mul]; congr 1; omega
        omega)
      have HCT : Hid (CS.take (i * 258) = looV RZ) := hid (by rw [hCS, ← HZB1.out, List.take_left])
      have hci : ¬ c = i := by omega
      clear hCS
      go_wp2_with (first | go_big_skip | go_big_guard | (refine wl_clearB [] hst rfl rfl rfl inferInstance inferInstance (zs := .int .i64 0 :: .int .i64 0 :: List.replicate 256 (.int .u8 0)) inferInstance (by decide) (by omega) (by rw [HCL.out, ← Nat.add_mul]; exact Nat.mul_le_mul_right _ (by omega)) ?_; intro w5 cs5 hl5 ht5 hst5; have H5 := hid hl5; have H6 := hid ht5; clear hl5 ht5 hst))
      go_ret
      rw [← HEI.out]
      refine ⟨c, rfl, ?_⟩
      have h7 := St.toRow (n := i) (cap := c) (sz := 258) hst5 (by rw [H5.out, HCL.out]) (by omega) (by omega)
      rw [H6.out, HCT.out] at h7
      exact h7
theorem del_any {w : World} {g3 k : Nat} (h0 : w.cell? ⟨g3, 0, none⟩ = some (.int .i64 (k : Int))) (l : List LW) (v : Value) (hS : St w v.ownBlock.toList w [.row v 149 258 l.length (looV l)]) (hg3 : v.ownBlock ≠ some g3) (hb : ∀ v ∈ l, v.b.length = 256) (hbd : l.length < 1000000) :
    Calls Tryz.prog 91 #[v, cloV 92 [ptrV g3]] w fun e w' => ∃ ao' n' c', e = .returned (.slice ao' n' c') ∧
      St w v.ownBlock.toList w' [.row (.slice ao' n' c') 149 258 (l.filter fun w => w.dev != k).length (looV (l.filter fun w => w.dev != k))] := by
  by_cases h1 : ∀ v ∈ l, (v.dev == k) = false
  · obtain ⟨ao, c, rfl, _⟩ := row_form hS (.head _)
    refine (del_none h0 l ao l.length c (Rd.row hS (.head _)) rfl hb hbd h1).mono ?_
    rintro _ w' ⟨rfl, h4⟩
    have e : l.filter (fun w => w.dev != k) = l := by
      rw [List.filter_eq_self]
      intro v hv
      have := h1 v hv
      simp at this ⊢
      exact this
    rw [e]
    exact ⟨ao, l.length, c, rfl, St.call0 hS h4⟩
  · have h2 : ∃ i, l.findIdx? (fun w => w.dev == k) = some i := by
      cases hf : l.findIdx? (fun w => w.dev == k) with
      | none =>
        exfalso
        refine h1 fun v hv => ?_
        have := List.findIdx?_eq_none_iff.1 hf v hv
        simpa using this
      | some i => exact ⟨i, rfl⟩
    obtain ⟨i, hi⟩ := h2
    rw [List.findIdx?_eq_some_iff_getElem] at hi
    obtain ⟨hlt, hv, hlow⟩ := hi
    obtain ⟨g, c, rest, rfl, hnc, hcm, hcs, h3⟩ := row_openL (L1 := []) hS (by omega)
    have hne : g3 ≠ g := fun h => hg3 (by rw [h]; rfl)
    have hS2 : St w [g] w [.blk g 149 (looV l ++ rest)] := h3
    refine (del_some h0 l l.length c rest hS2 hne ⟨hnc, hcm⟩ hcs rfl hb hbd (i0 := i) (v0 := l[i]) (fun j u hj hu => ?_) (List.getElem?_eq_getElem hlt) hv).mono ?_
    · have h9 := hlow j hj
      rw [List.getElem?_eq_getElem (by omega)] at hu
      cases hu
      simpa using h9
    · rintro _ w' ⟨c', rfl, h4⟩
      exact ⟨_, _, _, rfl, h4⟩
end Go.Proofs.YtmdfbdfijnmhkaaGreat
