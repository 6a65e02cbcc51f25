import Derived.Test.YtmdfbdfijnmhkaaGreatR18
namespace Go.Proofs.YtmdfbdfijnmhkaaGreat
set_option linter.unusedVariables false
set_option linter.unusedSimpArgs false
open Go.RowKit Hp
attribute [local irreducible] Go.Calls Go.wpList
set_option maxRecDepth 100000
set_option maxHeartbeats 4000000
theorem firstE_cons0 (l : List Int) : firstE (0 :: l) = firstE l := by simp [firstE]
theorem firstE_snoc (l : List Int) (e : Int) : firstE (l ++ [e]) = if firstE l = 0 then e else firstE l := by
  unfold firstE
  rw [List.find?_append]
  cases hf : l.find? (· ≠ 0) with
  | none =>
    by_cases h : e = 0 <;> simp [h]
  | some x =>
    have := List.find?_some hf
    simp at this
    simp [this]
theorem getD_cons0 {l : List Int} {j : Nat} (h : ∀ i < j + 1, (0 :: l).getD i 0 = 0) : ∀ i < j, l.getD i 0 = 0 := fun i hi => by
  have := h (i + 1) (by omega)
  simpa using this
theorem befalls_bad {w : World} {M : List Nat} {Lb : List HA} {ga : Nat} {x x' : GA} {a a' : AR} (hS : St w M w (Lb ++ arP ga x a)) (ok : a.Ok) (dev : Int) (fn : Nat) (cap : List Value) (v : Value) (m : Nat) (ws : List Value) (rs : List Int)
    (hfn : ∀ (a : Array Value) (w : World), (callFunc fn a).run Tryz.prog w = .ok (.enter fn a) w)
    (hr : ∀ (X : List HA) (w' : World), St w M w' (X ++ (Lb ++ arP ga x a)) → Rd w' v 1 m ws) (hw : ws.length = m) (hrs : rs.length = m) (hm : m ≤ 10) (h1c : ws.all (·.oneCell') = true)
    (hp : ∀ (X : List HA) (j : Nat) (f : Value) (e : Int), ws[j]? = some f → rs[j]? = some e → (∀ i < j, rs.getD i 0 = 0) → Probe f e (fun w' => St w M w' (X ++ (Lb ++ arP ga x a))) (fun w' => St w M w' (X ++ (Lb ++ arP ga x a))))
    (hin : firstE rs = 0 → a.inD dev = true) (hE : ∀ e ∈ rs, e = 0 ∨ isE e)
    (hD : firstE rs = 0 → (a.dv dev).gone = false → ∀ (X : List HA) (w' : World), St w M w' (X ++ (Lb ++ arP ga x a)) → Calls Tryz.prog fn (List.toArray (.pointer (some ⟨x.gd, dev.toNat * 5, none⟩) :: cap)) w' fun e w'' => e = .returned (.tuple #[]) ∧ St w M w'' (X ++ (Lb ++ arP ga x' a'))) (h1 : firstE rs ≠ 0) :
    Calls Tryz.prog 37 #[.pointer (some ⟨ga, 0, none⟩), .int .i64 dev, .func (.func fn) #[] (List.toArray cap), v] w fun e w' => e = .returned (.int .i64 (firstE rs)) ∧ ∃ X, St w M w' (X ++ (Lb ++ arP ga x a)) := by
  have hst0 : St w M w ([] ++ (Lb ++ arP ga x a)) := hS
  have HR := hid hr
  have HW := hid hw
  have HRS := hid hrs
  have HP := hid hp
  have HIN := hid hin
  have HDD := hid hD
  have H1 := hid h1
  have OK := hid ok
  have H1C := hid h1c
  have hmf := rmf
  have HE := hid (firstE_isE hE h1)
  clear hr hw hrs hp hin hD h1 ok hE h1c hS hfn
  go_enter Tryz.func37, Tryz.ntmps37
  go_wp2_with (first | go_big_skip | go_big_guard | (apply wl_bsX ([methV 46 (ptrV ga)]) ([methV 46 (ptrV ga)]) hst0; rfl; rfl; exact rfl; exact rfl; infer_instance; infer_instance; rfl; rfl; rfl; intro g1 w1 hst1; clear hst0; have hst2 : St w M w1 (.row (.slice (some ⟨g1, 0, none⟩) 1 1) 92 1 1 [methV 46 (ptrV ga)] :: (Lb ++ arP ga x a)) := St.toRow (n := 1) (cap := 1) (sz := 1) hst1 rfl (Nat.le_refl _) (by decide); clear hst1) | (apply wl_appX (m := m) (ys := ws) [] hst2; rfl; rfl; exact rfl; exact rfl; infer_instance; infer_instance; infer_instance; exact HR.out [_] _ hst2; exact H1C.out; (refine ⟨by decide, by unfold maxLen; omega, by omega⟩); intro v1 w2 hst3 _; clear hst2) | (go_at_call 89; refine (isHere_any ga dev _).mono ?_; rintro _ w4 ⟨k0, k1, rfl, h4⟩; have hst4 := St.call hst3 h4; clear h4 hst3) | (apply wl_bsX ([cloV 139 [ptrV k0, ptrV k1]]) ([cloV 139 [ptrV k0, ptrV k1]]) hst4; rfl; rfl; exact rfl; exact rfl; infer_instance; infer_instance; rfl; rfl; rfl; intro gb w5 hst5; clear hst4) | (apply wl_appX (m := 1) (ys := [cloV 139 [ptrV k0, ptrV k1]]) [_, _, _] hst5; rfl; rfl; exact rfl; exact rfl; infer_instance; infer_instance; infer_instance; exact Rd.blk (n := 1) hst5 (.head _) (Nat.le_refl _) (by decide) rfl rfl; rfl; (refine ⟨by decide, by unfold maxLen; omega, by omega⟩); intro v2 w6 hst6 _; clear hst5) | (go_at_call 45; have hC := checks_any dev (v := v2) (n := 1 + m + 1) (fs := methV 46 (ptrV ga) :: ws) (f9 := cloV 139 [ptrV k0, ptrV k1]) (es := 0 :: rs) (e9 := orE (!(a.dv (dev)).gone) 14) (A := fun w' => St w M w' (([HA.blk gb 92 [cloV 139 [ptrV k0, ptrV k1]], .blk k1 3 [.int .i64 dev], .blk k0 23 [.pointer (some ⟨ga, 0, none⟩)], .row v2 92 1 (1 + m + 1) (([methV 46 (ptrV ga)] ++ ws) ++ [cloV 139 [ptrV k0, ptrV k1]])] : List HA) ++ (Lb ++ arP ga x a))) (B := fun w' => St w M w' (([HA.blk gb 92 [cloV 139 [ptrV k0, ptrV k1]], .blk k1 3 [.int .i64 dev], .blk k0 23 [.pointer (some ⟨ga, 0, none⟩)], .row v2 92 1 (1 + m + 1) (([methV 46 (ptrV ga)] ++ ws) ++ [cloV 139 [ptrV k0, ptrV k1]])] : List HA) ++ (Lb ++ arP ga x a))) _ (fun _ h => Rd.row h (.tail _ (.tail _ (.tail _ (.head _))))) (by rw [List.length_cons, List.length_cons, HW.out, HRS.out]) (by rw [List.length_cons, HW.out]; omega) (by omega) (fun j f e hf he hz => (match j, hf, he, hz with | 0, hf, he, _ => (by cases hf; cases he; exact probe_made (fun _ h => ArrAt.of h (fun p hp => List.mem_append_right _ (List.mem_append_right _ hp)) OK.out.d0) keeps_st) | j + 1, hf, he, hz => HP.out _ j f e (by simpa using hf) (by simpa using he) (getD_cons0 hz))) (fun hz => probe_isHere (fun _ h => ArrAt.of h (fun p hp => List.mem_append_right _ (List.mem_append_right _ hp)) OK.out.d0) keeps_st (HIN.out (by rw [← firstE_cons0]; exact firstE_zero hz)) (fun _ h => St.cell h (off := 0) (.tail _ (.tail _ (.head _))) rfl) (fun _ h => St.cell h (off := 0) (.tail _ (.head _)) rfl)) hst6; refine hC.mono ?_; rintro _ w8 hh; obtain ⟨rfl, h4⟩ := checks_bad (by rw [firstE_cons0]; exact H1.out) hh; clear hC hh hst6; have hst7 := h4; clear h4; rw [firstE_cons0]; obtain ⟨E, hEE⟩ : ∃ E, E = firstE rs := ⟨_, rfl⟩; have HQ := hid hEE; rw [← hEE] at HE H1; rw [← hEE]; clear hEE) | (go_at_call 47; refine (number_isE E dev HE.out H1.out _).mono ?_; rintro _ w9 ⟨rfl, h4⟩; have hst8 := St.call0 hst7 h4; clear h4 hst7))
  go_ret
  exact ⟨congrArg _ (congrArg _ HQ.out), _, hst8⟩
theorem befalls_gone {w : World} {M : List Nat} {Lb : List HA} {ga : Nat} {x x' : GA} {a a' : AR} (hS : St w M w (Lb ++ arP ga x a)) (ok : a.Ok) (dev : Int) (fn : Nat) (cap : List Value) (v : Value) (m : Nat) (ws : List Value) (rs : List Int)
    (hfn : ∀ (a : Array Value) (w : World), (callFunc fn a).run Tryz.prog w = .ok (.enter fn a) w)
    (hr : ∀ (X : List HA) (w' : World), St w M w' (X ++ (Lb ++ arP ga x a)) → Rd w' v 1 m ws) (hw : ws.length = m) (hrs : rs.length = m) (hm : m ≤ 10) (h1c : ws.all (·.oneCell') = true)
    (hp : ∀ (X : List HA) (j : Nat) (f : Value) (e : Int), ws[j]? = some f → rs[j]? = some e → (∀ i < j, rs.getD i 0 = 0) → Probe f e (fun w' => St w M w' (X ++ (Lb ++ arP ga x a))) (fun w' => St w M w' (X ++ (Lb ++ arP ga x a))))
    (hin : firstE rs = 0 → a.inD dev = true) (hE : ∀ e ∈ rs, e = 0 ∨ isE e)
    (hD : firstE rs = 0 → (a.dv dev).gone = false → ∀ (X : List HA) (w' : World), St w M w' (X ++ (Lb ++ arP ga x a)) → Calls Tryz.prog fn (List.toArray (.pointer (some ⟨x.gd, dev.toNat * 5, none⟩) :: cap)) w' fun e w'' => e = .returned (.tuple #[]) ∧ St w M w'' (X ++ (Lb ++ arP ga x' a'))) (h1 : firstE rs = 0) (h2 : (a.dv dev).gone = true) :
    Calls Tryz.prog 37 #[.pointer (some ⟨ga, 0, none⟩), .int .i64 dev, .func (.func fn) #[] (List.toArray cap), v] w fun e w' => e = .returned (.int .i64 (14)) ∧ ∃ X, St w M w' (X ++ (Lb ++ arP ga x a)) := by
  have hst0 : St w M w ([] ++ (Lb ++ arP ga x a)) := hS
  have HR := hid hr
  have HW := hid hw
  have HRS := hid hrs
  have HP := hid hp
  have HIN := hid hin
  have HDD := hid hD
  have H1 := hid h1
  have OK := hid ok
  have H1C := hid h1c
  have hmf := rmf
  have hin2 := hin h1
  obtain ⟨k, rfl⟩ : ∃ k : Nat, dev = k := ⟨dev.toNat, by have := (inD_dev hin2).1; omega⟩
  have hlt : k < a.devs.length := by have := (inD_dev hin2).2; omega
  have HI2 := hid hin2
  clear hin2
  have H2 := hid h2
  have HG : Hid (orE (!(a.dv (k : Int)).gone) 14 = 14) := hid (by rw [h2]; rfl)
  clear hr hw hrs hp hin hD h1 ok hE h1c hS hfn h2
  go_enter Tryz.func37, Tryz.ntmps37
  go_wp2_with (first | go_big_skip | go_big_guard | (apply wl_bsX ([methV 46 (ptrV ga)]) ([methV 46 (ptrV ga)]) hst0; rfl; rfl; exact rfl; exact rfl; infer_instance; infer_instance; rfl; rfl; rfl; intro g1 w1 hst1; clear hst0; have hst2 : St w M w1 (.row (.slice (some ⟨g1, 0, none⟩) 1 1) 92 1 1 [methV 46 (ptrV ga)] :: (Lb ++ arP ga x a)) := St.toRow (n := 1) (cap := 1) (sz := 1) hst1 rfl (Nat.le_refl _) (by decide); clear hst1) | (apply wl_appX (m := m) (ys := ws) [] hst2; rfl; rfl; exact rfl; exact rfl; infer_instance; infer_instance; infer_instance; exact HR.out [_] _ hst2; exact H1C.out; (refine ⟨by decide, by unfold maxLen; omega, by omega⟩); intro v1 w2 hst3 _; clear hst2) | (go_at_call 89; refine (isHere_any ga (k : Int) _).mono ?_; rintro _ w4 ⟨k0, k1, rfl, h4⟩; have hst4 := St.call hst3 h4; clear h4 hst3) | (apply wl_bsX ([cloV 139 [ptrV k0, ptrV k1]]) ([cloV 139 [ptrV k0, ptrV k1]]) hst4; rfl; rfl; exact rfl; exact rfl; infer_instance; infer_instance; rfl; rfl; rfl; intro gb w5 hst5; clear hst4) | (apply wl_appX (m := 1) (ys := [cloV 139 [ptrV k0, ptrV k1]]) [_, _, _] hst5; rfl; rfl; exact rfl; exact rfl; infer_instance; infer_instance; infer_instance; exact Rd.blk (n := 1) hst5 (.head _) (Nat.le_refl _) (by decide) rfl rfl; rfl; (refine ⟨by decide, by unfold maxLen; omega, by omega⟩); intro v2 w6 hst6 _; clear hst5) | (go_at_call 45; have hC := checks_any (k : Int) (v := v2) (n := 1 + m + 1) (fs := methV 46 (ptrV ga) :: ws) (f9 := cloV 139 [ptrV k0, ptrV k1]) (es := 0 :: rs) (e9 := orE (!(a.dv ((k : Int))).gone) 14) (A := fun w' => St w M w' (([HA.blk gb 92 [cloV 139 [ptrV k0, ptrV k1]], .blk k1 3 [.int .i64 (k : Int)], .blk k0 23 [.pointer (some ⟨ga, 0, none⟩)], .row v2 92 1 (1 + m + 1) (([methV 46 (ptrV ga)] ++ ws) ++ [cloV 139 [ptrV k0, ptrV k1]])] : List HA) ++ (Lb ++ arP ga x a))) (B := fun w' => St w M w' (([HA.blk gb 92 [cloV 139 [ptrV k0, ptrV k1]], .blk k1 3 [.int .i64 (k : Int)], .blk k0 23 [.pointer (some ⟨ga, 0, none⟩)], .row v2 92 1 (1 + m + 1) (([methV 46 (ptrV ga)] ++ ws) ++ [cloV 139 [ptrV k0, ptrV k1]])] : List HA) ++ (Lb ++ arP ga x a))) _ (fun _ h => Rd.row h (.tail _ (.tail _ (.tail _ (.head _))))) (by rw [List.length_cons, List.length_cons, HW.out, HRS.out]) (by rw [List.length_cons, HW.out]; omega) (by omega) (fun j f e hf he hz => (match j, hf, he, hz with | 0, hf, he, _ => (by cases hf; cases he; exact probe_made (fun _ h => ArrAt.of h (fun p hp => List.mem_append_right _ (List.mem_append_right _ hp)) OK.out.d0) keeps_st) | j + 1, hf, he, hz => HP.out _ j f e (by simpa using hf) (by simpa using he) (getD_cons0 hz))) (fun hz => probe_isHere (fun _ h => ArrAt.of h (fun p hp => List.mem_append_right _ (List.mem_append_right _ hp)) OK.out.d0) keeps_st (HIN.out (by rw [← firstE_cons0]; exact firstE_zero hz)) (fun _ h => St.cell h (off := 0) (.tail _ (.tail _ (.head _))) rfl) (fun _ h => St.cell h (off := 0) (.tail _ (.head _)) rfl)) hst6; rw [HG.out] at hC; refine hC.mono ?_; rintro _ w8 hh; obtain ⟨rfl, h4⟩ := checks_last (by rw [firstE_cons0]; exact H1.out) (by decide) hh; clear hC hh hst6; have hst7 := h4; clear h4) | (go_at_call 47; refine (number_isE 14 (k : Int) (by unfold isE; decide) (by decide) _).mono ?_; rintro _ w9 ⟨rfl, h4⟩; have hst8 := St.call0 hst7 h4; clear h4 hst7))
  go_ret
  exact ⟨rfl, _, hst8⟩
theorem befalls_fine {w : World} {M : List Nat} {Lb : List HA} {ga : Nat} {x x' : GA} {a a' : AR} (hS : St w M w (Lb ++ arP ga x a)) (ok : a.Ok) (dev : Int) (fn : Nat) (cap : List Value) (v : Value) (m : Nat) (ws : List Value) (rs : List Int)
    (hfn : ∀ (a : Array Value) (w : World), (callFunc fn a).run Tryz.prog w = .ok (.enter fn a) w)
    (hr : ∀ (X : List HA) (w' : World), St w M w' (X ++ (Lb ++ arP ga x a)) → Rd w' v 1 m ws) (hw : ws.length = m) (hrs : rs.length = m) (hm : m ≤ 10) (h1c : ws.all (·.oneCell') = true)
    (hp : ∀ (X : List HA) (j : Nat) (f : Value) (e : Int), ws[j]? = some f → rs[j]? = some e → (∀ i < j, rs.getD i 0 = 0) → Probe f e (fun w' => St w M w' (X ++ (Lb ++ arP ga x a))) (fun w' => St w M w' (X ++ (Lb ++ arP ga x a))))
    (hin : firstE rs = 0 → a.inD dev = true) (hE : ∀ e ∈ rs, e = 0 ∨ isE e)
    (hD : firstE rs = 0 → (a.dv dev).gone = false → ∀ (X : List HA) (w' : World), St w M w' (X ++ (Lb ++ arP ga x a)) → Calls Tryz.prog fn (List.toArray (.pointer (some ⟨x.gd, dev.toNat * 5, none⟩) :: cap)) w' fun e w'' => e = .returned (.tuple #[]) ∧ St w M w'' (X ++ (Lb ++ arP ga x' a'))) (h1 : firstE rs = 0) (h2 : (a.dv dev).gone = false) :
    Calls Tryz.prog 37 #[.pointer (some ⟨ga, 0, none⟩), .int .i64 dev, .func (.func fn) #[] (List.toArray cap), v] w fun e w' => e = .returned (.int .i64 (0)) ∧ ∃ X, St w M w' (X ++ (Lb ++ arP ga x' a')) := by
  have hst0 : St w M w ([] ++ (Lb ++ arP ga x a)) := hS
  have HR := hid hr
  have HW := hid hw
  have HRS := hid hrs
  have HP := hid hp
  have HIN := hid hin
  have HDD := hid hD
  have H1 := hid h1
  have OK := hid ok
  have H1C := hid h1c
  have hmf := rmf
  have hin2 := hin h1
  obtain ⟨k, rfl⟩ : ∃ k : Nat, dev = k := ⟨dev.toNat, by have := (inD_dev hin2).1; omega⟩
  have hlt : k < a.devs.length := by have := (inD_dev hin2).2; omega
  have HI2 := hid hin2
  clear hin2
  have H2 := hid h2
  have HG : Hid (orE (!(a.dv (k : Int)).gone) 14 = 0) := hid (by rw [h2]; rfl)
  clear hr hw hrs hp hin hD h1 ok hE h1c hS h2
  go_enter Tryz.func37, Tryz.ntmps37
  go_wp2_with (first | go_big_skip | go_big_guard | (apply wl_bsX ([methV 46 (ptrV ga)]) ([methV 46 (ptrV ga)]) hst0; rfl; rfl; exact rfl; exact rfl; infer_instance; infer_instance; rfl; rfl; rfl; intro g1 w1 hst1; clear hst0; have hst2 : St w M w1 (.row (.slice (some ⟨g1, 0, none⟩) 1 1) 92 1 1 [methV 46 (ptrV ga)] :: (Lb ++ arP ga x a)) := St.toRow (n := 1) (cap := 1) (sz := 1) hst1 rfl (Nat.le_refl _) (by decide); clear hst1) | (apply wl_appX (m := m) (ys := ws) [] hst2; rfl; rfl; exact rfl; exact rfl; infer_instance; infer_instance; infer_instance; exact HR.out [_] _ hst2; exact H1C.out; (refine ⟨by decide, by unfold maxLen; omega, by omega⟩); intro v1 w2 hst3 _; clear hst2) | (go_at_call 89; refine (isHere_any ga (k : Int) _).mono ?_; rintro _ w4 ⟨k0, k1, rfl, h4⟩; have hst4 := St.call hst3 h4; clear h4 hst3) | (apply wl_bsX ([cloV 139 [ptrV k0, ptrV k1]]) ([cloV 139 [ptrV k0, ptrV k1]]) hst4; rfl; rfl; exact rfl; exact rfl; infer_instance; infer_instance; rfl; rfl; rfl; intro gb w5 hst5; clear hst4) | (apply wl_appX (m := 1) (ys := [cloV 139 [ptrV k0, ptrV k1]]) [_, _, _] hst5; rfl; rfl; exact rfl; exact rfl; infer_instance; infer_instance; infer_instance; exact Rd.blk (n := 1) hst5 (.head _) (Nat.le_refl _) (by decide) rfl rfl; rfl; (refine ⟨by decide, by unfold maxLen; omega, by omega⟩); intro v2 w6 hst6 _; clear hst5) | (go_at_call 45; have hC := checks_any (k : Int) (v := v2) (n := 1 + m + 1) (fs := methV 46 (ptrV ga) :: ws) (f9 := cloV 139 [ptrV k0, ptrV k1]) (es := 0 :: rs) (e9 := orE (!(a.dv ((k : Int))).gone) 14) (A := fun w' => St w M w' (([HA.blk gb 92 [cloV 139 [ptrV k0, ptrV k1]], .blk k1 3 [.int .i64 (k : Int)], .blk k0 23 [.pointer (some ⟨ga, 0, none⟩)], .row v2 92 1 (1 + m + 1) (([methV 46 (ptrV ga)] ++ ws) ++ [cloV 139 [ptrV k0, ptrV k1]])] : List HA) ++ (Lb ++ arP ga x a))) (B := fun w' => St w M w' (([HA.blk gb 92 [cloV 139 [ptrV k0, ptrV k1]], .blk k1 3 [.int .i64 (k : Int)], .blk k0 23 [.pointer (some ⟨ga, 0, none⟩)], .row v2 92 1 (1 + m + 1) (([methV 46 (ptrV ga)] ++ ws) ++ [cloV 139 [ptrV k0, ptrV k1]])] : List HA) ++ (Lb ++ arP ga x a))) _ (fun _ h => Rd.row h (.tail _ (.tail _ (.tail _ (.head _))))) (by rw [List.length_cons, List.length_cons, HW.out, HRS.out]) (by rw [List.length_cons, HW.out]; omega) (by omega) (fun j f e hf he hz => (match j, hf, he, hz with | 0, hf, he, _ => (by cases hf; cases he; exact probe_made (fun _ h => ArrAt.of h (fun p hp => List.mem_append_right _ (List.mem_append_right _ hp)) OK.out.d0) keeps_st) | j + 1, hf, he, hz => HP.out _ j f e (by simpa using hf) (by simpa using he) (getD_cons0 hz))) (fun hz => probe_isHere (fun _ h => ArrAt.of h (fun p hp => List.mem_append_right _ (List.mem_append_right _ hp)) OK.out.d0) keeps_st (HIN.out (by rw [← firstE_cons0]; exact firstE_zero hz)) (fun _ h => St.cell h (off := 0) (.tail _ (.tail _ (.head _))) rfl) (fun _ h => St.cell h (off := 0) (.tail _ (.head _)) rfl)) hst6; rw [HG.out] at hC; refine hC.mono ?_; rintro _ w8 hh; obtain ⟨rfl, h4⟩ := checks_fine (by rw [firstE_cons0]; exact H1.out) hh; clear hC hh hst6; have hst7 := h4; clear h4) | (refine wl_loadE rfl rfl rfl ?_; refine ⟨_, Loads.cell (T := 106) TyS.out (St.cell hst7 (off := 0) (g := ga) (T := 109) (cs := arrC x a) (List.mem_append_right _ (List.mem_append_right _ (.head _))) rfl), ?_⟩) | (refine wl_index (k := k) rfl rfl rfl rfl hlt ?_) | ((refine (HDD.out H1.out H2.out _ _ hst7).mono ?_); rintro _ w9 ⟨rfl, h4⟩; have hst8 := h4; clear h4 hst7))
  go_ret
  exact ⟨rfl, _, hst8⟩
end Go.Proofs.YtmdfbdfijnmhkaaGreat
