import Derived.Test.YtmdfbdfijnmhkaaGreatR2
namespace Go.Proofs.YtmdfbdfijnmhkaaGreat
set_option linter.unusedVariables false
set_option linter.unusedSimpArgs false
open Go.RowKit Hp
attribute [local irreducible] Go.Calls Go.wpList
set_option maxRecDepth 100000
set_option maxHeartbeats 4000000
theorem firstE_zero {l : List Int} (h : ∀ i < l.length, l.getD i 0 = 0) : firstE l = 0 := by
  unfold firstE
  rw [List.find?_eq_none.2]
  · rfl
  · intro x hx
    obtain ⟨i, hi, rfl⟩ := List.getElem_of_mem hx
    have := h i hi
    simp [List.getD, hi] at this
    simp [this]
theorem firstE_at {l : List Int} {j : Nat} {e : Int} (h : ∀ i < j, l.getD i 0 = 0) (hj : l[j]? = some e) (he : e ≠ 0) : firstE l = e := by
  induction l generalizing j with
  | nil => simp at hj
  | cons x l ih =>
    cases j with
    | zero =>
      simp at hj
      subst hj
      simp [firstE, he]
    | succ j =>
      have hx : x = 0 := by simpa using h 0 (by omega)
      have := ih (j := j) (fun i hi => by have := h (i + 1) (by omega); simpa using this) (by simpa using hj)
      subst hx
      simpa [firstE] using this
def Probe (f : Value) (e : Int) (A B : World → Prop) : Prop := ∃ fn first cap, f = .func (.func fn) (List.toArray first) (List.toArray cap) ∧ (∀ (a : Array Value) (w : World), (callFunc fn a).run Tryz.prog w = .ok (.enter fn a) w) ∧
  ∀ w, A w → Calls Tryz.prog fn (List.toArray (first ++ cap)) w fun x w' => x = .returned (.int .i64 e) ∧ B w'
theorem checks_any (dev : Int) {v : Value} {n : Nat} {fs : List Value} {f9 : Value} {es : List Int} {e9 : Int} {A B : World → Prop} (w : World)
    (hr : ∀ w, A w → Rd w v 1 n (fs ++ [f9])) (hl : fs.length = es.length) (hn : n = fs.length + 1) (hb : n ≤ 1000)
    (hp : ∀ j f e, fs[j]? = some f → es[j]? = some e → (∀ i < j, es.getD i 0 = 0) → Probe f e A A)
    (h9 : (∀ i < es.length, es.getD i 0 = 0) → Probe f9 e9 A B) (h0 : A w) :
    Calls Tryz.prog 45 #[.int .i64 dev, v] w fun x w' => (firstE es ≠ 0 ∧ x = .returned (errV dev (firstE es)) ∧ A w') ∨ (firstE es = 0 ∧ x = .returned (errV dev e9) ∧ B w') := by
  obtain ⟨ao, c, rfl⟩ : ∃ ao c, v = .slice ao n c := by
    rcases (hr w h0).casesF with ⟨rfl, h, _⟩ | ⟨a, c, rfl, _⟩
    · exact ⟨none, 0, by rw [h]⟩
    · exact ⟨some a, c, rfl⟩
  obtain ⟨R, hR⟩ : ∃ R : Ending → World → Prop, R = fun x w' => (firstE es ≠ 0 ∧ x = .returned (errV dev (firstE es)) ∧ A w') ∨ (firstE es = 0 ∧ x = .returned (errV dev e9) ∧ B w') := ⟨_, rfl⟩
  have HR := hid hR
  rw [← hR]
  have HRD := hid hr
  have HL := hid hl
  have HN := hid hn
  have HP := hid hp
  have H9 := hid h9
  have H0 := hid h0
  clear hr hl hn hp h9 h0 hR
  go_enter Tryz.func45, Tryz.ntmps45
  go_wp2_with (first | go_big_skip | go_big_guard | fail)
  go_loopw [10] (fun i wr => ∃ j : Nat, j ≤ n ∧ i = .int .i64 (j : Int) ∧ Hid ((j < n ∧ A wr) ∨ (j = n ∧ B wr ∧ e9 = 0)) ∧ Hid (∀ i, i < j → i < es.length → es.getD i 0 = 0)) (fun i _ => n - (intOf i).toNat)
  case atStart => exact ⟨0, Nat.zero_le _, rfl, hid (.inl ⟨by have := HN.out; omega, H0.out⟩), hid (fun i hi => by omega)⟩
  case round =>
    clear H0
    obtain ⟨j, hj, rfl, HX, HZ⟩ := hrel
    by_cases hlt : j < n
    · have d1 : decide ((j : Int) < (n : Int)) = true := decide_eq_true (by omega)
      have z1 : IntKind.i64.wrap ((j : Int) + 1) = (j : Int) + 1 := IntWalk.i64_in _ (by omega)
      have hA : A wr := by
        rcases HX.out with h | h
        · exact h.2
        · exact absurd h.1 (by omega)
      have HA := hid hA
      have HRw := hid (HRD.out _ hA)
      clear HX hA
      obtain ⟨b, off, rfl, hr⟩ := Rd.at HRw.out hlt
      by_cases hlast : j < fs.length
      · obtain ⟨f, hf⟩ : ∃ f, fs[j]? = some f := ⟨_, List.getElem?_eq_getElem hlast⟩
        obtain ⟨e, he⟩ : ∃ e, es[j]? = some e := ⟨_, List.getElem?_eq_getElem (by rw [← HL.out]; exact hlast)⟩
        obtain ⟨fn, first, cap, rfl, hfn, hC⟩ := HP.out j f e hf he (fun i hi => HZ.out i hi (by have := HL.out; omega))
        have hcell := hid (show wr.cell? ⟨b, off + j, none⟩ = some (.func (.func fn) (List.toArray first) (List.toArray cap)) from hr j _ (by rw [List.getElem?_append_left hlast]; exact hf))
        have HC := hid hC
        have HE := hid he
        have hjn := hid (show j + 1 < n by have := HN.out; omega)
        clear hf he hC hr
        by_cases h0 : e = 0
        · subst h0
          go_wp2_with (first | go_big_skip | go_big_guard | (refine wl_index rfl rfl rfl rfl hlt ?_) | (refine wl_loadE rfl rfl rfl ?_; refine ⟨_, Loads.cell (T := 92) TyS.out (by rw [Nat.mul_one]; exact hcell.out), ?_⟩) | (refine wl_buildX (cs := [.int .i64 0, .int .i64 dev]) [(0, _), (1, _)] rfl rfl (by exact rfl) (by kernel_rfl) ?_) | (refine (HC.out _ HA.out).mono ?_; rintro _ w10 ⟨rfl, h4⟩; have HB := hid h4; clear h4))
          go_roundw
          case rel =>
            refine ⟨j + 1, by have := hjn.out; omega, rfl, hid (.inl ⟨hjn.out, HB.out⟩), hid (fun i hi hi2 => ?_)⟩
            by_cases hij : i < j
            · exact HZ.out i hij hi2
            · have : i = j := by omega
              subst this
              simp [List.getD, HE.out]
          case measure => simp [intOf]; omega
        · have d3 : (e != 0) = true := by simpa using h0
          have H0 := hid h0
          clear h0
          go_wp2_with (first | go_big_skip | go_big_guard | (refine wl_index rfl rfl rfl rfl hlt ?_) | (refine wl_loadE rfl rfl rfl ?_; refine ⟨_, Loads.cell (T := 92) TyS.out (by rw [Nat.mul_one]; exact hcell.out), ?_⟩) | (refine wl_buildX (cs := [.int .i64 e, .int .i64 dev]) [(0, _), (1, _)] rfl rfl (by exact rfl) (by kernel_rfl) ?_) | (refine (HC.out _ HA.out).mono ?_; rintro _ w10 ⟨rfl, h4⟩; have HB := hid h4; clear h4))
          have e1 : firstE es = e := firstE_at (fun i hi => HZ.out i hi (by have := (List.getElem?_eq_some_iff.1 HE.out).1; omega)) HE.out H0.out
          rw [HR.out]
          exact .inl ⟨by rw [e1]; exact H0.out, (by rw [e1]; unfold errV; rw [if_neg H0.out]; rfl), HB.out⟩
      · have hjl : j = fs.length := by have := HN.out; omega
        have hz : ∀ i < es.length, es.getD i 0 = 0 := fun i hi => HZ.out i (by rw [hjl, HL.out]; exact hi) hi
        obtain ⟨fn, first, cap, hf9, hfn, hC⟩ := H9.out hz
        subst hf9
        have hcell := hid (show wr.cell? ⟨b, off + j, none⟩ = some (.func (.func fn) (List.toArray first) (List.toArray cap)) from hr j _ (by rw [hjl, List.getElem?_append_right (Nat.le_refl _), Nat.sub_self]; rfl))
        have HC := hid hC
        have HE := hid (firstE_zero hz)
        have hjn := hid (show j + 1 = n by have := HN.out; omega)
        clear hC hr hz hjl hlast
        by_cases h0 : e9 = 0
        · subst h0
          go_wp2_with (first | go_big_skip | go_big_guard | (refine wl_index rfl rfl rfl rfl hlt ?_) | (refine wl_loadE rfl rfl rfl ?_; refine ⟨_, Loads.cell (T := 92) TyS.out (by rw [Nat.mul_one]; exact hcell.out), ?_⟩) | (refine wl_buildX (cs := [.int .i64 0, .int .i64 dev]) [(0, _), (1, _)] rfl rfl (by exact rfl) (by kernel_rfl) ?_) | (refine (HC.out _ HA.out).mono ?_; rintro _ w10 ⟨rfl, h4⟩; have HB := hid h4; clear h4))
          go_roundw
          case rel => exact ⟨j + 1, by have := hjn.out; omega, rfl, hid (.inr ⟨hjn.out, HB.out, by trivial⟩), hid (fun i hi hi2 => HZ.out i (by have := hjn.out; have := HN.out; have := HL.out; omega) hi2)⟩
          case measure => simp [intOf]; omega
        · have d3 : (e9 != 0) = true := by simpa using h0
          have H0 := hid h0
          clear h0
          go_wp2_with (first | go_big_skip | go_big_guard | (refine wl_index rfl rfl rfl rfl hlt ?_) | (refine wl_loadE rfl rfl rfl ?_; refine ⟨_, Loads.cell (T := 92) TyS.out (by rw [Nat.mul_one]; exact hcell.out), ?_⟩) | (refine wl_buildX (cs := [.int .i64 e9, .int .i64 dev]) [(0, _), (1, _)] rfl rfl (by exact rfl) (by kernel_rfl) ?_) | (refine (HC.out _ HA.out).mono ?_; rintro _ w10 ⟨rfl, h4⟩; have HB := hid h4; clear h4))
          rw [HR.out]
          exact .inr ⟨HE.out, (by unfold errV; rw [if_neg H0.out]; rfl), HB.out⟩
    · have d1 : decide ((j : Int) < (n : Int)) = false := decide_eq_false (by omega)
      have hB : B wr ∧ e9 = 0 := by
        rcases HX.out with h | h
        · exact absurd h.1 hlt
        · exact h.2
      have HB := hid hB
      have hjn := hid (show j = n by omega)
      clear hB HX
      go_wp2_with (first | go_big_skip | go_big_guard | fail)
      rw [HR.out]
      exact .inr ⟨firstE_zero (fun i hi => HZ.out i (by have := hjn.out; have := HN.out; have := HL.out; omega) hi), (by rw [HB.out.2]; rfl), HB.out.1⟩
end Go.Proofs.YtmdfbdfijnmhkaaGreat
