/- PROVED: the law RecordOne returns true at any input, and nothing that was there has turned. No condition. -/
import Derived.Test.YtkpkaoiafppimaaDW
import Derived.Test.YtkpkaoiafppimaaJBasef
import Derived.Test.YtkpkaoiafppimaaJBasec
import Derived.Test.YtkpkaoiafppimaaNmL
import Derived.Test.YtkpkaoiafppimaaJBased
import Derived.Test.YtkpkaoiafppimaaT18
import Derived.Test.YtkpkaoiafppimaaPost
namespace Go.Proofs.Ytkpkaoiafppimaa
set_option linter.unusedVariables false
set_option linter.unusedSimpArgs false
open Go.RowKit Hp
theorem same_symm (t u : TC) : u.sameB t = t.sameB u := by
  cases h : t.sameB u
  · cases h2 : u.sameB t
    · rfl
    · have e := TC.sameB_iff.1 h2
      rw [TC.sameB_iff.2 e.symm] at h
      cases h
  · exact TC.sameB_iff.2 (TC.sameB_iff.1 h).symm
theorem bytes_same {t u : TC} (ht : t.ok = true) (hu : u.ok = true) (hS : ∀ r ∈ t.recs, L32 r.S) (hS' : ∀ r ∈ u.recs, L32 r.S) : (t.bytes == u.bytes) = t.sameB u := by
  cases h : t.sameB u
  · rw [beq_eq_false_iff_ne]
    intro e
    rw [TC.sameB_iff.2 (tab_one ht hu hS hS' e)] at h
    cases h
  · rw [TC.sameB_iff.1 h]
    exact beq_self_eq_true _
theorem ok_each' {t : TC} (h : t.ok = true) : allAt (eachB t.recs) t.recs = true := by
  cases hx : allAt (eachB t.recs) t.recs
  · rw [ok_each hx] at h; cases h
  · rfl
theorem ok_rel' {t : TC} (h : t.ok = true) : allAt (relB t.next t.recs) t.recs = true := by
  unfold TC.ok at h
  exact (Bool.and_eq_true_iff.1 h).2
/-- Names stand in order, the lesser ahead. -/
theorem names_less {t : TC} (h : t.ok = true) : ∀ (d i : Nat) (a b : RC), t.recs[i]? = some a → t.recs[i + 1 + d]? = some b → lessL a.name b.name = true := by
  have step : ∀ (i : Nat) (a b : RC), t.recs[i]? = some a → t.recs[i + 1]? = some b → lessL a.name b.name = true := by
    intro i a b ha hb
    have h1 := allAt_at (ok_each' h) hb
    unfold eachB at h1
    have h2 := (Bool.and_eq_true_iff.1 h1).2
    unfold lessAt at h2
    simp only [ha] at h2
    exact h2
  intro d
  induction d with
  | zero => exact fun i a b ha hb => step i a b ha hb
  | succ d ih =>
    intro i a b ha hb
    have hlt : i + 1 + d < t.recs.length := by
      have := (List.getElem?_eq_some_iff.1 hb).1
      omega
    have hm : t.recs[i + 1 + d]? = some t.recs[i + 1 + d] := List.getElem?_eq_getElem hlt
    exact less_trans (ih i a _ ha hm) (step (i + 1 + d) _ b hm (by rw [show i + 1 + d + 1 = i + 1 + (d + 1) by omega]; exact hb))
theorem find_own {t : TC} (h : t.ok = true) {i : Nat} {r : RC} (hr : t.recs[i]? = some r) : findP r.name t.recs = ((i : Int), true) := by
  obtain ⟨hlt, hg⟩ := List.getElem?_eq_some_iff.1 hr
  have e : findN r.name t.recs = i := by
    unfold findN
    refine idxI_first hlt (by show (t.recs[i].name == r.name) = true; rw [hg]; exact beq_self_eq_true _) fun j hj => ?_
    show ((t.recs[j]'(by omega)).name == r.name) = false
    rw [beq_eq_false_iff_ne]
    intro en
    have hl := names_less h (i - j - 1) j _ r (List.getElem?_eq_getElem (by omega)) (by rw [show j + 1 + (i - j - 1) = i by omega]; exact hr)
    rw [en, less_self] at hl
    cases hl
  unfold findP
  rw [e, if_neg (by omega)]
/-- The greatest id of the first j. -/
def topId (l : List RC) (j : Nat) : Int := (l.take j).foldl (fun (m : Int) (r : RC) => max m r.id) 0
theorem topId_zero (l : List RC) : topId l 0 = 0 := rfl
theorem topId_step {l : List RC} {j : Nat} {r : RC} (h : l[j]? = some r) : topId l (j + 1) = max (topId l j) r.id := by
  unfold topId
  rw [List.take_add_one, h, List.foldl_append]
  rfl
theorem topId_spec (l : List RC) : ∀ j, j ≤ l.length → 0 ≤ topId l j ∧ (∀ (i : Nat) (r : RC), i < j → l[i]? = some r → r.id ≤ topId l j) ∧ (topId l j = 0 ∨ ∃ (i : Nat) (r : RC), l[i]? = some r ∧ r.id = topId l j) := by
  intro j
  induction j with
  | zero => exact fun _ => ⟨Int.le_refl _, fun i r hi => by omega, Or.inl rfl⟩
  | succ j ih =>
    intro hj
    have hx : l[j]? = some l[j] := List.getElem?_eq_getElem (by omega)
    obtain ⟨h0, h1, h2⟩ := ih (by omega)
    rw [topId_step hx]
    refine ⟨by omega, fun i r hi hr => ?_, ?_⟩
    · by_cases e : i = j
      · subst e
        rw [hx] at hr
        cases hr
        omega
      · have := h1 i r (by omega) hr
        omega
    · by_cases hm : topId l j ≤ l[j].id
      · exact Or.inr ⟨j, l[j], hx, by omega⟩
      · rw [show max (topId l j) l[j].id = topId l j by omega]
        exact h2
theorem id_bd {t : TC} (h : t.ok = true) {i : Nat} {r : RC} (hr : t.recs[i]? = some r) : 1 ≤ r.id ∧ r.id ≤ 2147483647 := by
  have h1 := allAt_at (ok_each' h) hr
  unfold eachB RC.aloneB inB at h1
  simp only [Bool.and_eq_true, decide_eq_true_eq] at h1
  omega
theorem top_bd {t : TC} (h : t.ok = true) : 0 ≤ topId t.recs t.recs.length ∧ topId t.recs t.recs.length ≤ 2147483647 := by
  obtain ⟨h0, _, h2⟩ := topId_spec t.recs t.recs.length (Nat.le_refl _)
  refine ⟨h0, ?_⟩
  rcases h2 with h2 | ⟨i, r, hr, e⟩
  · omega
  · rw [← e]
    exact (id_bd h hr).2
theorem top_bd' {t : TC} (h : t.ok = true) {j : Nat} (hj : j ≤ t.recs.length) : 0 ≤ topId t.recs j ∧ topId t.recs j ≤ 2147483647 := by
  obtain ⟨h0, _, h2⟩ := topId_spec t.recs j hj
  refine ⟨h0, ?_⟩
  rcases h2 with h2 | ⟨i, r, hr, e⟩
  · omega
  · rw [← e]
    exact (id_bd h hr).2
theorem less_not {t : TC} (h : t.ok = true) : ({ t with next := topId t.recs t.recs.length } : TC).ok = false := by
  obtain ⟨h0, h1, h2⟩ := topId_spec t.recs t.recs.length (Nat.le_refl _)
  rcases h2 with h2 | ⟨i, r, hr, e⟩
  · rw [h2]
    refine ok_size ?_
    unfold TC.sizeB inB
    rfl
  · cases hq : ({ t with next := topId t.recs t.recs.length } : TC).ok
    · rfl
    · have h3 := allAt_at (ok_rel' hq) hr
      unfold relB at h3
      simp only [Bool.and_eq_true, decide_eq_true_eq] at h3
      have := h3.1.2
      rw [e] at this
      exact absurd this (by omega)
theorem more_is {t : TC} (h : t.ok = true) : ({ t with next := topId t.recs t.recs.length + 1 } : TC).ok = true := by
  have hb := top_bd h
  obtain ⟨_, h1, _⟩ := topId_spec t.recs t.recs.length (Nat.le_refl _)
  have hr := ok_rel' h
  unfold TC.ok at h ⊢
  simp only [Bool.and_eq_true] at h ⊢
  obtain ⟨⟨⟨⟨a1, a2⟩, a3⟩, a4⟩, _⟩ := h
  refine ⟨⟨⟨⟨?_, a2⟩, a3⟩, a4⟩, ?_⟩
  · unfold TC.sizeB inB at a1 ⊢
    simp only [Bool.and_eq_true, decide_eq_true_eq] at a1 ⊢
    refine ⟨⟨⟨?_, ?_⟩, a1.1.2⟩, a1.2⟩
    · show (1 : Int) ≤ topId t.recs t.recs.length + 1
      omega
    · show topId t.recs t.recs.length + 1 ≤ (2147483648 : Int)
      omega
  · refine allAt_all fun i r hi => ?_
    have h3 := allAt_at hr hi
    have h4 := h1 i r (List.getElem?_eq_some_iff.1 hi).1 hi
    unfold relB at h3 ⊢
    simp only [Bool.and_eq_true, decide_eq_true_eq] at h3 ⊢
    exact ⟨⟨h3.1.1, by omega⟩, h3.2⟩
end Go.Proofs.Ytkpkaoiafppimaa
namespace Go.Proofs.Ytkpkaoiafppimaa
set_option linter.unusedVariables false
set_option linter.unusedSimpArgs false
open Go.RowKit Hp
attribute [local irreducible] Go.Calls Go.wpList
set_option maxRecDepth 100000
set_option maxHeartbeats 8000000
attribute [local go_sem ↓] heldTab heldRecs heldStr
def nextT (t : TC) (n : Int) : TC := { t with next := n }
theorem one12_long1 (t u : TC) (ar al ar' al' : Option Addr) (nr cr nl cl nr' cr' nl' cl' : Nat) (xs ys : List (Value × RC)) (w : World) (HT : Hid (TabAny w t ar nr cr al nl cl xs)) (HU : Hid (TabAny w u ar' nr' cr' al' nl' cl' ys)) (H1 : Hid (t.longB = true)) : Calls Try.prog 7 #[.agg (tabC t (.slice ar nr cr) (.slice al nl cl)).toArray, .agg (tabC u (.slice ar' nr' cr') (.slice al' nl' cl')).toArray] w fun e w' => e = .returned (.bool true) ∧ St w [] w' [] := by
  have hst0 := St.refl w
  go_enter Try.func7, Try.ntmps7
  go_wp2_with (first | go_big_skip | go_big_guard | (refine wl_boxA hst0 rfl rfl rfl ?_; intro g3 w1 hst1; clear hst0) | (refine wl_boxA hst1 rfl rfl rfl ?_; intro g4 w2 hst2; clear hst1) | (go_at_call 8; refine (awake12_any _).mono ?_; rintro _ w9 ⟨rfl, h4⟩; have hst3 := St.call0 hst2 h4; clear h4 hst2) | (refine wl_loadE rfl rfl rfl ?_; first | refine ⟨_, Loads.atA (tabC t (.slice ar nr cr) (.slice al nl cl)) [_] hst3 rfl rfl, ?_⟩) | (go_at_call 21; refine (longTable_any t ar al nr cr nl cl xs _ (HT.out.old hst3.nil)).mono ?_; rw [H1.out]; rintro _ w9 ⟨rfl, h4⟩; have hst4 := St.call0 hst3 h4; clear h4 hst3))
  go_ret
  exact ⟨rfl, hst4.nil⟩
theorem one12_long2 (t u : TC) (ar al ar' al' : Option Addr) (nr cr nl cl nr' cr' nl' cl' : Nat) (xs ys : List (Value × RC)) (w : World) (HT : Hid (TabAny w t ar nr cr al nl cl xs)) (HU : Hid (TabAny w u ar' nr' cr' al' nl' cl' ys)) (H1 : Hid (t.longB = false)) (H2 : Hid (u.longB = true)) : Calls Try.prog 7 #[.agg (tabC t (.slice ar nr cr) (.slice al nl cl)).toArray, .agg (tabC u (.slice ar' nr' cr') (.slice al' nl' cl')).toArray] w fun e w' => e = .returned (.bool true) ∧ St w [] w' [] := by
  have hst0 := St.refl w
  go_enter Try.func7, Try.ntmps7
  go_wp2_with (first | go_big_skip | go_big_guard | (refine wl_boxA hst0 rfl rfl rfl ?_; intro g3 w1 hst1; clear hst0) | (refine wl_boxA hst1 rfl rfl rfl ?_; intro g4 w2 hst2; clear hst1) | (go_at_call 8; refine (awake12_any _).mono ?_; rintro _ w9 ⟨rfl, h4⟩; have hst3 := St.call0 hst2 h4; clear h4 hst2) | (refine wl_loadE rfl rfl rfl ?_; first | refine ⟨_, Loads.atA (tabC t (.slice ar nr cr) (.slice al nl cl)) [_] hst3 rfl rfl, ?_⟩) | (go_at_call 21; refine (longTable_any t ar al nr cr nl cl xs _ (HT.out.old hst3.nil)).mono ?_; rw [H1.out]; rintro _ w9 ⟨rfl, h4⟩; have hst4 := St.call0 hst3 h4; clear h4 hst3) | (refine wl_loadE rfl rfl rfl ?_; first | refine ⟨_, Loads.atA (tabC u (.slice ar' nr' cr') (.slice al' nl' cl')) [] hst4 rfl rfl, ?_⟩) | (go_at_call 21; refine (longTable_any u ar' al' nr' cr' nl' cl' ys _ (HU.out.old hst4.nil)).mono ?_; rw [H2.out]; rintro _ w9 ⟨rfl, h4⟩; have hst5 := St.call0 hst4 h4; clear h4 hst4))
  go_ret
  exact ⟨rfl, hst5.nil⟩
theorem one12_nn (t u : TC) (ar al ar' al' : Option Addr) (nr cr nl cl nr' cr' nl' cl' : Nat) (xs ys : List (Value × RC)) (w : World) (HT : Hid (TabAny w t ar nr cr al nl cl xs)) (HU : Hid (TabAny w u ar' nr' cr' al' nl' cl' ys)) (H1 : Hid (t.longB = false)) (H2 : Hid (u.longB = false)) (HOK : Hid (t.ok = false)) (HOU : Hid (u.ok = false)) (q : Bool) (HQ : Hid (t.sameB u = q)) : Calls Try.prog 7 #[.agg (tabC t (.slice ar nr cr) (.slice al nl cl)).toArray, .agg (tabC u (.slice ar' nr' cr') (.slice al' nl' cl')).toArray] w fun e w' => e = .returned (.bool true) ∧ St w [] w' [] := by
  have hst0 := St.refl w
  have hti := HT.out.tab H1.out
  have hui := HU.out.tab H2.out
  have HTI := hid hti
  have HUI := hid hui
  have l1 := TC.long_no H1.out
  have l2 := TC.long_no H2.out
  have hnr : nr ≤ 20 := by rw [← HT.out.len]; exact l1.1
  have hnl : nl ≤ 20 := by rw [← HT.out.ln]; exact l1.2.1
  have hnr' : nr' ≤ 20 := by rw [← HU.out.len]; exact l2.1
  have hnl' : nl' ≤ 20 := by rw [← HU.out.ln]; exact l2.2.1
  have STT := hid (show t.sameB t = true from TC.sameB_iff.2 rfl)
  have s1 : (q != q) = false := bne_self_eq_false _
  clear hti hui l1 l2
  go_enter Try.func7, Try.ntmps7
  go_wp2_with (first | go_big_skip | go_big_guard | (refine wl_boxA hst0 rfl rfl rfl ?_; intro g3 w1 hst1; clear hst0) | (refine wl_boxA hst1 rfl rfl rfl ?_; intro g4 w2 hst2; clear hst1) | (go_at_call 8; refine (awake12_any _).mono ?_; rintro _ w9 ⟨rfl, h4⟩; have hst3 := St.call0 hst2 h4; clear h4 hst2) | (refine wl_loadE rfl rfl rfl ?_; first | refine ⟨_, Loads.atA (tabC t (.slice ar nr cr) (.slice al nl cl)) [_] hst3 rfl rfl, ?_⟩) | (go_at_call 21; refine (longTable_any t ar al nr cr nl cl xs _ (HT.out.old hst3.nil)).mono ?_; rw [H1.out]; rintro _ w9 ⟨rfl, h4⟩; have hst4 := St.call0 hst3 h4; clear h4 hst3) | (refine wl_loadE rfl rfl rfl ?_; first | refine ⟨_, Loads.atA (tabC u (.slice ar' nr' cr') (.slice al' nl' cl')) [] hst4 rfl rfl, ?_⟩) | (go_at_call 21; refine (longTable_any u ar' al' nr' cr' nl' cl' ys _ (HU.out.old hst4.nil)).mono ?_; rw [H2.out]; rintro _ w9 ⟨rfl, h4⟩; have hst5 := St.call0 hst4 h4; clear h4 hst4) | (refine wl_loadE rfl rfl rfl ?_; first | refine ⟨_, Loads.atA (tabC t (.slice ar nr cr) (.slice al nl cl)) [_] hst5 rfl rfl, ?_⟩) | (go_at_call 17; refine (bytes12_no t ar al nr cr nl cl xs _ (HTI.out.old hst5.nil).R HTI.out.eq (by omega) (HTI.out.old hst5.nil).L HTI.out.ln (by omega) HOK.out).mono ?_; rintro _ w9 ⟨rfl, h4⟩; have hst6 := St.call0 hst5 h4; clear h4 hst5) | (refine wl_loadE rfl rfl rfl ?_; first | refine ⟨_, Loads.atA (tabC u (.slice ar' nr' cr') (.slice al' nl' cl')) [] hst6 rfl rfl, ?_⟩) | (go_at_call 17; refine (bytes12_no u ar' al' nr' cr' nl' cl' ys _ (HUI.out.old hst6.nil).R HUI.out.eq (by omega) (HUI.out.old hst6.nil).L HUI.out.ln (by omega) HOU.out).mono ?_; rintro _ w9 ⟨rfl, h4⟩; have hst7 := St.call0 hst6 h4; clear h4 hst6) | (refine wl_loadE rfl rfl rfl ?_; first | refine ⟨_, Loads.atA (tabC t (.slice ar nr cr) (.slice al nl cl)) [_] hst7 rfl rfl, ?_⟩ | refine ⟨_, Loads.atA (tabC u (.slice ar' nr' cr') (.slice al' nl' cl')) [] hst7 rfl rfl, ?_⟩) | (go_at_call 28; refine (same12_any t u ar al ar' al' nr cr nl cl nr' cr' nl' cl' xs ys _ (HTI.out.old hst7.nil) (HUI.out.old hst7.nil)).mono ?_; rw [HQ.out]; rintro _ w9 ⟨rfl, h4⟩; have hst8 := St.call0 hst7 h4; clear h4 hst7) | (refine wl_loadE rfl rfl rfl ?_; first | refine ⟨_, Loads.atA (tabC t (.slice ar nr cr) (.slice al nl cl)) [_] hst8 rfl rfl, ?_⟩ | refine ⟨_, Loads.atA (tabC u (.slice ar' nr' cr') (.slice al' nl' cl')) [] hst8 rfl rfl, ?_⟩) | (go_at_call 12; refine (kitTable_any t u ar al ar' al' nr cr nl cl nr' cr' nl' cl' xs ys _ (HTI.out.old hst8.nil) (HUI.out.old hst8.nil)).mono ?_; rw [HQ.out]; rintro _ w9 ⟨rfl, h4⟩; have hst9 := St.call0 hst8 h4; clear h4 hst8) | (refine wl_loadE rfl rfl rfl ?_; first | refine ⟨_, Loads.atA (tabC t (.slice ar nr cr) (.slice al nl cl)) [_] hst9 rfl rfl, ?_⟩ | refine ⟨_, Loads.atA (tabC u (.slice ar' nr' cr') (.slice al' nl' cl')) [] hst9 rfl rfl, ?_⟩) | (go_at_call 28; refine (same12_any u t ar' al' ar al nr' cr' nl' cl' nr cr nl cl ys xs _ (HUI.out.old hst9.nil) (HTI.out.old hst9.nil)).mono ?_; rw [same_symm t u, HQ.out]; rintro _ w9 ⟨rfl, h4⟩; have hst10 := St.call0 hst9 h4; clear h4 hst9) | (refine wl_loadE rfl rfl rfl ?_; first | refine ⟨_, Loads.atA (tabC t (.slice ar nr cr) (.slice al nl cl)) [_] hst10 rfl rfl, ?_⟩) | (go_at_call 28; refine (same12_any t t ar al ar al nr cr nl cl nr cr nl cl xs xs _ (HTI.out.old hst10.nil) (HTI.out.old hst10.nil)).mono ?_; rw [STT.out]; rintro _ w9 ⟨rfl, h4⟩; have hst11 := St.call0 hst10 h4; clear h4 hst10))
  go_ret
  exact ⟨rfl, hst11.nil⟩
theorem one12_ny (t u : TC) (ar al ar' al' : Option Addr) (nr cr nl cl nr' cr' nl' cl' : Nat) (xs ys : List (Value × RC)) (w : World) (HT : Hid (TabAny w t ar nr cr al nl cl xs)) (HU : Hid (TabAny w u ar' nr' cr' al' nl' cl' ys)) (H1 : Hid (t.longB = false)) (H2 : Hid (u.longB = false)) (HOK : Hid (t.ok = false)) (HOU : Hid (u.ok = true)) (q : Bool) (HQ : Hid (t.sameB u = q)) : Calls Try.prog 7 #[.agg (tabC t (.slice ar nr cr) (.slice al nl cl)).toArray, .agg (tabC u (.slice ar' nr' cr') (.slice al' nl' cl')).toArray] w fun e w' => e = .returned (.bool true) ∧ St w [] w' [] := by
  have hst0 := St.refl w
  have hti := HT.out.tab H1.out
  have hui := HU.out.tab H2.out
  have HTI := hid hti
  have HUI := hid hui
  have l1 := TC.long_no H1.out
  have l2 := TC.long_no H2.out
  have hnr : nr ≤ 20 := by rw [← HT.out.len]; exact l1.1
  have hnl : nl ≤ 20 := by rw [← HT.out.ln]; exact l1.2.1
  have hnr' : nr' ≤ 20 := by rw [← HU.out.len]; exact l2.1
  have hnl' : nl' ≤ 20 := by rw [← HU.out.ln]; exact l2.2.1
  have STT := hid (show t.sameB t = true from TC.sameB_iff.2 rfl)
  have s1 : (q != q) = false := bne_self_eq_false _
  clear hti hui l1 l2
  go_enter Try.func7, Try.ntmps7
  go_wp2_with (first | go_big_skip | go_big_guard | (refine wl_boxA hst0 rfl rfl rfl ?_; intro g3 w1 hst1; clear hst0) | (refine wl_boxA hst1 rfl rfl rfl ?_; intro g4 w2 hst2; clear hst1) | (go_at_call 8; refine (awake12_any _).mono ?_; rintro _ w9 ⟨rfl, h4⟩; have hst3 := St.call0 hst2 h4; clear h4 hst2) | (refine wl_loadE rfl rfl rfl ?_; first | refine ⟨_, Loads.atA (tabC t (.slice ar nr cr) (.slice al nl cl)) [_] hst3 rfl rfl, ?_⟩) | (go_at_call 21; refine (longTable_any t ar al nr cr nl cl xs _ (HT.out.old hst3.nil)).mono ?_; rw [H1.out]; rintro _ w9 ⟨rfl, h4⟩; have hst4 := St.call0 hst3 h4; clear h4 hst3) | (refine wl_loadE rfl rfl rfl ?_; first | refine ⟨_, Loads.atA (tabC u (.slice ar' nr' cr') (.slice al' nl' cl')) [] hst4 rfl rfl, ?_⟩) | (go_at_call 21; refine (longTable_any u ar' al' nr' cr' nl' cl' ys _ (HU.out.old hst4.nil)).mono ?_; rw [H2.out]; rintro _ w9 ⟨rfl, h4⟩; have hst5 := St.call0 hst4 h4; clear h4 hst4) | (refine wl_loadE rfl rfl rfl ?_; first | refine ⟨_, Loads.atA (tabC t (.slice ar nr cr) (.slice al nl cl)) [_] hst5 rfl rfl, ?_⟩) | (go_at_call 17; refine (bytes12_no t ar al nr cr nl cl xs _ (HTI.out.old hst5.nil).R HTI.out.eq (by omega) (HTI.out.old hst5.nil).L HTI.out.ln (by omega) HOK.out).mono ?_; rintro _ w9 ⟨rfl, h4⟩; have hst6 := St.call0 hst5 h4; clear h4 hst5) | (refine wl_loadE rfl rfl rfl ?_; first | refine ⟨_, Loads.atA (tabC u (.slice ar' nr' cr') (.slice al' nl' cl')) [] hst6 rfl rfl, ?_⟩) | (go_at_call 17; refine (bytes12_ok u ar' al' nr' cr' nl' cl' ys _ (HUI.out.old hst6.nil).R HUI.out.eq (HUI.out.old hst6.nil).L HUI.out.ln HOU.out).mono ?_; rintro _ w9 ⟨u2, m2, rfl, hm2, h4⟩; have hst7 := St.call hst6 h4; clear h4 hst6) | (refine wl_loadE rfl rfl rfl ?_; first | refine ⟨_, Loads.atA (tabC t (.slice ar nr cr) (.slice al nl cl)) [_, _] hst7 rfl rfl, ?_⟩ | refine ⟨_, Loads.atA (tabC u (.slice ar' nr' cr') (.slice al' nl' cl')) [_] hst7 rfl rfl, ?_⟩) | (go_at_call 28; refine (same12_any t u ar al ar' al' nr cr nl cl nr' cr' nl' cl' xs ys _ (HTI.out.old hst7.nil) (HUI.out.old hst7.nil)).mono ?_; rw [HQ.out]; rintro _ w9 ⟨rfl, h4⟩; have hst8 := St.call0 hst7 h4; clear h4 hst7) | (refine wl_loadE rfl rfl rfl ?_; first | refine ⟨_, Loads.atA (tabC t (.slice ar nr cr) (.slice al nl cl)) [_, _] hst8 rfl rfl, ?_⟩ | refine ⟨_, Loads.atA (tabC u (.slice ar' nr' cr') (.slice al' nl' cl')) [_] hst8 rfl rfl, ?_⟩) | (go_at_call 12; refine (kitTable_any t u ar al ar' al' nr cr nl cl nr' cr' nl' cl' xs ys _ (HTI.out.old hst8.nil) (HUI.out.old hst8.nil)).mono ?_; rw [HQ.out]; rintro _ w9 ⟨rfl, h4⟩; have hst9 := St.call0 hst8 h4; clear h4 hst8) | (refine wl_loadE rfl rfl rfl ?_; first | refine ⟨_, Loads.atA (tabC t (.slice ar nr cr) (.slice al nl cl)) [_, _] hst9 rfl rfl, ?_⟩ | refine ⟨_, Loads.atA (tabC u (.slice ar' nr' cr') (.slice al' nl' cl')) [_] hst9 rfl rfl, ?_⟩) | (go_at_call 28; refine (same12_any u t ar' al' ar al nr' cr' nl' cl' nr cr nl cl ys xs _ (HUI.out.old hst9.nil) (HTI.out.old hst9.nil)).mono ?_; rw [same_symm t u, HQ.out]; rintro _ w9 ⟨rfl, h4⟩; have hst10 := St.call0 hst9 h4; clear h4 hst9) | (refine wl_loadE rfl rfl rfl ?_; first | refine ⟨_, Loads.atA (tabC t (.slice ar nr cr) (.slice al nl cl)) [_, _] hst10 rfl rfl, ?_⟩) | (go_at_call 28; refine (same12_any t t ar al ar al nr cr nl cl nr cr nl cl xs xs _ (HTI.out.old hst10.nil) (HTI.out.old hst10.nil)).mono ?_; rw [STT.out]; rintro _ w9 ⟨rfl, h4⟩; have hst11 := St.call0 hst10 h4; clear h4 hst10))
  go_ret
  exact ⟨rfl, hst11.nil⟩
theorem one12_yn (t u : TC) (ar al ar' al' : Option Addr) (nr cr nl cl nr' cr' nl' cl' : Nat) (xs ys : List (Value × RC)) (w : World) (HT : Hid (TabAny w t ar nr cr al nl cl xs)) (HU : Hid (TabAny w u ar' nr' cr' al' nl' cl' ys)) (H1 : Hid (t.longB = false)) (H2 : Hid (u.longB = false)) (HOK : Hid (t.ok = true)) (HOU : Hid (u.ok = false)) (q : Bool) (HQ : Hid (t.sameB u = q)) : Calls Try.prog 7 #[.agg (tabC t (.slice ar nr cr) (.slice al nl cl)).toArray, .agg (tabC u (.slice ar' nr' cr') (.slice al' nl' cl')).toArray] w fun e w' => e = .returned (.bool true) ∧ St w [] w' [] := by
  have hst0 := St.refl w
  have hti := HT.out.tab H1.out
  have hui := HU.out.tab H2.out
  have HTI := hid hti
  have HUI := hid hui
  have l1 := TC.long_no H1.out
  have l2 := TC.long_no H2.out
  have hnr : nr ≤ 20 := by rw [← HT.out.len]; exact l1.1
  have hnl : nl ≤ 20 := by rw [← HT.out.ln]; exact l1.2.1
  have hnr' : nr' ≤ 20 := by rw [← HU.out.len]; exact l2.1
  have hnl' : nl' ≤ 20 := by rw [← HU.out.ln]; exact l2.2.1
  have STT := hid (show t.sameB t = true from TC.sameB_iff.2 rfl)
  have s1 : (q != q) = false := bne_self_eq_false _
  clear hti hui l1 l2
  go_enter Try.func7, Try.ntmps7
  go_wp2_with (first | go_big_skip | go_big_guard | (refine wl_boxA hst0 rfl rfl rfl ?_; intro g3 w1 hst1; clear hst0) | (refine wl_boxA hst1 rfl rfl rfl ?_; intro g4 w2 hst2; clear hst1) | (go_at_call 8; refine (awake12_any _).mono ?_; rintro _ w9 ⟨rfl, h4⟩; have hst3 := St.call0 hst2 h4; clear h4 hst2) | (refine wl_loadE rfl rfl rfl ?_; first | refine ⟨_, Loads.atA (tabC t (.slice ar nr cr) (.slice al nl cl)) [_] hst3 rfl rfl, ?_⟩) | (go_at_call 21; refine (longTable_any t ar al nr cr nl cl xs _ (HT.out.old hst3.nil)).mono ?_; rw [H1.out]; rintro _ w9 ⟨rfl, h4⟩; have hst4 := St.call0 hst3 h4; clear h4 hst3) | (refine wl_loadE rfl rfl rfl ?_; first | refine ⟨_, Loads.atA (tabC u (.slice ar' nr' cr') (.slice al' nl' cl')) [] hst4 rfl rfl, ?_⟩) | (go_at_call 21; refine (longTable_any u ar' al' nr' cr' nl' cl' ys _ (HU.out.old hst4.nil)).mono ?_; rw [H2.out]; rintro _ w9 ⟨rfl, h4⟩; have hst5 := St.call0 hst4 h4; clear h4 hst4) | (refine wl_loadE rfl rfl rfl ?_; first | refine ⟨_, Loads.atA (tabC t (.slice ar nr cr) (.slice al nl cl)) [_] hst5 rfl rfl, ?_⟩) | (go_at_call 17; refine (bytes12_ok t ar al nr cr nl cl xs _ (HTI.out.old hst5.nil).R HTI.out.eq (HTI.out.old hst5.nil).L HTI.out.ln HOK.out).mono ?_; rintro _ w9 ⟨u1, m1, rfl, hm1, h4⟩; have hst6 := St.call hst5 h4; clear h4 hst5) | (refine wl_loadE rfl rfl rfl ?_; first | refine ⟨_, Loads.atA (tabC u (.slice ar' nr' cr') (.slice al' nl' cl')) [_] hst6 rfl rfl, ?_⟩) | (go_at_call 17; refine (bytes12_no u ar' al' nr' cr' nl' cl' ys _ (HUI.out.old hst6.nil).R HUI.out.eq (by omega) (HUI.out.old hst6.nil).L HUI.out.ln (by omega) HOU.out).mono ?_; rintro _ w9 ⟨rfl, h4⟩; have hst7 := St.call0 hst6 h4; clear h4 hst6) | (refine wl_loadE rfl rfl rfl ?_; first | refine ⟨_, Loads.atA (tabC t (.slice ar nr cr) (.slice al nl cl)) [_, _] hst7 rfl rfl, ?_⟩ | refine ⟨_, Loads.atA (tabC u (.slice ar' nr' cr') (.slice al' nl' cl')) [_] hst7 rfl rfl, ?_⟩) | (go_at_call 28; refine (same12_any t u ar al ar' al' nr cr nl cl nr' cr' nl' cl' xs ys _ (HTI.out.old hst7.nil) (HUI.out.old hst7.nil)).mono ?_; rw [HQ.out]; rintro _ w9 ⟨rfl, h4⟩; have hst8 := St.call0 hst7 h4; clear h4 hst7) | (refine wl_loadE rfl rfl rfl ?_; first | refine ⟨_, Loads.atA (tabC t (.slice ar nr cr) (.slice al nl cl)) [_, _] hst8 rfl rfl, ?_⟩ | refine ⟨_, Loads.atA (tabC u (.slice ar' nr' cr') (.slice al' nl' cl')) [_] hst8 rfl rfl, ?_⟩) | (go_at_call 12; refine (kitTable_any t u ar al ar' al' nr cr nl cl nr' cr' nl' cl' xs ys _ (HTI.out.old hst8.nil) (HUI.out.old hst8.nil)).mono ?_; rw [HQ.out]; rintro _ w9 ⟨rfl, h4⟩; have hst9 := St.call0 hst8 h4; clear h4 hst8) | (refine wl_loadE rfl rfl rfl ?_; first | refine ⟨_, Loads.atA (tabC t (.slice ar nr cr) (.slice al nl cl)) [_, _] hst9 rfl rfl, ?_⟩ | refine ⟨_, Loads.atA (tabC u (.slice ar' nr' cr') (.slice al' nl' cl')) [_] hst9 rfl rfl, ?_⟩) | (go_at_call 28; refine (same12_any u t ar' al' ar al nr' cr' nl' cl' nr cr nl cl ys xs _ (HUI.out.old hst9.nil) (HTI.out.old hst9.nil)).mono ?_; rw [same_symm t u, HQ.out]; rintro _ w9 ⟨rfl, h4⟩; have hst10 := St.call0 hst9 h4; clear h4 hst9) | (refine wl_loadE rfl rfl rfl ?_; first | refine ⟨_, Loads.atA (tabC t (.slice ar nr cr) (.slice al nl cl)) [_, _] hst10 rfl rfl, ?_⟩) | (go_at_call 28; refine (same12_any t t ar al ar al nr cr nl cl nr cr nl cl xs xs _ (HTI.out.old hst10.nil) (HTI.out.old hst10.nil)).mono ?_; rw [STT.out]; rintro _ w9 ⟨rfl, h4⟩; have hst11 := St.call0 hst10 h4; clear h4 hst10))
  have hL : St w [] _ [.blk g3 30 (tabC t (.slice ar nr cr) (.slice al nl cl))] := St.sub hst11 (.cons _ (.cons _ (List.Sublist.refl _)))
  clear hst11
  go_loopw [11, 12, 13, 14] (fun v11 v12 _ _ wr => ∃ j : Nat, j ≤ nr ∧ v11 = .int .i64 (topId t.recs j) ∧ v12 = .int .i64 (j : Int) ∧ St w [] wr [.blk g3 30 (tabC t (.slice ar nr cr) (.slice al nl cl))]) (fun _ v12 _ _ _ => nr - (intOf v12).toNat)
  case atStart => exact ⟨0, Nat.zero_le _, rfl, rfl, hL⟩
  case round =>
    clear hL
    obtain ⟨j, hj, rfl, rfl, hst⟩ := hrel
    have htb := top_bd' HOK.out (j := j) (by rw [HT.out.len]; exact hj)
    by_cases hlt : j < nr
    · have e1 : decide ((j : Int) < (nr : Int)) = true := decide_eq_true (by omega)
      have z1 : IntKind.i64.wrap ((j : Int) + 1) = (j : Int) + 1 := IntWalk.i64_in _ (by omega)
      have s9 : ((j : Int) != (j : Int)) = false := bne_self_eq_false _
      obtain ⟨x, lb, lo, hx, rfl, hin, hr⟩ := RecsIn.at HT.out.R hlt
      have HX := hid (recs_atA HT.out hx)
      have HFN := hid (find_own HOK.out HX.out)
      have HCN := hid (show w.cell? ⟨lb, lo + j * 44 + 1, none⟩ = some (.string ⟨x.2.name.toArray⟩) from hr 1 _ rfl)
      have HCI := hid (show w.cell? ⟨lb, lo + j * 44, none⟩ = some (.int .i64 x.2.id) from hr 0 _ rfl)
      have hib := id_bd HOK.out HX.out
      clear hx hr hin
      go_wp2_with (first | go_big_skip | go_big_guard | (refine wl_loadE rfl rfl rfl ?_; refine ⟨_, Loads.at [] hst rfl, ?_⟩))
      have hX := hst.drew
      clear hst
      refine wp_region_held_drew (S := (fun w' => (loadVarH 30 ⟨g3, 0, none⟩).run Try.prog w' = .ok (.agg (List.toArray ((tabC t (.slice (some ⟨lb, lo, none⟩) nr cr) (.slice al nl cl))))) w' ∧ (loadVarH 25 ⟨g3, 1, none⟩).run Try.prog w' = .ok (.slice (some ⟨lb, lo, none⟩) nr cr) w' ∧ (loadVarH 9 ⟨lb, lo + j * 44 + 1, none⟩).run Try.prog w' = .ok (.string ⟨x.2.name.toArray⟩) w')) (by kernel_rfl) (by exact ⟨ldA ((tabC t (.slice (some ⟨lb, lo, none⟩) nr cr) (.slice al nl cl))) [] hX (rfl) (rfl), ldS [] hX rfl, ldO hX (HCN.out)⟩) (fun hHeld => ?_)
      refine wpAnyH_take (i := 0) (oi := ⟨some 82, _, _, _, _, _⟩) (v := ?_) rfl (by kernel_rfl) (by kernel_rfl) (by kernel_rfl) (fun _ _ _ h => h) (Or.inl ⟨by rfl, ?_⟩) (by assumption) ?_
      rotate_left
      · intro w hSw; (try dsimp only at hSw); go_simp; try with_reducible rfl
      (try simp only [Act.put, List.setIfInBounds_toArray, List.set_cons_zero, List.set_cons_succ])
      refine wpAnyH_take (i := 1) (oi := ⟨some 83, _, _, _, _, _⟩) (v := ?_) rfl (by kernel_rfl) (by kernel_rfl) (by kernel_rfl) (fun _ _ _ h => h) (Or.inl ⟨by rfl, ?_⟩) (by assumption) ?_
      rotate_left
      · intro w hSw; (try dsimp only at hSw); go_simp; try with_reducible rfl
      (try simp only [Act.put, List.setIfInBounds_toArray, List.set_cons_zero, List.set_cons_succ])
      refine wpAnyH_take (i := 3) (oi := ⟨some 85, _, _, _, _, _⟩) (v := ?_) rfl (by kernel_rfl) (by kernel_rfl) (by kernel_rfl) (fun _ _ _ h => h) (Or.inl ⟨by rfl, ?_⟩) (by assumption) ?_
      rotate_left
      · intro w hSw; (try dsimp only at hSw); go_simp; try with_reducible rfl
      (try simp only [Act.put, List.setIfInBounds_toArray, List.set_cons_zero, List.set_cons_succ])
      refine wpAnyH_take (i := 2) (oi := ⟨some 84, _, _, _, _, _⟩) (v := ?_) rfl (by kernel_rfl) (by kernel_rfl) (by kernel_rfl) (fun _ _ _ h => h) (Or.inl ⟨by rfl, ?_⟩) (by assumption) ?_
      rotate_left
      · intro w hSw; (try dsimp only at hSw); go_simp; try with_reducible rfl
      (try simp only [Act.put, List.setIfInBounds_toArray, List.set_cons_zero, List.set_cons_succ])
      refine wpAnyH_take (i := 4) (oi := ⟨some 86, _, _, _, _, _⟩) (v := ?_) rfl (by kernel_rfl) (by kernel_rfl) (by kernel_rfl) (fun _ _ _ h => h) (Or.inl ⟨by rfl, ?_⟩) (by assumption) ?_
      rotate_left
      · intro w hSw; (try dsimp only at hSw); go_simp; try with_reducible rfl
      (try simp only [Act.put, List.setIfInBounds_toArray, List.set_cons_zero, List.set_cons_succ])
      refine wpAnyH_take (i := 5) (oi := ⟨some 87, _, _, _, _, _⟩) (v := ?_) rfl (by kernel_rfl) (by kernel_rfl) (by kernel_rfl) (fun _ _ _ h => h) (Or.inl ⟨by rfl, ?_⟩) (by assumption) ?_
      rotate_left
      · intro w hSw; (try dsimp only at hSw); go_simp; try with_reducible rfl
      (try simp only [Act.put, List.setIfInBounds_toArray, List.set_cons_zero, List.set_cons_succ])
      refine wpAnyH_take (i := 6) (oi := ⟨some 88, _, _, _, _, _⟩) (v := ?_) rfl (by kernel_rfl) (by kernel_rfl) (by kernel_rfl) (fun _ _ _ h => h) (Or.inl ⟨by rfl, ?_⟩) (by assumption) ?_
      rotate_left
      · intro w hSw; (try dsimp only at hSw); go_simp; try with_reducible rfl
      (try simp only [Act.put, List.setIfInBounds_toArray, List.set_cons_zero, List.set_cons_succ])
      refine wpAnyH_ready (rs := [7]) (by kernel_rfl) (by simp) ?_
      refine (AllReadyH.cons (o := ⟨some 89, _, _, _, _, _⟩) rfl (fun K hK => ?_) AllReadyH.nil)
      go_simp
      go_at_call 24
      refine (find_any t (.slice al nl cl) x.2.name (some ⟨lb, lo, none⟩) nr cr xs _ (HTI.out.old hX.nil).R (by omega)).mono ?_
      rw [HTI.out.eq, HFN.out]
      rintro _ w9 ⟨rfl, h4⟩
      have hA1 := St.call0 hX h4
      clear h4 hX
      refine hK.out _ _ ?_ (fun hHeld => ?_)
      · exact ⟨ldA ((tabC t (.slice (some ⟨lb, lo, none⟩) nr cr) (.slice al nl cl))) [] hA1 (rfl) (rfl), ldS [] hA1 rfl, ldO hA1 (HCN.out)⟩
      clear hK K
      (try simp only [Act.put, List.setIfInBounds_toArray, List.set_cons_zero, List.set_cons_succ])
      refine wpAnyH_take (i := 8) (oi := ⟨some 81, _, _, _, _, _⟩) (v := ?_) rfl (by kernel_rfl) (by kernel_rfl) (by kernel_rfl) (fun _ _ _ h => h) (Or.inl ⟨by rfl, ?_⟩) (by assumption) ?_
      rotate_left
      · intro w hSw; (try dsimp only at hSw); go_simp; try with_reducible rfl
      (try simp only [Act.put, List.setIfInBounds_toArray, List.set_cons_zero, List.set_cons_succ])
      refine wpAnyH_take (i := 9) (oi := ⟨some 90, _, _, _, _, _⟩) (v := ?_) rfl (by kernel_rfl) (by kernel_rfl) (by kernel_rfl) (fun _ _ _ h => h) (Or.inl ⟨by rfl, ?_⟩) (by assumption) ?_
      rotate_left
      · intro w hSw; (try dsimp only at hSw); go_simp; try with_reducible rfl
      (try simp only [Act.put, List.setIfInBounds_toArray, List.set_cons_zero, List.set_cons_succ])
      refine wpAnyH_take (i := 10) (oi := ⟨some 91, _, _, _, _, _⟩) (v := ?_) rfl (by kernel_rfl) (by kernel_rfl) (by kernel_rfl) (fun _ _ _ h => h) (Or.inl ⟨by rfl, ?_⟩) (by assumption) ?_
      rotate_left
      · intro w hSw; (try dsimp only at hSw); go_simp; try with_reducible rfl
      (try simp only [Act.put, List.setIfInBounds_toArray, List.set_cons_zero, List.set_cons_succ])
      refine wpAnyH_take (i := 11) (oi := ⟨some 13, _, _, _, _, _⟩) (v := ?_) rfl (by kernel_rfl) (by kernel_rfl) (by kernel_rfl) (fun _ _ _ h => h) (Or.inl ⟨by rfl, ?_⟩) (by assumption) ?_
      rotate_left
      · intro w hSw; (try dsimp only at hSw); go_simp; try with_reducible rfl
      (try simp only [Act.put, List.setIfInBounds_toArray, List.set_cons_zero, List.set_cons_succ])
      refine wpAnyH_take (i := 12) (oi := ⟨some 14, _, _, _, _, _⟩) (v := ?_) rfl (by kernel_rfl) (by kernel_rfl) (by kernel_rfl) (fun _ _ _ h => h) (Or.inl ⟨by rfl, ?_⟩) (by assumption) ?_
      rotate_left
      · intro w hSw; (try dsimp only at hSw); go_simp; try with_reducible rfl
      (try simp only [Act.put, List.setIfInBounds_toArray, List.set_cons_zero, List.set_cons_succ])
      refine wpAnyH_done (by kernel_rfl) ?_ _
      clear hHeld
      go_wp2_with (first | go_big_skip | go_big_guard | (refine wl_loadE rfl rfl rfl ?_; first | refine ⟨_, Loads.at [] hA1 rfl, ?_⟩ | refine ⟨_, Loads.old hA1 HCI.out, ?_⟩) | (refine wl_index rfl rfl rfl rfl hlt ?_))
      go_roundw
      case rel => exact ⟨j + 1, by omega, by rw [topId_step HX.out], by push_cast; rfl, hA1⟩
      case measure => simp [intOf]; omega
    · have e1 : decide ((j : Int) < (nr : Int)) = false := decide_eq_false (by omega)
      have hjn : j = t.recs.length := by rw [HT.out.len]; omega
      obtain ⟨G, hG⟩ : ∃ G, topId t.recs j = G := ⟨_, rfl⟩
      have HLE := hid (show (nextT t G).ok = false by rw [← hG, hjn]; exact less_not HOK.out)
      have HMO := hid (show (nextT t (G + 1)).ok = true by rw [← hG, hjn]; exact more_is HOK.out)
      rw [hG] at htb ⊢
      clear hjn hG
      have z2 : IntKind.i64.wrap (G + 1) = G + 1 := IntWalk.i64_in _ (by omega)
      go_wp2_with (first | go_big_skip | go_big_guard | (refine wl_loadE rfl rfl rfl ?_; first | refine ⟨_, Loads.atA (tabC t (.slice ar nr cr) (.slice al nl cl)) [] hst rfl rfl, ?_⟩ | refine ⟨_, Loads.at [] hst rfl, ?_⟩) | (refine wl_alloc hst rfl rfl ?_; intro g7 w1 hst1; clear hst) | (refine wl_storeA [] hst1 rfl rfl rfl rfl (vs := (tabC t (.slice ar nr cr) (.slice al nl cl))) rfl rfl rfl ?_; intro w7 hst2; clear hst1) | (refine wl_store [] hst2 rfl rfl rfl (off := 0) (v := .int .i64 G) rfl rfl rfl (by show (0 : Nat) + 1 ≤ 7; decide) ?_; intro w7 hst3; clear hst2) | (refine wl_loadE rfl rfl rfl ?_; refine ⟨_, Loads.atA (tabC t (.slice ar nr cr) (.slice al nl cl)) [_] hst3 rfl rfl, ?_⟩) | (refine wl_alloc hst3 rfl rfl ?_; intro g8 w1 hst4; clear hst3) | (refine wl_storeA [] hst4 rfl rfl rfl rfl (vs := (tabC t (.slice ar nr cr) (.slice al nl cl))) rfl rfl rfl ?_; intro w7 hst5; clear hst4) | (refine wl_store [] hst5 rfl rfl rfl (off := 0) (v := .int .i64 (G + 1)) rfl rfl rfl (by show (0 : Nat) + 1 ≤ 7; decide) ?_; intro w7 hst6; clear hst5) | (refine wl_loadE rfl rfl rfl ?_; first | refine ⟨_, Loads.atA (tabC (nextT t G) (.slice ar nr cr) (.slice al nl cl)) [_] hst6 rfl rfl, ?_⟩) | (go_at_call 19; refine (check12_any (nextT t G) ar al nr cr nl cl xs _ (HTI.out.old hst6.nil).R HTI.out.eq (by omega) (HTI.out.old hst6.nil).L HTI.out.ln (by omega)).mono ?_; rw [err_no HLE.out]; rintro _ w9 ⟨rfl, h4⟩; have hst7 := St.call0 hst6 h4; clear h4 hst6) | (refine wl_loadE rfl rfl rfl ?_; first | refine ⟨_, Loads.atA (tabC (nextT t (G + 1)) (.slice ar nr cr) (.slice al nl cl)) [] hst7 rfl rfl, ?_⟩) | (go_at_call 19; refine (check12_any (nextT t (G + 1)) ar al nr cr nl cl xs _ (HTI.out.old hst7.nil).R HTI.out.eq (by omega) (HTI.out.old hst7.nil).L HTI.out.ln (by omega)).mono ?_; rw [err_yes HMO.out]; rintro _ w9 ⟨rfl, h4⟩; have hst8 := St.call0 hst7 h4; clear h4 hst7))
      go_ret
      exact ⟨rfl, hst8.nil⟩
theorem one12_yy (t u : TC) (ar al ar' al' : Option Addr) (nr cr nl cl nr' cr' nl' cl' : Nat) (xs ys : List (Value × RC)) (w : World) (HT : Hid (TabAny w t ar nr cr al nl cl xs)) (HU : Hid (TabAny w u ar' nr' cr' al' nl' cl' ys)) (H1 : Hid (t.longB = false)) (H2 : Hid (u.longB = false)) (HOK : Hid (t.ok = true)) (HOU : Hid (u.ok = true)) (q : Bool) (HQ : Hid (t.sameB u = q)) (HBS : Hid ((t.bytes == u.bytes) = q)) : Calls Try.prog 7 #[.agg (tabC t (.slice ar nr cr) (.slice al nl cl)).toArray, .agg (tabC u (.slice ar' nr' cr') (.slice al' nl' cl')).toArray] w fun e w' => e = .returned (.bool true) ∧ St w [] w' [] := by
  have hst0 := St.refl w
  have hti := HT.out.tab H1.out
  have hui := HU.out.tab H2.out
  have HTI := hid hti
  have HUI := hid hui
  have l1 := TC.long_no H1.out
  have l2 := TC.long_no H2.out
  have hnr : nr ≤ 20 := by rw [← HT.out.len]; exact l1.1
  have hnl : nl ≤ 20 := by rw [← HT.out.ln]; exact l1.2.1
  have hnr' : nr' ≤ 20 := by rw [← HU.out.len]; exact l2.1
  have hnl' : nl' ≤ 20 := by rw [← HU.out.ln]; exact l2.2.1
  have STT := hid (show t.sameB t = true from TC.sameB_iff.2 rfl)
  have s1 : (q != q) = false := bne_self_eq_false _
  clear hti hui l1 l2
  go_enter Try.func7, Try.ntmps7
  go_wp2_with (first | go_big_skip | go_big_guard | (refine wl_boxA hst0 rfl rfl rfl ?_; intro g3 w1 hst1; clear hst0) | (refine wl_boxA hst1 rfl rfl rfl ?_; intro g4 w2 hst2; clear hst1) | (go_at_call 8; refine (awake12_any _).mono ?_; rintro _ w9 ⟨rfl, h4⟩; have hst3 := St.call0 hst2 h4; clear h4 hst2) | (refine wl_loadE rfl rfl rfl ?_; first | refine ⟨_, Loads.atA (tabC t (.slice ar nr cr) (.slice al nl cl)) [_] hst3 rfl rfl, ?_⟩) | (go_at_call 21; refine (longTable_any t ar al nr cr nl cl xs _ (HT.out.old hst3.nil)).mono ?_; rw [H1.out]; rintro _ w9 ⟨rfl, h4⟩; have hst4 := St.call0 hst3 h4; clear h4 hst3) | (refine wl_loadE rfl rfl rfl ?_; first | refine ⟨_, Loads.atA (tabC u (.slice ar' nr' cr') (.slice al' nl' cl')) [] hst4 rfl rfl, ?_⟩) | (go_at_call 21; refine (longTable_any u ar' al' nr' cr' nl' cl' ys _ (HU.out.old hst4.nil)).mono ?_; rw [H2.out]; rintro _ w9 ⟨rfl, h4⟩; have hst5 := St.call0 hst4 h4; clear h4 hst4) | (refine wl_loadE rfl rfl rfl ?_; first | refine ⟨_, Loads.atA (tabC t (.slice ar nr cr) (.slice al nl cl)) [_] hst5 rfl rfl, ?_⟩) | (go_at_call 17; refine (bytes12_ok t ar al nr cr nl cl xs _ (HTI.out.old hst5.nil).R HTI.out.eq (HTI.out.old hst5.nil).L HTI.out.ln HOK.out).mono ?_; rintro _ w9 ⟨u1, m1, rfl, hm1, h4⟩; have hst6 := St.call hst5 h4; clear h4 hst5) | (refine wl_loadE rfl rfl rfl ?_; first | refine ⟨_, Loads.atA (tabC u (.slice ar' nr' cr') (.slice al' nl' cl')) [_] hst6 rfl rfl, ?_⟩) | (go_at_call 17; refine (bytes12_ok u ar' al' nr' cr' nl' cl' ys _ (HUI.out.old hst6.nil).R HUI.out.eq (HUI.out.old hst6.nil).L HUI.out.ln HOU.out).mono ?_; rintro _ w9 ⟨u2, m2, rfl, hm2, h4⟩; have hst7 := St.call hst6 h4; clear h4 hst6) | (refine wl_loadE rfl rfl rfl ?_; first | refine ⟨_, Loads.atA (tabC t (.slice ar nr cr) (.slice al nl cl)) [_, _, _] hst7 rfl rfl, ?_⟩ | refine ⟨_, Loads.atA (tabC u (.slice ar' nr' cr') (.slice al' nl' cl')) [_, _] hst7 rfl rfl, ?_⟩) | (go_at_call 28; refine (same12_any t u ar al ar' al' nr cr nl cl nr' cr' nl' cl' xs ys _ (HTI.out.old hst7.nil) (HUI.out.old hst7.nil)).mono ?_; rw [HQ.out]; rintro _ w9 ⟨rfl, h4⟩; have hst8 := St.call0 hst7 h4; clear h4 hst7) | (refine wl_loadE rfl rfl rfl ?_; first | refine ⟨_, Loads.atA (tabC t (.slice ar nr cr) (.slice al nl cl)) [_, _, _] hst8 rfl rfl, ?_⟩ | refine ⟨_, Loads.atA (tabC u (.slice ar' nr' cr') (.slice al' nl' cl')) [_, _] hst8 rfl rfl, ?_⟩) | (go_at_call 12; refine (kitTable_any t u ar al ar' al' nr cr nl cl nr' cr' nl' cl' xs ys _ (HTI.out.old hst8.nil) (HUI.out.old hst8.nil)).mono ?_; rw [HQ.out]; rintro _ w9 ⟨rfl, h4⟩; have hst9 := St.call0 hst8 h4; clear h4 hst8) | (refine wl_loadE rfl rfl rfl ?_; first | refine ⟨_, Loads.atA (tabC t (.slice ar nr cr) (.slice al nl cl)) [_, _, _] hst9 rfl rfl, ?_⟩ | refine ⟨_, Loads.atA (tabC u (.slice ar' nr' cr') (.slice al' nl' cl')) [_, _] hst9 rfl rfl, ?_⟩) | (go_at_call 28; refine (same12_any u t ar' al' ar al nr' cr' nl' cl' nr cr nl cl ys xs _ (HUI.out.old hst9.nil) (HTI.out.old hst9.nil)).mono ?_; rw [same_symm t u, HQ.out]; rintro _ w9 ⟨rfl, h4⟩; have hst10 := St.call0 hst9 h4; clear h4 hst9) | (refine wl_loadE rfl rfl rfl ?_; first | refine ⟨_, Loads.atA (tabC t (.slice ar nr cr) (.slice al nl cl)) [_, _, _] hst10 rfl rfl, ?_⟩) | (go_at_call 28; refine (same12_any t t ar al ar al nr cr nl cl nr cr nl cl xs xs _ (HTI.out.old hst10.nil) (HTI.out.old hst10.nil)).mono ?_; rw [STT.out]; rintro _ w9 ⟨rfl, h4⟩; have hst11 := St.call0 hst10 h4; clear h4 hst10) | (go_at_call 26; refine (sameBytes_any u1 u2 m1 m2 t.bytes u.bytes _ (Rd.rowP hst11 (.tail _ (.head _))) (Rd.rowP hst11 (.head _))).mono ?_; rw [HBS.out]; rintro _ w9 ⟨rfl, h4⟩; have hst12 := St.call0 hst11 h4; clear h4 hst11))
  have hL : St w [] _ [.blk g3 30 (tabC t (.slice ar nr cr) (.slice al nl cl))] := St.sub hst12 (.cons _ (.cons _ (.cons _ (List.Sublist.refl _))))
  clear hst12
  go_loopw [11, 12, 13, 14] (fun v11 v12 _ _ wr => ∃ j : Nat, j ≤ nr ∧ v11 = .int .i64 (topId t.recs j) ∧ v12 = .int .i64 (j : Int) ∧ St w [] wr [.blk g3 30 (tabC t (.slice ar nr cr) (.slice al nl cl))]) (fun _ v12 _ _ _ => nr - (intOf v12).toNat)
  case atStart => exact ⟨0, Nat.zero_le _, rfl, rfl, hL⟩
  case round =>
    clear hL
    obtain ⟨j, hj, rfl, rfl, hst⟩ := hrel
    have htb := top_bd' HOK.out (j := j) (by rw [HT.out.len]; exact hj)
    by_cases hlt : j < nr
    · have e1 : decide ((j : Int) < (nr : Int)) = true := decide_eq_true (by omega)
      have z1 : IntKind.i64.wrap ((j : Int) + 1) = (j : Int) + 1 := IntWalk.i64_in _ (by omega)
      have s9 : ((j : Int) != (j : Int)) = false := bne_self_eq_false _
      obtain ⟨x, lb, lo, hx, rfl, hin, hr⟩ := RecsIn.at HT.out.R hlt
      have HX := hid (recs_atA HT.out hx)
      have HFN := hid (find_own HOK.out HX.out)
      have HCN := hid (show w.cell? ⟨lb, lo + j * 44 + 1, none⟩ = some (.string ⟨x.2.name.toArray⟩) from hr 1 _ rfl)
      have HCI := hid (show w.cell? ⟨lb, lo + j * 44, none⟩ = some (.int .i64 x.2.id) from hr 0 _ rfl)
      have hib := id_bd HOK.out HX.out
      clear hx hr hin
      go_wp2_with (first | go_big_skip | go_big_guard | (refine wl_loadE rfl rfl rfl ?_; refine ⟨_, Loads.at [] hst rfl, ?_⟩))
      have hX := hst.drew
      clear hst
      refine wp_region_held_drew (S := (fun w' => (loadVarH 30 ⟨g3, 0, none⟩).run Try.prog w' = .ok (.agg (List.toArray ((tabC t (.slice (some ⟨lb, lo, none⟩) nr cr) (.slice al nl cl))))) w' ∧ (loadVarH 25 ⟨g3, 1, none⟩).run Try.prog w' = .ok (.slice (some ⟨lb, lo, none⟩) nr cr) w' ∧ (loadVarH 9 ⟨lb, lo + j * 44 + 1, none⟩).run Try.prog w' = .ok (.string ⟨x.2.name.toArray⟩) w')) (by kernel_rfl) (by exact ⟨ldA ((tabC t (.slice (some ⟨lb, lo, none⟩) nr cr) (.slice al nl cl))) [] hX (rfl) (rfl), ldS [] hX rfl, ldO hX (HCN.out)⟩) (fun hHeld => ?_)
      refine wpAnyH_take (i := 0) (oi := ⟨some 82, _, _, _, _, _⟩) (v := ?_) rfl (by kernel_rfl) (by kernel_rfl) (by kernel_rfl) (fun _ _ _ h => h) (Or.inl ⟨by rfl, ?_⟩) (by assumption) ?_
      rotate_left
      · intro w hSw; (try dsimp only at hSw); go_simp; try with_reducible rfl
      (try simp only [Act.put, List.setIfInBounds_toArray, List.set_cons_zero, List.set_cons_succ])
      refine wpAnyH_take (i := 1) (oi := ⟨some 83, _, _, _, _, _⟩) (v := ?_) rfl (by kernel_rfl) (by kernel_rfl) (by kernel_rfl) (fun _ _ _ h => h) (Or.inl ⟨by rfl, ?_⟩) (by assumption) ?_
      rotate_left
      · intro w hSw; (try dsimp only at hSw); go_simp; try with_reducible rfl
      (try simp only [Act.put, List.setIfInBounds_toArray, List.set_cons_zero, List.set_cons_succ])
      refine wpAnyH_take (i := 3) (oi := ⟨some 85, _, _, _, _, _⟩) (v := ?_) rfl (by kernel_rfl) (by kernel_rfl) (by kernel_rfl) (fun _ _ _ h => h) (Or.inl ⟨by rfl, ?_⟩) (by assumption) ?_
      rotate_left
      · intro w hSw; (try dsimp only at hSw); go_simp; try with_reducible rfl
      (try simp only [Act.put, List.setIfInBounds_toArray, List.set_cons_zero, List.set_cons_succ])
      refine wpAnyH_take (i := 2) (oi := ⟨some 84, _, _, _, _, _⟩) (v := ?_) rfl (by kernel_rfl) (by kernel_rfl) (by kernel_rfl) (fun _ _ _ h => h) (Or.inl ⟨by rfl, ?_⟩) (by assumption) ?_
      rotate_left
      · intro w hSw; (try dsimp only at hSw); go_simp; try with_reducible rfl
      (try simp only [Act.put, List.setIfInBounds_toArray, List.set_cons_zero, List.set_cons_succ])
      refine wpAnyH_take (i := 4) (oi := ⟨some 86, _, _, _, _, _⟩) (v := ?_) rfl (by kernel_rfl) (by kernel_rfl) (by kernel_rfl) (fun _ _ _ h => h) (Or.inl ⟨by rfl, ?_⟩) (by assumption) ?_
      rotate_left
      · intro w hSw; (try dsimp only at hSw); go_simp; try with_reducible rfl
      (try simp only [Act.put, List.setIfInBounds_toArray, List.set_cons_zero, List.set_cons_succ])
      refine wpAnyH_take (i := 5) (oi := ⟨some 87, _, _, _, _, _⟩) (v := ?_) rfl (by kernel_rfl) (by kernel_rfl) (by kernel_rfl) (fun _ _ _ h => h) (Or.inl ⟨by rfl, ?_⟩) (by assumption) ?_
      rotate_left
      · intro w hSw; (try dsimp only at hSw); go_simp; try with_reducible rfl
      (try simp only [Act.put, List.setIfInBounds_toArray, List.set_cons_zero, List.set_cons_succ])
      refine wpAnyH_take (i := 6) (oi := ⟨some 88, _, _, _, _, _⟩) (v := ?_) rfl (by kernel_rfl) (by kernel_rfl) (by kernel_rfl) (fun _ _ _ h => h) (Or.inl ⟨by rfl, ?_⟩) (by assumption) ?_
      rotate_left
      · intro w hSw; (try dsimp only at hSw); go_simp; try with_reducible rfl
      (try simp only [Act.put, List.setIfInBounds_toArray, List.set_cons_zero, List.set_cons_succ])
      refine wpAnyH_ready (rs := [7]) (by kernel_rfl) (by simp) ?_
      refine (AllReadyH.cons (o := ⟨some 89, _, _, _, _, _⟩) rfl (fun K hK => ?_) AllReadyH.nil)
      go_simp
      go_at_call 24
      refine (find_any t (.slice al nl cl) x.2.name (some ⟨lb, lo, none⟩) nr cr xs _ (HTI.out.old hX.nil).R (by omega)).mono ?_
      rw [HTI.out.eq, HFN.out]
      rintro _ w9 ⟨rfl, h4⟩
      have hA1 := St.call0 hX h4
      clear h4 hX
      refine hK.out _ _ ?_ (fun hHeld => ?_)
      · exact ⟨ldA ((tabC t (.slice (some ⟨lb, lo, none⟩) nr cr) (.slice al nl cl))) [] hA1 (rfl) (rfl), ldS [] hA1 rfl, ldO hA1 (HCN.out)⟩
      clear hK K
      (try simp only [Act.put, List.setIfInBounds_toArray, List.set_cons_zero, List.set_cons_succ])
      refine wpAnyH_take (i := 8) (oi := ⟨some 81, _, _, _, _, _⟩) (v := ?_) rfl (by kernel_rfl) (by kernel_rfl) (by kernel_rfl) (fun _ _ _ h => h) (Or.inl ⟨by rfl, ?_⟩) (by assumption) ?_
      rotate_left
      · intro w hSw; (try dsimp only at hSw); go_simp; try with_reducible rfl
      (try simp only [Act.put, List.setIfInBounds_toArray, List.set_cons_zero, List.set_cons_succ])
      refine wpAnyH_take (i := 9) (oi := ⟨some 90, _, _, _, _, _⟩) (v := ?_) rfl (by kernel_rfl) (by kernel_rfl) (by kernel_rfl) (fun _ _ _ h => h) (Or.inl ⟨by rfl, ?_⟩) (by assumption) ?_
      rotate_left
      · intro w hSw; (try dsimp only at hSw); go_simp; try with_reducible rfl
      (try simp only [Act.put, List.setIfInBounds_toArray, List.set_cons_zero, List.set_cons_succ])
      refine wpAnyH_take (i := 10) (oi := ⟨some 91, _, _, _, _, _⟩) (v := ?_) rfl (by kernel_rfl) (by kernel_rfl) (by kernel_rfl) (fun _ _ _ h => h) (Or.inl ⟨by rfl, ?_⟩) (by assumption) ?_
      rotate_left
      · intro w hSw; (try dsimp only at hSw); go_simp; try with_reducible rfl
      (try simp only [Act.put, List.setIfInBounds_toArray, List.set_cons_zero, List.set_cons_succ])
      refine wpAnyH_take (i := 11) (oi := ⟨some 13, _, _, _, _, _⟩) (v := ?_) rfl (by kernel_rfl) (by kernel_rfl) (by kernel_rfl) (fun _ _ _ h => h) (Or.inl ⟨by rfl, ?_⟩) (by assumption) ?_
      rotate_left
      · intro w hSw; (try dsimp only at hSw); go_simp; try with_reducible rfl
      (try simp only [Act.put, List.setIfInBounds_toArray, List.set_cons_zero, List.set_cons_succ])
      refine wpAnyH_take (i := 12) (oi := ⟨some 14, _, _, _, _, _⟩) (v := ?_) rfl (by kernel_rfl) (by kernel_rfl) (by kernel_rfl) (fun _ _ _ h => h) (Or.inl ⟨by rfl, ?_⟩) (by assumption) ?_
      rotate_left
      · intro w hSw; (try dsimp only at hSw); go_simp; try with_reducible rfl
      (try simp only [Act.put, List.setIfInBounds_toArray, List.set_cons_zero, List.set_cons_succ])
      refine wpAnyH_done (by kernel_rfl) ?_ _
      clear hHeld
      go_wp2_with (first | go_big_skip | go_big_guard | (refine wl_loadE rfl rfl rfl ?_; first | refine ⟨_, Loads.at [] hA1 rfl, ?_⟩ | refine ⟨_, Loads.old hA1 HCI.out, ?_⟩) | (refine wl_index rfl rfl rfl rfl hlt ?_))
      go_roundw
      case rel => exact ⟨j + 1, by omega, by rw [topId_step HX.out], by push_cast; rfl, hA1⟩
      case measure => simp [intOf]; omega
    · have e1 : decide ((j : Int) < (nr : Int)) = false := decide_eq_false (by omega)
      have hjn : j = t.recs.length := by rw [HT.out.len]; omega
      obtain ⟨G, hG⟩ : ∃ G, topId t.recs j = G := ⟨_, rfl⟩
      have HLE := hid (show (nextT t G).ok = false by rw [← hG, hjn]; exact less_not HOK.out)
      have HMO := hid (show (nextT t (G + 1)).ok = true by rw [← hG, hjn]; exact more_is HOK.out)
      rw [hG] at htb ⊢
      clear hjn hG
      have z2 : IntKind.i64.wrap (G + 1) = G + 1 := IntWalk.i64_in _ (by omega)
      go_wp2_with (first | go_big_skip | go_big_guard | (refine wl_loadE rfl rfl rfl ?_; first | refine ⟨_, Loads.atA (tabC t (.slice ar nr cr) (.slice al nl cl)) [] hst rfl rfl, ?_⟩ | refine ⟨_, Loads.at [] hst rfl, ?_⟩) | (refine wl_alloc hst rfl rfl ?_; intro g7 w1 hst1; clear hst) | (refine wl_storeA [] hst1 rfl rfl rfl rfl (vs := (tabC t (.slice ar nr cr) (.slice al nl cl))) rfl rfl rfl ?_; intro w7 hst2; clear hst1) | (refine wl_store [] hst2 rfl rfl rfl (off := 0) (v := .int .i64 G) rfl rfl rfl (by show (0 : Nat) + 1 ≤ 7; decide) ?_; intro w7 hst3; clear hst2) | (refine wl_loadE rfl rfl rfl ?_; refine ⟨_, Loads.atA (tabC t (.slice ar nr cr) (.slice al nl cl)) [_] hst3 rfl rfl, ?_⟩) | (refine wl_alloc hst3 rfl rfl ?_; intro g8 w1 hst4; clear hst3) | (refine wl_storeA [] hst4 rfl rfl rfl rfl (vs := (tabC t (.slice ar nr cr) (.slice al nl cl))) rfl rfl rfl ?_; intro w7 hst5; clear hst4) | (refine wl_store [] hst5 rfl rfl rfl (off := 0) (v := .int .i64 (G + 1)) rfl rfl rfl (by show (0 : Nat) + 1 ≤ 7; decide) ?_; intro w7 hst6; clear hst5) | (refine wl_loadE rfl rfl rfl ?_; first | refine ⟨_, Loads.atA (tabC (nextT t G) (.slice ar nr cr) (.slice al nl cl)) [_] hst6 rfl rfl, ?_⟩) | (go_at_call 19; refine (check12_any (nextT t G) ar al nr cr nl cl xs _ (HTI.out.old hst6.nil).R HTI.out.eq (by omega) (HTI.out.old hst6.nil).L HTI.out.ln (by omega)).mono ?_; rw [err_no HLE.out]; rintro _ w9 ⟨rfl, h4⟩; have hst7 := St.call0 hst6 h4; clear h4 hst6) | (refine wl_loadE rfl rfl rfl ?_; first | refine ⟨_, Loads.atA (tabC (nextT t (G + 1)) (.slice ar nr cr) (.slice al nl cl)) [] hst7 rfl rfl, ?_⟩) | (go_at_call 19; refine (check12_any (nextT t (G + 1)) ar al nr cr nl cl xs _ (HTI.out.old hst7.nil).R HTI.out.eq (by omega) (HTI.out.old hst7.nil).L HTI.out.ln (by omega)).mono ?_; rw [err_yes HMO.out]; rintro _ w9 ⟨rfl, h4⟩; have hst8 := St.call0 hst7 h4; clear h4 hst7))
      go_ret
      exact ⟨rfl, hst8.nil⟩
theorem recordOne_law (t u : TC) (ar al ar' al' : Option Addr) (nr cr nl cl nr' cr' nl' cl' : Nat) (xs ys : List (Value × RC)) (w : World) (ht : TabAny w t ar nr cr al nl cl xs) (hu : TabAny w u ar' nr' cr' al' nl' cl' ys) : Calls Try.prog 7 #[.agg (tabC t (.slice ar nr cr) (.slice al nl cl)).toArray, .agg (tabC u (.slice ar' nr' cr') (.slice al' nl' cl')).toArray] w fun e w' => e = .returned (.bool true) ∧ St w [] w' [] := by
  cases h1 : t.longB
  · cases h2 : u.longB
    · have hti := ht.tab h1
      have hui := hu.tab h2
      have hS : ∀ r ∈ t.recs, L32 r.S := fun r hr => by
        rw [← hti.eq] at hr
        obtain ⟨x, hx, rfl⟩ := List.mem_map.1 hr
        exact (hti.R.each x hx).L
      have hS' : ∀ r ∈ u.recs, L32 r.S := fun r hr => by
        rw [← hui.eq] at hr
        obtain ⟨x, hx, rfl⟩ := List.mem_map.1 hr
        exact (hui.R.each x hx).L
      cases h3 : t.ok <;> cases h4 : u.ok
      · exact one12_nn t u ar al ar' al' nr cr nl cl nr' cr' nl' cl' xs ys w (hid ht) (hid hu) (hid h1) (hid h2) (hid h3) (hid h4) _ (hid rfl)
      · exact one12_ny t u ar al ar' al' nr cr nl cl nr' cr' nl' cl' xs ys w (hid ht) (hid hu) (hid h1) (hid h2) (hid h3) (hid h4) _ (hid rfl)
      · exact one12_yn t u ar al ar' al' nr cr nl cl nr' cr' nl' cl' xs ys w (hid ht) (hid hu) (hid h1) (hid h2) (hid h3) (hid h4) _ (hid rfl)
      · exact one12_yy t u ar al ar' al' nr cr nl cl nr' cr' nl' cl' xs ys w (hid ht) (hid hu) (hid h1) (hid h2) (hid h3) (hid h4) _ (hid rfl) (hid (bytes_same h3 h4 hS hS'))
    · exact one12_long2 t u ar al ar' al' nr cr nl cl nr' cr' nl' cl' xs ys w (hid ht) (hid hu) (hid h1) (hid h2)
  · exact one12_long1 t u ar al ar' al' nr cr nl cl nr' cr' nl' cl' xs ys w (hid ht) (hid hu) (hid h1)
end Go.Proofs.Ytkpkaoiafppimaa
namespace Go.Proofs.Ytkpkaoiafppimaa
set_option linter.unusedVariables false
set_option linter.unusedSimpArgs false
open Go.ChangeShapes Go.WideShapes Go.ChangeAt Go.RowKit Hp
set_option maxRecDepth 100000 in
theorem recordOne_lifted (os : Os) (started : os.Started) (H : Type) (enc : TypeId × Value → H) :
    ReturnsInHanded {} Try.checked os 7 .any (Rows.recordOneSpec.pre6 enc Try.prog Try.f7 Rows.recordOneRow.domain false) (Rows.recordOneSpec.post enc Try.prog Try.f7 false true false false) := by
  refine returnsInHanded_of_change (C := Try.checked) own started (by kernel_rfl) Try.func7
    (ChangeSpec.witness6 (enc := enc) (C := Try.checked) false ⟨#[], #[.agg #[.int .i64 0, .slice none 0 0, .int .i64 0, .int .i64 0, .int .i64 0, .int .i64 0, .slice none 0 0], .agg #[.int .i64 0, .slice none 0 0, .int .i64 0, .int .i64 0, .int .i64 0, .int .i64 0, .slice none 0 0]], []⟩ 8 (by kernel_rfl) (by kernel_rfl) (by kernel_rfl) (by kernel_rfl)) ?_
  intro W base args ds gs before hval0 hW hcnd _
  have hval : ∀ (j : Nat) t v, Try.f7.params[j]? = some t → args[j]? = some v → Value.okWide Try.prog W .any base t v := hval0
  have hW' := hW
  obtain ⟨p, q, hAA0, hV, rfl, hfz, hnd⟩ := hW
  have hA : DataW.TrodAll enc Try.prog W 0 (fun _ => true) true Try.f7.params.toList args.toList ds p := hAA0
  rw [Try.params7] at hA hval
  have hk := hA
  obtain ⟨v0, v1, d0, d1, p0, p1, rfl, rfl, rfl, h0, h1⟩ := trodAll_two hA
  obtain ⟨rfl, rfl⟩ := trodVars_none hV
  obtain ⟨n0, h0⟩ := h0
  obtain ⟨t0, ar0, nr0, cr0, al0, nl0, cl0, xs0, rfl, hT0⟩ := open_tableD (hval 0 _ v0 rfl rfl) h0
  obtain ⟨n1, h1⟩ := h1
  obtain ⟨t1, ar1, nr1, cr1, al1, nl1, cl1, xs1, rfl, hT1⟩ := open_tableD (hval 1 _ v1 rfl rfl) h1
  clear hAA0 hval0
  simp only [List.append_nil] at hW'
  refine (recordOne_law t0 t1 ar0 al0 ar1 al1 nr0 cr0 nl0 cl0 nr1 cr1 nl1 cl1 xs0 xs1 W hT0 hT1).mono fun e W' ⟨he, hg⟩ => ?_
  subst he
  exact ⟨_, rfl, post_of_kept (pv := []) hW' (fun _ _ _ => (trodAll_cons_mk (shut_bool Try.underlying4 _) trodAll_mk0)) (fun sp hsp => by
      rw [Try.params7]
      exact args_kept (by decide) hk hg.below (fun p hp => hW'.lt p hp) sp hsp) (fun _ _ => rfl) (by simp)
    (hg.below.frame _)⟩
theorem recordOne_over : Rows.recordOneRow.holds Try.pinned (OpenSpec.ofChange Rows.recordOneSpec) :=
  OpenClaim.holds_of_wide 7 Try.f7 rfl rfl rfl rfl rfl rfl rfl ⟨rfl, rfl, rfl, rfl, rfl⟩ rfl rfl rfl rfl rfl (by kernel_rfl) Try.func7 (by kernel_rfl)
    (of_decide_eq_true (by kernel_rfl)) (by unfold Func.isWrapper; first | (rw [if_pos (by decide +kernel)]; kernel_rfl) | (rw [if_neg (by decide +kernel)]; exact ⟨rfl, rfl⟩))
    (fun os started H enc _ => recordOne_lifted os started H enc)

theorem recordOne_proved : Rows.RecordOneSaid :=
  recordOne_over
end Go.Proofs.Ytkpkaoiafppimaa
