import Derived.Test.YtmdfbdfijnmhkaaGreatSepY
import Derived.Deep.RegionHeld3
namespace Go.Proofs.YtmdfbdfijnmhkaaGreat
set_option linter.unusedVariables false
set_option linter.unusedSimpArgs false
open Go.RowKit
namespace Hp
variable {P : Program}
def lastB (ops : Array Oper) (o : Oper) : Bool :=
  o.after.all (fun e => decide (e.on < ops.size)) && (
  (List.range ops.size).all (fun i => o.after.any fun e => Region.binds .any e && e.on == i) &&
  (List.range ops.size).all (fun i => match ops[i]? with
    | some oi => oi.after.all (fun e => decide (e.on < i)) && (match oi.guard with | none => true | some (j, _) => decide (j < ops.size))
    | none => false))
def QL (P : Program) (ops : Array Oper) (o : Oper) (Q : Exit → Act → World → Prop) : Exit → Act → World → Prop
  | .normal, a, w => wpOp P (ops.push o) Q ops.size (fun a' w' => Q .normal a' w') a w
  | e, a, w => Q e a w
theorem QL.letsOut {ops : Array Oper} {o : Oper} {Q : Exit → Act → World → Prop} (h : LetsOut (QL P ops o Q)) : LetsOut Q := h
theorem Oper.wp_swap {o : Oper} {a : Act} {w : World} {K K' : Act → World → Prop} {Q Q' : Exit → Act → World → Prop} (h : ∀ a w, K a w → K' a w) (hp : ∀ c a w, Q (.panic c) a w → Q' (.panic c) a w) (hl : LetsOut Q → LetsOut Q')
    (hh : o.wp P a w K Q) : o.wp P a w K' Q' := by
  unfold Oper.wp at *
  generalize (execOp a.eval o).run P w = r at *
  cases r with
  | ok n w' =>
    cases n with
    | value v => exact h _ _ hh
    | skip => exact h _ _ hh
    | defer d => exact h _ _ hh
    | enter f args => exact Calls.mono hh (fun e w'' he => by cases e <;> first | exact h _ _ he | exact hp _ _ _ he | exact hl he)
    | row r args => exact Rows.mono hh (fun _ _ he => h _ _ he)
    | _ => exact hh
  | halt x w' => cases x <;> first | exact hp _ _ _ hh | exact hh
section
variable {ops : Array Oper} {o : Oper} {Q : Exit → Act → World → Prop}
theorem lastB.waits (h : lastB ops o = true) {i : Nat} (hi : i < ops.size) : ∃ e ∈ o.after, Region.binds .any e = true ∧ e.on = i := by
  simp only [lastB, Bool.and_eq_true, List.all_eq_true, List.mem_range] at h
  obtain ⟨e, he, hb⟩ := Array.any_eq_true'.1 (h.2.1 i hi)
  simp only [Bool.and_eq_true, beq_iff_eq] at hb
  exact ⟨e, he, hb.1, hb.2⟩
theorem lastB.on (h : lastB ops o = true) : ∀ e ∈ o.after, e.on < ops.size := by
  simp only [lastB, Bool.and_eq_true] at h
  intro e he
  have := Array.all_eq_true'.1 h.1 e he
  simpa using this
theorem lastB.back (h : lastB ops o = true) {i : Nat} (hi : i < ops.size) : (∀ e ∈ (ops[i]).after, e.on < i) ∧ ∀ j b, (ops[i]).guard = some (j, b) → j < ops.size := by
  simp only [lastB, Bool.and_eq_true, List.all_eq_true, List.mem_range] at h
  have h2 := h.2.2 i hi
  rw [Array.getElem?_eq_getElem hi] at h2
  simp only [Bool.and_eq_true] at h2
  refine ⟨fun e he => ?_, fun j b hg => ?_⟩
  · have := Array.all_eq_true'.1 h2.1 e he
    simpa using this
  · have := h2.2
    rw [hg] at this
    simpa using this
theorem lastB.wanted (h : lastB ops o = true) {i : Nat} (hi : i < ops.size) (t : Array Value) : Region.wanted ops[i] (yielded (ops.push o) t) = Region.wanted ops[i] (yielded ops t) := by
  unfold Region.wanted
  cases hg : (ops[i]).guard with
  | none => rfl
  | some p =>
    obtain ⟨j, b⟩ := p
    have hj := (lastB.back h hi).2 j b hg
    simp only [yielded, Array.getElem?_push, Nat.ne_of_lt hj, if_false]
theorem mem_ready {ops : Array Oper} {listed : Array Bool} {i : Nat} : i ∈ Region.ready .any ops listed ↔ ∃ hi : i < ops.size, listed.getD i true = false ∧ ∀ e ∈ (ops[i]).after, Region.binds .any e = true → listed.getD e.on false = true := by
  unfold Region.ready
  simp only [List.mem_filter, List.mem_range, Bool.and_eq_true, Bool.not_eq_true']
  constructor
  · rintro ⟨hi, hl, ha⟩
    refine ⟨hi, hl, fun e he hb => ?_⟩
    rw [Array.getElem?_eq_getElem hi] at ha
    simp only [Option.map_some, Option.getD_some] at ha
    have := Array.all_eq_true'.1 ha e he
    simpa [hb] using this
  · rintro ⟨hi, hl, ha⟩
    refine ⟨hi, hl, ?_⟩
    rw [Array.getElem?_eq_getElem hi]
    simp only [Option.map_some, Option.getD_some]
    refine Array.all_eq_true'.2 fun e he => ?_
    by_cases hb : Region.binds .any e = true
    · simp [hb, ha e he hb]
    · simp [Bool.eq_false_iff.2 hb]
theorem getD_push_lt {l : Array Bool} {x d : Bool} {i : Nat} (h : i < l.size) : (l.push x).getD i d = l.getD i d := by
  simp [Array.getD_eq_getD_getElem?, Array.getElem?_push, Nat.ne_of_lt h]
theorem ready_push (h : lastB ops o = true) {listed : Array Bool} (hs : listed.size = ops.size) (x : Bool) {i : Nat} (hi : i < ops.size) : i ∈ Region.ready .any (ops.push o) (listed.push x) ↔ i ∈ Region.ready .any ops listed := by
  rw [mem_ready, mem_ready]
  have he : (ops.push o)[i]'(by simp; omega) = ops[i] := by simp [Array.getElem_push, hi]
  constructor
  · rintro ⟨hi', hl, ha⟩
    rw [getD_push_lt (by omega)] at hl
    refine ⟨hi, hl, fun e hm hb => ?_⟩
    have h1 := (lastB.back h hi).1 e hm
    have := ha e (by rw [he]; exact hm) hb
    rwa [getD_push_lt (by omega)] at this
  · rintro ⟨hi', hl, ha⟩
    refine ⟨by simp; omega, by rw [getD_push_lt (by omega)]; exact hl, fun e hm hb => ?_⟩
    rw [he] at hm
    have h1 := (lastB.back h hi).1 e hm
    rw [getD_push_lt (by omega)]
    exact ha e hm hb
theorem ready_nil_all (h : lastB ops o = true) {listed : Array Bool} (hs : listed.size = ops.size) (hr : Region.ready .any ops listed = []) : ∀ i, i < ops.size → listed.getD i true = true := by
  intro i
  induction i using Nat.strongRecOn with
  | _ i ih =>
    intro hi
    rw [← Bool.not_eq_false]
    intro hf
    have : i ∈ Region.ready .any ops listed := mem_ready.2 ⟨hi, hf, fun e he hb => by
      have h1 := (lastB.back h hi).1 e he
      have h2 := ih e.on h1 (by omega)
      have h3 : e.on < listed.size := by omega
      simp only [Array.getD_eq_getD_getElem?, Array.getElem?_eq_getElem h3, Option.getD_some] at h2 ⊢
      exact h2⟩
    rw [hr] at this
    cases this
theorem wpAny_last (h : lastB ops o = true) : ∀ (fuel : Nat) (listed : Array Bool) (a : Act) (w : World), listed.size = ops.size → wpAny P .any ops (QL P ops o Q) fuel listed a w → wpAny P .any (ops.push o) Q (fuel + 1) (listed.push false) a w := by
  have fin : ∀ (fuel : Nat) (listed : Array Bool) (a : Act) (w : World), listed.size = ops.size → Region.ready .any ops listed = [] → QL P ops o Q .normal a w → wpAny P .any (ops.push o) Q (fuel + 1) (listed.push false) a w := by
    intro fuel listed a w hs hr hq
    have hall := ready_nil_all h hs hr
    have hn : ops.size ∈ Region.ready .any (ops.push o) (listed.push false) := by
      refine mem_ready.2 ⟨by simp, by rw [← hs]; simp, fun e he hb => ?_⟩
      have he' : (ops.push o)[ops.size]'(by simp) = o := by simp
      rw [he'] at he
      have h1 := lastB.on h e he
      rw [getD_push_lt (by omega)]
      have h2 := hall e.on h1
      have h3 : e.on < listed.size := by omega
      simp only [Array.getD_eq_getD_getElem?, Array.getElem?_eq_getElem h3, Option.getD_some] at h2 ⊢
      exact h2
    refine ⟨fun h0 => ?_, fun i hi => ?_⟩
    · rw [h0] at hn; cases hn
    · have hin : i = ops.size := by
        obtain ⟨h1, _⟩ := mem_ready.1 hi
        simp at h1
        rcases Nat.lt_or_ge i ops.size with h2 | h2
        · have := (ready_push h hs false h2).1 hi
          rw [hr] at this; cases this
        · omega
      subst hin
      refine wpOp_mono (fun a' w' hq' => ?_) hq
      have hr2 : Region.ready .any (ops.push o) ((listed.push false).setIfInBounds ops.size true) = [] := by
        have e : (listed.push false).setIfInBounds ops.size true = listed.push true := by
          apply Array.ext
          · simp
          · intro i h1 h2
            simp at h1
            rw [Array.getElem_setIfInBounds (by simpa using h1)]
            simp only [Array.getElem_push]
            by_cases hj : i < listed.size
            · rw [dif_pos hj, dif_pos hj, if_neg (by omega)]
            · rw [dif_neg hj, dif_neg hj, if_pos (by omega)]
        rw [e]
        refine List.eq_nil_iff_forall_not_mem.2 fun i hi => ?_
        obtain ⟨h1, h2, _⟩ := mem_ready.1 hi
        simp at h1
        rcases Nat.lt_or_ge i ops.size with h3 | h3
        · have := (ready_push h hs true h3).1 hi
          rw [hr] at this; cases this
        · have : i = ops.size := by omega
          subst this
          have h4 : (listed.push true).getD ops.size true = true := by rw [← hs]; simp
          rw [h4] at h2; cases h2
      cases fuel with
      | zero => exact ⟨hr2, hq'⟩
      | succ fuel => exact ⟨fun _ => hq', fun i hi => by rw [hr2] at hi; cases hi⟩
  intro fuel
  induction fuel with
  | zero => intro listed a w hs hq; exact fin 0 listed a w hs hq.1 hq.2
  | succ fuel ih =>
    intro listed a w hs hq
    by_cases hr : Region.ready .any ops listed = []
    · exact fin _ listed a w hs hr (hq.1 hr)
    · have hnot : ops.size ∉ Region.ready .any (ops.push o) (listed.push false) := by
        intro hm
        obtain ⟨h1, h2, h3⟩ := mem_ready.1 hm
        have he' : (ops.push o)[ops.size]'(by simp) = o := by simp
        rw [he'] at h3
        obtain ⟨i, hi⟩ := List.exists_mem_of_ne_nil _ hr
        obtain ⟨hi1, hi2, _⟩ := mem_ready.1 hi
        obtain ⟨e, hem, heb, heo⟩ := lastB.waits h hi1
        have := h3 e hem heb
        rw [heo, getD_push_lt (by omega)] at this
        have h4 : i < listed.size := by omega
        simp [Array.getD_eq_getD_getElem?, Array.getElem?_eq_getElem h4] at this hi2
        rw [this] at hi2; cases hi2
      refine ⟨fun h0 => absurd ?_ hr, fun i hi => ?_⟩
      · refine List.eq_nil_iff_forall_not_mem.2 fun i hi => ?_
        obtain ⟨h1, _⟩ := mem_ready.1 hi
        have := (ready_push h hs false h1).2 hi
        rw [h0] at this; cases this
      · have hlt : i < ops.size := by
          obtain ⟨h1, _⟩ := mem_ready.1 hi
          simp at h1
          rcases Nat.lt_or_ge i ops.size with h2 | h2
          · exact h2
          · exact absurd (by rwa [show i = ops.size by omega] at hi) hnot
        have hi' := (ready_push h hs false hlt).1 hi
        have hw := hq.2 i hi'
        have e : (listed.push false).setIfInBounds i true = (listed.setIfInBounds i true).push false := by
          apply Array.ext
          · simp
          · intro j h1 h2
            simp at h1
            rw [Array.getElem_setIfInBounds (by simpa using h1)]
            simp only [Array.getElem_push, Array.size_setIfInBounds]
            by_cases hj : j < listed.size
            · rw [dif_pos hj, dif_pos hj, Array.getElem_setIfInBounds hj]
            · rw [dif_neg hj, dif_neg hj, if_neg (by omega)]
        rw [e]
        unfold wpOp at hw ⊢
        have g1 : (ops.push o)[i]? = some ops[i] := by simp [Array.getElem?_push, Nat.ne_of_lt hlt, hlt]
        rw [g1]
        rw [Array.getElem?_eq_getElem hlt] at hw
        simp only [lastB.wanted h hlt] at hw ⊢
        split
        · rename_i hwt
          simp only [hwt, if_true] at hw
          refine hw.imp (fun hx => Oper.wp_swap (fun a' w' hk => ih _ a' w' (by simpa using hs) hk) (Q := QL P ops o Q) (fun c a w hp => hp) (QL.letsOut (P := P) (ops := ops) (o := o)) hx) (fun hx => ⟨hx.1, QL.letsOut (P := P) (ops := ops) (o := o) hx.2⟩)
        · rename_i hwt
          simp only [hwt] at hw
          exact ih _ _ _ (by simpa using hs) hw
end
theorem push_pop {L : Array Oper} {o : Oper} (h : L.back? = some o) : L.pop.push o = L := by
  obtain ⟨l, rfl⟩ : ∃ l : List Oper, L = l.toArray := ⟨L.toList, rfl⟩
  simp only [List.back?_toArray] at h
  obtain ⟨l', rfl⟩ := List.getLast?_eq_some_iff.1 h
  simp
theorem wp_region_last {id : Nat} {L : Array Oper} {o : Oper} {Q : Exit → Act → World → Prop} {S : World → Prop} {a : Act} {w : World} (hm : P.follows .mixedOrders = true) (ho : L.back? = some o) (hB : lastB L.pop o = true) (hS : S w.drew)
    (h : S w.drew → wpAnyH P .any L.pop (QL P L.pop o Q) S L.pop.size (Array.replicate L.pop.size false) a w.drew) : (Code.region id L true).wp P Q a w := by
  have e := push_pop ho
  refine wp_region_any hm ?_
  have h1 := wpAny_last hB _ _ a w.drew (by simp) (wpAny_of_held _ _ _ _ (h hS))
  rw [e] at h1
  have h2 : L.size = L.pop.size + 1 := by conv => lhs; rw [← e]
                                          simp
  have h3 : (Array.replicate L.pop.size false).push false = Array.replicate L.size false := by rw [h2, Array.replicate_succ]
  rw [h3, ← h2] at h1
  exact h1
theorem QL_intro {ops : Array Oper} {o : Oper} {Q : Exit → Act → World → Prop} {a : Act} {w : World} (h : wpList P (ops.push o) Q [o] a w) : QL P ops o Q .normal a w := by
  show wpOp _ _ _ _ _ _ _
  unfold wpOp
  simp only [Array.getElem?_push_size]
  unfold wpList at h
  exact h
end Hp
end Go.Proofs.YtmdfbdfijnmhkaaGreat
