/- From the walk to the walk in a round of a range over a function. No program in sight. -/
import Derived.Test.YtilgjldnlgfehaaSepO
import Derived.Test.YtilgjldnlgfehaaRegL
import Derived.RangeFuncNested
import Derived.RangeFuncBound
import Derived.RangeFuncCalls
import Derived.RangeFuncLeaves
import Derived.Shelf.Abstract
import Derived.Shelf.RegionOpen
import Derived.OwnWalkIn
import Derived.TacticsInMore
import Derived.LoopNIn
import Derived.LoopIn
namespace Go.Proofs.Ytilgjldnlgfehaa
set_option linter.unusedVariables false
set_option linter.unusedSimpArgs false
open Go.RowKit
namespace Hp
variable {P : Program}
theorem op_inRound {l n : Nat} {o : Oper} {a : Act} {w : World} {K : Act → World → Prop} {Q : Exit → Act → World → Prop} (hd : ∀ c, o.op ≠ .defer c) (h : o.wp P a w K Q) : o.wpIn (Fence.wide.inRound l) n P a w K Q := by
  refine ⟨fun _ _ => trivial, ?_⟩
  rw [Oper.semAt_plain _ _ _ hd]
  unfold Oper.wp at h
  revert h
  generalize (execOp a.eval o).run P w = r
  intro h
  cases r with
  | ok x w' =>
    cases x <;> simp only [Oper.upon, Oper.uponIn] at h ⊢ <;>
      first
        | exact h
        | exact h.elim
        | exact ⟨fun h => (by cases h), CallsIn.inRound l (callsIn_wide.2 h)⟩
        | exact ⟨fun h => (by cases h), fun c cs _ => let ⟨v, w', r, s⟩ := h c cs; ⟨v, w', r, stepsIn_wide.2 s⟩⟩
  | halt x w' => cases x <;> simp only [Oper.upon, Oper.uponIn] at h ⊢ <;> exact h
def noDefer (ops : List Oper) : Bool := ops.all fun o => match o.op with
  | .defer _ => false
  | _ => true
theorem noDefer_mem {ops : List Oper} (h : noDefer ops = true) {o : Oper} (ho : o ∈ ops) : ∀ c, o.op ≠ .defer c := by
  intro c hc
  have := List.all_eq_true.1 h o ho
  rw [hc] at this
  cases this
theorem opI_inRound {l n i : Nat} {ops : Array Oper} {a : Act} {w : World} {K : Act → World → Prop} {Q : Exit → Act → World → Prop} (hd : noDefer ops.toList = true) (hQ : ¬ LetsOut Q) (h : wpOp P ops Q i K a w) : wpOpIn (Fence.wide.inRound l) n P ops Q i K a w := by
  unfold wpOp at h
  unfold wpOpIn
  cases ho : ops[i]? with
  | none => simpa [ho] using h
  | some o =>
    simp only [ho] at h ⊢
    have hm : o ∈ ops.toList := by
      obtain ⟨hlt, e⟩ := Array.getElem?_eq_some_iff.1 ho
      rw [← e]; simp
    split
    · rename_i hw
      simp only [hw, if_true] at h
      rcases h with h | h
      · exact op_inRound (noDefer_mem hd hm) h
      · exact absurd h.2 hQ
    · rename_i hw
      simp only [hw] at h
      exact ⟨fun _ _ => trivial, h⟩
theorem any_inRound {l n : Nat} {ops : Array Oper} {Q : Exit → Act → World → Prop} {md : Region.Mode} (hd : noDefer ops.toList = true) (hQ : ¬ LetsOut Q) : ∀ (fuel : Nat) (listed : Array Bool) (a : Act) (w : World), wpAny P md ops Q fuel listed a w → wpAnyIn (Fence.wide.inRound l) n P md ops Q fuel listed a w
  | 0, _, _, _, h => h
  | fuel + 1, listed, a, w, h => ⟨h.1, fun i hi => wpOpIn_mono (fun a w hh => any_inRound hd hQ fuel _ a w hh) (opI_inRound hd hQ (h.2 i hi))⟩
/-- A region that draws its order, in a round: walked as everywhere. -/
theorem region_inRound {l n id : Nat} {L : Array Oper} {S : World → Prop} {a : Act} {w : World} {Q : Exit → Act → World → Prop} (hm : P.follows .mixedOrders = true) (hd : noDefer L.toList = true) (hQ : ¬ LetsOut Q) (hS : S w.drew)
    (h : S w.drew → wpAnyH P .any L Q S L.size (Array.replicate L.size false) a w.drew) : (Code.region id L true).wpIn (Fence.wide.inRound l) n P Q a w :=
  wpIn_region_any hm (any_inRound hd hQ _ _ a _ (wpAny_of_held _ _ _ _ (h hS)))
theorem region_last_inRound {l n id : Nat} {L : Array Oper} {o : Oper} {S : World → Prop} {a : Act} {w : World} {Q : Exit → Act → World → Prop} (hm : P.follows .mixedOrders = true) (hd : noDefer L.toList = true) (hQ : ¬ LetsOut Q) (ho : L.back? = some o) (hB : lastB L.pop o = true) (hS : S w.drew)
    (h : S w.drew → wpAnyH P .any L.pop (QL P L.pop o Q) S L.pop.size (Array.replicate L.pop.size false) a w.drew) : (Code.region id L true).wpIn (Fence.wide.inRound l) n P Q a w := by
  have e := push_pop ho
  refine wpIn_region_any hm (any_inRound hd hQ _ _ a _ ?_)
  have h1 := wpAny_last hB _ _ a w.drew (by simp) (wpAny_of_held _ _ _ _ (h hS))
  rw [e] at h1
  have h2 : L.size = L.pop.size + 1 := by conv => lhs; rw [← e]
                                          simp
  have h3 : (Array.replicate L.pop.size false).push false = Array.replicate L.size false := by rw [h2, Array.replicate_succ]
  rw [h3, ← h2] at h1
  exact h1
theorem list_inRound {l n : Nat} {ops : Array Oper} {Q : Exit → Act → World → Prop} (hQ : ¬ LetsOut Q) : ∀ (L : List Oper) (a : Act) (w : World), noDefer L = true → wpList P ops Q L a w → wpListIn (Fence.wide.inRound l) n P ops Q L a w
  | [], _, _, _, h => h
  | o :: L, a, w, hd, h => by
    unfold wpList at h
    unfold wpListIn
    have hd2 : noDefer L = true := by
      simp only [noDefer, List.all_cons, Bool.and_eq_true] at hd
      exact hd.2
    split
    · rename_i hw
      simp only [hw, if_true] at h
      rcases h with h | h
      · exact Oper.wpIn_mono (fun a w hh => list_inRound hQ L a w hd2 hh) (op_inRound (noDefer_mem hd (.head _)) h)
      · exact absurd h.2 hQ
    · rename_i hw
      simp only [hw] at h
      exact ⟨fun _ _ => trivial, list_inRound hQ L _ w hd2 h⟩
/-- What is known of memory abides what the walk of a range over a function lays of its own. -/
theorem St.ownFrom {w0 w w' : World} {M : List Nat} {L : List HA} {B : Nat} {row : Option Nat} (hB : w0.heap.size ≤ B) (h : St w0 M w L) (hg : w.grownBy w' row) (hr : ∀ r, row = some r → B ≤ r ∧ ∃ o : Obj, w.heap[r]? = some o ∧ o.isCells = false) : St w0 M w' L := by
  have key : ∀ k, k < w.heap.size → (∀ r, row = some r → k ≠ r) → w'.heap[k]? = w.heap[k]? := fun k hk hne => hg.block k hk (fun e => (hne k e.symm) rfl)
  have cells : ∀ (k : Nat) (c : Array Value) (t : TypeId) (m : Nat × Nat), w.heap[k]? = some (.cells c t m) → ∀ r, row = some r → k ≠ r := by
    rintro k c t m hk r e rfl
    obtain ⟨_, o, ho, hc⟩ := hr k e
    rw [hk] at ho
    cases ho
    cases hc
  have foot : ∀ x ∈ L, ∀ k, x.foot = some k → ∀ r, row = some r → k ≠ r := by
    intro x hx k hk
    have hh := h.all x hx
    cases x with
    | blk g T cs =>
      cases hk
      exact cells _ _ _ _ hh
    | row v T sz n xs =>
      obtain ⟨_, h2⟩ := hh
      rcases h2 with ⟨rfl, _⟩ | ⟨g, cap, cur, rfl, _, hc, _⟩
      · cases hk
      · cases hk
        exact cells _ _ _ _ hc
    | rowP p v T sz n xs =>
      obtain ⟨⟨_, h2⟩, _⟩ := hh
      rcases h2 with ⟨rfl, _⟩ | ⟨g, cap, cur, rfl, _, hc, _⟩
      · cases hk
      · cases hk
        exact cells _ _ _ _ hc
    | frz m g T cs =>
      cases hk
      exact cells _ _ _ _ hh
  refine ⟨hg.os.trans h.os, hg.tape.trans h.tape, hg.output.trans h.output, Nat.le_trans h.size hg.size, fun k hk hM => ?_, fun x hx => ?_, h.own, h.apart⟩
  · rw [key k (Nat.lt_of_lt_of_le hk h.size) (fun r e => by have := (hr r e).1; omega)]
    exact h.old k hk hM
  · exact HA.keep (h.all x hx) fun k hk => key k (h.lt hx hk) (foot x hx k hk)
end Hp
end Go.Proofs.Ytilgjldnlgfehaa
