/- A range over a function, in the walk: one variable, a body that goes on. No program in sight. -/
import Derived.Test.YtilgjldnlgfehaaSepI
import Derived.Test.YtilgjldnlgfehaaSepQ
namespace Go.Proofs.Ytilgjldnlgfehaa
set_option linter.unusedVariables false
set_option linter.unusedSimpArgs false
open Go.RowKit Go.Shelf
namespace Hp
variable {P : Program}
/-- The act behind the assignment of what has come. -/
def rgAct (a : Act) (p t : Nat) (v : Value) : Act := { tmps := (a.tmps.setIfInBounds p v).setIfInBounds t v, defers := [] }
theorem wp_rangeF {α : Type} (p t : Nat) {g : Operand} {assign body : Code} {Q : Exit → Act → World → Prop} {a : Act} {w : World} {gf : Nat} {lb : Array Value} (hg : a.eval g = .func (.func gf) #[] lb) (eg : Enters P gf)
    {enc : α → Value} {Kp : World → World → Prop} {S : List α → Prop} {N : Nat} (hseq : SeqStopsK Fence.wide 4 P gf lb (fun x => #[enc x]) Kp S (fun _ => True) N w)
    (hKt : ∀ {A B C : World}, Kp A B → Kp B C → Kp A C) (hKb : ∀ (W : World) (l : Nat) (o o' : Obj), w.heap.size ≤ l → W.heap[l]? = some o → o.isCells = false → o.isWalk = false → Kp W (W.putObj l o'))
    (I : List α → World → Prop) (hI : OwnFrom w.heap.size I) (h0 : I [] w)
    (hassign : ∀ (l : Nat) (x : α) (W : World) (K : Act → World → Prop), K (rgAct a p t (enc x)) W → assign.wpIn (Fence.wide.inRound l) 3 P (Exit.then K (fun _ _ _ => False)) { tmps := a.tmps.setIfInBounds p (enc x), defers := [] } W)
    (hbody : ∀ (l : Nat) (pre : List α) (x : α) (W : World), I pre W → pre.length < N → body.wpIn (Fence.wide.inRound l) 3 P (ownPostK Kp I (fun _ _ _ => False) (pre ++ [x]) W) (rgAct a p t (enc x)) W)
    (hdone : ∀ (D : Nat) (xs : List α) (W : World), w.heap.size ≤ D → S xs → I xs W → W.heap[D]? = some (.deferred (some [])) → Q .normal { a with defers := { target := .collected D, args := #[] } :: a.defers } W) :
    (Code.rangeFunc g #[p] assign body).wp P Q a w := by
  refine (wpIn_wide (n := 5)).1 ?_
  exact wpIn_rangeFunc_ownF (F := Fence.wide) (n := 5) (encs := fun x => #[enc x]) rfl (by decide) hg trivial eg hseq hKt hKb (Below.refl _ _) (fun _ => rfl) I (fun _ _ _ => False) hI (fun _ _ _ _ _ hs _ _ => hs) h0 (fun x => rgAct a p t (enc x))
    (fun l x W K hK => by
      have h := hassign l x W K hK
      have e : Array.foldl (fun (t : Array Value) (q : Tmp × Value) => match q with | (p, v) => t.setIfInBounds p v) a.tmps (#[p].zip #[enc x]) = a.tmps.setIfInBounds p (enc x) := by simp
      rw [← e] at h
      exact h) (fun l pre x W hI hl => hbody l pre x W hI hl) (fun D xs W hD hS hI hK => hdone D xs W hD hS hI hK) (fun _ _ _ _ _ _ h _ => h.elim)
theorem eqInSliceNil (w : World) (d : Nat) (t e : TypeId) (a : Option Addr) (n c : Nat) (h : P.underlying t = some (.slice e)) : (Op.equalIn (d + 1) t (.slice a n c) (.slice none 0 0)).run P w = .ok a.isNone w := by
  cases a <;> simp [Op.equalIn, run_underlying h]
theorem eqSliceNil (w : World) (t e : TypeId) (a : Option Addr) (n c : Nat) (h : P.underlying t = some (.slice e)) : (binOp .eql t (.slice a n c) (.slice none 0 0)).run P w = .ok (.bool a.isNone) w := by
  simp only [binOp]
  simp [Op.equal, Op.maxDepth, eqInSliceNil w 9999 t e a n c h]
theorem letsOut_own {α : Type} {Kp : World → World → Prop} {I : List α → World → Prop} {Ix : Code → List α → World → Prop} {xs : List α} {W : World} : ¬ LetsOut (ownPostK Kp I Ix xs W) := by
  rintro ⟨a, w, h⟩
  exact h
theorem St.selfM {w0 w : World} {M : List Nat} {L : List HA} (h : St w0 M w L) : St w (L.filterMap HA.foot) w L :=
  ⟨rfl, rfl, rfl, Nat.le_refl _, fun _ _ _ => rfl, h.all, fun x hx k hk => .inr (List.mem_filterMap.2 ⟨x, hx, hk⟩), h.apart⟩
theorem foot_cells {w : World} {x : HA} (h : x.holds w) {k : Nat} (hk : x.foot = some k) : ∃ c t m, w.heap[k]? = some (.cells c t m) := by
  cases x with
  | blk g T cs =>
    cases hk
    exact ⟨_, _, _, h⟩
  | row v T sz n xs =>
    obtain ⟨_, h2⟩ := h
    rcases h2 with ⟨rfl, _⟩ | ⟨g, cap, cur, rfl, _, hc, _⟩
    · cases hk
    · cases hk
      exact ⟨_, _, _, hc⟩
  | rowP p v T sz n xs =>
    obtain ⟨⟨_, h2⟩, _⟩ := h
    rcases h2 with ⟨rfl, _⟩ | ⟨g, cap, cur, rfl, _, hc, _⟩
    · cases hk
    · cases hk
      exact ⟨_, _, _, hc⟩
  | frz m g T cs =>
    cases hk
    exact ⟨_, _, _, h⟩
/-- A round that owned the pieces of L: what is no cells lies as it lay. -/
theorem St.keeps {w0 w w' : World} {M : List Nat} {L L' : List HA} (h : St w0 M w L) (h' : St w (L.filterMap HA.foot) w' L') : KeepsOthers w w' := by
  refine ⟨h'.size, fun k o hk ho => ?_⟩
  have hlt : k < w.heap.size := (Array.getElem?_eq_some_iff.1 hk).1
  rw [h'.old k hlt (fun hm => ?_)]
  · exact hk
  · obtain ⟨x, hx, hf⟩ := List.mem_filterMap.1 hm
    obtain ⟨c, t, m, hc⟩ := foot_cells (h.all x hx) hf
    rw [hk] at hc
    cases hc
    cases ho
/-- .. and a block that is none of its own lies as it lay. -/
theorem St.keepsBlock {w w' : World} {L L' : List HA} (h' : St w (L.filterMap HA.foot) w' L') {k : Nat} (hk : k < w.heap.size) (hn : ∀ x ∈ L, x.foot ≠ some k) : w'.heap[k]? = w.heap[k]? :=
  h'.old k hk fun hm => by
    obtain ⟨x, hx, hf⟩ := List.mem_filterMap.1 hm
    exact hn x hx hf
theorem St.joinAll {w0 w w' : World} {M : List Nat} {L L' : List HA} (h : St w0 M w L) (h' : St w (L.filterMap HA.foot) w' L') : St w0 M w' L' := by
  have := St.callG L [] (by rw [List.append_nil]; exact h) h' (fun k hk => List.mem_filterMap.1 hk)
  rwa [List.append_nil] at this
theorem St.putObj {w0 w : World} {M : List Nat} {L : List HA} {D : Nat} {o o' : Obj} (hD : w0.heap.size ≤ D) (h : St w0 M w L) (ho : w.heap[D]? = some o) (hc : o.isCells = false) : St w0 M (w.putObj D o') L :=
  St.ownFrom hD h (grownBy_putObj' w D o') (fun r e => by cases e; exact ⟨Nat.le_refl _, o, ho, hc⟩)
end Hp
end Go.Proofs.Ytilgjldnlgfehaa
