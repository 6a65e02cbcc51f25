import Derived.WalkKit
import Derived.WalkSpells
import Derived.WalkLawsBesides
import Derived.BigQuiet
import Derived.Deep.QuietTactic
import Derived.Deep.MidRow
import Derived.BigGuardPart
import Derived.Laws.CopyRow
import Derived.Laws.MakeOwn
import Derived.Test.YtmdfbdfijnmhkaaGreatRows
import Derived.ProofKit
import Derived.OpenShut
import Derived.ReadAgain
import Derived.Lib.SmallJoins
import Derived.Deep.SlicePairs
import Derived.Deep.RegionHeld
import Derived.Test.YtmdfbdfijnmhkaaGreatChecked
import Derived.Deep.Slices
namespace Go.Proofs.YtmdfbdfijnmhkaaGreat
set_option linter.unusedVariables false
set_option linter.unusedSimpArgs false
set_option maxRecDepth 100000
set_option maxHeartbeats 4000000
section
open Go.RowKit
namespace Hp
theorem ya {p : Prop} (h : p) : Hid p := h
inductive HA where
 | blk (g : Nat) (T : TypeId) (cs : List Value)
 | row (v : Value) (T : TypeId) (sz n : Nat) (xs : List Value)
 | rowP (p : Value → Bool) (v : Value) (T : TypeId) (sz n : Nat) (xs : List Value)
 | frz (m : Nat × Nat) (g : Nat) (T : TypeId) (cs : List Value)
def AllP (p : Value → Bool) (w : World) (v : Value) (T : TypeId) : Prop := ∀ g cs, v.ownBlock = some g → w.heap[g]? = some (.cells cs T (0, 0)) → cs.toList.all p = true
def HA.foot : HA → Option Nat
 | .blk g _ _ => some g
 | .row v _ _ _ _ => v.ownBlock
 | .rowP _ v _ _ _ _ => v.ownBlock
 | .frz _ g _ _ => some g
def HA.holds (w : World) : HA → Prop
 | .blk g T cs => w.heap[g]? = some (.cells cs.toArray T (0, 0))
 | .row v T sz n xs => w.ownsRow 0 T sz v n xs
 | .rowP p v T sz n xs => w.ownsRow 0 T sz v n xs ∧ AllP p w v T
 | .frz m g T cs => w.heap[g]? = some (.cells cs.toArray T m)
def jK (L : List HA) : Prop := L.Pairwise fun x y => ∀ k, x.foot = some k → y.foot ≠ some k
structure St (w0 : World) (M : List Nat) (w : World) (L : List HA) : Prop where
 os : w.os = w0.os
 tape : w.tape = w0.tape
 output : w.output = w0.output
 size : w0.heap.size ≤ w.heap.size
 old : ∀ k, k < w0.heap.size → k ∉ M → w.heap[k]? = w0.heap[k]?
 all : ∀ h ∈ L, h.holds w
 own : ∀ h ∈ L, ∀ k, h.foot = some k → w0.heap.size ≤ k ∨ k ∈ M
 apart : jK L
theorem HA.lt {w : World} {h : HA} (hh : h.holds w) {k : Nat} (hk : h.foot = some k) : k < w.heap.size := by
 cases h with
 | blk g T cs =>
  simp [HA.foot] at hk; subst hk; exact (Array.getElem?_eq_some_iff.1 hh).1
 | row v T sz n xs => exact (World.ownsRow.lt hh k hk).2
 | rowP p v T sz n xs => exact (World.ownsRow.lt hh.1 k hk).2
 | frz m g T cs =>
  simp [HA.foot] at hk; subst hk; exact (Array.getElem?_eq_some_iff.1 hh).1
theorem qx {w w' : World} {h : HA} (hh : h.holds w) (hb : ∀ k, h.foot = some k → w'.heap[k]? = w.heap[k]?) : h.holds w' := by
 have key : ∀ (v : Value) (T : TypeId) (sz n : Nat) (xs : List Value), (∀ k, v.ownBlock = some k → w'.heap[k]? = w.heap[k]?) → w.ownsRow 0 T sz v n xs → w'.ownsRow 0 T sz v n xs := by
  intro v T sz n xs hb hh; obtain ⟨h1, h2⟩ := hh; refine ⟨h1, ?_⟩; rcases h2 with h2 | ⟨g, cap, cur, rfl, hg, hh, r⟩
  ·exact .inl h2
  ·refine .inr ⟨g, cap, cur, rfl, hg, ?_, r⟩; rw [hb g rfl]; exact hh
 cases h with
 | blk g T cs =>
  show w'.heap[g]? = _; rw [hb g rfl]; exact hh
 | row v T sz n xs => exact key v T sz n xs hb hh
 | rowP p v T sz n xs =>
  refine ⟨key v T sz n xs hb hh.1, fun g cs hg hc => hh.2 g cs hg ?_⟩; rw [← hb g hg]; exact hc
 | frz m g T cs =>
  show w'.heap[g]? = _; rw [hb g rfl]; exact hh
section
variable {w0 w : World} {M : List Nat} {L : List HA}
theorem St.refl (w : World) : St w [] w [] := ⟨rfl, rfl, rfl, Nat.le_refl _, fun _ _ _ => rfl, by simp, by simp, List.Pairwise.nil⟩
theorem St.one (w : World) (g : Nat) (T : TypeId) (cs : List Value) (h : w.heap[g]? = some (.cells cs.toArray T (0, 0))) : St w [g] w [.blk g T cs] :=
 ⟨rfl, rfl, rfl, Nat.le_refl _, fun _ _ _ => rfl, by simpa [HA.holds] using h, by simp [HA.foot], by simp [jK]⟩
theorem St.below (h : St w0 [] w L) : Below w0.heap.size w0 w := ⟨h.os, h.tape, h.output, h.size, fun k hk => h.old k hk (by simp)⟩
theorem St.sub {L' : List HA} (h : St w0 M w L) (hs : L'.Sublist L) : St w0 M w L' :=
 ⟨h.os, h.tape, h.output, h.size, h.old, fun x hx => h.all x (hs.subset hx), fun x hx => h.own x (hs.subset hx), h.apart.sublist hs⟩
theorem St.nil (h : St w0 M w L) : St w0 M w [] := h.sub (List.nil_sublist _)
theorem St.perm {L' : List HA} (h : St w0 M w L) (hs : L.Perm L') : St w0 M w L' :=
 ⟨h.os, h.tape, h.output, h.size, h.old, fun x hx => h.all x (hs.symm.subset hx), fun x hx => h.own x (hs.symm.subset hx),
   (hs.pairwise_iff (fun hxy k hy hx => hxy k hx hy)).1 h.apart⟩
theorem St.drop {L1 L2 : List HA} {x : HA} (h : St w0 M w (L1 ++ x :: L2)) : St w0 M w (L1 ++ L2) := h.sub (by simp)
theorem yy (L1 : List HA) {L2 : List HA} {x : HA} (h : St w0 M w (L1 ++ x :: L2)) : St w0 M w (x :: (L1 ++ L2)) := h.perm List.perm_middle
theorem St.rep {L1 L2 : List HA} {x y : HA} (h : St w0 M w (L1 ++ x :: L2)) (hf : y.foot = x.foot) (hh : x.holds w → y.holds w) : St w0 M w (L1 ++ y :: L2) := by
 have hap := h.apart; unfold jK at hap; rw [List.pairwise_append, List.pairwise_cons] at hap; refine ⟨h.os, h.tape, h.output, h.size, h.old, fun z hz => ?_, fun z hz k hk => ?_, ?_⟩
 ·rcases List.mem_append.1 hz with hz | hz
  ·exact h.all z (by simp [hz])
  ·rcases List.mem_cons.1 hz with rfl | hz
   ·exact hh (h.all x (by simp))
   ·exact h.all z (by simp [hz])
 ·rcases List.mem_append.1 hz with hz | hz
  ·exact h.own z (by simp [hz]) k hk
  ·rcases List.mem_cons.1 hz with rfl | hz
   ·exact h.own x (by simp) k (by rw [← hf]; exact hk)
   ·exact h.own z (by simp [hz]) k hk
 ·unfold jK; rw [List.pairwise_append, List.pairwise_cons]; refine ⟨hap.1, ⟨fun z hz k hk => hap.2.1.1 z hz k (by rw [← hf]; exact hk), hap.2.1.2⟩, fun z hz u hu k hk => ?_⟩; rcases List.mem_cons.1 hu with rfl | hu
  ·rw [hf]; exact hap.2.2 z hz x (by simp) k hk
  ·exact hap.2.2 z hz u (by simp [hu]) k hk
theorem St.unP {L1 L2 : List HA} {p : Value → Bool} {v : Value} {T : TypeId} {sz n : Nat} {xs : List Value} (h : St w0 M w (L1 ++ .rowP p v T sz n xs :: L2)) : St w0 M w (L1 ++ .row v T sz n xs :: L2) := h.rep rfl fun h => h.1
theorem St.drew (h : St w0 M w L) : St w0 M w.drew L := ⟨h.os, h.tape, h.output, h.size, h.old, fun x hx => qx (h.all x hx) fun _ _ => rfl, h.own, h.apart⟩
theorem St.drewN (h : St w0 M w L) (n : Nat) : St w0 M (w.drewN n) L := ⟨h.os, h.tape, h.output, h.size, h.old, fun x hx => qx (h.all x hx) fun _ _ => rfl, h.own, h.apart⟩
theorem St.lt (h : St w0 M w L) {x : HA} (hx : x ∈ L) {k : Nat} (hk : x.foot = some k) : k < w.heap.size := HA.lt (h.all x hx) hk
theorem St.alloc (h : St w0 M w L) (T : TypeId) (cs : List Value) : St w0 M (w.alloc (.cells cs.toArray T)) (.blk w.heap.size T cs :: L) := by
 refine ⟨h.os, h.tape, h.output, by simp; exact Nat.le_succ_of_le h.size, fun k hk hM => ?_, fun x hx => ?_, fun x hx k hk => ?_, ?_⟩
 ·rw [heap_alloc_old w _ (Nat.lt_of_lt_of_le hk h.size)]; exact h.old k hk hM
 ·rcases List.mem_cons.1 hx with rfl | hx
  ·exact heap_alloc_new w _
  ·exact qx (h.all x hx) fun _ hk => heap_alloc_old w _ (h.lt hx hk)
 ·rcases List.mem_cons.1 hx with rfl | hx
  ·simp [HA.foot] at hk; subst hk; exact .inl h.size
  ·exact h.own x hx k hk
 ·refine List.Pairwise.cons (fun y hy k hk hk' => ?_) h.apart; simp [HA.foot] at hk; subst hk; exact absurd (h.lt hy hk') (Nat.lt_irrefl _)
theorem St.setRow {L1 L2 : List HA} {g : Nat} {T : TypeId} {cs : List Value} (h : St w0 M w (L1 ++ .blk g T cs :: L2)) (cs' : List Value) :
  St w0 M (w.setRow g cs'.toArray) (L1 ++ .blk g T cs' :: L2) := by
 have hmem : HA.blk g T cs ∈ L1 ++ .blk g T cs :: L2 := by simp
 have hown := h.own _ hmem g rfl; have hap := h.apart; unfold jK at hap; rw [List.pairwise_append, List.pairwise_cons] at hap; have hother : ∀ x, x ∈ L1 ∨ x ∈ L2 → ∀ k, x.foot = some k → k ≠ g := by
  rintro x (hx | hx) k hk rfl
  ·exact hap.2.2 x hx (.blk k T cs) (by simp) k hk rfl
  ·exact hap.2.1.1 x hx k rfl hk
 refine ⟨h.os, h.tape, h.output, by simpa using h.size, fun k hk hM => ?_, fun x hx => ?_, fun x hx k hk => ?_, ?_⟩
 ·rw [setRow_other w g k _ (by rintro rfl; rcases hown with h1 | h1; omega; exact hM h1)]; exact h.old k hk hM
 ·rcases List.mem_append.1 hx with hx | hx
  ·exact qx (h.all x (by simp [hx])) fun k hk => setRow_other w g k _ (hother x (.inl hx) k hk)
  ·rcases List.mem_cons.1 hx with rfl | hx
   ·exact setRow_heap w g cs.toArray _ T _ (h.all _ hmem)
   ·exact qx (h.all x (by simp [hx])) fun k hk => setRow_other w g k _ (hother x (.inr hx) k hk)
 ·rcases List.mem_append.1 hx with hx | hx
  ·exact h.own x (by simp [hx]) k hk
  ·rcases List.mem_cons.1 hx with rfl | hx
   ·simp [HA.foot] at hk; subst hk; exact hown
   ·exact h.own x (by simp [hx]) k hk
 ·unfold jK; rw [List.pairwise_append, List.pairwise_cons]; refine ⟨hap.1, ⟨fun y hy k hk => hap.2.1.1 y hy k hk, hap.2.1.2⟩, fun x hx y hy k hk => ?_⟩; rcases List.mem_cons.1 hy with rfl | hy
  ·exact hap.2.2 x hx (.blk g T cs) (by simp) k hk
  ·exact hap.2.2 x hx y (by simp [hy]) k hk
theorem St.cell {g : Nat} {T : TypeId} {cs : List Value} (h : St w0 M w L) (hm : HA.blk g T cs ∈ L) {off : Nat} {v : Value} (hv : cs[off]? = some v) : w.cell? ⟨g, off, none⟩ = some v := by
 have := h.all _ hm; unfold HA.holds at this; rw [cell_of_row w g off _ T _ this]; simpa using hv
theorem St.old_cell (h : St w0 M w L) {a : Addr} {v : Value} (hv : w0.cell? a = some v) (hM : a.block ∉ M) : w.cell? a = some v :=
 (World.cell?_of_block (h.old a.block (World.block_lt_of_cell? w0 a hv) hM)).trans hv
theorem St.call {w' : World} {L' : List HA} (h : St w0 M w L) (h' : St w [] w' L') : St w0 M w' (L' ++ L) := by
 refine ⟨h'.os.trans h.os, h'.tape.trans h.tape, h'.output.trans h.output, Nat.le_trans h.size h'.size, fun k hk hM => ?_, fun x hx => ?_, fun x hx k hk => ?_, ?_⟩
 ·exact (h'.old k (Nat.lt_of_lt_of_le hk h.size) (by simp)).trans (h.old k hk hM)
 ·rcases List.mem_append.1 hx with hx | hx
  ·exact h'.all x hx
  ·exact qx (h.all x hx) fun k hk => h'.old k (h.lt hx hk) (by simp)
 ·rcases List.mem_append.1 hx with hx | hx
  ·rcases h'.own x hx k hk with h1 | h1
   ·exact .inl (Nat.le_trans h.size h1)
   ·simp at h1
  ·exact h.own x hx k hk
 ·unfold jK; rw [List.pairwise_append]; refine ⟨h'.apart, h.apart, fun x hx y hy k hk hk' => ?_⟩; have := h.lt hy hk'; rcases h'.own x hx k hk with h1 | h1
  ·omega
  ·simp at h1
theorem St.call0 {w' : World} (h : St w0 M w L) (h' : St w [] w' []) : St w0 M w' L := by simpa using h.call h'
theorem qp {w' : World} {L' : List HA} {g : Nat} {T : TypeId} {cs cs' : List Value} (L1 : List HA) {L2 : List HA} (h : St w0 M w (L1 ++ .blk g T cs :: L2)) (h' : St w [g] w' (.blk g T cs' :: L')) :
  St w0 M w' (L' ++ (L1 ++ .blk g T cs' :: L2)) := by
 have hmem : HA.blk g T cs ∈ L1 ++ .blk g T cs :: L2 := by simp
 have hown := h.own _ hmem g rfl; have hap := h.apart; unfold jK at hap; rw [List.pairwise_append, List.pairwise_cons] at hap; have hother : ∀ x, x ∈ L1 ∨ x ∈ L2 → ∀ k, x.foot = some k → k ≠ g := by
  rintro x (hx | hx) k hk rfl
  ·exact hap.2.2 x hx (.blk k T cs) (by simp) k hk rfl
  ·exact hap.2.1.1 x hx k rfl hk
 have hap' := h'.apart; unfold jK at hap'; rw [List.pairwise_cons] at hap'; have hltg := h.lt hmem rfl; refine ⟨h'.os.trans h.os, h'.tape.trans h.tape, h'.output.trans h.output, Nat.le_trans h.size h'.size, fun k hk hM => ?_, fun x hx => ?_, fun x hx k hk => ?_, ?_⟩
 ·exact (h'.old k (Nat.lt_of_lt_of_le hk h.size) (by simp; rintro rfl; rcases hown with h1 | h1; omega; exact hM h1)).trans (h.old k hk hM)
 ·rcases List.mem_append.1 hx with hx | hx
  ·exact h'.all x (by simp [hx])
  ·rcases List.mem_append.1 hx with hx | hx
   ·exact qx (h.all x (by simp [hx])) fun k hk => h'.old k (h.lt (by simp [hx]) hk) (by simpa using hother x (.inl hx) k hk)
   ·rcases List.mem_cons.1 hx with rfl | hx
    ·exact h'.all _ (by simp)
    ·exact qx (h.all x (by simp [hx])) fun k hk => h'.old k (h.lt (by simp [hx]) hk) (by simpa using hother x (.inr hx) k hk)
 ·rcases List.mem_append.1 hx with hx | hx
  ·rcases h'.own x (by simp [hx]) k hk with h1 | h1
   ·exact .inl (Nat.le_trans h.size h1)
   ·simp at h1; subst h1; exact hown
  ·rcases List.mem_append.1 hx with hx | hx
   ·exact h.own x (by simp [hx]) k hk
   ·rcases List.mem_cons.1 hx with rfl | hx
    ·simp [HA.foot] at hk; subst hk; exact hown
    ·exact h.own x (by simp [hx]) k hk
 ·unfold jK; rw [List.pairwise_append, List.pairwise_append, List.pairwise_cons]; refine ⟨hap'.2, ⟨hap.1, ⟨fun y hy k hk => hap.2.1.1 y hy k hk, hap.2.1.2⟩, fun x hx y hy k hk => ?_⟩, fun x hx y hy k hk hk' => ?_⟩
  ·rcases List.mem_cons.1 hy with rfl | hy
   ·exact hap.2.2 x hx (.blk g T cs) (by simp) k hk
   ·exact hap.2.2 x hx y (by simp [hy]) k hk
  ·have hgk : k ≠ g := by rintro rfl; exact hap'.1 x hx k rfl hk
   have hnew : w.heap.size ≤ k := by
    rcases h'.own x (by simp [hx]) k hk with h1 | h1
    ·exact h1
    ·simp at h1; exact absurd h1 hgk
   rcases List.mem_append.1 hy with hy | hy
   ·have := h.lt (x := y) (by simp [hy]) hk'; omega
   ·rcases List.mem_cons.1 hy with rfl | hy
    ·simp [HA.foot] at hk'; omega
    ·have := h.lt (x := y) (by simp [hy]) hk'; omega
theorem St.ofRow {v : Value} {T : TypeId} {sz n : Nat} {xs : List Value} (w : World) (h : w.ownsRow 0 T sz v n xs) : St w v.ownBlock.toList w [.row v T sz n xs] :=
 ⟨rfl, rfl, rfl, Nat.le_refl _, fun _ _ _ => rfl, by simpa [HA.holds] using h, by
  intro x hx k hk; simp only [List.mem_singleton] at hx; subst hx; right; simpa [HA.foot] using hk, by simp [jK]⟩
theorem St.callG {w' : World} {M' : List Nat} {L' : List HA} (C R : List HA) (h : St w0 M w (C ++ R)) (h' : St w M' w' L') (hM : ∀ k ∈ M', ∃ x ∈ C, x.foot = some k) : St w0 M w' (L' ++ R) := by
 have hap := h.apart; unfold jK at hap; rw [List.pairwise_append] at hap; have hown : ∀ k ∈ M', w0.heap.size ≤ k ∨ k ∈ M := fun k hk => by
  obtain ⟨x, hx, hf⟩ := hM k hk; exact h.own x (by simp [hx]) k hf
 have hR : ∀ y ∈ R, ∀ k, y.foot = some k → k ∉ M' := fun y hy k hk hkM => by
  obtain ⟨x, hx, hf⟩ := hM k hkM; exact hap.2.2 x hx y hy k hf hk
 refine ⟨h'.os.trans h.os, h'.tape.trans h.tape, h'.output.trans h.output, Nat.le_trans h.size h'.size, fun k hk hkM => ?_, fun x hx => ?_, fun x hx k hk => ?_, ?_⟩
 ·refine (h'.old k (Nat.lt_of_lt_of_le hk h.size) (fun hkM' => ?_)).trans (h.old k hk hkM); rcases hown k hkM' with h1 | h1
  ·omega
  ·exact hkM h1
 ·rcases List.mem_append.1 hx with hx | hx
  ·exact h'.all x hx
  ·exact qx (h.all x (by simp [hx])) fun k hk => h'.old k (h.lt (x := x) (by simp [hx]) hk) (hR x hx k hk)
 ·rcases List.mem_append.1 hx with hx | hx
  ·rcases h'.own x hx k hk with h1 | h1
   ·exact .inl (Nat.le_trans h.size h1)
   ·exact hown k h1
  ·exact h.own x (by simp [hx]) k hk
 ·unfold jK; rw [List.pairwise_append]; refine ⟨h'.apart, hap.2.1, fun x hx y hy k hk hk' => ?_⟩; have := h.lt (x := y) (by simp [hy]) hk'; rcases h'.own x hx k hk with h1 | h1
  ·omega
  ·exact hR y hy k hk' h1
theorem St.callRow {w' : World} {v : Value} {T : TypeId} {sz n : Nat} {xs : List Value} {R L' : List HA} (h : St w0 M w (.row v T sz n xs :: R)) (h' : St w v.ownBlock.toList w' L') : St w0 M w' (L' ++ R) :=
 St.callG [.row v T sz n xs] R h h' fun k hk => ⟨_, List.mem_singleton.2 rfl, by simpa [HA.foot] using hk⟩
theorem St.callRowP {w' : World} {p : Value → Bool} {v : Value} {T : TypeId} {sz n : Nat} {xs : List Value} {R L' : List HA} (h : St w0 M w (.rowP p v T sz n xs :: R)) (h' : St w v.ownBlock.toList w' L') : St w0 M w' (L' ++ R) :=
 St.callG [.rowP p v T sz n xs] R h h' fun k hk => ⟨_, List.mem_singleton.2 rfl, by simpa [HA.foot] using hk⟩
theorem St.ofRowP {p : Value → Bool} {v : Value} {T : TypeId} {sz n : Nat} {xs : List Value} (w : World) (h : w.ownsRow 0 T sz v n xs) (hp : AllP p w v T) : St w v.ownBlock.toList w [.rowP p v T sz n xs] :=
 ⟨rfl, rfl, rfl, Nat.le_refl _, fun _ _ _ => rfl, by simpa [HA.holds] using ⟨h, hp⟩, by
  intro x hx k hk; simp only [List.mem_singleton] at hx; subst hx; right; simpa [HA.foot] using hk, by simp [jK]⟩
theorem St.ownsP {p : Value → Bool} {v : Value} {T : TypeId} {sz n : Nat} {xs : List Value} (h : St w0 M w L) (hm : HA.rowP p v T sz n xs ∈ L) : w.ownsRow 0 T sz v n xs ∧ AllP p w v T := h.all _ hm
theorem St.owns {v : Value} {T : TypeId} {sz n : Nat} {xs : List Value} (h : St w0 M w L) (hm : HA.row v T sz n xs ∈ L) : w.ownsRow 0 T sz v n xs := h.all _ hm
end
theorem jc {P : Program} {f : FuncId} {av : Array Value} {w0 w : World} {M : List Nat} {L : List HA} {r : Ending} {K : Ending → World → Prop} (hst : St w0 M w L) (h : Calls P f av w fun e w' => e = r ∧ St w [] w' []) (k : ∀ w', St w0 M w' L → K r w') : Calls P f av w K := h.mono fun _ w' ⟨e, q⟩ => e ▸ k w' (hst.call0 q)
theorem je {P : Program} {f : FuncId} {av : Array Value} {w : World} {r : Ending} {A : World → Prop} {K : Ending → World → Prop} (h : Calls P f av w fun e w' => e = r ∧ A w') (k : ∀ w', A w' → K r w') : Calls P f av w K := h.mono fun _ w' ⟨e, q⟩ => e ▸ k w' q
end Hp
namespace Hp
def tyS (P : Program) (T : TypeId) : Bool := match P.underlying T with
 | some d => !d.isRow && ((P.info? T).map (·.size) == some 1)
 | none => false
def tyA (P : Program) (T : TypeId) (n : Nat) : Bool := match P.underlying T with
 | some d => d.isRow && ((P.info? T).map (·.size) == some n)
 | none => false
def tyZ (P : Program) (T : TypeId) : Option (List Value) := ((P.info? T).bind (·.zero)).map (·.cells.toList)
def tyE (P : Program) (T : TypeId) (sz bytes : Nat) : Bool := match P.info? T with
 | some i => i.size == sz && i.bytes == bytes && (match i.zero with | some z => z.cells.size == sz | none => false)
 | none => false
class TyS (P : Program) (T : TypeId) : Prop where
 out : tyS P T = true
class TyA (P : Program) (T : TypeId) (n : outParam Nat) : Prop where
 out : tyA P T n = true
class TyZ (P : Program) (T : TypeId) (cs : outParam (List Value)) : Prop where
 out : tyZ P T = some cs
class TyB (P : Program) (T : TypeId) (cs : outParam (List Value)) : Prop where
 out : P.built T [] = some cs.toArray
class TyE (P : Program) (T : TypeId) (sz bytes : outParam Nat) : Prop where
 out : tyE P T sz bytes = true
class TySl (P : Program) (T : TypeId) (e : outParam TypeId) : Prop where
 out : P.underlying T = some (.slice e)
class TyN (P : Program) (T : TypeId) (n : outParam Nat) : Prop where
 out : (P.info? T).map (·.size) = some n
class TyStr (P : Program) (T : TypeId) : Prop where
 out : P.underlying T = some .string
class TyI (P : Program) (T : TypeId) (k : outParam IntKind) : Prop where
 out : P.underlying T = some (.int k)
section
variable {P : Program}
theorem tyS_spec {T : TypeId} (h : tyS P T = true) : (∃ d, P.underlying T = some d ∧ d.isRow = false) ∧ (P.info? T).map (·.size) = some 1 := by
 unfold tyS at h; split at h
 ·rename_i d hd
  simp at h; exact ⟨⟨d, hd, h.1⟩, by simpa using h.2⟩
 ·simp at h
theorem tyA_spec {T : TypeId} {n : Nat} (h : tyA P T n = true) : ∃ d, P.underlying T = some d ∧ d.isRow = true ∧ (P.info? T).map (·.size) = some n := by
 unfold tyA at h; split at h
 ·rename_i d hd
  simp at h; exact ⟨d, hd, h.1, by simpa using h.2⟩
 ·simp at h
theorem tyE_spec {T : TypeId} {sz bytes : Nat} (h : tyE P T sz bytes = true) : ∃ i z, P.info? T = some i ∧ i.zero = some z ∧ i.size = sz ∧ i.bytes = bytes ∧ z.cells.size = sz := by
 unfold tyE at h; split at h
 ·rename_i i hi
  simp at h; obtain ⟨⟨h1, h2⟩, h3⟩ := h; split at h3
  ·rename_i z hz
   exact ⟨i, z, hi, hz, h1, h2, by simpa using h3⟩
  ·simp at h3
 ·simp at h
section
variable {ops : Array Oper} {rest : List Oper} {o : Oper} {a : Act} {w w' : World} {Q : Exit → Act → World → Prop}
theorem jW {v : Value} (hw : Region.wanted o (yielded ops a.tmps) = true) (hr : (execOp a.eval o).run P w = .ok (.value v) w')
  (h : wpList P ops Q rest (a.put o.dst v) w') : wpList P ops Q (o :: rest) a w := by
 unfold wpList; rw [if_pos hw]; refine .inl ?_; unfold Oper.wp; rw [hr]; exact h
theorem wl_skip (hw : Region.wanted o (yielded ops a.tmps) = true) (hr : (execOp a.eval o).run P w = .ok .skip w')
  (h : wpList P ops Q rest (a.put o.dst undef) w') : wpList P ops Q (o :: rest) a w := by
 unfold wpList; rw [if_pos hw]; refine .inl ?_; unfold Oper.wp; rw [hr]; exact h
def Loads (P : Program) (w : World) (T : TypeId) (A : Addr) (v : Value) : Prop := (loadVar T A).run P w = .ok v w
theorem Loads.cell {T : TypeId} {A : Addr} {v : Value} (ht : tyS P T = true) (h : w.cell? A = some v) : Loads P w T A v := by
 obtain ⟨⟨d, hd, hr⟩, _⟩ := tyS_spec ht; have hagg : (isAgg T).run P w = .ok false w := by
  unfold isAgg; rw [Sem.run_bind, run_underlying hd w]; cases d <;> simp_all [TypeDesc.isRow]
 unfold Loads loadVar; rw [Sem.run_bind, hagg]; simp [Result.andThen, h]
theorem Loads.range {T : TypeId} {b off : Nat} {cs : List Value} (ht : tyA P T cs.length = true) (h : w.rangeAt b off cs) : Loads P w T ⟨b, off, none⟩ (.agg cs.toArray) := by
 obtain ⟨d, hd, hr, hi⟩ := tyA_spec ht; exact run_loadVar_mid w b off T cs d h hd hr hi
variable {w0 : World} {M : List Nat} {L : List HA}
theorem Loads.blk {T T' : TypeId} {g off : Nat} {v : Value} {cs : List Value} (hst : St w0 M w L) (ht : tyS P T = true) (hm : HA.blk g T' cs ∈ L) (hv : cs[off]? = some v) : Loads P w T ⟨g, off, none⟩ v :=
 .cell ht (hst.cell hm hv)
theorem St.range {T' : TypeId} {g off : Nat} {cs : List Value} (hst : St w0 M w L) (hm : HA.blk g T' cs ∈ L) : w.rangeAt g off (cs.drop off) := by
 intro j v hv; exact hst.cell hm (by simpa using hv)
theorem rangeAt_take {b off n : Nat} {cs : List Value} (h : w.rangeAt b off cs) : w.rangeAt b off (cs.take n) := by
 intro j v hv; refine h j v ?_; rw [List.getElem?_take] at hv; split at hv
 ·exact hv
 ·simp at hv
theorem Loads.at {T T' : TypeId} {g off : Nat} {v : Value} {cs : List Value} (L1 : List HA) {L2 : List HA} (hst : St w0 M w (L1 ++ .blk g T' cs :: L2)) [ht : TyS P T] (hv : cs[off]? = some v) : Loads P w T ⟨g, off, none⟩ v :=
 .blk (T' := T') hst ht.out (by simp) hv
theorem Loads.blkA {T T' : TypeId} {g off : Nat} {vs cs : List Value} (hst : St w0 M w L) (ht : tyA P T vs.length = true) (hm : HA.blk g T' cs ∈ L) (hv : (cs.drop off).take vs.length = vs) : Loads P w T ⟨g, off, none⟩ (.agg vs.toArray) :=
 .range ht (by have := rangeAt_take (n := vs.length) (hst.range (off := off) hm); rwa [hv] at this)
theorem yl {T T' : TypeId} {g off n : Nat} {cs : List Value} (vs : List Value) (L1 : List HA) {L2 : List HA} (hst : St w0 M w (L1 ++ .blk g T' cs :: L2)) [ht : TyA P T n] (hn : vs.length = n) (hv : (cs.drop off).take vs.length = vs) : Loads P w T ⟨g, off, none⟩ (.agg vs.toArray) :=
 .blkA (T' := T') hst (by rw [hn]; exact ht.out) (by simp) hv
theorem Loads.old {T : TypeId} {A : Addr} {v : Value} (hst : St w0 [] w L) [ht : TyS P T] (h : w0.cell? A = some v) : Loads P w T A v := .cell ht.out (hst.old_cell h (by simp))
theorem zf {T : TypeId} {b off n : Nat} {cs : List Value} (hst : St w0 [] w L) [ht : TyA P T n] (hn : cs.length = n) (h : w0.rangeAt b off cs) : Loads P w T ⟨b, off, none⟩ (.agg cs.toArray) :=
 .range (by rw [hn]; exact ht.out) fun j v hv => hst.old_cell (h j v hv) (by simp)
theorem wl_load {T : TypeId} {x : Operand} {A : Addr} {v : Value} (hop : o.op = .load T x) (hw : Region.wanted o (yielded ops a.tmps) = true) (hx : a.eval x = .pointer (some A))
  (hl : Loads P w T A v) (h : wpList P ops Q rest (a.put o.dst v) w) : wpList P ops Q (o :: rest) a w := by
 refine jW hw ?_ h; unfold execOp; have hl' : (loadVar T A).run P w = .ok v w := hl; simp only [hop, hx, Instr.loadAt, Instr.sureAddr, Sem.run_bind, Sem.run_pure, Result.andThen_ok, hl']
theorem wl_loadE {T : TypeId} {x : Operand} {A : Addr} (hop : o.op = .load T x) (hw : Region.wanted o (yielded ops a.tmps) = true) (hx : a.eval x = .pointer (some A))
  (h : ∃ v, Loads P w T A v ∧ wpList P ops Q rest (a.put o.dst v) w) : wpList P ops Q (o :: rest) a w :=
 let ⟨_, h1, h2⟩ := h
 wl_load hop hw hx h1 h2
def yw (l : List Value) (off : Nat) (vs : List Value) : List Value := l.take off ++ (vs ++ l.drop (off + vs.length))
theorem storeVar_row {T T' : TypeId} {g off : Nat} {v : Value} {cs : List Value} (hg : w.heap[g]? = some (.cells cs.toArray T' (0, 0))) (hi : (P.info? T).map (·.size) = some v.cells.size)
  (h1 : v.cells.toList.all (·.oneCell') = true) (hf : off + v.cells.size ≤ cs.length) : (storeVar T ⟨g, off, none⟩ v).run P w = .ok () (w.setRow g (yw cs off v.cells.toList).toArray) := by
 have := run_storeCells_at P g off T' v.cells.toList 0 cs.toArray w hg (by simpa using hf) (fun x hx => (List.all_eq_true.1 h1) x hx); cases hq : P.info? T with
 | none => simp [hq] at hi
 | some i =>
  have hs : v.cells.size = i.size := by simp [hq] at hi; omega
  simp only [Nat.add_zero, List.append_assoc] at this; simp only [storeVar, sizeOf, typeInfo, run_program, Sem.run_bind, Result.andThen_ok, hq, hs, Sem.run_pure, Sem.run_ite, ne_eq, not_true_eq_false, if_false, this]; rfl
theorem ye {T T' : TypeId} {x y : Operand} {g off n : Nat} {v : Value} {cs : List Value} (L1 : List HA) {L2 : List HA} (hst : St w0 M w (L1 ++ .blk g T' cs :: L2)) (hop : o.op = .store T x y)
  (hw : Region.wanted o (yielded ops a.tmps) = true) (hx : a.eval x = .pointer (some ⟨g, off, none⟩)) (hy : a.eval y = v) [hi : TyN P T n] (hn : v.cells.size = n)
  (h1 : v.cells.toList.all (·.oneCell') = true) (hf : off + v.cells.size ≤ cs.length)
  (h : ∀ w', St w0 M w' (L1 ++ .blk g T' (yw cs off v.cells.toList) :: L2) → wpList P ops Q rest (a.put o.dst undef) w') : wpList P ops Q (o :: rest) a w := by
 have hg : w.heap[g]? = some (.cells cs.toArray T' (0, 0)) := hst.all (.blk g T' cs) (by simp); refine wl_skip hw ?_ (h _ (hst.setRow _)); unfold execOp; simp only [hop, hx, hy, Instr.storeAt, Instr.sureAddr, Sem.run_bind, Sem.run_pure, Result.andThen_ok, storeVar_row hg (hn ▸ hi.out) h1 hf]
theorem wl_alloc {T : TypeId} {cs : List Value} (hst : St w0 M w L) (hop : o.op = .alloc T) (hw : Region.wanted o (yielded ops a.tmps) = true) [hzc : TyZ P T cs]
  (h : ∀ g w', St w0 M w' (.blk g T cs :: L) → wpList P ops Q rest (a.put o.dst (.pointer (some ⟨g, 0, none⟩))) w') : wpList P ops Q (o :: rest) a w := by
 refine jW hw ?_ (h _ _ (hst.alloc T cs)); have hz := hzc.out; unfold tyZ at hz; cases hi : P.info? T with
 | none => simp [hi] at hz
 | some i =>
  cases hzz : i.zero with
  | none => simp [hi, hzz] at hz
  | some z =>
   have hc : z.cells.toList = cs := by simpa [hi, hzz] using hz
   subst hc; unfold execOp; simp [hop, Instr.alloc, zeroValue, typeInfo, hi, hzz, newVar, newRow]
theorem wl_box {T : TypeId} {x : Operand} {v : Value} (hst : St w0 M w L) (hop : o.op = .box T x) (hw : Region.wanted o (yielded ops a.tmps) = true) (hx : a.eval x = v)
  (h : ∀ g w', St w0 M w' (.blk g T v.cells.toList :: L) → wpList P ops Q rest (a.put o.dst (.pointer (some ⟨g, 0, none⟩))) w') : wpList P ops Q (o :: rest) a w := by
 refine jW hw ?_ (h _ _ (hst.alloc T v.cells.toList)); unfold execOp; simp [hop, hx, Instr.box, newVar, newRow]
theorem wl_boxA {T : TypeId} {x : Operand} {cs : List Value} (hst : St w0 M w L) (hop : o.op = .box T x) (hw : Region.wanted o (yielded ops a.tmps) = true) (hx : a.eval x = .agg cs.toArray)
  (h : ∀ g w', St w0 M w' (.blk g T cs :: L) → wpList P ops Q rest (a.put o.dst (.pointer (some ⟨g, 0, none⟩))) w') : wpList P ops Q (o :: rest) a w :=
 wl_box hst hop hw hx h
theorem jP {T : TypeId} {cs : List Value} (hop : o.op = .build T #[]) (hw : Region.wanted o (yielded ops a.tmps) = true) [hb : TyB P T cs]
  (h : wpList P ops Q rest (a.put o.dst (.agg cs.toArray)) w) : wpList P ops Q (o :: rest) a w := by
 refine jW hw ?_ h; unfold execOp; simp [hop, run_build w T _ _ hb.out]
theorem wl_buildSlice {T e : TypeId} {len : Nat} {parts : Array (Nat × Operand)} {cs : List Value} {sz bytes : Nat} (hst : St w0 M w L) (hop : o.op = .buildSlice T len parts) (hw : Region.wanted o (yielded ops a.tmps) = true)
  [ht : TySl P T e] [he : TyE P e sz bytes] (hlen : len * sz ≤ 2 ^ 24) (hn : len * sz = cs.length)
  (hf : ∀ z : Array Value, z.size = len * sz → Instr.fill (fun i => some (i * sz, sz)) z (parts.map fun p => (p.1, a.eval p.2)).toList = some cs.toArray)
  (h : ∀ g w', St w0 M w' (.blk g e cs :: L) → wpList P ops Q rest (a.put o.dst (.slice (some ⟨g, 0, none⟩) len len)) w') : wpList P ops Q (o :: rest) a w := by
 obtain ⟨i, z, hi, hz, hs, hb, hzs⟩ := tyE_spec he.out; have ht := ht.out; refine jW hw ?_ (h _ _ (hst.alloc e cs)); unfold execOp; have hl2 : ¬ (2 ^ 24 < len * sz) := by omega
 simp only [hop, Instr.buildSlice, Sem.run_bind, run_underlying ht, sizeOf, typeInfo, run_program, hi, Result.andThen_ok, Sem.run_pure, hs, Sem.run_ite, gt_iff_lt, hl2, if_false]; by_cases h0 : len * sz = 0
 ·have hf0 := hf ((Array.range (len * sz)).map fun x => (#[] : Array Value)[x % (#[] : Array Value).size]!) (by simp); simp only [h0] at hf0; simp only [h0, if_true, Sem.run_pure, Result.andThen_ok, Sem.run_bind]; rw [hf0]; simp [newRow]
 ·have hf0 := hf ((Array.range (len * sz)).map fun x => z.cells[x % z.cells.size]!) (by simp); simp only [h0, if_false, Sem.run_pure, Result.andThen_ok, Sem.run_bind, zeroValue, typeInfo, run_program, hi, hz]; rw [hf0]; simp [newRow]
end
def Rd (w : World) (v : Value) (sz n : Nat) (xs : List Value) : Prop :=
 xs.length = n * sz ∧ ∃ ao c, v = .slice ao n c ∧ n ≤ c ∧ c ≤ maxLen ∧ (ao = none → n = 0 ∧ c = 0) ∧ ∀ A, ao = some A → c ≠ 0 → ∃ b off, A = ⟨b, off, none⟩ ∧ w.rangeAt b off xs
section
variable {w0 w w' : World} {M : List Nat} {L : List HA} {v : Value} {sz n : Nat} {xs : List Value}
theorem Rd.cases (h : Rd w v sz n xs) : (v = .slice none 0 0 ∧ n = 0 ∧ xs = []) ∨ (∃ A, v = .slice (some A) 0 0 ∧ n = 0 ∧ xs = []) ∨ ∃ b off c, v = .slice (some ⟨b, off, none⟩) n c ∧ n ≤ c ∧ c ≤ maxLen ∧ xs.length = n * sz ∧ w.rangeAt b off xs := by
 obtain ⟨hl, ao, c, rfl, hn, hc, hnone, hsome⟩ := h; cases ao with
 | none =>
  obtain ⟨rfl, rfl⟩ := hnone rfl; exact .inl ⟨rfl, rfl, List.eq_nil_of_length_eq_zero (by simpa using hl)⟩
 | some A =>
  by_cases h0 : c = 0
  ·subst h0; obtain rfl : n = 0 := by omega
   exact .inr (.inl ⟨A, rfl, rfl, List.eq_nil_of_length_eq_zero (by simpa using hl)⟩)
  ·obtain ⟨b, off, rfl, hr⟩ := hsome A rfl h0; exact .inr (.inr ⟨b, off, c, rfl, hn, hc, hl, hr⟩)
theorem Rd.casesF (h : Rd w v sz n xs) : (v = .slice none 0 0 ∧ n = 0 ∧ xs = []) ∨ ∃ A c, v = .slice (some A) n c ∧ n ≤ c ∧ c ≤ maxLen ∧ xs.length = n * sz := by
 obtain ⟨hl, ao, c, rfl, hn, hc, hnone, hsome⟩ := h; cases ao with
 | none =>
  obtain ⟨rfl, rfl⟩ := hnone rfl; exact .inl ⟨rfl, rfl, List.eq_nil_of_length_eq_zero (by simpa using hl)⟩
 | some A => exact .inr ⟨A, c, rfl, hn, hc, hl⟩
theorem Rd.range {b off c : Nat} (h : Rd w (.slice (some ⟨b, off, none⟩) n c) sz n xs) : w.rangeAt b off xs := by
 rcases h.cases with ⟨he, _⟩ | ⟨A, he, h0, rfl⟩ | ⟨b', off', c', he, _, _, _, hr⟩
 ·cases he
 ·intro j v hv; cases hv
 ·cases he; exact hr
theorem Rd.nil (w : World) (sz : Nat) : Rd w (.slice none 0 0) sz 0 [] := ⟨by simp, none, 0, rfl, Nat.le_refl _, by simp [maxLen], fun _ => ⟨rfl, rfl⟩, (fun A h => by cases h)⟩
theorem Rd.mk {b off c : Nat} (hn : n ≤ c) (hc : c ≤ maxLen) (hl : xs.length = n * sz) (hr : w.rangeAt b off xs) : Rd w (.slice (some ⟨b, off, none⟩) n c) sz n xs :=
 ⟨hl, some ⟨b, off, none⟩, c, rfl, hn, hc, (fun h => by cases h), fun _ hA _ => ⟨b, off, (Option.some.inj hA).symm, hr⟩⟩
theorem Rd.empty (w : World) (sz : Nat) (A : Addr) : Rd w (.slice (some A) 0 0) sz 0 [] := ⟨by simp, some A, 0, rfl, Nat.le_refl _, by simp [maxLen], (fun h => by cases h), fun _ _ h => absurd rfl h⟩
theorem Rd.old (hst : St w0 [] w L) (h : Rd w0 v sz n xs) : Rd w v sz n xs := by
 obtain ⟨hl, ao, c, rfl, hn, hc, hnone, hsome⟩ := h; refine ⟨hl, ao, c, rfl, hn, hc, hnone, fun A hA h0 => ?_⟩; obtain ⟨b, off, rfl, hr⟩ := hsome A hA h0; exact ⟨b, off, rfl, fun j u hu => hst.old_cell (hr j u hu) (by simp)⟩
theorem Rd.row {T : TypeId} (hst : St w0 M w L) (hm : HA.row v T sz n xs ∈ L) : Rd w v sz n xs := by
 obtain ⟨hl, hr⟩ := hst.all _ hm; rcases hr with ⟨rfl, rfl⟩ | ⟨g, cap, cur, rfl, _, hg, hnc, hcm, hsz, htake⟩
 ·have : xs = [] := List.eq_nil_of_length_eq_zero (by simpa using hl); subst this; exact Rd.nil w sz
 ·refine Rd.mk hnc hcm hl fun j u hu => ?_; rw [Nat.zero_add, cell_of_row w g j cur T (0, 0) hg]; rw [← htake, List.getElem?_take] at hu; split at hu
  ·simpa using hu
  ·simp at hu
theorem Rd.blk {T : TypeId} {g off c : Nat} {cs : List Value} (hst : St w0 M w L) (hm : HA.blk g T cs ∈ L) (hn : n ≤ c) (hc : c ≤ maxLen) (hl : xs.length = n * sz) (hx : (cs.drop off).take xs.length = xs) :
  Rd w (.slice (some ⟨g, off, none⟩) n c) sz n xs :=
 Rd.mk hn hc hl (by have := rangeAt_take (n := xs.length) (hst.range (off := off) hm); rwa [hx] at this)
end
def yb (l : List UInt8) : List Value := l.map fun x => .int .u8 x.toNat
@[simp] theorem length_bytesV (l : List UInt8) : (yb l).length = l.length := by simp [yb]
theorem forIn_bytesV {w : World} (f : Value → ByteArray → Sem (ForInStep ByteArray))
  (hf : ∀ (n : Int) (r : ByteArray), (f (.int .u8 n) r).run P w = .ok (.yield (r.push (UInt8.ofNat n.toNat))) w) (l : List UInt8) (s : ByteArray) :
  (forIn (yb l) s f).run P w = .ok ⟨s.data ++ l.toArray⟩ w := by
 induction l generalizing s with
 | nil => simp [yb]
 | cons x l ih =>
  have : yb (x :: l) = .int .u8 x.toNat :: yb l := rfl; rw [this]; simp only [List.forIn_cons, Sem.run_bind, hf, Result.andThen]; rw [ih]
  congr 1
  simp [ByteArray.push]
theorem run_bytes_string {w : World} {src dst e : TypeId} {v : Value} {n : Nat} {l : List UInt8} (hs : P.underlying src = some (.slice e)) (he : P.underlying e = some (.int .u8)) (hd : P.underlying dst = some .string)
  (h : Rd w v 1 n (yb l)) : (convert src dst v).run P w = .ok (.string ⟨l.toArray⟩) w := by
 rcases h.cases with ⟨rfl, rfl, hl⟩ | ⟨A, rfl, rfl, hl⟩ | ⟨b, off, c, rfl, hn, hc, hl, hr⟩
 ·have : l = [] := by simpa [yb] using hl
  subst this; rw [run_convert_bytes_string w src dst e _ _ _ hs he hd]; rfl
 ·have : l = [] := by simpa [yb] using hl
  subst this; rw [run_convert_bytes_string w src dst e _ _ _ hs he hd]; rfl
 ·rw [run_convert_bytes_string w src dst e _ _ _ hs he hd]; have hlc : (loadCells ⟨b, off, none⟩ n).run P w = .ok (yb l).toArray w := by
   have := run_loadCells_list (P := P) w ⟨b, off, none⟩ (yb l) (fun j v hv => by rw [Addr.add_mid]; exact hr j v hv); rwa [hl, Nat.mul_one] at this
  unfold Conv.bytesToString; simp only [Sem.run_bind, hlc, Result.andThen, List.forIn_toArray]; rw [forIn_bytesV _ (by intro n r; simp [Sem.run_pure])]; simp [Sem.run_pure]
theorem wl_bytes_string {ops : Array Oper} {rest : List Oper} {o : Oper} {a : Act} {w : World} {Q : Exit → Act → World → Prop} {src dst e : TypeId} {x : Operand} {v : Value} {n : Nat} {l : List UInt8}
  (hop : o.op = .convert src dst x) (hw : Region.wanted o (yielded ops a.tmps) = true) (hx : a.eval x = v)
  [hs : TySl P src e] [he : TyI P e .u8] [hd : TyStr P dst]
  (hr : Rd w v 1 n (yb l)) (h : wpList P ops Q rest (a.put o.dst (.string ⟨l.toArray⟩)) w) : wpList P ops Q (o :: rest) a w := by
 refine jW hw ?_ h; unfold execOp; simp only [hop, hx, Sem.run_bind, run_bytes_string hs.out he.out hd.out hr, Result.andThen_ok, Sem.run_pure]
end
section
variable {P : Program} {ops : Array Oper} {rest : List Oper} {o : Oper} {a : Act} {Q : Exit → Act → World → Prop} {w0 w : World} {M : List Nat} {L : List HA} {T : TypeId}
def LdAt (P : Program) (w : World) (T : TypeId) (x v : Value) : Prop := match x with
 | .pointer (some A) => Loads P w T A v
 | _ => False
theorem jl {x : Operand} {v : Value} {d : Option Tmp} {ty : TypeId} {pos : String} {af : Array Edge} {g : Option (Nat × Bool)} (h : LdAt P w T (a.eval x) v) (k : wpList P ops Q rest (a.put d v) w) (hw : Region.wanted ⟨d, .load T x, ty, pos, af, g⟩ (yielded ops a.tmps) = true := by rfl) : wpList P ops Q (⟨d, .load T x, ty, pos, af, g⟩ :: rest) a w := by
 unfold LdAt at h; split at h
 ·exact wl_load rfl hw (by assumption) h k
 ·exact h.elim
theorem yN {cs : List Value} (hst : St w0 M w L) (h : ∀ g w', St w0 M w' (.blk g T cs :: L) → wpList P ops Q rest (a.put o.dst (.pointer (some ⟨g, 0, none⟩))) w') (hop : o.op = .alloc T := by rfl) (hw : Region.wanted o (yielded ops a.tmps) = true := by rfl) (hz : TyZ P T cs := by infer_instance) : wpList P ops Q (o :: rest) a w := wl_alloc hst hop hw h
theorem zbo {x : Operand} {v : Value} (hst : St w0 M w L) (h : ∀ g w', St w0 M w' (.blk g T v.cells.toList :: L) → wpList P ops Q rest (a.put o.dst (.pointer (some ⟨g, 0, none⟩))) w') (hop : o.op = .box T x := by rfl) (hw : Region.wanted o (yielded ops a.tmps) = true := by rfl) (hx : a.eval x = v := by rfl) : wpList P ops Q (o :: rest) a w := wl_box hst hop hw hx h
theorem zj {x : Operand} {cs : List Value} (hst : St w0 M w L) (h : ∀ g w', St w0 M w' (.blk g T cs :: L) → wpList P ops Q rest (a.put o.dst (.pointer (some ⟨g, 0, none⟩))) w') (hop : o.op = .box T x := by rfl) (hw : Region.wanted o (yielded ops a.tmps) = true := by rfl) (hx : a.eval x = .agg cs.toArray := by rfl) : wpList P ops Q (o :: rest) a w := wl_boxA hst hop hw hx h
end
theorem zR {α : Type} {a : α} {s t : List α} (h : a ∈ s) : a ∈ t ++ s := List.mem_append_right t h
theorem zT {α : Type} {a b : α} {s : List α} (h : a ∈ s) : a ∈ b :: s := List.mem_cons_of_mem b h
theorem zH {α : Type} {a : α} {s : List α} : a ∈ a :: s := List.mem_cons_self
theorem zD {p : Prop} [Decidable p] (h : p) : decide p = true := decide_eq_true h
theorem zF {p : Prop} [Decidable p] (h : ¬ p) : decide p = false := decide_eq_false h
theorem zC {α : Type} {a : α} {l : List α} : l.Sublist (a :: l) := List.sublist_cons_self a l
theorem zA {α : Type} {k l : List α} : l.Sublist (k ++ l) := List.sublist_append_right k l
end Hp
namespace Hp
section
variable {P : Program}
section
variable {w0 w : World} {M : List Nat} {L1 L2 : List HA} {v : Value} {e : TypeId} {sz n : Nat} {xs : List Value}
theorem St.row_swap {w' : World} {v' : Value} {n' : Nat} {xs' : List Value} {row : Option Nat} (hst : St w0 M w (L1 ++ .row v e sz n xs :: L2)) (hg : w.grownBy w' row) (hrow : row = v.ownBlock)
  (hown : w'.ownsRow 0 e sz v' n' xs') (hnew : v'.ownBlock = v.ownBlock ∨ ∀ k, v'.ownBlock = some k → w.heap.size ≤ k) : St w0 M w' (L1 ++ .row v' e sz n' xs' :: L2) := by
 subst hrow; have hmem : HA.row v e sz n xs ∈ L1 ++ .row v e sz n xs :: L2 := by simp
 have hvo := hst.own _ hmem; have hap := hst.apart; unfold jK at hap; rw [List.pairwise_append, List.pairwise_cons] at hap; have hother : ∀ x, x ∈ L1 ∨ x ∈ L2 → ∀ k, x.foot = some k → some k ≠ v.ownBlock := by
  rintro x (hx | hx) k hk he
  ·exact hap.2.2 x hx (.row v e sz n xs) (by simp) k hk he.symm
  ·exact hap.2.1.1 x hx k he.symm hk
 have hlt : ∀ x, x ∈ L1 ∨ x ∈ L2 → ∀ k, x.foot = some k → k < w.heap.size := by
  rintro x hx k hk; exact hst.lt (x := x) (by rcases hx with hx | hx <;> simp [hx]) hk
 have hv' : ∀ k, v'.ownBlock = some k → v.ownBlock = some k ∨ w.heap.size ≤ k := by
  intro k hk; rcases hnew with h | h
  ·exact .inl (h ▸ hk)
  ·exact .inr (h k hk)
 refine ⟨hg.os.trans hst.os, hg.tape.trans hst.tape, hg.output.trans hst.output, Nat.le_trans hst.size hg.size, fun k hk hM => ?_, fun x hx => ?_, fun x hx k hk => ?_, ?_⟩
 ·refine (hg.block k (Nat.lt_of_lt_of_le hk hst.size) (fun he => ?_)).trans (hst.old k hk hM); rcases hvo k he.symm with h1 | h1
  ·omega
  ·exact hM h1
 ·rcases List.mem_append.1 hx with hx | hx
  ·exact qx (hst.all x (by simp [hx])) fun k hk => hg.block k (hlt x (.inl hx) k hk) (hother x (.inl hx) k hk)
  ·rcases List.mem_cons.1 hx with rfl | hx
   ·exact hown
   ·exact qx (hst.all x (by simp [hx])) fun k hk => hg.block k (hlt x (.inr hx) k hk) (hother x (.inr hx) k hk)
 ·rcases List.mem_append.1 hx with hx | hx
  ·exact hst.own x (by simp [hx]) k hk
  ·rcases List.mem_cons.1 hx with rfl | hx
   ·rcases hv' k hk with h1 | h1
    ·exact hvo k h1
    ·exact .inl (Nat.le_trans hst.size h1)
   ·exact hst.own x (by simp [hx]) k hk
 ·unfold jK; rw [List.pairwise_append, List.pairwise_cons]; refine ⟨hap.1, ⟨fun y hy k hk hk' => ?_, hap.2.1.2⟩, fun x hx y hy k hk hk' => ?_⟩
  ·rcases hv' k hk with h1 | h1
   ·exact hother y (.inr hy) k hk' h1.symm
   ·have := hlt y (.inr hy) k hk'; omega
  ·rcases List.mem_cons.1 hy with rfl | hy
   ·rcases hv' k hk' with h1 | h1
    ·exact hother x (.inl hx) k hk h1.symm
    ·have := hlt x (.inl hx) k hk; omega
   ·exact hap.2.2 x hx y (by simp [hy]) k hk hk'
theorem all_zeroCells {p : Value → Bool} {z : Array Value} (h : z.toList.all p = true) : ∀ k, (Builtin.zeroCells z k).toList.all p = true := by
 intro k; rw [List.all_eq_true] at h ⊢; intro x hx; unfold Builtin.zeroCells at hx; simp only [Array.toList_map, Array.toList_range, List.mem_map, List.mem_range] at hx; obtain ⟨i, hi, rfl⟩ := hx; have hz : 0 < z.size := by
  rcases Nat.eq_zero_or_pos z.size with h0 | h0
  ·rw [h0] at hi; simp at hi
  ·exact h0
 have hlt := Nat.mod_lt i hz; rw [getElem!_pos z _ hlt]; exact h _ (by simp)
theorem run_append {u : Value} {m bytes : Nat} {ys : List Value} {t ty : TypeId} (hst : St w0 M w (L1 ++ .row v e sz n xs :: L2)) (ht : P.underlying t = some (.slice e)) (he : tyE P e sz bytes = true) (hsz : 0 < sz)
  (hrd : Rd w u sz m ys) (h1 : ∀ u ∈ ys, u.oneCell' = true) (h63 : n + m ≤ maxLen) (hbytes : (n + m) * bytes ≤ 140737488355328) :
  ∃ v' w', (Builtin.append_ #[t, t] ty #[v, u]).run P w = .ok v' w' ∧ St w0 M w' (L1 ++ .row v' e sz (n + m) (xs ++ ys) :: L2) ∧ (v' = .slice none 0 0 ↔ v = .slice none 0 0 ∧ m = 0) ∧
   (∀ p : Value → Bool, (∀ cs, tyZ P e = some cs → cs.all p = true) → AllP p w v e → ys.all p = true → AllP p w' v' e) := by
 obtain ⟨i, z, hi, hz, hs, hb, hzs⟩ := tyE_spec he; have hown : w.ownsRow 0 e sz v n xs := hst.all (.row v e sz n xs) (by simp); have hrd3 : (u = .slice none 0 0 ∧ m = 0 ∧ ys = []) ∨ ∃ A c, u = .slice (some A) m c ∧ ys.length = m * sz ∧ ∀ j u, ys[j]? = some u → w.cell? (A.add j) = some u := by
  rcases hrd.cases with h | ⟨A, rfl, rfl, rfl⟩ | ⟨b, off, c, rfl, hmc, hcm, hyl, hr⟩
  ·exact .inl h
  ·exact .inr ⟨A, 0, rfl, by simp, fun j u hu => by cases hu⟩
  ·exact .inr ⟨_, c, rfl, hyl, fun j u hu => by rw [Addr.add_mid]; exact hr j u hu⟩
 rcases hrd3 with ⟨rfl, rfl, rfl⟩ | ⟨AA, c, rfl, hyl, hnews⟩
 ·have hrun := run_append_owned_none (P := P) w 0 t ty e i sz ht hi v n xs hown; refine ⟨v, w, hrun, by simpa using hst, by simp, fun p _ h _ => h⟩
 ·skip
  subst hs; subst hb; have hlen : (xs ++ ys).length = (n + m) * i.size := by rw [List.length_append, hown.1, hyl, Nat.add_mul]
  have newP : ∀ (old : Nat) (p : Value → Bool), (∀ cs, tyZ P e = some cs → cs.all p = true) → xs.all p = true → ys.all p = true →
    AllP p (w.drew.alloc (.cells (xs.toArray ++ ys.toArray ++ Builtin.zeroCells z.cells (grownCap w (n + m) old e - (n + m))) e)) (.slice (some ⟨w.heap.size, 0, none⟩) (n + m) (grownCap w (n + m) old e)) e := by
   intro old p hz0 hx hy g cs hg hc; simp only [Value.ownBlock, Option.some.injEq] at hg; subst hg; have h2 : (w.drew.alloc (.cells (xs.toArray ++ ys.toArray ++ Builtin.zeroCells z.cells (grownCap w (n + m) old e - (n + m))) e)).heap[w.heap.size]? = _ := heap_alloc_new w.drew _; rw [h2] at hc; simp only [Option.some.injEq, Obj.cells.injEq] at hc; obtain ⟨rfl, _⟩ := hc; have hzz : z.cells.toList.all p = true := hz0 _ (by unfold tyZ; rw [hi]; simp [hz]); simp only [Array.toList_append, List.all_append, hx, hy, Bool.true_and]; exact all_zeroCells hzz _
  have grown : ∀ (old : Nat), old < n + m → ∀ (row : Option Nat),
    (w.drew.alloc (.cells (xs.toArray ++ ys.toArray ++ Builtin.zeroCells z.cells (grownCap w (n + m) old e - (n + m))) e)).ownsRow 0 e i.size
     (.slice (some ⟨w.heap.size, 0, none⟩) (n + m) (grownCap w (n + m) old e)) (n + m) (xs ++ ys) ∧
    w.grownBy (w.drew.alloc (.cells (xs.toArray ++ ys.toArray ++ Builtin.zeroCells z.cells (grownCap w (n + m) old e - (n + m))) e)) row := by
   intro old ho row; have hge := grownCap_ge w (n + m) old e; have hcm : grownCap w (n + m) old e ≤ maxLen := grownCap_le_maxLen w (n + m) old e h63; refine ⟨⟨hlen, .inr ⟨w.heap.size, _, _, rfl, Nat.zero_le _, heap_alloc_new w.drew _, hge, hcm, ?_, ?_⟩⟩, ⟨rfl, rfl, rfl, by simp, fun k hk _ => heap_alloc_old w.drew _ hk⟩⟩
   ·simp only [Array.size_append, List.size_toArray, size_zeroCells, hzs, hown.1, hyl, ← Nat.add_mul]
    congr 1
    omega
   ·simp only [Array.toList_append, List.append_assoc]; rw [← List.append_assoc, ← hlen]; exact List.take_left
  rcases hown.2 with ⟨rfl, rfl⟩ | ⟨g, cap, cur, rfl, hbg, hg, hnc, hcm', hcs, htake⟩
  ·have hx : xs = [] := List.eq_nil_of_length_eq_zero (by simpa using hown.1); subst hx; by_cases hm : m = 0
   ·subst hm; have hn : ys = [] := List.eq_nil_of_length_eq_zero (by simpa using hyl); subst hn; refine ⟨.slice none 0 0, w, ?_, by simpa using hst, by simp, fun p _ h _ => h⟩; simp [Builtin.append_, run_underlying ht, sizeOf, typeInfo, hi, Builtin.lenOf, Builtin.firstCells, loadCells, loadCellsFrom]
   ·have hrun := run_append_nil (P := P) w t ty e i z ht hi hz AA m c ys hyl hnews (by omega) (by simp only [maxLen] at h63; omega) (by have hb := hbytes; simp only [Nat.zero_add] at hb; omega); have hgr := grown 0 (by omega) (Value.ownBlock (.slice none 0 0)); have hnp := newP 0; simp only [Nat.zero_add, List.nil_append, Array.empty_append] at hgr hnp ⊢; exact ⟨_, _, hrun, hst.row_swap hgr.2 rfl hgr.1 (.inr fun k hk => by simp [Value.ownBlock] at hk; omega), by simp [hm], fun p h0 _ h2 => hnp p h0 rfl h2⟩
  ·by_cases hroom : n + m ≤ cap
   ·have hfit : n * i.size + ys.length ≤ cur.size := by rw [hyl, hcs, ← Nat.add_mul]; exact Nat.mul_le_mul_right _ hroom
    have hrun := run_append_room (P := P) w t ty e i ht hi g n cap cur hg AA m c ys hyl hnews h1 hroom hfit; refine ⟨_, _, hrun, hst.row_swap (row := some g) ⟨rfl, rfl, rfl, by simp, fun k _ hk => setRow_other w g k _ (fun e => hk (by simp [e]))⟩ rfl ⟨hlen, .inr ⟨g, cap, _, rfl, hbg, setRow_heap w g cur _ e _ hg, hroom, hcm', ?_, ?_⟩⟩ (.inl rfl), by simp, fun p _ h2 h3 => ?_⟩
    ·simp only [List.size_toArray, List.length_append, List.length_take, List.length_drop, Array.length_toList]; omega
    ·rw [htake, ← hlen]; exact List.take_left
    ·intro g' cs hg' hc; simp only [Value.ownBlock, Option.some.injEq] at hg'; subst hg'; rw [setRow_heap w g cur _ e _ hg] at hc; simp only [Option.some.injEq, Obj.cells.injEq] at hc; obtain ⟨rfl, _⟩ := hc; have hcur := h2 g cur rfl hg; rw [List.all_eq_true] at hcur; rw [List.all_append, List.all_append, h3, Bool.and_true, Bool.and_eq_true, List.all_eq_true, List.all_eq_true]; exact ⟨fun x hx => hcur x (List.mem_of_mem_take hx), fun x hx => hcur x (List.mem_of_mem_drop hx)⟩
   ·have holds : ∀ j u, xs[j]? = some u → w.cell? ((⟨g, 0, none⟩ : Addr).add j) = some u := hown.cells (g := g) rfl; have hrun := run_append_grow (P := P) w t ty e i z ht hi hz ⟨g, 0, none⟩ n cap xs hown.1 holds AA m c ys hyl hnews (by omega) (by simp only [maxLen] at h63; omega) (growslice_fits (by omega) hbytes); have hgr := grown cap (by omega) (Value.ownBlock (.slice (some ⟨g, 0, none⟩) n cap)); refine ⟨_, _, hrun, hst.row_swap hgr.2 rfl hgr.1 (.inr fun k hk => by simp [Value.ownBlock] at hk; omega), by simp, fun p h0 h2 h3 => newP cap p h0 ?_ h3⟩; have hcur := h2 g cur rfl hg; rw [List.all_eq_true] at hcur ⊢; rw [← htake]; exact fun x hx => hcur x (List.mem_of_mem_take hx)
end
theorem ya2 {w : World} {t t' ty e : TypeId} {v u : Value} (ht : P.underlying t = some (.slice e)) (ht' : P.underlying t' = some (.slice e)) :
  (Builtin.append_ #[t, t'] ty #[v, u]).run P w = (Builtin.append_ #[t, t] ty #[v, u]).run P w := by
 simp only [Builtin.append_, List.getElem?_toArray, List.getElem?_cons_zero, List.getElem?_cons_succ, Sem.run_bind, run_underlying ht, Result.andThen_ok]; cases v with
 | slice b n c =>
  simp only [Sem.run_bind]; generalize (sizeOf e).run P w = r; cases r with
  | halt h w1 => rfl
  | ok s w1 => simp only [Result.andThen_ok, Sem.run_bind, run_underlying ht, run_underlying ht', Sem.run_pure]
 | _ => rfl
section
variable {ops : Array Oper} {rest : List Oper} {o : Oper} {a : Act} {w0 w : World} {M : List Nat} {Q : Exit → Act → World → Prop}
theorem wl_append {s x : Operand} {t t' e : TypeId} {v u : Value} {sz bytes n m : Nat} {xs ys : List Value} (L1 : List HA) {L2 : List HA} (hst : St w0 M w (L1 ++ .row v e sz n xs :: L2))
  (hop : o.op = .call { callee := .builtin .append, args := #[s, x], argTypes := #[t, t'] }) (hw : Region.wanted o (yielded ops a.tmps) = true) (hs : a.eval s = v) (hx : a.eval x = u)
  [ht : TySl P t e] [ht' : TySl P t' e] [he : TyE P e sz bytes] (hrd : Rd w u sz m ys) (h1 : ∀ u ∈ ys, u.oneCell' = true) (hb : 0 < sz ∧ n + m ≤ maxLen ∧ (n + m) * bytes ≤ 140737488355328)
  (h : ∀ v' w', St w0 M w' (L1 ++ .row v' e sz (n + m) (xs ++ ys) :: L2) → (v' = .slice none 0 0 ↔ v = .slice none 0 0 ∧ m = 0) → wpList P ops Q rest (a.put o.dst v') w') : wpList P ops Q (o :: rest) a w := by
 obtain ⟨v', w', hr, h2, h3, h4⟩ := run_append (P := P) (t := t) (ty := o.type) hst ht.out he.out hb.1 hrd h1 hb.2.1 hb.2.2; refine jW hw ?_ (h v' w' h2 h3); unfold execOp; simp only [hop, resolve, invoke, builtin, Sem.run_bind, Sem.run_pure, Result.andThen_ok, List.map_toArray, List.map_cons, List.map_nil, hs, hx]; rw [ya2 ht.out ht'.out, hr]; rfl
end
theorem all_ones {ys : List Value} (h : ys.all (·.oneCell') = true) : ∀ u ∈ ys, u.oneCell' = true := List.all_eq_true.1 h
theorem yD (l : List UInt8) : (yb l).all (·.oneCell') = true := by
 rw [List.all_eq_true]; intro u hu; simp only [yb, List.mem_map] at hu; obtain ⟨x, _, rfl⟩ := hu; rfl
theorem j3 {w0 w : World} {M : List Nat} {L : List HA} {T : TypeId} {g n sz : Nat} {cs : List Value} (hst : St w0 M w (.blk g T cs :: L)) (hl : cs.length = n * sz) (hn : n ≤ 9223372036854775807) : Rd w (.slice (some ⟨g, 0, none⟩) n n) sz n cs :=
 Rd.blk hst zH (Nat.le_refl _) (by unfold maxLen; omega) hl (by simp)
theorem wl_appX {ops : Array Oper} {rest : List Oper} {o : Oper} {a : Act} {w0 w : World} {M : List Nat} {Q : Exit → Act → World → Prop} {s x : Operand} {t t' e : TypeId} {v u : Value} {sz bytes n m : Nat} {xs ys : List Value} (L1 : List HA) {L2 : List HA} (hst : St w0 M w (L1 ++ .row v e sz n xs :: L2))
  (hop : o.op = .call { callee := .builtin .append, args := #[s, x], argTypes := #[t, t'] }) (hw : Region.wanted o (yielded ops a.tmps) = true) (hs : a.eval s = v) (hx : a.eval x = u)
  (_ht : TySl P t e) (_ht' : TySl P t' e) (_he : TyE P e sz bytes) (hrd : Rd w u sz m ys) (h1 : ys.all (·.oneCell') = true) (hb : 0 < sz ∧ n + m ≤ maxLen ∧ (n + m) * bytes ≤ 140737488355328)
  (h : ∀ v' w', St w0 M w' (L1 ++ .row v' e sz (n + m) (xs ++ ys) :: L2) → (v' = .slice none 0 0 ↔ v = .slice none 0 0 ∧ m = 0) → wpList P ops Q rest (a.put o.dst v') w') : wpList P ops Q (o :: rest) a w :=
 wl_append L1 hst hop hw hs hx hrd (all_ones h1) hb h
theorem St.toRow {w0 w : World} {M : List Nat} {L : List HA} {T : TypeId} {g n cap sz : Nat} {cs : List Value} (hst : St w0 M w (.blk g T cs :: L)) (hl : cs.length = cap * sz) (hn : n ≤ cap) (hc : cap ≤ 9223372036854775807) :
  St w0 M w (.row (.slice (some ⟨g, 0, none⟩) n cap) T sz n (cs.take (n * sz)) :: L) := by
 have hap := hst.apart; unfold jK at hap; rw [List.pairwise_cons] at hap; have hnl : n * sz ≤ cs.length := by rw [hl]; exact Nat.mul_le_mul_right _ hn
 refine ⟨hst.os, hst.tape, hst.output, hst.size, hst.old, fun x hx => ?_, fun x hx k hk => ?_, ?_⟩
 ·rcases List.mem_cons.1 hx with rfl | hx
  ·refine ⟨by simp; omega, .inr ⟨g, cap, cs.toArray, rfl, Nat.zero_le _, hst.all _ zH, hn, by unfold maxLen; omega, by simpa using hl, by simp⟩⟩
  ·exact hst.all x (zT hx)
 ·rcases List.mem_cons.1 hx with rfl | hx
  ·exact hst.own _ zH k hk
  ·exact hst.own x (zT hx) k hk
 ·unfold jK; rw [List.pairwise_cons]; exact ⟨fun y hy k hk => hap.1 y hy k hk, hap.2⟩
theorem ow_run {o : Oper} {a : Act} {w w' : World} {K : Act → World → Prop} {Q : Exit → Act → World → Prop} {v : Value} (hr : (execOp a.eval o).run P w = .ok (.value v) w') (h : K (a.put o.dst v) w') : o.wp P a w K Q := by
 unfold Oper.wp; rw [hr]; exact h
theorem run_copy_st {w0 w : World} {M : List Nat} {L1 L2 : List HA} {g off n c m : Nat} {T e t t' ty : TypeId} {cs xs : List Value} {u : Value} {bytes : Nat} (hst : St w0 M w (L1 ++ .blk g T cs :: L2)) (ht : P.underlying t = some (.slice e)) (he : tyE P e 1 bytes = true)
  (hrd : Rd w u 1 m xs) (h1 : xs.all (·.oneCell') = true) (hm : m ≤ n) (hf : off + m ≤ cs.length) :
  (Builtin.copy_ #[t, t'] ty #[.slice (some ⟨g, off, none⟩) n c, u]).run P w = .ok (.int .i64 m) (w.setRow g (yw cs off xs).toArray) := by
 obtain ⟨i, z, hi, hz, hs, hb, hzs⟩ := tyE_spec he; have hg : w.heap[g]? = some (.cells cs.toArray T (0, 0)) := hst.all (.blk g T cs) (by simp); have hrd3 : (u = .slice none 0 0 ∧ m = 0 ∧ xs = []) ∨ ∃ A c, u = .slice (some A) m c ∧ xs.length = m * 1 ∧ ∀ j u, xs[j]? = some u → w.cell? (A.add j) = some u := by
  rcases hrd.cases with h | ⟨A, rfl, rfl, rfl⟩ | ⟨b, off, c, rfl, hmc, hcm, hyl, hr⟩
  ·exact .inl h
  ·exact .inr ⟨A, 0, rfl, by simp, fun j u hu => by cases hu⟩
  ·exact .inr ⟨_, c, rfl, hyl, fun j u hu => by rw [Addr.add_mid]; exact hr j u hu⟩
 rcases hrd3 with ⟨rfl, rfl, rfl⟩ | ⟨AA, c', rfl, hyl, hnews⟩
 ·rw [run_copy_nil (P := P) w t t' ty e ⟨g, off, none⟩ n c ht (by rw [hi]; rfl)]; have : yw cs off [] = cs := by simp [yw]
  rw [this, setRow_self w g cs.toArray T (0, 0) hg]; rfl
 ·rw [Nat.mul_one] at hyl; rw [run_copy_row (P := P) w t t' ty e g off n c AA m c' cs.toArray T xs ht (by rw [hi]; simp [hs]) hg (by rw [hyl]; exact (Nat.min_eq_left hm).symm) hnews (by simpa [hyl] using hf) (all_ones h1)]; simp [yw, goInt, hyl]
theorem wl_copy {ops : Array Oper} {rest : List Oper} {o : Oper} {a : Act} {w0 w : World} {M : List Nat} {Q : Exit → Act → World → Prop} {d x : Operand} {g off n c m bytes : Nat} {T e t t' : TypeId} {cs xs : List Value} {u : Value} (L1 : List HA) {L2 : List HA} (hst : St w0 M w (L1 ++ .blk g T cs :: L2))
  (hop : o.op = .call { callee := .builtin .copy, args := #[d, x], argTypes := #[t, t'] }) (hw : Region.wanted o (yielded ops a.tmps) = true) (hd : a.eval d = .slice (some ⟨g, off, none⟩) n c) (hx : a.eval x = u)
  (ht : TySl P t e) (he : TyE P e 1 bytes) (hrd : Rd w u 1 m xs) (h1 : xs.all (·.oneCell') = true) (hm : m ≤ n) (hf : off + m ≤ cs.length)
  (h : ∀ w', St w0 M w' (L1 ++ .blk g T (yw cs off xs) :: L2) → wpList P ops Q rest (a.put o.dst (.int .i64 m)) w') : wpList P ops Q (o :: rest) a w := by
 refine jW hw ?_ (h _ (hst.setRow _)); unfold execOp; simp only [hop, resolve, invoke, builtin, Sem.run_bind, Sem.run_pure, Result.andThen_ok, List.map_toArray, List.map_cons, List.map_nil, hd, hx]; rw [run_copy_st hst ht.out he.out hrd h1 hm hf]; rfl
theorem ybF {w : World} {e : TypeId} (he : P.underlying e = some (.int .u8)) (d : Nat) (l k : List UInt8) : ∀ (m s : Nat), l.length = s + m → k.length = s + m →
  (Op.eqItems (d + 1) e 1 (yb l).toArray (yb k).toArray (List.range' s m)).run P w = .ok (l.drop s == k.drop s) w
 | 0, s, h1, h2 => by
  rw [List.drop_of_length_le (by omega), List.drop_of_length_le (by omega)]; simp [Op.eqItems]
 | m + 1, s, h1, h2 => by
  have hagg : (isAgg e).run P w = .ok false w := by
   unfold isAgg; rw [Sem.run_bind, run_underlying he w]; simp
  have hp : ∀ q : List UInt8, s < q.length → (part e (yb q).toArray (s * 1)).run P w = .ok (.int .u8 ((q.getD s 0).toNat)) w := by
   intro q hq; unfold part; rw [Sem.run_bind, hagg]; have : (yb q).toArray[s * 1]? = some (.int .u8 ((q.getD s 0).toNat)) := by simp [yb, List.getD, hq]
   simp only [Result.andThen_ok, Bool.false_eq_true, if_false, this]; rfl
  have ih := ybF (w := w) he d l k m (s + 1) (by omega) (by omega); have hl : l.drop s = l.getD s 0 :: l.drop (s + 1) := by rw [List.drop_eq_getElem_cons (by omega)]; simp [List.getD, show s < l.length by omega]
  have hk : k.drop s = k.getD s 0 :: k.drop (s + 1) := by rw [List.drop_eq_getElem_cons (by omega)]; simp [List.getD, show s < k.length by omega]
  rw [hl, hk]; simp only [List.range'_succ, Op.eqItems, Sem.run_bind, hp l (by omega), hp k (by omega), Result.andThen_ok, run_equalIn_int w d e .u8 .u8 _ _ he]; have hbeq : (((l.getD s 0).toNat : Int) == ((k.getD s 0).toNat : Int)) = (l.getD s 0 == k.getD s 0) := by
   rw [Bool.eq_iff_iff]; simp only [beq_iff_eq, Int.natCast_inj]; exact UInt8.toNat_inj
  rw [hbeq, List.cons_beq_cons]; cases hb : (l.getD s 0 == k.getD s 0)
  ·simp
  ·simp [ih]
class TyArr (P : Program) (T : TypeId) (n e : outParam Nat) : Prop where
 out : P.underlying T = some (.array n e) ∧ P.underlying e = some (.int .u8) ∧ (P.info? e).map (·.size) = some 1 ∧ P.eqGuardType P.depth T = false
theorem run_eql_bytes {w : World} {T : TypeId} {n e : Nat} (h : TyArr P T n e) (l k : List UInt8) (hl : l.length = n) (hk : k.length = n) :
  (binOp .eql T (.agg (yb l).toArray) (.agg (yb k).toArray)).run P w = .ok (.bool (l == k)) w := by
 obtain ⟨h1, h2, h3, _⟩ := h.out; cases hi : P.info? e with
 | none => simp [hi] at h3
 | some i =>
  have hc : P.cellsOf e = 1 := by unfold Program.cellsOf; rw [hi] at h3 ⊢; simpa using h3
  rw [run_eql_struct]; rw [run_equalIn_array w 9999 _ _ h1 hi, hc, List.range_eq_range', ybF h2 9998 l k n 0 (by omega) (by omega)]; rfl
theorem run_neq_bytes {w : World} {T : TypeId} {n e : Nat} (h : TyArr P T n e) (l k : List UInt8) (hl : l.length = n) (hk : k.length = n) :
  (binOp .neq T (.agg (yb l).toArray) (.agg (yb k).toArray)).run P w = .ok (.bool (!(l == k))) w := by
 obtain ⟨h1, h2, h3, _⟩ := h.out; cases hi : P.info? e with
 | none => simp [hi] at h3
 | some i =>
  have hc : P.cellsOf e = 1 := by unfold Program.cellsOf; rw [hi] at h3 ⊢; simpa using h3
  rw [run_neq_struct]; rw [run_equalIn_array w 9999 _ _ h1 hi, hc, List.range_eq_range', ybF h2 9998 l k n 0 (by omega) (by omega)]; rfl
section
variable {ops : Array Oper} {rest : List Oper} {o : Oper} {a : Act} {w : World} {Q : Exit → Act → World → Prop}
theorem run_eqGuard_agg {w : World} {T : TypeId} (h : P.eqGuardType P.depth T = false) (op : BinOp) (x y : Operand) (xs ys : Array Value) : (eqGuard op T x y (.agg xs) (.agg ys)).run P w = .ok () w := by
 unfold eqGuard; cases op <;> simp [Sem.run_bind, h]
theorem wl_eql_bytes {T T' n e : Nat} {x y : Operand} {l k : List UInt8} (hop : o.op = .binOp .eql T x y T') (hw : Region.wanted o (yielded ops a.tmps) = true) (hx : a.eval x = .agg (yb l).toArray) (hy : a.eval y = .agg (yb k).toArray)
  [h : TyArr P T n e] (hlk : l.length = n ∧ k.length = n) (hh : wpList P ops Q rest (a.put o.dst (.bool (l == k))) w) : wpList P ops Q (o :: rest) a w := by
 refine jW hw ?_ hh; unfold execOp; simp only [hop, hx, hy, Sem.run_bind, run_eqGuard_agg h.out.2.2.2, Result.andThen_ok, run_eql_bytes h l k hlk.1 hlk.2, Sem.run_pure]
end
def partsOf : List Value → Nat → List (Nat × Value)
 | [], _ => []
 | v :: vs, k => (k, v) :: partsOf vs (k + 1)
theorem fold_set (off : Nat) : ∀ (c : List Value) (j : Nat) (pre rest : List Value), pre.length = off + j → c.length ≤ rest.length →
  (c.zipIdx j).foldl (fun (cs : Array Value) (p : Value × Nat) => cs.setIfInBounds (off + p.2) p.1) (pre ++ rest).toArray = (pre ++ (c ++ rest.drop c.length)).toArray
 | [], _, _, _, _, _ => by simp
 | v :: c, j, pre, [], _, h => by simp at h
 | v :: c, j, pre, r :: rest, hp, h => by
  have ih := fold_set off c (j + 1) (pre ++ [v]) rest (by simp; omega) (by simpa using h); simp only [List.zipIdx_cons, List.foldl_cons, List.setIfInBounds_toArray]; have : (pre ++ r :: rest).set (off + j) v = pre ++ [v] ++ rest := by
   rw [List.set_append_right _ _ (by omega), show off + j - pre.length = 0 by omega]; simp
  rw [this, ih]; simp
theorem fill_all (sz : Nat) : ∀ (vs : List Value) (k : Nat) (pre post : List Value), pre.length = k * sz → vs.all (fun v => v.cells.size == sz) = true → post.length = vs.length * sz →
  Instr.fill (fun i => some (i * sz, sz)) (pre ++ post).toArray (partsOf vs k) = some (pre ++ vs.flatMap fun v => v.cells.toList).toArray
 | [], k, pre, post, hp, _, hl => by
  have : post = [] := List.eq_nil_of_length_eq_zero (by simpa using hl); subst this; simp [Instr.fill, partsOf]
 | v :: vs, k, pre, post, hp, hv, hl => by
  simp only [List.all_cons, Bool.and_eq_true, beq_iff_eq] at hv; have hlen : v.cells.toList.length = sz := by simpa using hv.1
  have hpost : sz ≤ post.length := by rw [hl, List.length_cons, Nat.succ_mul]; omega
  have h1 := fold_set (k * sz) v.cells.toList 0 pre post (by omega) (by omega); have ih := fill_all sz vs (k + 1) (pre ++ v.cells.toList) (post.drop sz) (by rw [List.length_append, hp, hlen, Nat.succ_mul]) hv.2 (by rw [List.length_drop, hl, List.length_cons, Nat.succ_mul]; omega); have hsz : ¬ (v.cells.size ≠ sz ∨ k * sz + v.cells.size > (pre ++ post).toArray.size) := by
   simp only [not_or, Decidable.not_not, List.size_toArray, List.length_append, hv.1]; exact ⟨trivial, by omega⟩
  simp only [partsOf, Instr.fill]; rw [if_neg (by simpa using hsz)]; rw [← Array.foldl_toList, Array.toList_zipIdx]; rw [hlen, ← List.append_assoc] at h1; have h2 : List.foldl (fun (cs : Array Value) (x : Value × Nat) => match x with | (c, j) => cs.setIfInBounds (k * sz + j) c) (pre ++ post).toArray v.cells.toList.zipIdx = ((pre ++ v.cells.toList) ++ post.drop sz).toArray := h1; rw [h2, ih]; simp
section
variable {ops : Array Oper} {rest : List Oper} {o : Oper} {a : Act} {w0 w : World} {M : List Nat} {L : List HA} {Q : Exit → Act → World → Prop} {T e : TypeId} {len : Nat} {parts : Array (Nat × Operand)} {sz bytes : Nat} (vs cs : List Value) (hst : St w0 M w L) (hop : o.op = .buildSlice T len parts) (hw : Region.wanted o (yielded ops a.tmps) = true)
include vs cs hst hop hw
theorem wl_bsV
  (hp : (parts.map fun p => (p.1, a.eval p.2)).toList = partsOf vs 0) (hcs : (vs.flatMap fun v => v.cells.toList) = cs) [ht : TySl P T e] [he : TyE P e sz bytes]
  (hv : vs.all (fun v => v.cells.size == sz) = true) (hl : vs.length = len) (hlen' : Nat.ble (len * sz) 16777216 = true)
  (h : ∀ g w', St w0 M w' (.blk g e cs :: L) → wpList P ops Q rest (a.put o.dst (.slice (some ⟨g, 0, none⟩) len len)) w') : wpList P ops Q (o :: rest) a w := by
 have hlen := Nat.le_of_ble_eq_true hlen'; subst hl; refine wl_buildSlice hst hop hw hlen ?_ (fun z hz => ?_) h
 ·rw [← hcs]; clear hp hcs h hop hlen hlen'
  induction vs with
  | nil => simp
  | cons v vs ih =>
   simp only [List.all_cons, Bool.and_eq_true, beq_iff_eq] at hv; have := ih hv.2; rw [List.flatMap_cons, List.length_append, ← this, List.length_cons, Nat.succ_mul]; have : v.cells.toList.length = sz := by simpa using hv.1
   omega
 ·rw [hp]; have := fill_all sz vs 0 [] z.toList (by simp) hv (by simpa using hz); simp only [List.nil_append, Array.toArray_toList] at this; rw [this, hcs]
theorem wl_bsX
  (hp : parts.toList.map (fun p => (p.1, a.eval p.2)) = partsOf vs 0) (hcs : (vs.flatMap fun v => v.cells.toList) = cs) (_ht : TySl P T e) (_he : TyE P e sz bytes)
  (hv : vs.all (fun v => v.cells.size == sz) = true) (hl : vs.length = len) (hlen' : Nat.ble (len * sz) 16777216 = true)
  (h : ∀ g w', St w0 M w' (.blk g e cs :: L) → wpList P ops Q rest (a.put o.dst (.slice (some ⟨g, 0, none⟩) len len)) w') : wpList P ops Q (o :: rest) a w :=
 wl_bsV vs cs hst hop hw (by rw [Array.toList_map]; exact hp) hcs hv hl hlen' h
end
def p2ok (P : Program) (T : TypeId) : Bool := match P.underlying T with
 | some (.struct fs) => match fs.toList with
  | [f1, f2] => f1.name != "_" && f2.name != "_" && f1.offset == 0 && f2.offset == 1 && (match P.underlying f1.type with | some (.int _) => true | _ => false) && (match P.underlying f2.type with | some (.int _) => true | _ => false) && !(P.stoodInHeld T) && !(P.eqGuardType P.depth T)
  | _ => false
 | _ => false
class TyP2 (P : Program) (T : TypeId) : Prop where
 out : p2ok P T = true
theorem p2_spec {T : TypeId} (h : p2ok P T = true) : ∃ f1 f2 k1 k2, P.fieldsOf T = #[f1, f2] ∧ P.underlying T = some (.struct (P.fieldsOf T)) ∧ f1.name ≠ "_" ∧ f2.name ≠ "_" ∧ f1.offset = 0 ∧ f2.offset = 1 ∧ P.underlying f1.type = some (.int k1) ∧ P.underlying f2.type = some (.int k2) ∧ P.stoodInHeld T = false ∧ P.eqGuardType P.depth T = false := by
 unfold p2ok at h; cases hu : P.underlying T with
 | none => simp [hu] at h
 | some d =>
  cases d with
  | struct fs =>
   simp only [hu] at h; obtain ⟨l⟩ := fs
   match l, h with
   | [f1, f2], h =>
    simp only [Bool.and_eq_true, bne_iff_ne, ne_eq, beq_iff_eq, Bool.not_eq_true'] at h; obtain ⟨⟨⟨⟨⟨⟨⟨h1, h2⟩, h3⟩, h4⟩, h5⟩, h6⟩, h7⟩, h8⟩ := h; have hf : P.fieldsOf T = #[f1, f2] := by simp [Program.fieldsOf, hu]
    cases hk1 : P.underlying f1.type with
    | none => simp [hk1] at h5
    | some d1 =>
     cases hk2 : P.underlying f2.type with
     | none => simp [hk2] at h6
     | some d2 =>
      cases d1 <;> first | (simp [hk1] at h5; done) | skip
      cases d2 <;> first | (simp [hk2] at h6; done) | skip
      exact ⟨f1, f2, _, _, hf, by rw [hf], h1, h2, h3, h4, hk1, hk2, h7, h8⟩
  | _ => simp [hu] at h
theorem qq {w : World} {T : TypeId} {k q : IntKind} {n : Int} {cs : Array Value} {off : Nat} (h : P.underlying T = some (.int k)) (hc : cs[off]? = some (.int q n)) : (part T cs off).run P w = .ok (.int q n) w := by
 have hagg : (isAgg T).run P w = .ok false w := by
  unfold isAgg; rw [Sem.run_bind, run_underlying h w]; simp
 unfold part; rw [Sem.run_bind, hagg]; simp [hc]
theorem run_equal_p2 {w : World} {T : TypeId} (h : p2ok P T = true) (a b c d : Int) (k1 k2 : IntKind) :
  (Op.equalIn 10000 T (.agg #[.int k1 a, .int k2 b]) (.agg #[.int k1 c, .int k2 d])).run P w = .ok ((a == c) && (b == d)) w := by
 obtain ⟨f1, f2, q1, q2, hf, hu, n1, n2, o1, o2, u1, u2, hs, _⟩ := p2_spec h; rw [show (10000 : Nat) = 9999 + 1 from rfl, run_equalIn_struct w 9999 T _ _ hu hs, hf]; have e1 := run_equalIn_int (P := P) w 9998 f1.type k1 q1 a c u1; have e2 := run_equalIn_int (P := P) w 9998 f2.type k2 q2 b d u2; simp only [Op.eqFields, n1, n2, ne_eq, not_false_eq_true, if_true, Sem.run_bind, o1, o2,
  qq (cs := #[.int k1 a, .int k2 b]) (off := 0) u1 rfl, qq (cs := #[.int k1 c, .int k2 d]) (off := 0) u1 rfl, Result.andThen_ok, e1,
  qq (cs := #[.int k1 a, .int k2 b]) (off := 1) u2 rfl, qq (cs := #[.int k1 c, .int k2 d]) (off := 1) u2 rfl]
 cases (a == c) <;> cases hb : (b == d) <;> simp [qq (cs := #[.int k1 a, .int k2 b]) (off := 1) u2 rfl, qq (cs := #[.int k1 c, .int k2 d]) (off := 1) u2 rfl, e2, hb]
theorem run_eql_p2 {T : TypeId} (h : TyP2 P T) (a b c d : Int) (k1 k2 : IntKind) (w : World) : (binOp .eql T (.agg #[.int k1 a, .int k2 b]) (.agg #[.int k1 c, .int k2 d])).run P w = .ok (.bool ((a == c) && (b == d))) w := by
 rw [run_eql_struct, run_equal_p2 h.out]; rfl
theorem run_neq_p2 {T : TypeId} (h : TyP2 P T) (a b c d : Int) (k1 k2 : IntKind) (w : World) : (binOp .neq T (.agg #[.int k1 a, .int k2 b]) (.agg #[.int k1 c, .int k2 d])).run P w = .ok (.bool (!((a == c) && (b == d)))) w := by
 rw [run_neq_struct, run_equal_p2 h.out]; rfl
theorem run_guard_p2 {T : TypeId} (h : TyP2 P T) (op : BinOp) (x y : Operand) (xs ys : Array Value) (w : World) : (eqGuard op T x y (.agg xs) (.agg ys)).run P w = .ok () w := by
 obtain ⟨f1, f2, q1, q2, hf, hu, n1, n2, o1, o2, u1, u2, hs, hg⟩ := p2_spec h.out; unfold eqGuard; cases op <;> simp [Sem.run_bind, hg]
section
variable {ops : Array Oper} {rest : List Oper} {o : Oper} {a : Act} {w : World} {Q : Exit → Act → World → Prop}
theorem Rd.at {w : World} {ao : Option Addr} {n m c sz : Nat} {xs : List Value} (h : Rd w (.slice ao n c) sz m xs) {k : Nat} (hk : k < n) : ∃ b off, ao = some ⟨b, off, none⟩ ∧ w.rangeAt b off xs := by
 obtain ⟨hl, ao', c', he, hn, hc, hnone, hsome⟩ := h; simp only [Value.slice.injEq] at he; obtain ⟨rfl, rfl, rfl⟩ := he; cases ao with
 | none => obtain ⟨rfl, rfl⟩ := hnone rfl; omega
 | some A => obtain ⟨b, off, rfl, hr⟩ := hsome A rfl (by omega); exact ⟨b, off, rfl, hr⟩
theorem Rd.bd {w : World} {ao : Option Addr} {n m c sz : Nat} {xs : List Value} (h : Rd w (.slice ao n c) sz m xs) : n ≤ c ∧ c ≤ 9223372036854775807 ∧ xs.length = n * sz := by
 obtain ⟨hl, ao', c', he, hn, hc, hnone, hsome⟩ := h; simp only [Value.slice.injEq] at he; obtain ⟨rfl, rfl, rfl⟩ := he; exact ⟨hn, hc, hl⟩
theorem wl_index {T e : TypeId} {sz : Nat} {x ix : Operand} {b off n c k : Nat} {q : IntKind} (hop : o.op = .indexAddr T x ix) (hw : Region.wanted o (yielded ops a.tmps) = true)
  (hx : a.eval x = .slice (some ⟨b, off, none⟩) n c) (hi : a.eval ix = .int q (k : Int)) [ht : TySl P T e] [hz : TyN P e sz] (hk : k < n)
  (h : wpList P ops Q rest (a.put o.dst (.pointer (some ⟨b, off + k * sz, none⟩))) w) : wpList P ops Q (o :: rest) a w := by
 refine jW hw ?_ h; have hs : (sizeOf e).run P w = .ok sz w := by
  have := hz.out; cases hq : P.info? e with
  | none => simp [hq] at this
  | some i => simp [hq] at this; simp [sizeOf, typeInfo, hq, this]
 unfold execOp; have hkn : (0 : Int) ≤ (k : Int) ∧ (k : Int) < (n : Int) := ⟨by omega, by omega⟩; have hnk : ¬ n ≤ k := by omega
 simp [hop, hx, hi, Instr.indexAt, asIntOf, run_underlying ht.out, hkn, hs, Addr.add_mid, hnk]
end
end
section
variable {P : Program} {ops : Array Oper} {rest : List Oper} {o : Oper} {a : Act} {Q : Exit → Act → World → Prop} {w0 w : World} {M : List Nat} {L : List HA}
theorem yA {T e : TypeId} {sz : Nat} {x ix : Operand} {b off n c k : Nat} {q : IntKind} (hk : k < n) (h : wpList P ops Q rest (a.put o.dst (.pointer (some ⟨b, off + k * sz, none⟩))) w) (hop : o.op = .indexAddr T x ix := by rfl) (hw : Region.wanted o (yielded ops a.tmps) = true := by rfl)
  (hx : a.eval x = .slice (some ⟨b, off, none⟩) n c := by rfl) (hi : a.eval ix = .int q (k : Int) := by rfl) (ht : TySl P T e := by infer_instance) (hz : TyN P e sz := by infer_instance) : wpList P ops Q (o :: rest) a w := wl_index hop hw hx hi hk h
theorem za {T e : TypeId} {len : Nat} {parts : Array (Nat × Operand)} {sz bytes : Nat} (vs cs : List Value) (hst : St w0 M w L) (hop : o.op = .buildSlice T len parts := by rfl) (hw : Region.wanted o (yielded ops a.tmps) = true := by rfl)
  (hp : parts.toList.map (fun p => (p.1, a.eval p.2)) = partsOf vs 0 := by exact rfl) (hc : (vs.flatMap fun v => v.cells.toList) = cs := by exact rfl) (t1 : TySl P T e := by infer_instance) (t2 : TyE P e sz bytes := by infer_instance) (hv : vs.all (fun v => v.cells.size == sz) = true := by rfl) (hl : vs.length = len := by rfl) (hn : Nat.ble (len * sz) 16777216 = true := by rfl)
  (h : ∀ g w', St w0 M w' (.blk g e cs :: L) → wpList P ops Q rest (a.put o.dst (.slice (some ⟨g, 0, none⟩) len len)) w') : wpList P ops Q (o :: rest) a w := wl_bsX vs cs hst hop hw hp hc t1 t2 hv hl hn h
theorem jf {s x : Operand} {t t' e : TypeId} {v u : Value} {sz bytes n m : Nat} {xs ys : List Value} (L1 : List HA) {L2 : List HA} (hst : St w0 M w (L1 ++ .row v e sz n xs :: L2))
  (hop : o.op = .call { callee := .builtin .append, args := #[s, x], argTypes := #[t, t'] } := by rfl) (hw : Region.wanted o (yielded ops a.tmps) = true := by rfl) (hs : a.eval s = v := by exact rfl) (hx : a.eval x = u := by exact rfl)
  (t1 : TySl P t e := by infer_instance) (t2 : TySl P t' e := by infer_instance) (t3 : TyE P e sz bytes := by infer_instance) (hr : Rd w u sz m ys := by fail) (h1 : ys.all (·.oneCell') = true := by rfl) (hb : 0 < sz ∧ n + m ≤ maxLen ∧ (n + m) * bytes ≤ 140737488355328 := by fail)
  (h : ∀ v' w', St w0 M w' (L1 ++ .row v' e sz (n + m) (xs ++ ys) :: L2) → (v' = .slice none 0 0 ↔ v = .slice none 0 0 ∧ m = 0) → wpList P ops Q rest (a.put o.dst v') w') : wpList P ops Q (o :: rest) a w := wl_appX L1 hst hop hw hs hx t1 t2 t3 hr h1 hb h
end
end Hp
namespace Hp
variable {P : Program}
theorem yW {fn : Func} {p : Tmp} {ty : TypeId} {tmps : Array Value} {w : World} {A : Addr} {v : Value} (h : fn.results = #[.cell p ty]) (hp : tmps.getD p undef = .pointer (some A)) (hl : Loads P w ty A v) :
  (results fn tmps).run P w = .ok v w := by
 have hl' : (loadVar ty A).run P w = .ok v w := hl; have hp' : tmps[p]?.getD undef = .pointer (some A) := by simpa using hp
 simp [results, h, hp', asAddr, hl']
theorem yaS {fn : Func} {p q : Tmp} {ty ty' : TypeId} {tmps : Array Value} {w : World} {A B : Addr} {v u : Value} (h : fn.results = #[.cell p ty, .cell q ty']) (hp : tmps.getD p undef = .pointer (some A)) (hq : tmps.getD q undef = .pointer (some B))
  (hl : Loads P w ty A v) (hk : Loads P w ty' B u) : (results fn tmps).run P w = .ok (.tuple #[v, u]) w := by
 have hl' : (loadVar ty A).run P w = .ok v w := hl; have hk' : (loadVar ty' B).run P w = .ok u w := hk; have hp' : tmps[p]?.getD undef = .pointer (some A) := by simpa using hp
 have hq' : tmps[q]?.getD undef = .pointer (some B) := by simpa using hq
 simp [results, h, hp', hq', asAddr, hl', hk', Sem.run_bind]
theorem yx {ops : Array Oper} {rest : List Oper} {o : Oper} {a : Act} {w0 w : World} {M : List Nat} {Q : Exit → Act → World → Prop} {T T' : TypeId} {x y : Operand} {g n : Nat} {vs cs : List Value} (L1 : List HA) {L2 : List HA} (hst : St w0 M w (L1 ++ .blk g T' cs :: L2)) (hop : o.op = .store T x y)
  (hw : Region.wanted o (yielded ops a.tmps) = true) (hx : a.eval x = .pointer (some ⟨g, 0, none⟩)) (hy : a.eval y = .agg vs.toArray) [hi : TyN P T n] (hn : vs.length = n)
  (h1 : vs.all (·.oneCell') = true) (hf : cs.length = n)
  (h : ∀ w', St w0 M w' (L1 ++ .blk g T' vs :: L2) → wpList P ops Q rest (a.put o.dst undef) w') : wpList P ops Q (o :: rest) a w := by
 refine ye L1 hst hop hw hx hy (n := n) (by simpa [Value.cells] using hn) (by simpa [Value.cells] using h1) (by simp [Value.cells, hn, hf]) fun w' hst' => h w' ?_; have e : yw cs 0 (Value.agg vs.toArray).cells.toList = vs := by
  simp [yw, Value.cells, hn, ← hf]
 rw [e] at hst'; exact hst'
theorem ow_skip {o : Oper} {a : Act} {w w' : World} {K : Act → World → Prop} {Q : Exit → Act → World → Prop} (hr : (execOp a.eval o).run P w = .ok .skip w') (h : K (a.put o.dst undef) w') : o.wp P a w K Q := by
 unfold Oper.wp; rw [hr]; exact h
theorem jG {o : Oper} {a : Act} {w0 w : World} {M : List Nat} {K : Act → World → Prop} {Q : Exit → Act → World → Prop} {T T' : TypeId} {x y : Operand} {g n : Nat} {vs cs : List Value} (L1 : List HA) {L2 : List HA} (hst : St w0 M w (L1 ++ .blk g T' cs :: L2)) (hop : o.op = .store T x y)
  (hx : a.eval x = .pointer (some ⟨g, 0, none⟩)) (hy : a.eval y = .agg vs.toArray) (hi : TyN P T n) (hn : vs.length = n) (h1 : vs.all (·.oneCell') = true) (hf : cs.length = n)
  (h : ∀ w', St w0 M w' (L1 ++ .blk g T' vs :: L2) → K (a.put o.dst undef) w') : o.wp P a w K Q := by
 have hg : w.heap[g]? = some (.cells cs.toArray T' (0, 0)) := hst.all (.blk g T' cs) (by simp); have e : yw cs 0 (Value.agg vs.toArray).cells.toList = vs := by
  simp [yw, Value.cells, hn, ← hf]
 have hs : (storeVar T ⟨g, 0, none⟩ (.agg vs.toArray)).run P w = .ok () (w.setRow g vs.toArray) := by
  have := storeVar_row (P := P) (T := T) (v := .agg vs.toArray) (off := 0) hg (by simpa [Value.cells, hn] using hi.out) (by simpa [Value.cells] using h1) (by simp [Value.cells, hn, hf]); rw [e] at this; exact this
 refine ow_skip ?_ (h _ (hst.setRow _)); unfold execOp; simp only [hop, hx, hy, Instr.storeAt, Instr.sureAddr, Sem.run_bind, Sem.run_pure, Result.andThen_ok, hs]
def storeVarH (T : TypeId) (A : Addr) (v : Value) : Sem Unit := storeVar T A v
theorem madeCells_one (z : Value) (n : Nat) : madeCells #[z] n = (List.replicate n z).toArray := by
 apply Array.ext
 ·simp [madeCells]
 ·intro i h1 h2; simp [madeCells, Nat.mod_one]
theorem wl_make {ops : Array Oper} {rest : List Oper} {o : Oper} {a : Act} {w0 w : World} {M : List Nat} {L : List HA} {Q : Exit → Act → World → Prop} {T e : TypeId} {x y : Operand} {bytes : Nat} {z : Value} {u v : Int} (l c : Nat) (hst : St w0 M w L) (hop : o.op = .makeSlice T x y)
  (hw : Region.wanted o (yielded ops a.tmps) = true) (hx : a.eval x = .int .i64 u) (hy : a.eval y = .int .i64 v) (ht : TySl P T e) (he : TyE P e 1 bytes) (hz : TyZ P e [z]) (hu : u = (l : Int)) (hv : v = (c : Int)) (hlc : l ≤ c) (hb : c * bytes ≤ 281474976710656 ∧ c ≤ 9223372036854775807)
  (h : ∀ g w', St w0 M w' (.blk g e (List.replicate c z) :: L) → wpList P ops Q rest (a.put o.dst (.slice (some ⟨g, 0, none⟩) l c)) w') : wpList P ops Q (o :: rest) a w := by
 subst hu hv; obtain ⟨i, zz, hi, hzz, hs, hbs, hzs⟩ := tyE_spec he.out; have hzl : zz.cells = #[z] := by
  have := hz.out; unfold tyZ at this; simp [hi, hzz] at this; exact Array.toList_inj.1 (by simpa using this)
 have hm := run_make (P := P) w T e i zz ht.out hi hzz .i64 .i64 l c (by omega) (by omega) (by rw [hbs, ← Int.natCast_mul, Nat.mul_comm]; have h3 := hb.1; revert h3; generalize c * bytes = q; intro h3; omega) (by have := hb.2; omega); rw [hzl, hs, Nat.mul_one, madeCells_one] at hm; simp only [Int.toNat_natCast] at hm; refine jW hw ?_ (h _ _ (hst.alloc e (List.replicate c z))); unfold execOp; simp only [hop, hx, hy, Sem.run_bind, hm, Sem.run_pure, Result.andThen_ok]
section
variable {P : Program} {ops : Array Oper} {rest : List Oper} {o : Oper} {a : Act} {Q : Exit → Act → World → Prop} {w0 w : World} {M : List Nat}
theorem ji {T T' : TypeId} {x y : Operand} {g n : Nat} {vs cs : List Value} (L1 : List HA) {L2 : List HA} (hst : St w0 M w (L1 ++ .blk g T' cs :: L2)) (h : ∀ w', St w0 M w' (L1 ++ .blk g T' vs :: L2) → wpList P ops Q rest (a.put o.dst undef) w') (hop : o.op = .store T x y := by rfl)
  (hw : Region.wanted o (yielded ops a.tmps) = true := by rfl) (hx : a.eval x = .pointer (some ⟨g, 0, none⟩) := by rfl) (hy : a.eval y = .agg vs.toArray := by rfl) (hi : TyN P T n := by infer_instance) (hn : vs.length = n := by rfl)
  (h1 : vs.all (·.oneCell') = true := by rfl) (hf : cs.length = n := by rfl) : wpList P ops Q (o :: rest) a w := yx L1 hst hop hw hx hy hn h1 hf h
end
end Hp
end
section
open Go.ChangeShapes Go.WideShapes Go.ChangeAt Go.RowKit
theorem own : ownKnob Tryz.prog.godebug = none := by kernel_rfl
theorem post_of_kept {H : Type} {enc : TypeId × Value → H} {P : Program} {f : Func} {s : ChangeSpec} {apart fresh handsOn : Bool} {W W' : World} {args : Array Value} {v : Value} {ds gs : List (DataW H)} {before pa pv : List MemPlace}
  (hW : DataW.Whole enc P f.params.toList s.vars apart W args.toList ds gs before)
  (hres : ∀ (b : Nat) (sp : Nat → Bool) (hd : Bool), DataW.TrodAll enc P W' b sp hd f.resultTypes.toList (v.resultList f.resultTypes.size) (s.fn H (ds ++ gs)).results [])
  (hargs : ∀ sp : Nat → Bool, (∀ p ∈ before, sp p.block = true) → DataW.TrodAll enc P W' 0 sp true f.params.toList args.toList (s.fn H (ds ++ gs)).args pa)
  (hvars : ∀ sp : Nat → Bool, (∀ p ∈ before, sp p.block = true) → DataW.TrodVars enc P W' sp s.vars (s.fn H (ds ++ gs)).vars pv)
  (hps : before = pa ++ pv) (hk : W.keptBut W' (· ∈ before)) :
  s.post enc P f apart fresh handsOn false W args v W' := by
 have hold : ∀ p ∈ before, (fun b => decide (b < W.heap.size)) p.block = true := fun p hp => by simpa using hW.lt p hp
 refine ⟨ds, gs, before, [], pa, pv, hW, hres _ _ _, hargs _ hold, hvars _ hold, World.keptBut_mono (fun p hp => ⟨hp, ?_⟩) hk, fun h => by cases h⟩; rw [hps, List.mem_append] at hp; exact .inr hp
theorem kids : Kids Tryz.prog (· < Tryz.prog.types.size) := kids_rows (by kernel_rfl) (by kernel_rfl)
theorem full : ∀ t e, t < Tryz.prog.types.size → Tryz.prog.underlying t = some (.slice e) → 0 < Tryz.prog.cellsOf e := slices_full_of Tryz.prog (by kernel_rfl)
theorem trodAll_carry {H : Type} {enc : TypeId × Value → H} {P : Program} {W W' : World} {base : Nat} {spare : Nat → Bool} {held : Bool} : ∀ {ts : List TypeId} {vs : List Value} {ds : List (DataW H)} {ps : List MemPlace},
  DataW.TrodAll enc P W base spare held ts vs ds ps → (∀ p ∈ ps, W.sameAt W' p) → DataW.TrodAll enc P W' base spare held ts vs ds ps
 | [], [], [], _, h, _ => h
 | _ :: _, _ :: _, _ :: _, _, ⟨p, q, ⟨n, h⟩, hs, e⟩, hp => by
  subst e; exact ⟨p, q, ⟨n, DataW.trod_carry n _ _ _ h fun x hx => hp x (List.mem_append_left _ hx)⟩, trodAll_carry hs fun x hx => hp x (List.mem_append_right _ hx), rfl⟩
theorem args_kept {H : Type} {enc : TypeId × Value → H} {ts : List TypeId} {W W' : World} {vs : List Value} {ds : List (DataW H)} {ps : List MemPlace} (hts : ∀ t ∈ ts, t < Tryz.prog.types.size)
  (h : DataW.TrodAll enc Tryz.prog W 0 (fun _ => true) true ts vs ds ps) (hg : Below W.heap.size W W') (hlt : ∀ p ∈ ps, p.block < W.heap.size) (sp : Nat → Bool) (hs : ∀ p ∈ ps, sp p.block = true) :
  DataW.TrodAll enc Tryz.prog W' 0 sp true ts vs ds ps :=
 DataW.TrodAll.respare kids full hts (trodAll_carry h fun p hp => hg.same (hlt p hp)) hs
end
section
open Hp
def nones : List UInt8 := List.replicate 32 0
def yd (sv : Value) (b l : Int) (S : List UInt8) : List Value := sv :: .int .i64 b :: .int .i64 l :: yb S
def nothingB (b l : Int) (S : List UInt8) : Bool := decide (b = 0) && (decide (l = 0) && (S == nones))
def L32 (S : List UInt8) : Prop := S.length = 32
theorem L32.out {S : List UInt8} (h : L32 S) : S.length = 32 := h
theorem L32.v {S : List UInt8} (h : L32 S) : (yb S).length = 32 := by simp [h.out]
theorem L32.nones : L32 nones := rfl
theorem L32.two {S R : List UInt8} (h : L32 S) (h' : L32 R) : S.length = 32 ∧ R.length = 32 := ⟨h, h'⟩
theorem qu (sv : Value) (b l : Int) (S : List UInt8) : ((yd sv b l S).drop 3).take (yb S).length = yb S := by
 show (yb S).take (yb S).length = yb S; exact List.take_length
theorem yz (sv : Value) (b l : Int) (S : List UInt8) : ((yd sv b l S).drop 0).take (yd sv b l S).length = yd sv b l S := by
 simp
theorem yo {S : List UInt8} (h : L32 S) (sv : Value) (b l : Int) : (yd sv b l S).length = 35 := by simp [yd, h.out]
theorem zO {a b : Bool} (h : a = b) : Ending.returned (.bool a) = .returned (.bool b) := by rw [h]
theorem ret_int {k : IntKind} {a b : Int} (h : a = b) : Ending.returned (.int k a) = .returned (.int k b) := by rw [h]
def yu : List (Int × Int) → List Value
 | [] => []
 | x :: l => .int .i64 x.1 :: .int .i64 x.2 :: yu l
theorem addrsV_get (l : List (Int × Int)) (k : Nat) (hk : k < l.length) : (yu l)[k * 2]? = some (.int .i64 (l.getD k (0, 0)).1) ∧ (yu l)[k * 2 + 1]? = some (.int .i64 (l.getD k (0, 0)).2) := by
 induction l generalizing k with
 | nil => simp at hk
 | cons x l ih =>
  cases k with
  | zero => simp [yu]
  | succ k =>
   have := ih k (by simpa using hk); simp only [yu, show (k + 1) * 2 = k * 2 + 1 + 1 by omega, show k * 2 + 1 + 1 + 1 = (k * 2 + 1) + 1 + 1 by omega, List.getElem?_cons_succ, List.getD_cons_succ]; exact this
section
open Go.RowKit
variable {w : World} {b off : Nat} {l : List (Int × Int)}
theorem addr_dev (h : w.rangeAt b off (yu l)) {k : Nat} (hk : k < l.length) : w.cell? ⟨b, off + k * 2, none⟩ = some (.int .i64 (l.getD k (0, 0)).1) := h _ _ (addrsV_get l k hk).1
theorem addr_at (h : w.rangeAt b off (yu l)) {k : Nat} (hk : k < l.length) : w.cell? ⟨b, off + k * 2 + 1, none⟩ = some (.int .i64 (l.getD k (0, 0)).2) := h _ _ (addrsV_get l k hk).2
theorem z7 (h : w.rangeAt b off (yu l)) {k : Nat} (hk : k < l.length) : w.rangeAt b (off + k * 2) [.int .i64 (l.getD k (0, 0)).1, .int .i64 (l.getD k (0, 0)).2] := by
 intro j v hv
 match j, hv with
 | 0, hv => simp at hv; subst hv; exact addr_dev h hk
 | 1, hv => simp at hv; subst hv; exact addr_at h hk
end
def qM (n : Nat) (b l : Int) (S : List UInt8) : Bool := decide (n = 0) && nothingB b l S
def seenB (l : List (Int × Int)) (d : Nat) : Bool := decide ((d : Int) ∈ l.map (·.1))
def seenV (l : List (Int × Int)) : List Value := (List.range 8).map fun d => .bool (seenB l d)
def validA (a : Int × Int) : Bool := decide (0 ≤ a.1 ∧ a.1 < 8 ∧ 5 ≤ a.2 ∧ a.2 < 4096)
def okA : List (Int × Int) → Bool
 | [] => true
 | x :: l => okA l && validA x && !(l.any fun y => y.1 == x.1)
def qW (l : List (Int × Int)) : Bool := okA l.reverse && decide (1 ≤ l.length ∧ l.length ≤ 3)
def zQ (l : List (Int × Int)) (b v : Int) (S : List UInt8) : Bool := qM l.length b v S || (qW l && decide (1 ≤ b ∧ b ≤ 2147483648 ∧ 0 ≤ v ∧ v ≤ 3))
def jo (l : List (Int × Int)) (b v : Int) (S : List UInt8) : Int := if zQ l b v S then 0 else 2
def okP (l : List (Int × Int)) (k : Nat) : Bool := okA (l.take k).reverse
theorem take_rev_succ (l : List (Int × Int)) (k : Nat) (hk : k < l.length) : (l.take (k + 1)).reverse = l.getD k (0, 0) :: (l.take k).reverse := by
 rw [List.take_succ_eq_append_getElem hk, List.reverse_append]; simp [List.getD, hk]
theorem okP_succ (l : List (Int × Int)) (k : Nat) (hk : k < l.length) : okP l (k + 1) = (okP l k && validA (l.getD k (0, 0)) && !((l.take k).any fun y => y.1 == (l.getD k (0, 0)).1)) := by
 unfold okP; rw [take_rev_succ l k hk, okA, List.any_reverse]
theorem okA_append : ∀ (a b : List (Int × Int)), okA (a ++ b) = true → okA b = true
 | [], _, h => h
 | x :: a, b, h => okA_append a b (by simp only [List.cons_append, okA, Bool.and_eq_true] at h; exact h.1.1)
theorem okP_false (l : List (Int × Int)) (k : Nat) (h : okP l k = false) : okA l.reverse = false := by
 rw [← Bool.not_eq_true]; intro ht; rw [← List.take_append_drop k l, List.reverse_append] at ht; have := okA_append _ _ ht; unfold okP at h; simp [h] at this
theorem okP_all (l : List (Int × Int)) (k : Nat) (hk : l.length ≤ k) : okP l k = okA l.reverse := by unfold okP; rw [List.take_of_length_le hk]
theorem okP_zero (l : List (Int × Int)) : okP l 0 = true := by simp [okP, okA]
theorem seenV_get (l : List (Int × Int)) {d : Nat} (hd : d < 8) : (seenV l)[d]? = some (.bool (seenB l d)) := by
 unfold seenV; simp [hd]
theorem length_seenV (l : List (Int × Int)) : (seenV l).length = 8 := by simp [seenV]
theorem seenB_any (l : List (Int × Int)) (x : Int) (hx : 0 ≤ x) : seenB l x.toNat = l.any fun y => y.1 == x := by
 unfold seenB; rw [Bool.eq_iff_iff]; simp only [decide_eq_true_eq, List.mem_map, List.any_eq_true, beq_iff_eq]; constructor
 ·rintro ⟨a, ha, h⟩; exact ⟨a, ha, by omega⟩
 ·rintro ⟨a, ha, h⟩; exact ⟨a, ha, by omega⟩
theorem seenV_put (l : List (Int × Int)) (x : Int × Int) (h0 : 0 ≤ x.1) (h8 : x.1 < 8) : yw (seenV l) x.1.toNat [.bool true] = seenV (l ++ [x]) := by
 apply List.ext_getElem?; intro j; unfold yw; have hl := length_seenV l; by_cases hj : j < 8
 ·rw [seenV_get _ hj]; rcases Nat.lt_trichotomy j x.1.toNat with h | h | h
  ·rw [List.getElem?_append_left (by simp; omega), List.getElem?_take, if_pos h, seenV_get _ hj]; have : seenB (l ++ [x]) j = seenB l j := by
    unfold seenB; simp only [List.map_append, List.map_cons, List.map_nil, List.mem_append, List.mem_singleton]
    congr 1
    simp only [eq_iff_iff, or_iff_left_iff_imp]; intro e; omega
   rw [this]
  ·rw [List.getElem?_append_right (by simp; omega)]; have h1 : j - (List.take x.1.toNat (seenV l)).length = 0 := by simp; omega
   rw [h1]; have : seenB (l ++ [x]) j = true := by
    unfold seenB; simp only [decide_eq_true_eq, List.map_append, List.map_cons, List.map_nil, List.mem_append, List.mem_singleton]; right; omega
   simp [this]
  ·rw [List.getElem?_append_right (by simp; omega)]; have h1 : j - (List.take x.1.toNat (seenV l)).length = (j - x.1.toNat - 1) + 1 := by simp; omega
   rw [h1]; simp only [List.cons_append, List.nil_append, List.getElem?_cons_succ, List.getElem?_drop, List.length_singleton]; rw [show x.1.toNat + 1 + (j - x.1.toNat - 1) = j by omega, seenV_get _ hj]; have : seenB (l ++ [x]) j = seenB l j := by
    unfold seenB; simp only [List.map_append, List.map_cons, List.map_nil, List.mem_append, List.mem_singleton]
    congr 1
    simp only [eq_iff_iff, or_iff_left_iff_imp]; intro e; omega
   rw [this]
 ·rw [List.getElem?_eq_none (by simp [hl]; omega), List.getElem?_eq_none (by rw [length_seenV]; omega)]
theorem take_snoc' (l : List (Int × Int)) (k : Nat) (hk : k < l.length) : l.take k ++ [l.getD k (0, 0)] = l.take (k + 1) := by
 rw [List.take_succ_eq_append_getElem hk]; simp [List.getD, hk]
section
variable {l : List (Int × Int)} {k : Nat} {x : Int × Int}
theorem may_stop1 (hk : k < l.length) (hx : x = l.getD k (0, 0)) (h : ¬ (0 ≤ x.1 ∧ x.1 < 8 ∧ 5 ≤ x.2 ∧ x.2 < 4096)) : qW l = false := by
 have h1 := okP_succ l k hk; rw [← hx] at h1; have : validA x = false := by simpa [validA] using h
 simp only [this, Bool.and_false, Bool.false_and] at h1; simp [qW, okP_false l _ h1]
theorem may_stop2 (hk : k < l.length) (hx : x = l.getD k (0, 0)) (h0 : 0 ≤ x.1) (h : seenB (l.take k) x.1.toNat = true) : qW l = false := by
 have h1 := okP_succ l k hk; rw [← hx] at h1; rw [seenB_any _ _ h0] at h; simp only [h, Bool.not_true, Bool.and_false] at h1; simp [qW, okP_false l _ h1]
theorem may_go (hk : k < l.length) (hx : x = l.getD k (0, 0)) (hok : okP l k = true) (h0 : 0 ≤ x.1) (h8 : x.1 < 8) (h5 : 5 ≤ x.2) (h4 : x.2 < 4096) (h : seenB (l.take k) x.1.toNat = false) :
  okP l (k + 1) = true ∧ yw (seenV (l.take k)) x.1.toNat [.bool true] = seenV (l.take (k + 1)) := by
 rw [seenB_any _ _ h0] at h; refine ⟨?_, ?_⟩
 ·rw [okP_succ l k hk, ← hx, hok, h]; simp [validA, h0, h8, h5, h4]
 ·rw [seenV_put _ _ h0 h8, hx, take_snoc' l k hk]
theorem may_end (hk : l.length ≤ k) (hok : okP l k = true) : qW l = decide (1 ≤ l.length ∧ l.length ≤ 3) := by
 rw [okP_all l k hk] at hok; simp [qW, hok]
end
section
variable {l : List (Int × Int)} {k : Nat} {x : Int × Int}
theorem addrs_stop (hk : k < l.length) (hx : x = l.getD k (0, 0)) {j : Nat} (hj : j < k) (h : (l.getD j (0, 0)).1 = x.1) : qW l = false := by
 have h1 := okP_succ l k hk; rw [← hx] at h1; have : ((l.take k).any fun y => y.1 == x.1) = true := by
  rw [List.any_eq_true]; refine ⟨l.getD j (0, 0), ?_, by simpa using h⟩; rw [List.mem_iff_getElem?]; refine ⟨j, ?_⟩; rw [List.getElem?_take, if_pos hj]; simp [List.getD, show j < l.length by omega]
 simp only [this, Bool.not_true, Bool.and_false] at h1; simp [qW, okP_false l _ h1]
theorem addrs_go (hk : k < l.length) (hx : x = l.getD k (0, 0)) (hok : okP l k = true) (h0 : 0 ≤ x.1) (h8 : x.1 < 8) (h5 : 5 ≤ x.2) (h4 : x.2 < 4096) (h : ∀ t, t < k → (l.getD t (0, 0)).1 ≠ x.1) : okP l (k + 1) = true := by
 rw [okP_succ l k hk, ← hx, hok]; have : ((l.take k).any fun y => y.1 == x.1) = false := by
  rw [List.any_eq_false]; intro y hy; obtain ⟨t, ht⟩ := List.mem_iff_getElem?.1 hy; rw [List.getElem?_take] at ht; split at ht
  ·rename_i htk
   have := h t htk; simp only [List.getD, ht, Option.getD_some] at this; simpa using this
  ·simp at ht
 simp [this, validA, h0, h8, h5, h4]
end
theorem addrs_ext {l k : List (Int × Int)} (h : l.length = k.length) (hq : ∀ q, q < l.length → l.getD q (0, 0) = k.getD q (0, 0)) : l = k := by
 apply List.ext_getElem h; intro i h1 h2; have := hq i h1; simpa [List.getD, h1, h2] using this
theorem addrs_len_ne {l k : List (Int × Int)} (h : l.length ≠ k.length) : (l == k) = false := by
 rw [beq_eq_false_iff_ne]; intro e; exact h (by rw [e])
theorem addrs_ne {l k : List (Int × Int)} {q : Nat} (h : l.getD q (0, 0) ≠ k.getD q (0, 0)) : (l == k) = false := by
 rw [beq_eq_false_iff_ne]; intro e; exact h (by rw [e])
section
open Go.RowKit
theorem ya5 {w : World} {b off : Nat} {l : List UInt8} (h : w.rangeAt b off (yb l)) {k : Nat} (hk : k < l.length) : w.cell? ⟨b, off + k, none⟩ = some (.int .u8 (l.getD k 0).toNat) := by
 refine h _ _ ?_; simp [yb, List.getD, hk]
theorem pair_ext {x y : Int × Int} (h : (!x.1 == y.1) = false ∧ (!x.2 == y.2) = false) : x = y := by
 simp only [Bool.not_eq_false', beq_iff_eq] at h; exact Prod.ext h.1 h.2
theorem pair_ne {x y : Int × Int} (h : (!x.1 == y.1) = true ∨ (!x.2 == y.2) = true) : x ≠ y := by
 rintro rfl; simp at h
end
def sameB (l r : List (Int × Int)) (b v b' v' : Int) (S S' : List UInt8) : Bool := (l == r) && (decide (b = b') && (decide (v = v') && (S == S')))
end
section
open Go.ChangeShapes Go.WideShapes Go.ChangeAt Go.RowKit Hp
theorem bytes_of_cells : ∀ (L : List Value), (∀ v ∈ L, ∃ k : Int, v = .int .u8 k ∧ 0 ≤ k ∧ k < 256) → ∃ S : List UInt8, L = yb S ∧ S.length = L.length
 | [], _ => ⟨[], rfl, rfl⟩
 | v :: L, h => by
  obtain ⟨S, hS, hl⟩ := bytes_of_cells L fun x hx => h x (List.mem_cons_of_mem _ hx); obtain ⟨k, rfl, h0, h1⟩ := h v (List.mem_cons_self); refine ⟨UInt8.ofNat k.toNat :: S, ?_, by simp [hl]⟩; have : ((UInt8.ofNat k.toNat).toNat : Int) = k := by rw [UInt8.toNat_ofNat']; omega
  simp only [yb, List.map_cons] at hS ⊢; rw [hS, this]
end
section
open Go.ChangeShapes Go.WideShapes Go.ChangeAt Go.RowKit Go.Deep Go.Lib Go.Joins Hp
theorem rd_ints {w : World} {b off len cap : Nat} (f : Nat → UInt8) (hl : len ≤ cap) (hc : cap ≤ maxLen) (h : ∀ i, i < len → w.cell? ⟨b, off + i, none⟩ = some (.int .u8 (f i).toNat)) :
  Rd w (.slice (some ⟨b, off, none⟩) len cap) 1 len (yb ((List.range len).map f)) := by
 refine Rd.mk hl hc (by simp) ?_; intro k v hk; rw [yb, List.getElem?_map, List.getElem?_map] at hk; by_cases hi : k < len
 ·rw [List.getElem?_range hi] at hk; simp at hk; subst hk; exact h k hi
 ·rw [List.getElem?_eq_none (by simpa using hi)] at hk; simp at hk
theorem open_int {H : Type} {enc : TypeId × Value → H} {W : World} {base fuel : Nat} {v : Value} {x : DataW H × List MemPlace} (hv : Value.okWide Tryz.prog W .any base 3 v)
  (h : DataW.trod enc Tryz.prog W 0 (fun _ => true) true fuel 3 v.cells.toList = some x) : ∃ z : Int, v = .int .i64 z ∧ -9223372036854775808 ≤ z ∧ z ≤ 9223372036854775807 := by
 obtain ⟨z, e, _, hw⟩ := DataW.trod_int Tryz.underlying3 h; have hv' : ∃ z', v = .int .i64 z' := by
  unfold Value.okWide at hv; rw [Tryz.underlying3] at hv; simp only [Cell.okWide, Tryz.underlying3] at hv; cases v <;> simp_all [Cell.ok]
 obtain ⟨z', rfl⟩ := hv'; simp [Value.cells] at e; subst e; simp only [Lit.wf, Bool.and_eq_true, decide_eq_true_eq] at hw; have h3 : IntKind.i64.min = -9223372036854775808 := rfl; have h4 : IntKind.i64.max = 9223372036854775807 := rfl; exact ⟨_, rfl, by omega, by omega⟩
end
section
open Go.RowKit Hp
section
open Go.ChangeShapes
variable {H : Type} {enc : TypeId × Value → H} {P : Program} {w : World} {base : Nat} {spare : Nat → Bool} {held : Bool}
end
end
section
open Go.ChangeShapes Go.WideShapes Go.ChangeAt Go.RowKit Go.Deep Go.Lib Go.Joins Hp
theorem cellsA : Tryz.prog.cellsOf 30 = 1 := by kernel_rfl
theorem cellsE : Tryz.prog.cellsOf 83 = 2 := by kernel_rfl
theorem cellsI : Tryz.prog.cellsOf 3 = 1 := by kernel_rfl
theorem cellsB : Tryz.prog.cellsOf 5 = 1 := by kernel_rfl
theorem cellsD : Tryz.prog.cellsOf 32 = 32 := by kernel_rfl
theorem cellsP : Tryz.prog.cellsOf 34 = 35 := by kernel_rfl
theorem open_id {H : Type} {enc : TypeId × Value → H} {W : World} {fuel : Nat} {T : List Value} {x : DataW H × List MemPlace} (hT : T.length = 32)
  (h : DataW.trod enc Tryz.prog W 0 (fun _ => true) true fuel 32 T = some x) : ∃ S, T = yb S ∧ L32 S := by
 obtain ⟨xs, m, _, _, _, hxs, hx⟩ := DataW.trod_array Tryz.underlying32 h; obtain ⟨S, hS, hl⟩ := bytes_of_cells T (by
  intro v hv; obtain ⟨i, hi, rfl⟩ := List.getElem_of_mem hv; have h1 := hx i (by omega); rw [cellsB, Nat.mul_one, List.getElem?_eq_getElem (by omega)] at h1; obtain ⟨k, e, _, hw⟩ := DataW.trod_int Tryz.underlying5 h1; have e2 : T[i] = .int .u8 k := by
   have := congrArg (·[0]?) e; simpa [List.getElem?_take, List.getElem?_drop, hi] using this
  refine ⟨k, e2, ?_⟩; simp only [Lit.wf, Bool.and_eq_true, decide_eq_true_eq] at hw; have h3 : IntKind.u8.min = 0 := rfl; have h4 : IntKind.u8.max = 255 := rfl; omega)
 exact ⟨S, hS, by unfold L32; omega⟩
end
section
open Hp
def byteAt (n : Int) (i : Nat) : UInt8 := UInt8.ofNat ((n / 2 ^ (8 * i)) % 256).toNat
theorem byteAt_int (n : Int) (i : Nat) : ((byteAt n i).toNat : Int) = n / 2 ^ (8 * i) % 256 := by
 unfold byteAt; rw [UInt8.toNat_ofNat']; have := Int.emod_nonneg (n / 2 ^ (8 * i)) (show (256 : Int) ≠ 0 by decide); have := Int.emod_lt_of_pos (n / 2 ^ (8 * i)) (show (0 : Int) < 256 by decide); omega
def qG (n : Int) : Nat → List UInt8
 | 0 => []
 | k + 1 => byteAt n k :: qG n k
theorem length_numB (n : Int) (k : Nat) : (qG n k).length = k := by
 induction k with
 | zero => rfl
 | succ k ih => simp [qG, ih]
theorem numB_get (n : Int) : ∀ (k i : Nat), i < k → (qG n k)[i]? = some (byteAt n (k - 1 - i))
 | 0, _, h => by omega
 | k + 1, 0, _ => by simp [qG]
 | k + 1, i + 1, h => by
  simp only [qG, List.getElem?_cons_succ]; rw [numB_get n k i (by omega)]
  congr 2; omega
theorem numB_take (n : Int) (k i : Nat) (h : i < k) : (qG n k).take (i + 1) = (qG n k).take i ++ [byteAt n (k - 1 - i)] := by
 rw [List.take_add_one, numB_get n k i h]; rfl
theorem yaW (l k : List UInt8) : yb (l ++ k) = yb l ++ yb k := by simp [yb]
def beN (l : List UInt8) : Nat := l.foldl (fun a x => a * 256 + x.toNat) 0
section
open Go.RowKit
theorem Rd.tail {w : World} {b off n c k : Nat} {l : List UInt8} (h : Rd w (.slice (some ⟨b, off, none⟩) n c) 1 n (yb l)) (hk : k ≤ n) (hc : k < c) : Rd w (.slice (some ⟨b, off + k, none⟩) (n - k) (c - k)) 1 (n - k) (yb (l.drop k)) := by
 have hl := h.bd; have hr := h.range; obtain ⟨hl1, ao, c', he, hn, hcm, hnone, hsome⟩ := h; simp only [Value.slice.injEq, true_and] at he; obtain ⟨he1, rfl⟩ := he; refine Rd.mk (by omega) (by unfold maxLen at *; omega) (by simp at hl1 ⊢; omega) ?_; intro j v hv; have := hr (k + j) v (by simpa [yb, List.getElem?_drop] using hv); rwa [← Nat.add_assoc] at this
end
def addrB (l : List (Int × Int)) (i : Nat) : List UInt8 := qG (l.getD i (0, 0)).1 1 ++ qG (l.getD i (0, 0)).2 2
def addrsB (l : List (Int × Int)) : Nat → List UInt8
 | 0 => []
 | k + 1 => addrsB l k ++ addrB l k
def bytesP (l : List (Int × Int)) (b v : Int) (S : List UInt8) : List UInt8 := qG l.length 1 ++ addrsB l 3 ++ qG b 4 ++ qG v 1 ++ S
def rA (bs : List UInt8) (i : Nat) : Int × Int := (beN ((bs.drop (1 + 3 * i)).take 1), beN ((bs.drop (2 + 3 * i)).take 2))
def rAddrs (bs : List UInt8) : Nat → List (Int × Int)
 | 0 => []
 | k + 1 => rAddrs bs k ++ (if k < beN (bs.take 1) then [rA bs k] else [])
def rBirth (bs : List UInt8) : Nat := beN ((bs.drop 10).take 4)
def rLevel (bs : List UInt8) : Nat := beN ((bs.drop 14).take 1)
def rSum (bs : List UInt8) : List UInt8 := bs.drop 15
def rOK (bs : List UInt8) : Bool := decide (bs.length = 47) && (zQ (rAddrs bs 3) (rBirth bs) (rLevel bs) (rSum bs) && (bytesP (rAddrs bs 3) (rBirth bs) (rLevel bs) (rSum bs) == bs))
def rErr (bs : List UInt8) : Int := if bs.length = 47 then 2 else 4
def rAt (bs : List UInt8) : Int := if bs.length = 47 then 0 else if bs.length < 47 then bs.length else 47
def readEnd (bs : List UInt8) (w : World) (T E : TypeId) (e : Ending) (w' : World) : Prop :=
 if rOK bs then ∃ ao n c, e = .returned (.agg (yd (.slice ao n c) (rBirth bs) (rLevel bs) (rSum bs)).toArray) ∧ St w [] w' [.row (.slice ao n c) E 2 n (yu (rAddrs bs 3))] ∧ (rAddrs bs 3).length = n
 else e = .panicked [{ v := .iface T (.agg #[.int .i64 (rErr bs), .int .i64 (rAt bs)]), recovered := false }] ∧ St w [] w' []
theorem jY {w0 w : World} {M : List Nat} {L : List HA} (T : TypeId) (sz : Nat) (h : St w0 M w L) : St w0 M w (.row (.slice none 0 0) T sz 0 [] :: L) := by
 refine ⟨h.os, h.tape, h.output, h.size, h.old, fun x hx => ?_, fun x hx k hk => ?_, ?_⟩
 ·rcases List.mem_cons.1 hx with rfl | hx
  ·exact ⟨by simp, .inl ⟨rfl, rfl⟩⟩
  ·exact h.all x hx
 ·rcases List.mem_cons.1 hx with rfl | hx
  ·cases hk
  ·exact h.own x hx k hk
 ·refine List.Pairwise.cons (fun y _ k hk => ?_) h.apart; cases hk
theorem St.rowSlice {w0 w : World} {M : List Nat} {L : List HA} {v : Value} {T : TypeId} {sz n : Nat} {xs : List Value} (h : St w0 M w L) (hm : HA.row v T sz n xs ∈ L) : ∃ ao c, v = .slice ao n c := by
 have := h.owns hm; rcases this.2 with ⟨rfl, rfl⟩ | ⟨g, cap, cur, rfl, _⟩
 ·exact ⟨none, 0, rfl⟩
 ·exact ⟨_, _, rfl⟩
theorem yZ {w0 w : World} {M : List Nat} (L1 : List HA) {L2 : List HA} {v : Value} {T : TypeId} {sz n : Nat} {xs : List Value} (h : St w0 M w (L1 ++ .row v T sz n xs :: L2)) : ∃ ao c, v = .slice ao n c :=
 St.rowSlice h (T := T) (sz := sz) (xs := xs) (by simp)
theorem qH (ao : Option Addr) (n c : Nat) (b l : Int) (S : List UInt8) : (yd (.slice ao n c) b l S).all (·.oneCell') = true := by
 show (true && (true && (true && (yb S).all (·.oneCell')))) = true; rw [yD]; rfl
def readOut (bs : List UInt8) (w : World) (E : TypeId) (e : Ending) (w' : World) : Prop :=
 if rOK bs then ∃ ao n c, e = .returned (.tuple #[.agg (yd (.slice ao n c) (rBirth bs) (rLevel bs) (rSum bs)).toArray, .agg #[.int .i64 0, .int .i64 0]]) ∧ St w [] w' [.row (.slice ao n c) E 2 n (yu (rAddrs bs 3))] ∧ (rAddrs bs 3).length = n
 else e = .returned (.tuple #[.agg (yd (.slice none 0 0) 0 0 nones).toArray, .agg #[.int .i64 (rErr bs), .int .i64 (rAt bs)]]) ∧ St w [] w' []
theorem readEnd.ok {bs : List UInt8} {w w' : World} {T E : TypeId} {e : Ending} (h : rOK bs = true) (hr : readEnd bs w T E e w') : ∃ ao n c, e = .returned (.agg (yd (.slice ao n c) (rBirth bs) (rLevel bs) (rSum bs)).toArray) ∧ St w [] w' [.row (.slice ao n c) E 2 n (yu (rAddrs bs 3))] ∧ (rAddrs bs 3).length = n := by
 unfold readEnd at hr; rwa [if_pos h] at hr
theorem readOut.ok {bs : List UInt8} {w w' : World} {E : TypeId} {e : Ending} (h : rOK bs = true) (hr : readOut bs w E e w') : ∃ ao n c, e = .returned (.tuple #[.agg (yd (.slice ao n c) (rBirth bs) (rLevel bs) (rSum bs)).toArray, .agg #[.int .i64 0, .int .i64 0]]) ∧ St w [] w' [.row (.slice ao n c) E 2 n (yu (rAddrs bs 3))] ∧ (rAddrs bs 3).length = n := by
 unfold readOut at hr; rwa [if_pos h] at hr
section
variable {l : List (Int × Int)} {b v : Int} {S : List UInt8}
end

end
section
open Go.RowKit
namespace Hp
variable {P : Program}
def yn (T : TypeId) (A : Addr) : Sem Value := loadVar T A
theorem ldA {w0 w : World} {M : List Nat} {T T' : TypeId} {g off n : Nat} {cs : List Value} (vs : List Value) (L1 : List HA) {L2 : List HA} (hst : St w0 M w (L1 ++ .blk g T' cs :: L2)) [ht : TyA P T n] (hn : vs.length = n) (hv : (cs.drop off).take vs.length = vs) :
  (yn T ⟨g, off, none⟩).run P w = .ok (.agg vs.toArray) w := yl vs L1 hst hn hv
theorem yp {w0 w : World} {M : List Nat} {T T' : TypeId} {g off : Nat} {v : Value} {cs : List Value} (L1 : List HA) {L2 : List HA} (hst : St w0 M w (L1 ++ .blk g T' cs :: L2)) [ht : TyS P T] (hv : cs[off]? = some v) :
  (yn T ⟨g, off, none⟩).run P w = .ok v w := Loads.at L1 hst hv
theorem ldO {w0 w : World} {L : List HA} {T : TypeId} {A : Addr} {v : Value} (hst : St w0 [] w L) [ht : TyS P T] (h : w0.cell? A = some v) : (yn T A).run P w = .ok v w := Loads.old hst h
/-- A load that a region may count on. -/
abbrev Ld (T : TypeId) (g o : Nat) (v : Value) (w : World) : Prop := (yn T ⟨g, o, none⟩).run Tryz.prog w = .ok v w
theorem pL : (∀ (l : List Value) (ds : List Deferred) (k : Nat) (v : Value), Act.put ⟨l.toArray, ds⟩ (some k) v = ⟨(l.set k v).toArray, ds⟩) ∧ (∀ (a : Act) (v : Value), Act.put a none v = a) ∧ (∀ (a b : Value) (l : List Value), (a :: l).set 0 b = b :: l) ∧ (∀ (a b : Value) (l : List Value) (k : Nat), (a :: l).set (k + 1) b = a :: l.set k b) :=
 ⟨fun l ds k v => by simp only [Act.put, List.setIfInBounds_toArray], fun _ _ => rfl, fun _ _ _ => rfl, fun _ _ _ _ => rfl⟩
section
variable {P : Program} {ops : Array Oper} {Q : Exit → Act → World → Prop} {md : Region.Mode} {S : World → Prop} {op : Op} {ty : TypeId} {pos : String} {af : Array Edge} {g : Option (Nat × Bool)} {fuel : Nat} {listed : Array Bool} {a b : Act} {w : World} {s : Nat}
theorem jt {v : Value} (i : Nat) (hi : ops[i]? = some ⟨some s, op, ty, pos, af, g⟩ := by rfl) (hb : (Region.noSelect ops && (Region.free md ops listed i && (Region.ready md ops listed).contains i)) = true := by kernel_rfl)
  (hQ : ∀ c a w, Q (.panic c) (a.put (some s) v) w → Q (.panic c) a w := by exact fun _ _ _ h => h) (hw : Region.wanted ⟨some s, op, ty, pos, af, g⟩ (yielded ops a.tmps) = true := by rfl) (hS : S w := by assumption) (hy : ∀ w, S w → (execOp a.eval ⟨some s, op, ty, pos, af, g⟩).run P w = .ok (.value v) w := by (intro w hSw; (try dsimp only [Ld] at hSw); go_simp; try with_reducible rfl)) (ha : a.put (some s) v = b := by ((try simp only [pL]); rfl))
  (h : wpAnyH P md ops Q S fuel (listed.setIfInBounds i true) b w) : wpAnyH P md ops Q S (fuel + 1) listed a w := by
 subst ha; simp only [Bool.and_eq_true] at hb; exact wpAnyH_take hi hb.1 hb.2.1 hb.2.2 hQ (Or.inl ⟨hw, hy⟩) hS h
theorem ju (i : Nat) (hi : ops[i]? = some ⟨some s, op, ty, pos, af, g⟩ := by rfl) (hb : (Region.noSelect ops && (Region.free md ops listed i && (Region.ready md ops listed).contains i)) = true := by kernel_rfl)
  (hQ : ∀ c a w, Q (.panic c) (a.put (some s) undef) w → Q (.panic c) a w := by exact fun _ _ _ h => h) (hw : Region.wanted ⟨some s, op, ty, pos, af, g⟩ (yielded ops a.tmps) = false := by rfl) (hS : S w := by assumption) (ha : a.put (some s) undef = b := by ((try simp only [pL]); rfl))
  (h : wpAnyH P md ops Q S fuel (listed.setIfInBounds i true) b w) : wpAnyH P md ops Q S (fuel + 1) listed a w := by
 subst ha; simp only [Bool.and_eq_true] at hb; exact wpAnyH_take hi hb.1 hb.2.1 hb.2.2 hQ (Or.inr ⟨hw, rfl⟩) hS h
theorem wD {id : Nat} (hS : S w.drew) (h : S w.drew → wpAnyH P .any ops Q S ops.size (Array.replicate ops.size false) a w.drew) (hm : P.follows .mixedOrders = true := by kernel_rfl) : (Code.region id ops true).wp P Q a w := wp_region_held_drew hm hS h
theorem jn (h : Q .normal a w) (hr : Region.ready md ops listed = [] := by kernel_rfl) : wpAnyH P md ops Q S fuel listed a w := wpAnyH_done hr h _
def Bk (P : Program) (md : Region.Mode) (ops : Array Oper) (Q : Exit → Act → World → Prop) (S : World → Prop) (fuel : Nat) (listed : Array Bool) (K : Act → World → Prop) : Prop := Shut (∀ a w, S w → (S w → wpAnyH P md ops Q S fuel listed a w) → K a w)
theorem kD {K : Act → World → Prop} (hK : Bk P md ops Q S fuel listed K) (hS : S w) (ha : a = b := by ((try simp only [pL]); rfl)) (h : S w → wpAnyH P md ops Q S fuel listed b w) : K a w := by
 subst ha; exact Shut.out hK _ _ hS h
theorem yF {d0 : Option Tmp} {op0 : Op} {ty0 : TypeId} {pos0 : String} {af0 : Array Edge} {g0 : Option (Nat × Bool)} (i0 : Nat) (hr : Region.ready md ops listed = [i0] := by kernel_rfl) (ho0 : ops[i0]? = some ⟨d0, op0, ty0, pos0, af0, g0⟩ := by rfl) (hw0 : Region.wanted ⟨d0, op0, ty0, pos0, af0, g0⟩ (yielded ops a.tmps) = true := by rfl)
  (h0 : ∀ K, Bk P md ops Q S fuel (listed.setIfInBounds i0 true) K → Oper.wp P ⟨d0, op0, ty0, pos0, af0, g0⟩ a w K Q) : wpAnyH P md ops Q S (fuel + 1) listed a w :=
 wpAnyH_ready hr (by simp) (AllReadyH.cons ho0 (fun K hK => by rw [if_pos hw0]; exact h0 K hK) AllReadyH.nil)
section
variable {d0 : Option Tmp} {op0 : Op} {ty0 : TypeId} {pos0 : String} {af0 : Array Edge} {g0 : Option (Nat × Bool)} {d1 : Option Tmp} {op1 : Op} {ty1 : TypeId} {pos1 : String} {af1 : Array Edge} {g1 : Option (Nat × Bool)}
theorem jx2 (i0 i1 : Nat) (hr : Region.ready md ops listed = [i0, i1] := by kernel_rfl) (ho0 : ops[i0]? = some ⟨d0, op0, ty0, pos0, af0, g0⟩ := by rfl) (hw0 : Region.wanted ⟨d0, op0, ty0, pos0, af0, g0⟩ (yielded ops a.tmps) = true := by rfl) (ho1 : ops[i1]? = some ⟨d1, op1, ty1, pos1, af1, g1⟩ := by rfl) (hw1 : Region.wanted ⟨d1, op1, ty1, pos1, af1, g1⟩ (yielded ops a.tmps) = true := by rfl)
  (h0 : ∀ K, Bk P md ops Q S fuel (listed.setIfInBounds i0 true) K → Oper.wp P ⟨d0, op0, ty0, pos0, af0, g0⟩ a w K Q) (h1 : ∀ K, Bk P md ops Q S fuel (listed.setIfInBounds i1 true) K → Oper.wp P ⟨d1, op1, ty1, pos1, af1, g1⟩ a w K Q) : wpAnyH P md ops Q S (fuel + 1) listed a w :=
 wpAnyH_ready hr (by simp) (AllReadyH.cons ho0 (fun K hK => by rw [if_pos hw0]; exact h0 K hK) (AllReadyH.cons ho1 (fun K hK => by rw [if_pos hw1]; exact h1 K hK) AllReadyH.nil))
theorem jx3 {d2 : Option Tmp} {op2 : Op} {ty2 : TypeId} {pos2 : String} {af2 : Array Edge} {g2 : Option (Nat × Bool)} (i0 i1 i2 : Nat) (hr : Region.ready md ops listed = [i0, i1, i2] := by kernel_rfl) (ho0 : ops[i0]? = some ⟨d0, op0, ty0, pos0, af0, g0⟩ := by rfl) (hw0 : Region.wanted ⟨d0, op0, ty0, pos0, af0, g0⟩ (yielded ops a.tmps) = true := by rfl) (ho1 : ops[i1]? = some ⟨d1, op1, ty1, pos1, af1, g1⟩ := by rfl) (hw1 : Region.wanted ⟨d1, op1, ty1, pos1, af1, g1⟩ (yielded ops a.tmps) = true := by rfl) (ho2 : ops[i2]? = some ⟨d2, op2, ty2, pos2, af2, g2⟩ := by rfl) (hw2 : Region.wanted ⟨d2, op2, ty2, pos2, af2, g2⟩ (yielded ops a.tmps) = true := by rfl)
  (h0 : ∀ K, Bk P md ops Q S fuel (listed.setIfInBounds i0 true) K → Oper.wp P ⟨d0, op0, ty0, pos0, af0, g0⟩ a w K Q) (h1 : ∀ K, Bk P md ops Q S fuel (listed.setIfInBounds i1 true) K → Oper.wp P ⟨d1, op1, ty1, pos1, af1, g1⟩ a w K Q) (h2 : ∀ K, Bk P md ops Q S fuel (listed.setIfInBounds i2 true) K → Oper.wp P ⟨d2, op2, ty2, pos2, af2, g2⟩ a w K Q) : wpAnyH P md ops Q S (fuel + 1) listed a w :=
 wpAnyH_ready hr (by simp) (AllReadyH.cons ho0 (fun K hK => by rw [if_pos hw0]; exact h0 K hK) (AllReadyH.cons ho1 (fun K hK => by rw [if_pos hw1]; exact h1 K hK) (AllReadyH.cons ho2 (fun K hK => by rw [if_pos hw2]; exact h2 K hK) AllReadyH.nil)))
end
end
end Hp
namespace Hp
variable {P : Program}
end Hp
end
section
open Go.RowKit Hp
structure PV where
 sv : Value
 l : List (Int × Int)
 b : Int
 v : Int
 S : List UInt8
def PV.cells (p : PV) : List Value := yd p.sv p.b p.v p.S
def PV.In (w : World) (p : PV) : Prop := L32 p.S ∧ ∃ ao n c, p.sv = .slice ao n c ∧ Rd w (.slice ao n c) 2 n (yu p.l) ∧ p.l.length = n
def PV.hole (p : PV) : Bool := qM p.l.length p.b p.v p.S
def PV.ok (p : PV) : Bool := zQ p.l p.b p.v p.S
def PV.same (p q : PV) : Bool := sameB p.l q.l p.b p.v q.b q.v p.S q.S
def PV.bytes (p : PV) : List UInt8 := bytesP p.l p.b p.v p.S
def PV.fits (p : PV) (lv : Int) : Bool := p.hole || (p.ok && decide (p.v = lv - 1))
theorem PV.In.old {w0 w : World} {L : List HA} {p : PV} (hst : St w0 [] w L) (h : p.In w0) : p.In w := by
 obtain ⟨h1, ao, n, c, h2, h3, h4⟩ := h; exact ⟨h1, ao, n, c, h2, Rd.old hst h3, h4⟩
theorem PV.len {p : PV} (h : L32 p.S) : p.cells.length = 35 := yo h _ _ _
structure NV where
 lv : Int
 p0 : PV
 p1 : PV
 p2 : PV
 p3 : PV
def NV.get (x : NV) : Nat → PV
 | 0 => x.p0
 | 1 => x.p1
 | 2 => x.p2
 | _ => x.p3
def NV.cells (x : NV) : List Value := .int .i64 x.lv :: (x.p0.cells ++ (x.p1.cells ++ (x.p2.cells ++ x.p3.cells)))
def NV.In (w : World) (x : NV) : Prop := ∀ k, (x.get k).In w
theorem NV.In.old {w0 w : World} {L : List HA} {x : NV} (hst : St w0 [] w L) (h : x.In w0) : x.In w := fun k => (h k).old hst
def NV.Ln (x : NV) : Prop := ∀ k, L32 (x.get k).S
theorem NV.In.ln {w : World} {x : NV} (h : x.In w) : x.Ln := fun k => (h k).1
theorem NV.len {x : NV} (h : x.Ln) : x.cells.length = 141 := by
 have h0 := PV.len (h 0); have h1 := PV.len (h 1); have h2 := PV.len (h 2); have h3 := PV.len (h 3); simp only [NV.get] at h0 h1 h2 h3; simp [NV.cells, h0, h1, h2, h3]
theorem NV.at {x : NV} (h : x.Ln) {k : Nat} (hk : k < 4) : (x.cells.drop (1 + 35 * k)).take (x.get k).cells.length = (x.get k).cells := by
 have h0 : x.p0.cells.length = 35 := PV.len (h 0); have h1 : x.p1.cells.length = 35 := PV.len (h 1); have h2 : x.p2.cells.length = 35 := PV.len (h 2); have h3 : x.p3.cells.length = 35 := PV.len (h 3); unfold NV.cells; obtain rfl | rfl | rfl | rfl : k = 0 ∨ k = 1 ∨ k = 2 ∨ k = 3 := by omega
 ·simp only [NV.get, Nat.mul_zero, Nat.add_zero, List.drop_succ_cons, List.drop_zero]; rw [List.take_left' rfl]
 ·rw [show 1 + 35 * 1 = 35 + 1 from rfl, List.drop_succ_cons, List.drop_append_of_le_length (by omega), List.drop_of_length_le (by omega), List.nil_append]; exact List.take_left' rfl
 ·rw [show 1 + 35 * 2 = (35 + 35) + 1 from rfl, List.drop_succ_cons, ← List.drop_drop, List.drop_append_of_le_length (by omega), List.drop_of_length_le (l := x.p0.cells) (by omega), List.nil_append, List.drop_append_of_le_length (by omega), List.drop_of_length_le (l := x.p1.cells) (by omega), List.nil_append]; exact List.take_left' rfl
 ·rw [show 1 + 35 * 3 = (35 + (35 + 35)) + 1 from rfl, List.drop_succ_cons, ← List.drop_drop, List.drop_append_of_le_length (by omega), List.drop_of_length_le (l := x.p0.cells) (by omega), List.nil_append, show (70 : Nat) = 35 + 35 from rfl, ← List.drop_drop, List.drop_append_of_le_length (by omega), List.drop_of_length_le (l := x.p1.cells) (by omega), List.nil_append, List.drop_append_of_le_length (by omega), List.drop_of_length_le (l := x.p2.cells) (by omega), List.nil_append]; exact List.take_of_length_le (Nat.le_refl _)
theorem NV.at' {x : NV} (h : x.Ln) {k : Nat} (hk : k < 4) : (x.cells.drop (1 + k * 35)).take (x.get k).cells.length = (x.get k).cells := by rw [Nat.mul_comm]; exact NV.at h hk
theorem NV.all (x : NV) : (x.cells.drop 0).take x.cells.length = x.cells := by simp
def NV.fitsAll (x : NV) : Bool := x.p0.fits x.lv && (x.p1.fits x.lv && (x.p2.fits x.lv && x.p3.fits x.lv))
def NV.ok (x : NV) : Bool := decide (1 ≤ x.lv ∧ x.lv ≤ 3) && x.fitsAll
def NV.empty (x : NV) : Bool := x.p0.hole && (x.p1.hole && (x.p2.hole && x.p3.hole))
def NV.same (x y : NV) : Bool := x.p0.same y.p0 && (x.p1.same y.p1 && (x.p2.same y.p2 && (x.p3.same y.p3 && decide (x.lv = y.lv))))
end
section
open Go.ChangeShapes Go.WideShapes Go.ChangeAt Go.RowKit Go.Deep Go.Lib Go.Joins Hp
theorem flat_invD {α : Type} {f : α → List Value} {sz : Nat} (hl : ∀ a, (f a).length = sz) : ∀ (ks : List α) (k : Nat) (v : Value), (ks.flatMap f)[k]? = some v → ∃ i j x, ks[i]? = some x ∧ k = i * sz + j ∧ (f x)[j]? = some v ∧ j < sz
 | [], k, v, h => by simp at h
 | x :: ks, k, v, h => by
  rw [List.flatMap_cons] at h; by_cases hk : k < sz
  ·rw [List.getElem?_append_left (by rw [hl]; exact hk)] at h; exact ⟨0, k, x, rfl, by omega, h, hk⟩
  ·rw [List.getElem?_append_right (by rw [hl]; omega), hl] at h; obtain ⟨i, j, y, h1, h2, h3, h4⟩ := flat_invD hl ks (k - sz) v h; refine ⟨i + 1, j, y, by simpa using h1, ?_, h3, h4⟩; rw [Nat.succ_mul]; omega
theorem flat_lenD {α : Type} {f : α → List Value} {sz : Nat} (hl : ∀ a, (f a).length = sz) (ks : List α) : (ks.flatMap f).length = ks.length * sz := by
 induction ks with
 | nil => simp
 | cons x ks ih => rw [List.flatMap_cons, List.length_append, ih, hl, List.length_cons, Nat.succ_mul]; omega
theorem spot_addD {a : Addr} (h : (a.add 0).spot = none) : a.spot = none := by
 simpa [Addr.add] using h
theorem spot_cellD {W : World} {a : Addr} {v : Value} (h1 : W.cell? a = some v) : a.spot = none := by
 unfold World.cell? at h1; split at h1
 ·by_cases hs : a.spot = none
  ·exact hs
  ·have : (a.spot).isSome = true := by
    cases hq : a.spot with
    | none => exact absurd hq hs
    | some q => rfl
   rw [if_pos this] at h1; cases h1
 ·cases h1
theorem open_structsD {α : Type} [Inhabited α] {f : α → List Value} {sz : Nat} (hl : ∀ a, (f a).length = sz) (hsz : 0 < sz) (ok : α → World → Prop) {H : Type} {enc : TypeId × Value → H} {W : World} {fuel : Nat} {T e : TypeId} {cs : List Value} {x : DataW H × List MemPlace} (hT : Tryz.prog.underlying T = some (.slice e)) (he : Tryz.prog.cellsOf e = sz)
  (hop : ∀ (fuel : Nat) (cs : List Value) (x : DataW H × List MemPlace), cs.length = sz → DataW.trod enc Tryz.prog W 0 (fun _ => true) true fuel e cs = some x → ∃ k : α, cs = f k ∧ ok k W)
  (h : DataW.trod enc Tryz.prog W 0 (fun _ => true) true fuel T cs = some x) : ∃ ao n c, ∃ ks : List α, cs = [.slice ao n c] ∧ Rd W (.slice ao n c) sz n (ks.flatMap f) ∧ ks.length = n ∧ ∀ x ∈ ks, ok x W := by
 rcases open_slice hT h with ⟨hc, _⟩ | ⟨a', len, cap, m, n, D, Pl, hc, _, hll, hm, hmm, _, hx⟩
 ·exact ⟨none, 0, 0, [], hc, Rd.nil _ _, rfl, by simp⟩
 ·by_cases h0 : cap = 0
  ·subst h0; obtain rfl : len = 0 := by omega
   exact ⟨some a', 0, 0, [], hc, Rd.empty _ _ _, rfl, by simp⟩
  ·simp only [if_true] at hmm; rw [he] at hx; obtain ⟨cs0, h1, h2⟩ := hx 0 (by omega); obtain ⟨_, hlen0, hcell0⟩ := World.cells?_some h1; have hspot : a'.spot = none := by
    have h3 := hcell0 0 hsz; rw [Nat.zero_mul] at h3; have : cs0[0]? = some cs0[0] := List.getElem?_eq_getElem (by omega); rw [this] at h3; exact spot_addD (spot_addD (spot_cellD h3))
   obtain ⟨b, off, rfl⟩ : ∃ b off, a' = ⟨b, off, none⟩ := ⟨a'.block, a'.off, by cases a'; simp_all⟩; obtain ⟨K, hK⟩ := choose_lt (α := α) (p := fun i k => ok k W ∧ ∀ j, j < sz → W.cell? ⟨b, off + i * sz + j, none⟩ = (f k)[j]?) (fun i hi => by
    obtain ⟨cs', h1, h2⟩ := hx i hi; obtain ⟨_, hlen, hcell⟩ := World.cells?_some h1; obtain ⟨k, rfl, hk⟩ := hop _ _ _ hlen h2; refine ⟨k, hk, fun j hj => ?_⟩; have := hcell j hj; rwa [Addr.add_mid, Addr.add_mid] at this)
   refine ⟨_, len, cap, (List.range len).map K, hc, Rd.mk hll hm (by rw [flat_lenD hl, List.length_map, List.length_range]) (fun k v hk => ?_), by simp, fun x hx => ?_⟩
   ·obtain ⟨i, j, y, h1, rfl, h3, h4⟩ := flat_invD hl _ _ _ hk; have hi : i < len := by
     have := (List.getElem?_eq_some_iff.1 h1).1; simpa using this
    rw [List.getElem?_map, List.getElem?_range hi] at h1; simp at h1; subst h1; rw [← Nat.add_assoc, (hK i (by omega)).2 j h4, h3]
   ·obtain ⟨i, hi, rfl⟩ := List.mem_map.1 hx; exact (hK i (by have := List.mem_range.1 hi; omega)).1
theorem open_addrsD {H : Type} {enc : TypeId × Value → H} {W : World} {fuel : Nat} {cs : List Value} {x : DataW H × List MemPlace}
  (h : DataW.trod enc Tryz.prog W 0 (fun _ => true) true fuel 30 cs = some x) : ∃ ao n c l, cs = [.slice ao n c] ∧ Rd W (.slice ao n c) 2 n (yu l) ∧ l.length = n := by
 obtain ⟨ao, n, c, ks, e, hr, hl, -⟩ := open_structsD (α := Int × Int) (f := fun a => [.int .i64 a.1, .int .i64 a.2]) (sz := 2) (fun _ => rfl) (by decide) (fun _ _ => True) Tryz.underlying30 cellsE (fun fuel cs x hl h => by
  match cs, hl with
  | [a, b], _ =>
   obtain ⟨y0, y1, n, _, _, h0, h1⟩ := trod_struct2 Tryz.underlying83 h; simp only [cellsI, List.drop_zero, List.drop_succ_cons, List.take_succ_cons, List.take_zero] at h0 h1; obtain ⟨z0, e0, _⟩ := DataW.trod_int Tryz.underlying3 h0; obtain ⟨z1, e1, _⟩ := DataW.trod_int Tryz.underlying3 h1; cases e0; cases e1; exact ⟨(z0, z1), rfl, trivial⟩) h
 refine ⟨ao, n, c, ks, e, ?_, hl⟩; have : ks.flatMap (fun a => [.int .i64 a.1, .int .i64 a.2]) = yu ks := by
  clear hr hl
  induction ks with
  | nil => rfl
  | cons a ks ih => rw [List.flatMap_cons, ih]; rfl
 rw [← this]; exact hr
theorem open_ptrD {H : Type} {enc : TypeId × Value → H} {W : World} {fuel : Nat} {L : List Value} {x : DataW H × List MemPlace} (hL : L.length = 35)
  (h : DataW.trod enc Tryz.prog W 0 (fun _ => true) true fuel 34 L = some x) : ∃ p : PV, L = p.cells ∧ p.In W := by
 match L, hL with
 | a :: b :: c :: T, hL =>
  have hT : T.length = 32 := by simpa using hL
  obtain ⟨y0, y1, y2, y3, n, _, _, h0, h1, h2, h3⟩ := trod_struct4 Tryz.underlying34 h; simp only [cellsA, cellsI, cellsD, List.drop_zero, List.drop_succ_cons, List.take_succ_cons, List.take_zero] at h0 h1 h2 h3; rw [List.take_of_length_le (by omega)] at h3; obtain ⟨zb, eb, _⟩ := DataW.trod_int Tryz.underlying3 h1; obtain ⟨zc, ec, _⟩ := DataW.trod_int Tryz.underlying3 h2; obtain ⟨S, rfl, hS⟩ := open_id hT h3; cases eb; cases ec; obtain ⟨ao, len, cap, l, e, hR, hl⟩ := open_addrsD h0; cases e; exact ⟨⟨.slice ao len cap, l, zb, zc, S⟩, rfl, hS, ao, len, cap, rfl, hR, hl⟩
end
end Go.Proofs.YtmdfbdfijnmhkaaGreat
