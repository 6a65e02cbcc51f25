import Derived.WalkKit
import Derived.WalkSpells
import Derived.WalkLawsBesides
import Derived.BigQuiet
import Derived.Deep.QuietTactic
import Derived.Deep.MidRow
import Derived.BigGuardPart
namespace Go.Proofs.YtmdfbdfijnmhkaaGreat
set_option linter.unusedVariables false
set_option linter.unusedSimpArgs false
open Go.RowKit
namespace Hp
theorem hid {p : Prop} (h : p) : Hid p := h
inductive HA where
  | blk (g : Nat) (T : TypeId) (cs : List Value)
  | row (v : Value) (T : TypeId) (sz n : Nat) (xs : List Value)
  | rowP (p : Value → Bool) (v : Value) (T : TypeId) (sz n : Nat) (xs : List Value)
  | frz (m : Nat × Nat) (g : Nat) (T : TypeId) (cs : List Value)
def AllP (p : Value → Bool) (w : World) (v : Value) (T : TypeId) : Prop := ∀ g cs, v.ownBlock = some g → w.heap[g]? = some (.cells cs T (0, 0)) → cs.toList.all p = true
def HA.foot : HA → Option Nat
  | .blk g _ _ => some g
  | .row v _ _ _ _ => v.ownBlock
  | .rowP _ v _ _ _ _ => v.ownBlock
  | .frz _ g _ _ => some g
def HA.holds (w : World) : HA → Prop
  | .blk g T cs => w.heap[g]? = some (.cells cs.toArray T (0, 0))
  | .row v T sz n xs => w.ownsRow 0 T sz v n xs
  | .rowP p v T sz n xs => w.ownsRow 0 T sz v n xs ∧ AllP p w v T
  | .frz m g T cs => w.heap[g]? = some (.cells cs.toArray T m)
def Apart (L : List HA) : Prop := L.Pairwise fun x y => ∀ k, x.foot = some k → y.foot ≠ some k
structure St (w0 : World) (M : List Nat) (w : World) (L : List HA) : Prop where
  os : w.os = w0.os
  tape : w.tape = w0.tape
  output : w.output = w0.output
  size : w0.heap.size ≤ w.heap.size
  old : ∀ k, k < w0.heap.size → k ∉ M → w.heap[k]? = w0.heap[k]?
  all : ∀ h ∈ L, h.holds w
  own : ∀ h ∈ L, ∀ k, h.foot = some k → w0.heap.size ≤ k ∨ k ∈ M
  apart : Apart L
theorem HA.lt {w : World} {h : HA} (hh : h.holds w) {k : Nat} (hk : h.foot = some k) : k < w.heap.size := by
  cases h with
  | blk g T cs =>
    simp [HA.foot] at hk; subst hk
    exact (Array.getElem?_eq_some_iff.1 hh).1
  | row v T sz n xs => exact (World.ownsRow.lt hh k hk).2
  | rowP p v T sz n xs => exact (World.ownsRow.lt hh.1 k hk).2
  | frz m g T cs =>
    simp [HA.foot] at hk; subst hk
    exact (Array.getElem?_eq_some_iff.1 hh).1
theorem HA.keep {w w' : World} {h : HA} (hh : h.holds w) (hb : ∀ k, h.foot = some k → w'.heap[k]? = w.heap[k]?) : h.holds w' := by
  have key : ∀ (v : Value) (T : TypeId) (sz n : Nat) (xs : List Value), (∀ k, v.ownBlock = some k → w'.heap[k]? = w.heap[k]?) → w.ownsRow 0 T sz v n xs → w'.ownsRow 0 T sz v n xs := by
    intro v T sz n xs hb hh
    obtain ⟨h1, h2⟩ := hh
    refine ⟨h1, ?_⟩
    rcases h2 with h2 | ⟨g, cap, cur, rfl, hg, hh, r⟩
    · exact .inl h2
    · refine .inr ⟨g, cap, cur, rfl, hg, ?_, r⟩
      rw [hb g rfl]; exact hh
  cases h with
  | blk g T cs =>
    show w'.heap[g]? = _
    rw [hb g rfl]; exact hh
  | row v T sz n xs => exact key v T sz n xs hb hh
  | rowP p v T sz n xs =>
    refine ⟨key v T sz n xs hb hh.1, fun g cs hg hc => hh.2 g cs hg ?_⟩
    rw [← hb g hg]; exact hc
  | frz m g T cs =>
    show w'.heap[g]? = _
    rw [hb g rfl]; exact hh
section
variable {w0 w : World} {M : List Nat} {L : List HA}
theorem St.refl (w : World) : St w [] w [] := ⟨rfl, rfl, rfl, Nat.le_refl _, fun _ _ _ => rfl, by simp, by simp, List.Pairwise.nil⟩
theorem St.one (w : World) (g : Nat) (T : TypeId) (cs : List Value) (h : w.heap[g]? = some (.cells cs.toArray T (0, 0))) : St w [g] w [.blk g T cs] :=
  ⟨rfl, rfl, rfl, Nat.le_refl _, fun _ _ _ => rfl, by simpa [HA.holds] using h, by simp [HA.foot], by simp [Apart]⟩
theorem St.below (h : St w0 [] w L) : Below w0.heap.size w0 w := ⟨h.os, h.tape, h.output, h.size, fun k hk => h.old k hk (by simp)⟩
theorem St.sub {L' : List HA} (h : St w0 M w L) (hs : L'.Sublist L) : St w0 M w L' :=
  ⟨h.os, h.tape, h.output, h.size, h.old, fun x hx => h.all x (hs.subset hx), fun x hx => h.own x (hs.subset hx), h.apart.sublist hs⟩
theorem St.nil (h : St w0 M w L) : St w0 M w [] := h.sub (List.nil_sublist _)
theorem St.perm {L' : List HA} (h : St w0 M w L) (hs : L.Perm L') : St w0 M w L' :=
  ⟨h.os, h.tape, h.output, h.size, h.old, fun x hx => h.all x (hs.symm.subset hx), fun x hx => h.own x (hs.symm.subset hx),
   (hs.pairwise_iff (fun hxy k hy hx => hxy k hx hy)).1 h.apart⟩
theorem St.drop {L1 L2 : List HA} {x : HA} (h : St w0 M w (L1 ++ x :: L2)) : St w0 M w (L1 ++ L2) := h.sub (by simp)
theorem St.front (L1 : List HA) {L2 : List HA} {x : HA} (h : St w0 M w (L1 ++ x :: L2)) : St w0 M w (x :: (L1 ++ L2)) := h.perm List.perm_middle
theorem St.rep {L1 L2 : List HA} {x y : HA} (h : St w0 M w (L1 ++ x :: L2)) (hf : y.foot = x.foot) (hh : x.holds w → y.holds w) : St w0 M w (L1 ++ y :: L2) := by
  have hap := h.apart
  unfold Apart at hap
  rw [List.pairwise_append, List.pairwise_cons] at hap
  refine ⟨h.os, h.tape, h.output, h.size, h.old, fun z hz => ?_, fun z hz k hk => ?_, ?_⟩
  · rcases List.mem_append.1 hz with hz | hz
    · exact h.all z (by simp [hz])
    · rcases List.mem_cons.1 hz with rfl | hz
      · exact hh (h.all x (by simp))
      · exact h.all z (by simp [hz])
  · rcases List.mem_append.1 hz with hz | hz
    · exact h.own z (by simp [hz]) k hk
    · rcases List.mem_cons.1 hz with rfl | hz
      · exact h.own x (by simp) k (by rw [← hf]; exact hk)
      · exact h.own z (by simp [hz]) k hk
  · unfold Apart
    rw [List.pairwise_append, List.pairwise_cons]
    refine ⟨hap.1, ⟨fun z hz k hk => hap.2.1.1 z hz k (by rw [← hf]; exact hk), hap.2.1.2⟩, fun z hz u hu k hk => ?_⟩
    rcases List.mem_cons.1 hu with rfl | hu
    · rw [hf]; exact hap.2.2 z hz x (by simp) k hk
    · exact hap.2.2 z hz u (by simp [hu]) k hk
theorem St.unP {L1 L2 : List HA} {p : Value → Bool} {v : Value} {T : TypeId} {sz n : Nat} {xs : List Value} (h : St w0 M w (L1 ++ .rowP p v T sz n xs :: L2)) : St w0 M w (L1 ++ .row v T sz n xs :: L2) := h.rep rfl fun h => h.1
theorem St.drew (h : St w0 M w L) : St w0 M w.drew L := ⟨h.os, h.tape, h.output, h.size, h.old, fun x hx => HA.keep (h.all x hx) fun _ _ => rfl, h.own, h.apart⟩
theorem St.lt (h : St w0 M w L) {x : HA} (hx : x ∈ L) {k : Nat} (hk : x.foot = some k) : k < w.heap.size := HA.lt (h.all x hx) hk
theorem St.alloc (h : St w0 M w L) (T : TypeId) (cs : List Value) : St w0 M (w.alloc (.cells cs.toArray T)) (.blk w.heap.size T cs :: L) := by
  refine ⟨h.os, h.tape, h.output, by simp; exact Nat.le_succ_of_le h.size, fun k hk hM => ?_, fun x hx => ?_, fun x hx k hk => ?_, ?_⟩
  · rw [heap_alloc_old w _ (Nat.lt_of_lt_of_le hk h.size)]; exact h.old k hk hM
  · rcases List.mem_cons.1 hx with rfl | hx
    · exact heap_alloc_new w _
    · exact HA.keep (h.all x hx) fun _ hk => heap_alloc_old w _ (h.lt hx hk)
  · rcases List.mem_cons.1 hx with rfl | hx
    · simp [HA.foot] at hk; subst hk; exact .inl h.size
    · exact h.own x hx k hk
  · refine List.Pairwise.cons (fun y hy k hk hk' => ?_) h.apart
    simp [HA.foot] at hk; subst hk
    exact absurd (h.lt hy hk') (Nat.lt_irrefl _)
theorem St.setRow {L1 L2 : List HA} {g : Nat} {T : TypeId} {cs : List Value} (h : St w0 M w (L1 ++ .blk g T cs :: L2)) (cs' : List Value) :
    St w0 M (w.setRow g cs'.toArray) (L1 ++ .blk g T cs' :: L2) := by
  have hmem : HA.blk g T cs ∈ L1 ++ .blk g T cs :: L2 := by simp
  have hown := h.own _ hmem g rfl
  have hap := h.apart
  unfold Apart at hap
  rw [List.pairwise_append, List.pairwise_cons] at hap
  have hother : ∀ x, x ∈ L1 ∨ x ∈ L2 → ∀ k, x.foot = some k → k ≠ g := by
    rintro x (hx | hx) k hk rfl
    · exact hap.2.2 x hx (.blk k T cs) (by simp) k hk rfl
    · exact hap.2.1.1 x hx k rfl hk
  refine ⟨h.os, h.tape, h.output, by simpa using h.size, fun k hk hM => ?_, fun x hx => ?_, fun x hx k hk => ?_, ?_⟩
  · rw [setRow_other w g k _ (by rintro rfl; rcases hown with h1 | h1; omega; exact hM h1)]; exact h.old k hk hM
  · rcases List.mem_append.1 hx with hx | hx
    · exact HA.keep (h.all x (by simp [hx])) fun k hk => setRow_other w g k _ (hother x (.inl hx) k hk)
    · rcases List.mem_cons.1 hx with rfl | hx
      · exact setRow_heap w g cs.toArray _ T _ (h.all _ hmem)
      · exact HA.keep (h.all x (by simp [hx])) fun k hk => setRow_other w g k _ (hother x (.inr hx) k hk)
  · rcases List.mem_append.1 hx with hx | hx
    · exact h.own x (by simp [hx]) k hk
    · rcases List.mem_cons.1 hx with rfl | hx
      · simp [HA.foot] at hk; subst hk; exact hown
      · exact h.own x (by simp [hx]) k hk
  · unfold Apart
    rw [List.pairwise_append, List.pairwise_cons]
    refine ⟨hap.1, ⟨fun y hy k hk => hap.2.1.1 y hy k hk, hap.2.1.2⟩, fun x hx y hy k hk => ?_⟩
    rcases List.mem_cons.1 hy with rfl | hy
    · exact hap.2.2 x hx (.blk g T cs) (by simp) k hk
    · exact hap.2.2 x hx y (by simp [hy]) k hk
theorem St.cell {g : Nat} {T : TypeId} {cs : List Value} (h : St w0 M w L) (hm : HA.blk g T cs ∈ L) {off : Nat} {v : Value} (hv : cs[off]? = some v) : w.cell? ⟨g, off, none⟩ = some v := by
  have := h.all _ hm
  unfold HA.holds at this
  rw [cell_of_row w g off _ T _ this]; simpa using hv
theorem St.old_cell (h : St w0 M w L) {a : Addr} {v : Value} (hv : w0.cell? a = some v) (hM : a.block ∉ M) : w.cell? a = some v :=
  (World.cell?_of_block (h.old a.block (World.block_lt_of_cell? w0 a hv) hM)).trans hv
theorem St.call {w' : World} {L' : List HA} (h : St w0 M w L) (h' : St w [] w' L') : St w0 M w' (L' ++ L) := by
  refine ⟨h'.os.trans h.os, h'.tape.trans h.tape, h'.output.trans h.output, Nat.le_trans h.size h'.size, fun k hk hM => ?_, fun x hx => ?_, fun x hx k hk => ?_, ?_⟩
  · exact (h'.old k (Nat.lt_of_lt_of_le hk h.size) (by simp)).trans (h.old k hk hM)
  · rcases List.mem_append.1 hx with hx | hx
    · exact h'.all x hx
    · exact HA.keep (h.all x hx) fun k hk => h'.old k (h.lt hx hk) (by simp)
  · rcases List.mem_append.1 hx with hx | hx
    · rcases h'.own x hx k hk with h1 | h1
      · exact .inl (Nat.le_trans h.size h1)
      · simp at h1
    · exact h.own x hx k hk
  · unfold Apart
    rw [List.pairwise_append]
    refine ⟨h'.apart, h.apart, fun x hx y hy k hk hk' => ?_⟩
    have := h.lt hy hk'
    rcases h'.own x hx k hk with h1 | h1
    · omega
    · simp at h1
theorem St.call0 {w' : World} (h : St w0 M w L) (h' : St w [] w' []) : St w0 M w' L := by simpa using h.call h'
theorem St.call1 {w' : World} {L' : List HA} {g : Nat} {T : TypeId} {cs cs' : List Value} (L1 : List HA) {L2 : List HA} (h : St w0 M w (L1 ++ .blk g T cs :: L2)) (h' : St w [g] w' (.blk g T cs' :: L')) :
    St w0 M w' (L' ++ (L1 ++ .blk g T cs' :: L2)) := by
  have hmem : HA.blk g T cs ∈ L1 ++ .blk g T cs :: L2 := by simp
  have hown := h.own _ hmem g rfl
  have hap := h.apart
  unfold Apart at hap
  rw [List.pairwise_append, List.pairwise_cons] at hap
  have hother : ∀ x, x ∈ L1 ∨ x ∈ L2 → ∀ k, x.foot = some k → k ≠ g := by
    rintro x (hx | hx) k hk rfl
    · exact hap.2.2 x hx (.blk k T cs) (by simp) k hk rfl
    · exact hap.2.1.1 x hx k rfl hk
  have hap' := h'.apart
  unfold Apart at hap'
  rw [List.pairwise_cons] at hap'
  have hltg := h.lt hmem rfl
  refine ⟨h'.os.trans h.os, h'.tape.trans h.tape, h'.output.trans h.output, Nat.le_trans h.size h'.size, fun k hk hM => ?_, fun x hx => ?_, fun x hx k hk => ?_, ?_⟩
  · exact (h'.old k (Nat.lt_of_lt_of_le hk h.size) (by simp; rintro rfl; rcases hown with h1 | h1; omega; exact hM h1)).trans (h.old k hk hM)
  · rcases List.mem_append.1 hx with hx | hx
    · exact h'.all x (by simp [hx])
    · rcases List.mem_append.1 hx with hx | hx
      · exact HA.keep (h.all x (by simp [hx])) fun k hk => h'.old k (h.lt (by simp [hx]) hk) (by simpa using hother x (.inl hx) k hk)
      · rcases List.mem_cons.1 hx with rfl | hx
        · exact h'.all _ (by simp)
        · exact HA.keep (h.all x (by simp [hx])) fun k hk => h'.old k (h.lt (by simp [hx]) hk) (by simpa using hother x (.inr hx) k hk)
  · rcases List.mem_append.1 hx with hx | hx
    · rcases h'.own x (by simp [hx]) k hk with h1 | h1
      · exact .inl (Nat.le_trans h.size h1)
      · simp at h1; subst h1; exact hown
    · rcases List.mem_append.1 hx with hx | hx
      · exact h.own x (by simp [hx]) k hk
      · rcases List.mem_cons.1 hx with rfl | hx
        · simp [HA.foot] at hk; subst hk; exact hown
        · exact h.own x (by simp [hx]) k hk
  · unfold Apart
    rw [List.pairwise_append, List.pairwise_append, List.pairwise_cons]
    refine ⟨hap'.2, ⟨hap.1, ⟨fun y hy k hk => hap.2.1.1 y hy k hk, hap.2.1.2⟩, fun x hx y hy k hk => ?_⟩, fun x hx y hy k hk hk' => ?_⟩
    · rcases List.mem_cons.1 hy with rfl | hy
      · exact hap.2.2 x hx (.blk g T cs) (by simp) k hk
      · exact hap.2.2 x hx y (by simp [hy]) k hk
    · have hgk : k ≠ g := by rintro rfl; exact hap'.1 x hx k rfl hk
      have hnew : w.heap.size ≤ k := by
        rcases h'.own x (by simp [hx]) k hk with h1 | h1
        · exact h1
        · simp at h1; exact absurd h1 hgk
      rcases List.mem_append.1 hy with hy | hy
      · have := h.lt (x := y) (by simp [hy]) hk'; omega
      · rcases List.mem_cons.1 hy with rfl | hy
        · simp [HA.foot] at hk'; omega
        · have := h.lt (x := y) (by simp [hy]) hk'; omega
theorem St.ofRow {v : Value} {T : TypeId} {sz n : Nat} {xs : List Value} (w : World) (h : w.ownsRow 0 T sz v n xs) : St w v.ownBlock.toList w [.row v T sz n xs] :=
  ⟨rfl, rfl, rfl, Nat.le_refl _, fun _ _ _ => rfl, by simpa [HA.holds] using h, by
    intro x hx k hk
    simp only [List.mem_singleton] at hx
    subst hx
    right
    simpa [HA.foot] using hk, by simp [Apart]⟩
theorem St.callG {w' : World} {M' : List Nat} {L' : List HA} (C R : List HA) (h : St w0 M w (C ++ R)) (h' : St w M' w' L') (hM : ∀ k ∈ M', ∃ x ∈ C, x.foot = some k) : St w0 M w' (L' ++ R) := by
  have hap := h.apart
  unfold Apart at hap
  rw [List.pairwise_append] at hap
  have hown : ∀ k ∈ M', w0.heap.size ≤ k ∨ k ∈ M := fun k hk => by
    obtain ⟨x, hx, hf⟩ := hM k hk
    exact h.own x (by simp [hx]) k hf
  have hR : ∀ y ∈ R, ∀ k, y.foot = some k → k ∉ M' := fun y hy k hk hkM => by
    obtain ⟨x, hx, hf⟩ := hM k hkM
    exact hap.2.2 x hx y hy k hf hk
  refine ⟨h'.os.trans h.os, h'.tape.trans h.tape, h'.output.trans h.output, Nat.le_trans h.size h'.size, fun k hk hkM => ?_, fun x hx => ?_, fun x hx k hk => ?_, ?_⟩
  · refine (h'.old k (Nat.lt_of_lt_of_le hk h.size) (fun hkM' => ?_)).trans (h.old k hk hkM)
    rcases hown k hkM' with h1 | h1
    · omega
    · exact hkM h1
  · rcases List.mem_append.1 hx with hx | hx
    · exact h'.all x hx
    · exact HA.keep (h.all x (by simp [hx])) fun k hk => h'.old k (h.lt (x := x) (by simp [hx]) hk) (hR x hx k hk)
  · rcases List.mem_append.1 hx with hx | hx
    · rcases h'.own x hx k hk with h1 | h1
      · exact .inl (Nat.le_trans h.size h1)
      · exact hown k h1
    · exact h.own x (by simp [hx]) k hk
  · unfold Apart
    rw [List.pairwise_append]
    refine ⟨h'.apart, hap.2.1, fun x hx y hy k hk hk' => ?_⟩
    have := h.lt (x := y) (by simp [hy]) hk'
    rcases h'.own x hx k hk with h1 | h1
    · omega
    · exact hR y hy k hk' h1
theorem St.callRow {w' : World} {v : Value} {T : TypeId} {sz n : Nat} {xs : List Value} {R L' : List HA} (h : St w0 M w (.row v T sz n xs :: R)) (h' : St w v.ownBlock.toList w' L') : St w0 M w' (L' ++ R) :=
  St.callG [.row v T sz n xs] R h h' fun k hk => ⟨_, List.mem_singleton.2 rfl, by simpa [HA.foot] using hk⟩
theorem St.ownsP {p : Value → Bool} {v : Value} {T : TypeId} {sz n : Nat} {xs : List Value} (h : St w0 M w L) (hm : HA.rowP p v T sz n xs ∈ L) : w.ownsRow 0 T sz v n xs ∧ AllP p w v T := h.all _ hm
theorem St.owns {v : Value} {T : TypeId} {sz n : Nat} {xs : List Value} (h : St w0 M w L) (hm : HA.row v T sz n xs ∈ L) : w.ownsRow 0 T sz v n xs := h.all _ hm
end
end Hp
end Go.Proofs.YtmdfbdfijnmhkaaGreat
