/- Laws of the walk over the small separation library: a literal's bytes, marked by their conversion. No program in sight. -/
import Derived.Test.YtilgjldnlgfehaaSepX
namespace Go.Proofs.Ytilgjldnlgfehaa
set_option linter.unusedVariables false
set_option linter.unusedSimpArgs false
open Go.RowKit
namespace Hp
section
variable {P : Program}
variable {w0 w : World} {M : List Nat} {L1 L2 : List HA}

theorem freeze_other (w : World) (a : Addr) (n k : Nat) (h : k ≠ a.block) : (w.freeze a n).heap[k]? = w.heap[k]? := by
  unfold World.freeze
  split
  · rfl
  · simp only [Array.getElem?_modify]
    rw [if_neg (fun e => h e.symm)]
theorem freeze_here (w : World) (g off n : Nat) (cs : Array Value) (T : TypeId) (h : w.heap[g]? = some (.cells cs T (0, 0))) (hn : n ≠ 0) : (w.freeze ⟨g, off, none⟩ n).heap[g]? = some (.cells cs T (off, off + n)) := by
  unfold World.freeze
  rw [if_neg hn]
  simp only [Array.getElem?_modify, if_true, h, Option.map_some]
  simp
theorem freeze_size (w : World) (a : Addr) (n : Nat) : (w.freeze a n).heap.size = w.heap.size := by
  unfold World.freeze
  split <;> simp
theorem freeze_os (w : World) (a : Addr) (n : Nat) : (w.freeze a n).os = w.os ∧ (w.freeze a n).tape = w.tape ∧ (w.freeze a n).output = w.output := by
  unfold World.freeze
  split <;> exact ⟨rfl, rfl, rfl⟩

theorem St.freeze {g : Nat} {T : TypeId} {cs : List Value} (h : St w0 M w (L1 ++ .blk g T cs :: L2)) (off n : Nat) (hn : n ≠ 0) : St w0 M (w.freeze ⟨g, off, none⟩ n) (L1 ++ .frz (off, off + n) g T cs :: L2) := by
  have hmem : HA.blk g T cs ∈ L1 ++ .blk g T cs :: L2 := by simp
  have hown := h.own _ hmem g rfl
  have hap := h.apart
  unfold Apart at hap
  rw [List.pairwise_append, List.pairwise_cons] at hap
  have hother : ∀ x, x ∈ L1 ∨ x ∈ L2 → ∀ k, x.foot = some k → k ≠ g := by
    rintro x (hx | hx) k hk rfl
    · exact hap.2.2 x hx (.blk k T cs) (by simp) k hk rfl
    · exact hap.2.1.1 x hx k rfl hk
  obtain ⟨f1, f2, f3⟩ := freeze_os w ⟨g, off, none⟩ n
  refine ⟨f1.trans h.os, f2.trans h.tape, f3.trans h.output, by rw [freeze_size]; exact h.size, fun k hk hM => ?_, fun x hx => ?_, fun x hx k hk => ?_, ?_⟩
  · rw [freeze_other w _ n k (by rintro rfl; rcases hown with h1 | h1; exact absurd hk (Nat.not_lt.2 h1); exact hM h1)]; exact h.old k hk hM
  · rcases List.mem_append.1 hx with hx | hx
    · exact HA.keep (h.all x (by simp [hx])) fun k hk => freeze_other w _ n k (hother x (.inl hx) k hk)
    · rcases List.mem_cons.1 hx with rfl | hx
      · exact freeze_here w g off n cs.toArray T (h.all _ hmem) hn
      · exact HA.keep (h.all x (by simp [hx])) fun k hk => freeze_other w _ n k (hother x (.inr hx) k hk)
  · rcases List.mem_append.1 hx with hx | hx
    · exact h.own x (by simp [hx]) k hk
    · rcases List.mem_cons.1 hx with rfl | hx
      · simp [HA.foot] at hk; subst hk; exact hown
      · exact h.own x (by simp [hx]) k hk
  · unfold Apart
    rw [List.pairwise_append, List.pairwise_cons]
    refine ⟨hap.1, ⟨fun y hy k hk => hap.2.1.1 y hy k hk, hap.2.1.2⟩, fun x hx y hy k hk => ?_⟩
    rcases List.mem_cons.1 hy with rfl | hy
    · exact hap.2.2 x hx (.blk g T cs) (by simp) k hk
    · exact hap.2.2 x hx y (by simp [hy]) k hk

/-- The conversion of a literal's bytes to their own type marks the block. -/
theorem wl_convSS {ops : Array Oper} {rest : List Oper} {o : Oper} {a : Act} {Q : Exit → Act → World → Prop} {t e : TypeId} {x : Operand} {g n c : Nat} {T : TypeId} {cs : List Value} (hst : St w0 M w (L1 ++ .blk g T cs :: L2))
    (hop : o.op = .convert t t x) (hw : Region.wanted o (yielded ops a.tmps) = true) (hx : a.eval x = .slice (some ⟨g, 0, none⟩) n c) [ht : TySl P t e] [he : TyI P e .u8]
    (h : ∀ w', St w0 M w' (L1 ++ .frz (cs.length, cs.length + 1) g T cs :: L2) → wpList P ops Q rest (a.put o.dst (.slice (some ⟨g, 0, none⟩) n c)) w') : wpList P ops Q (o :: rest) a w := by
  have hg : w.heap[g]? = some (.cells cs.toArray T (0, 0)) := hst.all (.blk g T cs) (by simp)
  have hsh : w.shape? g = some (T, cs.length) := by
    unfold World.shape?
    rw [hg]
    simp
  refine wl_run hw ?_ (h _ (hst.freeze cs.length 1 (by decide)))
  unfold execOp
  simp [hop, hx, convert, run_underlying ht.out, run_underlying he.out, markStringish, hsh]

theorem Rd.frz {g off n c sz : Nat} {T : TypeId} {m : Nat × Nat} {cs xs : List Value} {L : List HA} (hst : St w0 M w L) (hm : HA.frz m g T cs ∈ L) (hn : n ≤ c) (hc : c ≤ maxLen) (hl : xs.length = n * sz) (hx : (cs.drop off).take xs.length = xs) :
    Rd w (.slice (some ⟨g, off, none⟩) n c) sz n xs := by
  refine Rd.mk hn hc hl fun j v hv => ?_
  have h := hst.all _ hm
  unfold HA.holds at h
  rw [cell_of_row w g _ _ T _ h]
  rw [← hx, List.getElem?_take] at hv
  split at hv
  · simpa using hv
  · simp at hv
theorem Rd.frz0 {g n sz : Nat} {T : TypeId} {m : Nat × Nat} {cs : List Value} {L : List HA} (hst : St w0 M w L) (hm : HA.frz m g T cs ∈ L) (hl : cs.length = n * sz) (hn : n ≤ 9223372036854775807) : Rd w (.slice (some ⟨g, 0, none⟩) n n) sz n cs :=
  Rd.frz hst hm (Nat.le_refl _) (by unfold maxLen; omega) hl (by simp)
end
end Hp
end Go.Proofs.Ytilgjldnlgfehaa
