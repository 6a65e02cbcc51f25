import Derived.Test.YtmdfbdfijnmhkaaGreatSepP
import Derived.Test.YtmdfbdfijnmhkaaGreatRegL
namespace Go.Proofs.YtmdfbdfijnmhkaaGreat
set_option linter.unusedVariables false
set_option linter.unusedSimpArgs false
open Go.RowKit
namespace Hp
variable {P : Program}
theorem St.nilR {w0 w : World} {M : List Nat} {L : List HA} (T : TypeId) (sz : Nat) (h : St w0 M w L) : St w0 M w (.row (.slice none 0 0) T sz 0 [] :: L) := by
  refine ⟨h.os, h.tape, h.output, h.size, h.old, fun x hx => ?_, fun x hx k hk => ?_, ?_⟩
  · rcases List.mem_cons.1 hx with rfl | hx
    · exact ⟨by simp, .inl ⟨rfl, rfl⟩⟩
    · exact h.all x hx
  · rcases List.mem_cons.1 hx with rfl | hx
    · cases hk
    · exact h.own x hx k hk
  · refine List.Pairwise.cons (fun y _ k hk => ?_) h.apart
    cases hk
theorem St.nilPQ {w0 w : World} {M : List Nat} {L : List HA} (p : Value → Bool) (T : TypeId) (sz : Nat) (h : St w0 M w L) : St w0 M w (.rowP p (.slice none 0 0) T sz 0 [] :: L) :=
  St.toP (L1 := []) (St.nilR T sz h) (fun g cs hg _ => by cases hg)
theorem Rd.win {w : World} {b off off' n c m c' : Nat} {F : List UInt8} (lo : Nat) (h : Rd w (.slice (some ⟨b, off, none⟩) n c) 1 n (bytesV F)) (ho : off' = off + lo) (hm : lo + m ≤ n) (hc : m ≤ c' ∧ lo + c' ≤ c) :
    Rd w (.slice (some ⟨b, off', none⟩) m c') 1 m (bytesV ((F.drop lo).take m)) := by
  subst ho
  have hr := h.range
  obtain ⟨hl1, ao, c0, he, hn, hcm, hnone, hsome⟩ := h
  simp only [Value.slice.injEq, true_and] at he
  obtain ⟨he1, rfl⟩ := he
  refine Rd.mk hc.1 (by omega) (by simp at hl1 ⊢; omega) ?_
  intro j v hv
  have := hr (lo + j) v (by
    simp only [bytesV, List.map_take, List.map_drop] at hv
    rw [List.getElem?_take] at hv
    split at hv
    · rw [List.getElem?_drop] at hv
      exact hv
    · cases hv)
  rwa [← Nat.add_assoc] at this
theorem row_form {w0 w : World} {M : List Nat} {L : List HA} {v : Value} {T : TypeId} {sz n : Nat} {xs : List Value} (h : St w0 M w L) (hm : HA.row v T sz n xs ∈ L) : ∃ ao c, v = .slice ao n c ∧ n ≤ c ∧ c ≤ 9223372036854775807 ∧ xs.length = n * sz := by
  obtain ⟨hl, h2⟩ := h.owns hm
  rcases h2 with ⟨rfl, rfl⟩ | ⟨g, cap, cur, rfl, _, hc, hnc, hcm, _⟩
  · exact ⟨none, 0, rfl, Nat.le_refl _, by decide, hl⟩
  · exact ⟨_, cap, rfl, hnc, hcm, hl⟩
def Off (v : Value) (F : List Nat) : Prop := ∀ A n c, v = .slice (some A) n c → 0 < n → A.block ∉ F
theorem Off.nil (n c : Nat) (F : List Nat) : Off (.slice none n c) F := fun _ _ _ h => by cases h
theorem Rd.oldM {w0 w : World} {M : List Nat} {L : List HA} {v : Value} {sz n : Nat} {xs : List Value} (hst : St w0 M w L) (h : Rd w0 v sz n xs) (ho : Off v M) : Rd w v sz n xs := by
  obtain ⟨hl, ao, c, rfl, hn, hc, hnone, hsome⟩ := h
  refine ⟨hl, ao, c, rfl, hn, hc, hnone, fun A hA h0 => ?_⟩
  obtain ⟨b, off, rfl, hr⟩ := hsome A hA h0
  subst hA
  refine ⟨b, off, rfl, fun j u hu => hst.old_cell (hr j u hu) (show b ∉ M from ho ⟨b, off, none⟩ _ _ rfl ?_)⟩
  rcases Nat.eq_zero_or_pos n with h0 | h0
  · subst h0
    have : xs = [] := List.eq_nil_of_length_eq_zero (by simpa using hl)
    subst this
    cases hu
  · exact h0
theorem Off.old {w : World} {v : Value} {sz n : Nat} {xs : List Value} {F : List Nat} (h : Rd w v sz n xs) (hs : 0 < sz) (hF : ∀ k ∈ F, w.heap.size ≤ k) : Off v F := by
  obtain ⟨hl, ao, c, rfl, hn, hc, hnone, hsome⟩ := h
  intro A n' c' e hpos hk
  simp only [Value.slice.injEq] at e
  obtain ⟨rfl, rfl, rfl⟩ := e
  obtain ⟨b, off, rfl, hr⟩ := hsome A rfl (by omega)
  have hlen : 0 < xs.length := by rw [hl]; exact Nat.mul_pos hpos hs
  have hc0 := hr 0 xs[0] (by simp [hlen])
  have h1 := World.block_lt_of_cell? w _ hc0
  have h2 := hF _ hk
  have h3 : b < w.heap.size := h1
  have h4 : w.heap.size ≤ b := h2
  omega
theorem feet (R : List HA) : ∀ k ∈ R.filterMap HA.foot, ∃ x ∈ R, x.foot = some k := fun _ hk => List.mem_filterMap.1 hk
theorem St.selfF {w0 w : World} {M : List Nat} {L : List HA} (h : St w0 M w L) : St w (L.filterMap HA.foot) w L :=
  ⟨rfl, rfl, rfl, Nat.le_refl _, fun _ _ _ => rfl, h.all, fun x hx k hk => .inr (List.mem_filterMap.2 ⟨x, hx, hk⟩), h.apart⟩
theorem St.thenF {w0 w w' : World} {M : List Nat} {L L' : List HA} (h : St w0 M w L) (h' : St w (L.filterMap HA.foot) w' L') : St w0 M w' L' := by
  have := St.callG (R := []) L (M := M) (w0 := w0) (by simpa using h) h' (feet L)
  simpa using this
theorem St.callF {w0 w w' : World} {M : List Nat} {L' : List HA} (C : List HA) {R : List HA} (h : St w0 M w (C ++ R)) (h' : St w (C.filterMap HA.foot) w' L') : St w0 M w' (L' ++ R) := St.callG C R h h' (feet C)
theorem Off.rowP {w w' : World} {L : List HA} {p : Value → Bool} {v : Value} {T : TypeId} {sz n : Nat} {xs : List Value} {F : List Nat} (h : St w [] w' L) (hm : HA.rowP p v T sz n xs ∈ L) (hF : ∀ k ∈ F, k < w.heap.size) : Off v F := by
  intro A n' c e _ hk
  have h1 := h.own _ hm
  obtain ⟨⟨_, h2⟩, _⟩ := h.ownsP hm
  rcases h2 with ⟨rfl, rfl⟩ | ⟨g, cap, cur, rfl, _⟩
  · cases e
  · cases e
    have := hF _ hk
    rcases h1 g rfl with h3 | h3
    · have : ¬ g < w.heap.size := by omega
      exact this (hF _ hk)
    · cases h3
theorem Off.blk {w w' : World} {L : List HA} {g : Nat} {T : TypeId} {cs : List Value} {F : List Nat} (h : St w [] w' L) (hm : HA.blk g T cs ∈ L) (hF : ∀ k ∈ F, k < w.heap.size) (off n c : Nat) : Off (.slice (some ⟨g, off, none⟩) n c) F := by
  intro A n' c' e _ hk
  cases e
  rcases h.own _ hm g rfl with h3 | h3
  · have := hF _ hk
    have : g < w.heap.size := this
    omega
  · cases h3
theorem Loads.oldM {w0 w : World} {M : List Nat} {L : List HA} {T : TypeId} {A : Addr} {v : Value} (hst : St w0 M w L) [ht : TyS P T] (h : w0.cell? A = some v) (hM : A.block ∉ M) : Loads P w T A v := Loads.cell ht.out (hst.old_cell h hM)
theorem ldOMx {w0 w : World} {M : List Nat} {L : List HA} {T : TypeId} {A : Addr} {v : Value} (hst : St w0 M w L) [ht : TyS P T] (h : w0.cell? A = some v) (hM : A.block ∉ M) : (loadVarH T A).run P w = .ok v w := Loads.cell ht.out (hst.old_cell h hM)
def Q0 (K : Act → World → Prop) (Q : Exit → Act → World → Prop) : Exit → Act → World → Prop
  | .normal => K
  | .outgrown => fun _ _ => False
  | e => Q e
theorem ow_of_wl {o : Oper} {a : Act} {w : World} {K : Act → World → Prop} {Q : Exit → Act → World → Prop} {ops : Array Oper} (hw : Region.wanted o (yielded ops a.tmps) = true) (h : wpList P ops (Q0 K Q) [o] a w) : o.wp P a w K Q := by
  unfold wpList at h
  rw [if_pos hw] at h
  rcases h with h | ⟨_, _, _, h⟩
  · exact Oper.wp_swap (K := wpList P ops (Q0 K Q) []) (Q := Q0 K Q) (Q' := Q) (fun a w hh => hh) (fun c a w hh => hh) (fun hl => by obtain ⟨_, _, hl⟩ := hl; exact (show False from hl).elim) h
  · exact h.elim
theorem q0_nil {a : Act} {w : World} {K : Act → World → Prop} {Q : Exit → Act → World → Prop} {ops : Array Oper} (h : K a w) : wpList P ops (Q0 K Q) [] a w := h
end Hp
end Go.Proofs.YtmdfbdfijnmhkaaGreat
