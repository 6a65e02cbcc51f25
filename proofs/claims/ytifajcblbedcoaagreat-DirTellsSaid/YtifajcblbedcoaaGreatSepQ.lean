import Derived.Test.YtifajcblbedcoaaGreatSepP
import Derived.Test.YtifajcblbedcoaaGreatRegL
namespace Go.Proofs.YtifajcblbedcoaaGreat
set_option linter.unusedVariables false
set_option linter.unusedSimpArgs false
open Go.RowKit
namespace Hp
variable {P : Program}
theorem St.nilR {w0 w : World} {M : List Nat} {L : List HA} (T : TypeId) (sz : Nat) (h : St w0 M w L) : St w0 M w (.row (.slice none 0 0) T sz 0 [] :: L) := by
  refine ⟨h.os, h.tape, h.output, h.size, h.old, fun x hx => ?_, fun x hx k hk => ?_, ?_⟩
  · rcases List.mem_cons.1 hx with rfl | hx
    · exact ⟨by simp, .inl ⟨rfl, rfl⟩⟩
    · exact h.all x hx
  · rcases List.mem_cons.1 hx with rfl | hx
    · cases hk
    · exact h.own x hx k hk
  · refine List.Pairwise.cons (fun y _ k hk => ?_) h.apart
    cases hk
theorem row_form {w0 w : World} {M : List Nat} {L : List HA} {v : Value} {T : TypeId} {sz n : Nat} {xs : List Value} (h : St w0 M w L) (hm : HA.row v T sz n xs ∈ L) : ∃ ao c, v = .slice ao n c ∧ n ≤ c ∧ c ≤ 9223372036854775807 ∧ xs.length = n * sz := by
  obtain ⟨hl, h2⟩ := h.owns hm
  rcases h2 with ⟨rfl, rfl⟩ | ⟨g, cap, cur, rfl, _, hc, hnc, hcm, _⟩
  · exact ⟨none, 0, rfl, Nat.le_refl _, by decide, hl⟩
  · exact ⟨_, cap, rfl, hnc, hcm, hl⟩
theorem eqInSlNil (w : World) (d : Nat) (t e : TypeId) (a : Option Addr) (n c : Nat) (h : P.underlying t = some (.slice e)) : (Op.equalIn (d + 1) t (.slice a n c) (.slice none 0 0)).run P w = .ok a.isNone w := by
  cases a <;> simp [Op.equalIn, run_underlying h]
theorem eqSlNil (w : World) (t e : TypeId) (a : Option Addr) (n c : Nat) (h : P.underlying t = some (.slice e)) : (binOp .eql t (.slice a n c) (.slice none 0 0)).run P w = .ok (.bool a.isNone) w := by
  simp only [binOp]
  simp [Op.equal, Op.maxDepth, eqInSlNil w 9999 t e a n c h]
def Off (v : Value) (F : List Nat) : Prop := ∀ A n c, v = .slice (some A) n c → 0 < n → A.block ∉ F
theorem Off.nil (n c : Nat) (F : List Nat) : Off (.slice none n c) F := fun _ _ _ h => by cases h
theorem Off.old {w : World} {v : Value} {sz n : Nat} {xs : List Value} {F : List Nat} (h : Rd w v sz n xs) (hs : 0 < sz) (hF : ∀ k ∈ F, w.heap.size ≤ k) : Off v F := by
  obtain ⟨hl, ao, c, rfl, hn, hc, hnone, hsome⟩ := h
  intro A n' c' e hpos hk
  simp only [Value.slice.injEq] at e
  obtain ⟨rfl, rfl, rfl⟩ := e
  obtain ⟨b, off, rfl, hr⟩ := hsome A rfl (by omega)
  have hlen : 0 < xs.length := by rw [hl]; exact Nat.mul_pos hpos hs
  have hc0 := hr 0 xs[0] (by simp [hlen])
  have h1 := World.block_lt_of_cell? w _ hc0
  have h2 := hF _ hk
  have h3 : b < w.heap.size := h1
  have h4 : w.heap.size ≤ b := h2
  omega
theorem Off.rowP {w w' : World} {L : List HA} {p : Value → Bool} {v : Value} {T : TypeId} {sz n : Nat} {xs : List Value} {F : List Nat} (h : St w [] w' L) (hm : HA.rowP p v T sz n xs ∈ L) (hF : ∀ k ∈ F, k < w.heap.size) : Off v F := by
  intro A n' c e _ hk
  have h1 := h.own _ hm
  obtain ⟨⟨_, h2⟩, _⟩ := h.ownsP hm
  rcases h2 with ⟨rfl, rfl⟩ | ⟨g, cap, cur, rfl, _⟩
  · cases e
  · cases e
    have := hF _ hk
    rcases h1 g rfl with h3 | h3
    · have : ¬ g < w.heap.size := by omega
      exact this (hF _ hk)
    · cases h3
theorem Off.blk {w w' : World} {L : List HA} {g : Nat} {T : TypeId} {cs : List Value} {F : List Nat} (h : St w [] w' L) (hm : HA.blk g T cs ∈ L) (hF : ∀ k ∈ F, k < w.heap.size) (off n c : Nat) : Off (.slice (some ⟨g, off, none⟩) n c) F := by
  intro A n' c' e _ hk
  cases e
  rcases h.own _ hm g rfl with h3 | h3
  · have := hF _ hk
    have : g < w.heap.size := this
    omega
  · cases h3
def Q0 (K : Act → World → Prop) (Q : Exit → Act → World → Prop) : Exit → Act → World → Prop
  | .normal => K
  | .outgrown => fun _ _ => False
  | e => Q e
theorem ow_of_wl {o : Oper} {a : Act} {w : World} {K : Act → World → Prop} {Q : Exit → Act → World → Prop} {ops : Array Oper} (hw : Region.wanted o (yielded ops a.tmps) = true) (h : wpList P ops (Q0 K Q) [o] a w) : o.wp P a w K Q := by
  unfold wpList at h
  rw [if_pos hw] at h
  rcases h with h | ⟨_, _, _, h⟩
  · exact Oper.wp_swap (K := wpList P ops (Q0 K Q) []) (Q := Q0 K Q) (Q' := Q) (fun a w hh => hh) (fun c a w hh => hh) (fun hl => by obtain ⟨_, _, hl⟩ := hl; exact (show False from hl).elim) h
  · exact h.elim
theorem q0_nil {a : Act} {w : World} {K : Act → World → Prop} {Q : Exit → Act → World → Prop} {ops : Array Oper} (h : K a w) : wpList P ops (Q0 K Q) [] a w := h
end Hp
end Go.Proofs.YtifajcblbedcoaaGreat
