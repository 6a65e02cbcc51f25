import Derived.Test.YtlgioloanjjndaaF29
namespace Go.Proofs.Ytlgioloanjjndaa
open Go.RowKit Hp
attribute [local irreducible] Go.Calls
set_option maxRecDepth 100000
set_option maxHeartbeats 4000000
theorem stepR_pos {α : Type} {B : List UInt8} {s : RS} {r : RR α} {d : α} (hp : s.pos ≤ B.length) (hr : ∀ v p, r = .ok v p → p ≤ B.length) : (stepR s r d).1.pos ≤ B.length := by
  unfold stepR
  split
  · exact hp
  · cases r with
    | stop e a => exact hp
    | ok v p => exact hr v p rfl
theorem numRR_pos {B : List UInt8} {p : Nat} {size low high : Int} (v : Int) (p' : Nat) (h : numRR B p size low high = .ok v p') : p' ≤ B.length := by
  unfold numRR at h
  split at h
  · cases h
  · split at h
    · cases h
    · split at h
      · cases h
      · simp only [RR.ok.injEq] at h
        omega
theorem textRR_pos {B : List UInt8} {p : Nat} {most : Int} (v : List UInt8) (p' : Nat) (h : textRR B p most = .ok v p') : p' ≤ B.length := by
  unfold textRR at h
  split at h
  · cases h
  · split at h
    · cases h
    · split at h
      · cases h
      · split at h
        · cases h
        · simp only [RR.ok.injEq] at h
          omega
theorem rawRR_pos {B : List UInt8} {p : Nat} {m : Int} (v : List UInt8) (p' : Nat) (h : rawRR B p m = .ok v p') : p' ≤ B.length := by
  unfold rawRR at h
  split at h
  · cases h
  · split at h
    · cases h
    · simp only [RR.ok.injEq] at h
      omega
theorem restRR_pos {B : List UInt8} {p : Nat} (v : Unit) (p' : Nat) (h : restRR B p = .ok v p') : p' ≤ B.length := by
  unfold restRR at h
  split at h
  · cases h
  · simp only [RR.ok.injEq] at h
    omega
theorem KV.step_pos {B : List UInt8} {x : KV} {s : RS} (hp : s.pos ≤ B.length) : (x.step B s).pos ≤ B.length := by
  unfold KV.step
  split
  · exact stepR_pos hp numRR_pos
  · split
    · exact stepR_pos hp textRR_pos
    · split
      · exact stepR_pos hp rawRR_pos
      · split
        · exact stepR_pos hp restRR_pos
        · exact hp
/-- A reader behind the first k questions. -/
def foldK (B : List UInt8) (ks : List KV) (k : Nat) : RS := (ks.take k).foldl (fun s x => x.step B s) ⟨0, 0, 0⟩
theorem foldK_zero (B : List UInt8) (ks : List KV) : foldK B ks 0 = ⟨0, 0, 0⟩ := by simp [foldK]
theorem foldK_succ {B : List UInt8} {ks : List KV} {k : Nat} {x : KV} (h : ks[k]? = some x) : foldK B ks (k + 1) = x.step B (foldK B ks k) := by
  simp [foldK, List.take_add_one, h]
theorem foldK_pos (B : List UInt8) (ks : List KV) (k : Nat) : (foldK B ks k).pos ≤ B.length := by
  unfold foldK
  generalize ks.take k = l
  have : ∀ (s : RS), s.pos ≤ B.length → (l.foldl (fun s x => x.step B s) s).pos ≤ B.length := by
    induction l with
    | nil => exact fun s h => h
    | cons x l ih => exact fun s h => ih _ (KV.step_pos h)
  exact this _ (Nat.zero_le _)
theorem asksV_at : ∀ {ks : List KV} {k : Nat} {x : KV}, ks[k]? = some x → ∀ j v, x.cells[j]? = some v → (ks.flatMap KV.cells)[k * 4 + j]? = some v
  | y :: ks, 0, x, h, j, v, hj => by
    cases h
    rw [List.flatMap_cons, Nat.zero_mul, Nat.zero_add, List.getElem?_append_left (List.getElem?_eq_some_iff.1 hj).1]
    exact hj
  | y :: ks, k + 1, x, h, j, v, hj => by
    have hl : y.cells.length = 4 := rfl
    rw [List.flatMap_cons, List.getElem?_append_right (by rw [hl]; omega), hl, show (k + 1) * 4 + j - 4 = k * 4 + j by omega]
    exact asksV_at (by simpa using h) j v hj
  | [], _, _, h, _, _, _ => by cases h
theorem asks_range {w : World} {b off n c k : Nat} {ks : List KV} {x : KV} (h : Rd w (.slice (some ⟨b, off, none⟩) n c) 4 n (ks.flatMap KV.cells)) (hk : ks[k]? = some x) : w.rangeAt b (off + k * 4) x.cells := by
  have hr := h.range
  intro j v hj
  have := hr (k * 4 + j) v (asksV_at hk j v hj)
  rwa [← Nat.add_assoc] at this
end Go.Proofs.Ytlgioloanjjndaa
