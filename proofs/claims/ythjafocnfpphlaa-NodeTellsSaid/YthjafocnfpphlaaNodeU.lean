/- Nodes of sectors, as plain data. No program in sight. -/
import Derived.Test.YthjafocnfpphlaaT24
namespace Go.Proofs.Ythjafocnfpphlaa
open Go.RowKit Hp
def NV.set (x : NV) : Nat → PV → NV
  | 0, p => { x with p0 := p }
  | 1, p => { x with p1 := p }
  | 2, p => { x with p2 := p }
  | _, p => { x with p3 := p }
theorem NV.get_set_same (x : NV) {k : Nat} (hk : k < 4) (p : PV) : (x.set k p).get k = p := by
  obtain rfl | rfl | rfl | rfl : k = 0 ∨ k = 1 ∨ k = 2 ∨ k = 3 := by omega
  all_goals rfl
theorem NV.get_set_other (x : NV) {k j : Nat} (hk : k < 4) (hj : j < 4) (h : j ≠ k) (p : PV) : (x.set k p).get j = x.get j := by
  obtain rfl | rfl | rfl | rfl : k = 0 ∨ k = 1 ∨ k = 2 ∨ k = 3 := by omega
  all_goals
    obtain rfl | rfl | rfl | rfl : j = 0 ∨ j = 1 ∨ j = 2 ∨ j = 3 := by omega
  all_goals first | rfl | exact absurd rfl h
theorem NV.lv_set (x : NV) (k : Nat) (p : PV) : (x.set k p).lv = x.lv := by
  match k with
  | 0 => rfl
  | 1 => rfl
  | 2 => rfl
  | _ + 3 => rfl
theorem put_at (a b c v : List Value) (h : b.length = v.length) {n : Nat} (hn : n = a.length) : putAt (a ++ (b ++ c)) n v = a ++ (v ++ c) := by
  subst hn
  have := put_app a (b ++ c) 0 v
  rw [Nat.add_zero] at this
  rw [this]
  simp [putAt, ← h]
theorem put_node {x : NV} (h : x.Ln) {k : Nat} (hk : k < 4) {p : PV} (hp : L32 p.S) : putAt x.cells (1 + k * 35) p.cells = (x.set k p).cells := by
  have h0 : x.p0.cells.length = 35 := PV.len (h 0)
  have h1 : x.p1.cells.length = 35 := PV.len (h 1)
  have h2 : x.p2.cells.length = 35 := PV.len (h 2)
  have h3 : x.p3.cells.length = 35 := PV.len (h 3)
  have h4 := PV.len hp
  unfold NV.cells
  obtain rfl | rfl | rfl | rfl : k = 0 ∨ k = 1 ∨ k = 2 ∨ k = 3 := by omega
  · exact put_at [.int .i64 x.lv] x.p0.cells (x.p1.cells ++ (x.p2.cells ++ x.p3.cells)) p.cells (by omega) rfl
  · have := put_at (.int .i64 x.lv :: x.p0.cells) x.p1.cells (x.p2.cells ++ x.p3.cells) p.cells (n := 1 + 1 * 35) (by omega) (by simp [h0])
    simpa [NV.set] using this
  · have := put_at (.int .i64 x.lv :: (x.p0.cells ++ x.p1.cells)) x.p2.cells x.p3.cells p.cells (n := 1 + 2 * 35) (by omega) (by simp [h0, h1])
    simpa [NV.set] using this
  · have := put_at (.int .i64 x.lv :: (x.p0.cells ++ (x.p1.cells ++ x.p2.cells))) x.p3.cells [] p.cells (n := 1 + 3 * 35) (by omega) (by simp [h0, h1, h2])
    simpa [NV.set] using this
def uP (bs : List UInt8) (k : Nat) : List UInt8 := (bs.take (1 + 47 * (k + 1))).drop (1 + 47 * k)
theorem length_uP {bs : List UInt8} (h : bs.length = 256) {k : Nat} (hk : k < 4) : (uP bs k).length = 47 := by simp [uP, h]; omega
def uPV (bs : List UInt8) (k : Nat) : PV := ⟨.slice none 0 0, rAddrs (uP bs k) 3, rBirth (uP bs k), rLevel (uP bs k), rSum (uP bs k)⟩
def PV.eqd (p q : PV) : Prop := p.l = q.l ∧ p.b = q.b ∧ p.v = q.v ∧ p.S = q.S
def uNV (bs : List UInt8) : NV := ⟨((bs.getD 0 0).toNat : Int), uPV bs 0, uPV bs 1, uPV bs 2, uPV bs 3⟩
def uRd (bs : List UInt8) : Bool := rOK (uP bs 0) && (rOK (uP bs 1) && (rOK (uP bs 2) && rOK (uP bs 3)))
def uOK (bs : List UInt8) : Bool := decide (bs.length = 256) && (uRd bs && ((uNV bs).ok && ((uNV bs).bytes == bs)))
def zP : PV := ⟨.slice none 0 0, [], 0, 0, nones⟩
def zN (lv : Int) : NV := ⟨lv, zP, zP, zP, zP⟩
theorem zP_in (w : World) : zP.In w := ⟨L32.nones, none, 0, 0, rfl, Rd.nil w 2, rfl⟩
theorem zN_in (lv : Int) (w : World) : (zN lv).In w := by
  intro k
  match k with
  | 0 => exact zP_in w
  | 1 => exact zP_in w
  | 2 => exact zP_in w
  | _ + 3 => exact zP_in w
theorem uRd_at {bs : List UInt8} : uRd bs = true ↔ ∀ j, j < 4 → rOK (uP bs j) = true := by
  simp only [uRd, Bool.and_eq_true]
  constructor
  · rintro ⟨h0, h1, h2, h3⟩ j hj
    obtain rfl | rfl | rfl | rfl : j = 0 ∨ j = 1 ∨ j = 2 ∨ j = 3 := by omega
    · exact h0
    · exact h1
    · exact h2
    · exact h3
  · intro h
    exact ⟨h 0 (by omega), h 1 (by omega), h 2 (by omega), h 3 (by omega)⟩
theorem uOK_rd {bs : List UInt8} {j : Nat} (hj : j < 4) (h : rOK (uP bs j) = false) : uOK bs = false := by
  have : uRd bs = false := by
    rw [← Bool.not_eq_true, uRd_at]
    intro ha
    rw [ha j hj] at h; cases h
  simp [uOK, this]
theorem PV.eqd.ok {p q : PV} (h : p.eqd q) : p.ok = q.ok ∧ p.hole = q.hole ∧ p.bytes = q.bytes ∧ ∀ lv, p.fits lv = q.fits lv := by
  obtain ⟨h1, h2, h3, h4⟩ := h
  simp only [PV.ok, PV.hole, PV.bytes, PV.fits, h1, h2, h3, h4, and_self, implies_true]
theorem NV.eqd {x y : NV} (hl : x.lv = y.lv) (h : ∀ j, j < 4 → (x.get j).eqd (y.get j)) : x.ok = y.ok ∧ x.bytes = y.bytes := by
  have e0 := (h 0 (by omega)).ok
  have e1 := (h 1 (by omega)).ok
  have e2 := (h 2 (by omega)).ok
  have e3 := (h 3 (by omega)).ok
  simp only [NV.get] at e0 e1 e2 e3
  constructor
  · simp only [NV.ok, NV.fitsAll, hl, e0.2.2.2, e1.2.2.2, e2.2.2.2, e3.2.2.2]
  · simp only [NV.bytes, packTo, hl, List.range, List.range.loop, List.map_cons, List.map_nil, NV.get, e0.2.2.1, e1.2.2.1, e2.2.2.1, e3.2.2.1]
/-- What is read of a sector: the node, and its pointers' addresses among the pieces R. -/
def NV.isU (E : TypeId) (x : NV) (bs : List UInt8) (R : List HA) (k : Nat) : Prop := ∀ j, j < k → (x.get j).eqd (uPV bs j) ∧ ∃ ao n c, (x.get j).sv = .slice ao n c ∧ HA.row (.slice ao n c) E 2 n (addrsV (x.get j).l) ∈ R ∧ (x.get j).l.length = n
def unOut (bs : List UInt8) (w : World) (E : TypeId) (e : Ending) (w' : World) : Prop :=
  if uOK bs then ∃ (x : NV) (R : List HA), e = .returned (.tuple #[.agg x.cells.toArray, .int .i64 0]) ∧ St w [] w' R ∧ x.lv = (uNV bs).lv ∧ x.isU E bs R 4
  else e = .returned (.tuple #[.agg (zN 0).cells.toArray, .int .i64 (if bs.length = 256 then 2 else 4)]) ∧ St w [] w' []
theorem NV.isU.in {E : TypeId} {x : NV} {bs : List UInt8} {R L : List HA} {w0 w : World} {M : List Nat} {k : Nat} (h : x.isU E bs R k) (hst : St w0 M w L) (hR : ∀ y ∈ R, y ∈ L) (hS : ∀ j, j < k → L32 (uPV bs j).S) (hz : ∀ j, k ≤ j → j < 4 → x.get j = zP) : x.In w := by
  have main : ∀ j, j < 4 → (x.get j).In w := by
    intro j hj
    by_cases hk : j < k
    · obtain ⟨⟨h1, h2, h3, h4⟩, ao, n, c, h5, h6, h7⟩ := h j hk
      exact ⟨by rw [h4]; exact hS j hk, ao, n, c, h5, Rd.row hst (hR _ h6), h7⟩
    · rw [hz j (by omega) hj]; exact zP_in w
  intro j
  match j with
  | 0 => exact main 0 (by omega)
  | 1 => exact main 1 (by omega)
  | 2 => exact main 2 (by omega)
  | _ + 3 => exact main 3 (by omega)
end Go.Proofs.Ythjafocnfpphlaa
