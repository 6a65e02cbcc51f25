/- Records in memory of their own. -/
import Derived.Test.YtifajcblbedcoaaGreatJDirScripta
import Derived.Test.YtifajcblbedcoaaGreatSepN
import Derived.Test.YtifajcblbedcoaaGreatJDirScriptd
import Derived.Test.YtifajcblbedcoaaGreatJDirScriptc
import Derived.Test.YtifajcblbedcoaaGreatT8
import Derived.Test.YtifajcblbedcoaaGreatSepP
import Derived.Test.YtifajcblbedcoaaGreatJDirScriptb
namespace Go.Proofs.YtifajcblbedcoaaGreat
set_option linter.unusedVariables false
set_option linter.unusedSimpArgs false
open Go.RowKit Hp
attribute [local irreducible] Go.Calls
set_option maxHeartbeats 2000000
theorem loadedI (A : Addr) : loadVar 3 A = loadVarH 3 A := rfl
theorem NV.at_v {x : NV} (h : x.Ln) {k : Nat} (hk : k < 4) : x.cells[1 + k * 35 + 2]? = some (.int .i64 (x.get k).v) := by
  have h1 := NV.at' h hk
  have h2 : ((x.cells.drop (1 + k * 35)).take (x.get k).cells.length)[2]? = (x.get k).cells[2]? := by rw [h1]
  rw [List.getElem?_take_of_lt (by rw [PV.len (h k)]; omega), List.getElem?_drop] at h2
  rw [h2]; rfl
theorem NV.at_sv {x : NV} (h : x.Ln) {k : Nat} (hk : k < 4) : x.cells[1 + k * 35]? = some (x.get k).sv := by
  have h1 := NV.at' h hk
  have h2 : ((x.cells.drop (1 + k * 35)).take (x.get k).cells.length)[0]? = (x.get k).cells[0]? := by rw [h1]
  rw [List.getElem?_take_of_lt (by rw [PV.len (h k)]; omega), List.getElem?_drop, Nat.add_zero] at h2
  rw [h2]; rfl
end Go.Proofs.YtifajcblbedcoaaGreat
namespace Go.Proofs.YtifajcblbedcoaaGreat
set_option linter.unusedVariables false
set_option linter.unusedSimpArgs false
open Go.RowKit Hp
attribute [local irreducible] Go.Calls
set_option maxHeartbeats 20000000
attribute [local go_sem ↓] loadedP loadedI
theorem NV.err_ok {x : NV} (h : x.ok = true) : x.err = 0 := by simp [NV.err, h]
theorem NV.err_no {x : NV} (h : x.ok = false) : x.err = 2 := by simp [NV.err, h]
theorem NV.ok_lv {x : NV} (h : ¬ (1 ≤ x.lv ∧ x.lv ≤ 3)) : x.ok = false := by simp [NV.ok, h]
theorem NV.ok_fit {x : NV} {k : Nat} (hk : k < 4) (h : (x.get k).fits x.lv = false) : x.ok = false := by
  rw [NV.ok, NV.fitsAll, all4_no (f := fun p => p.fits x.lv) hk h, Bool.and_false]
theorem NV.ok_all {x : NV} (h1 : 1 ≤ x.lv) (h3 : x.lv ≤ 3) (h : ∀ j, j < 4 → (x.get j).fits x.lv = true) : x.ok = true := by
  rw [NV.ok, NV.fitsAll, (all4 (f := fun p => p.fits x.lv)).2 h]
  simp [h1, h3]
end Go.Proofs.YtifajcblbedcoaaGreat
namespace Go.Proofs.YtifajcblbedcoaaGreat
set_option linter.unusedVariables false
set_option linter.unusedSimpArgs false
open Go.RowKit Hp
attribute [local irreducible] Go.Calls
set_option maxHeartbeats 4000000
def lvB (lv : Int) : UInt8 := UInt8.ofNat lv.toNat
def packTo (x : NV) (k : Nat) : List UInt8 := (lvB x.lv :: ((List.range k).map fun j => (x.get j).bytes).flatten) ++ List.replicate (255 - 47 * k) 0
def NV.bytes (x : NV) : List UInt8 := packTo x 4
theorem PV.length_bytes {p : PV} (h : L32 p.S) : p.bytes.length = 47 := length_bytesP p.l p.b p.v h
theorem length_flat {x : NV} (h : x.Ln) (k : Nat) : (((List.range k).map fun j => (x.get j).bytes).flatten).length = 47 * k := by
  induction k with
  | zero => rfl
  | succ k ih => rw [List.range_succ, List.map_append, List.flatten_append, List.length_append, ih]; simp [PV.length_bytes (h k)]; omega
theorem length_packTo {x : NV} (h : x.Ln) {k : Nat} (hk : k ≤ 4) : (packTo x k).length = 256 := by
  simp only [packTo, List.length_append, List.length_cons, length_flat h, List.length_replicate]; omega
theorem put_pack {x : NV} (h : x.Ln) {k : Nat} (hk : k < 4) : putAt (bytesV (packTo x k)) (1 + 47 * k) (bytesV (x.get k).bytes) = bytesV (packTo x (k + 1)) := by
  have e1 : bytesV (packTo x k) = bytesV (lvB x.lv :: ((List.range k).map fun j => (x.get j).bytes).flatten) ++ bytesV (List.replicate (255 - 47 * k) 0) := by rw [packTo, bytesV_append]
  have e2 : (bytesV (lvB x.lv :: ((List.range k).map fun j => (x.get j).bytes).flatten)).length = 1 + 47 * k := by rw [length_bytesV, List.length_cons, length_flat h]; omega
  have := put_app (bytesV (lvB x.lv :: ((List.range k).map fun j => (x.get j).bytes).flatten)) (bytesV (List.replicate (255 - 47 * k) 0)) 0 (bytesV (x.get k).bytes)
  rw [e2, Nat.add_zero] at this
  rw [e1, this, packTo, List.range_succ, List.map_append, List.flatten_append]
  have e3 : List.replicate (255 - 47 * k) (0 : UInt8) = List.replicate 47 0 ++ List.replicate (255 - 47 * (k + 1)) 0 := by rw [List.replicate_append_replicate]; congr 1; omega
  rw [e3]
  have e4 : (bytesV (x.get k).bytes).length = 47 := by rw [length_bytesV, PV.length_bytes (h k)]
  simp only [putAt, List.take_zero, List.nil_append, e4, Nat.zero_add, bytesV_append, ← List.cons_append, List.append_assoc]
  congr 1
  simp [bytesV, List.drop_append]
theorem packTo_zero (x : NV) : packTo x 0 = lvB x.lv :: List.replicate 255 0 := rfl
theorem lvB_val {lv : Int} (h1 : 1 ≤ lv) (h3 : lv ≤ 3) : ((lvB lv).toNat : Int) = lv := by
  unfold lvB; rw [UInt8.toNat_ofNat']; omega
theorem NV.at_tail {x : NV} (h : x.Ln) {k : Nat} (hk : k < 4) : ((x.cells.drop 1).drop (k * 35)).take 35 = (x.get k).cells := by
  have := NV.at' h hk
  rw [PV.len (h k)] at this
  rwa [List.drop_drop]
theorem NV.ok_parts {x : NV} (h : x.ok = true) : 1 ≤ x.lv ∧ x.lv ≤ 3 ∧ ∀ k, k < 4 → (x.get k).ok = true := by
  simp only [NV.ok, Bool.and_eq_true, decide_eq_true_eq] at h
  refine ⟨h.1.1, h.1.2, fun k hk => ?_⟩
  have := (all4 (f := fun p => p.fits x.lv)).1 h.2 k hk
  simp only [PV.fits, Bool.or_eq_true, Bool.and_eq_true] at this
  rcases this with h1 | h1
  · exact PV.hole_ok h1
  · exact h1.1
end Go.Proofs.YtifajcblbedcoaaGreat
namespace Go.Proofs.YtifajcblbedcoaaGreat
set_option linter.unusedVariables false
set_option linter.unusedSimpArgs false
open Go.RowKit Hp
def NV.set (x : NV) : Nat → PV → NV
  | 0, p => { x with p0 := p }
  | 1, p => { x with p1 := p }
  | 2, p => { x with p2 := p }
  | _, p => { x with p3 := p }
theorem NV.get_set_same (x : NV) {k : Nat} (hk : k < 4) (p : PV) : (x.set k p).get k = p := by
  obtain rfl | rfl | rfl | rfl : k = 0 ∨ k = 1 ∨ k = 2 ∨ k = 3 := by omega
  all_goals rfl
theorem NV.get_set_other (x : NV) {k j : Nat} (hk : k < 4) (hj : j < 4) (h : j ≠ k) (p : PV) : (x.set k p).get j = x.get j := by
  obtain rfl | rfl | rfl | rfl : k = 0 ∨ k = 1 ∨ k = 2 ∨ k = 3 := by omega
  all_goals
    obtain rfl | rfl | rfl | rfl : j = 0 ∨ j = 1 ∨ j = 2 ∨ j = 3 := by omega
  all_goals first | rfl | exact absurd rfl h
theorem NV.lv_set (x : NV) (k : Nat) (p : PV) : (x.set k p).lv = x.lv := by
  match k with
  | 0 => rfl
  | 1 => rfl
  | 2 => rfl
  | _ + 3 => rfl
theorem put_at (a b c v : List Value) (h : b.length = v.length) {n : Nat} (hn : n = a.length) : putAt (a ++ (b ++ c)) n v = a ++ (v ++ c) := by
  subst hn
  have := put_app a (b ++ c) 0 v
  rw [Nat.add_zero] at this
  rw [this]
  simp [putAt, ← h]
theorem put_node {x : NV} (h : x.Ln) {k : Nat} (hk : k < 4) {p : PV} (hp : L32 p.S) : putAt x.cells (1 + k * 35) p.cells = (x.set k p).cells := by
  have h0 : x.p0.cells.length = 35 := PV.len (h 0)
  have h1 : x.p1.cells.length = 35 := PV.len (h 1)
  have h2 : x.p2.cells.length = 35 := PV.len (h 2)
  have h3 : x.p3.cells.length = 35 := PV.len (h 3)
  have h4 := PV.len hp
  unfold NV.cells
  obtain rfl | rfl | rfl | rfl : k = 0 ∨ k = 1 ∨ k = 2 ∨ k = 3 := by omega
  · exact put_at [.int .i64 x.lv] x.p0.cells (x.p1.cells ++ (x.p2.cells ++ x.p3.cells)) p.cells (by omega) rfl
  · have := put_at (.int .i64 x.lv :: x.p0.cells) x.p1.cells (x.p2.cells ++ x.p3.cells) p.cells (n := 1 + 1 * 35) (by omega) (by simp [h0])
    simpa [NV.set] using this
  · have := put_at (.int .i64 x.lv :: (x.p0.cells ++ x.p1.cells)) x.p2.cells x.p3.cells p.cells (n := 1 + 2 * 35) (by omega) (by simp [h0, h1])
    simpa [NV.set] using this
  · have := put_at (.int .i64 x.lv :: (x.p0.cells ++ (x.p1.cells ++ x.p2.cells))) x.p3.cells [] p.cells (n := 1 + 3 * 35) (by omega) (by simp [h0, h1, h2])
    simpa [NV.set] using this
def uP (bs : List UInt8) (k : Nat) : List UInt8 := (bs.take (1 + 47 * (k + 1))).drop (1 + 47 * k)
theorem length_uP {bs : List UInt8} (h : bs.length = 256) {k : Nat} (hk : k < 4) : (uP bs k).length = 47 := by simp [uP, h]; omega
def uPV (bs : List UInt8) (k : Nat) : PV := ⟨.slice none 0 0, rAddrs (uP bs k) 3, rBirth (uP bs k), rLevel (uP bs k), rSum (uP bs k)⟩
def PV.eqd (p q : PV) : Prop := p.l = q.l ∧ p.b = q.b ∧ p.v = q.v ∧ p.S = q.S
def uNV (bs : List UInt8) : NV := ⟨((bs.getD 0 0).toNat : Int), uPV bs 0, uPV bs 1, uPV bs 2, uPV bs 3⟩
def uRd (bs : List UInt8) : Bool := rOK (uP bs 0) && (rOK (uP bs 1) && (rOK (uP bs 2) && rOK (uP bs 3)))
def uOK (bs : List UInt8) : Bool := decide (bs.length = 256) && (uRd bs && ((uNV bs).ok && ((uNV bs).bytes == bs)))
def zP : PV := ⟨.slice none 0 0, [], 0, 0, nones⟩
def zN (lv : Int) : NV := ⟨lv, zP, zP, zP, zP⟩
theorem zP_in (w : World) : zP.In w := ⟨L32.nones, none, 0, 0, rfl, Rd.nil w 2, rfl⟩
theorem zN_in (lv : Int) (w : World) : (zN lv).In w := by
  intro k
  match k with
  | 0 => exact zP_in w
  | 1 => exact zP_in w
  | 2 => exact zP_in w
  | _ + 3 => exact zP_in w
theorem uRd_at {bs : List UInt8} : uRd bs = true ↔ ∀ j, j < 4 → rOK (uP bs j) = true := by
  simp only [uRd, Bool.and_eq_true]
  constructor
  · rintro ⟨h0, h1, h2, h3⟩ j hj
    obtain rfl | rfl | rfl | rfl : j = 0 ∨ j = 1 ∨ j = 2 ∨ j = 3 := by omega
    · exact h0
    · exact h1
    · exact h2
    · exact h3
  · intro h
    exact ⟨h 0 (by omega), h 1 (by omega), h 2 (by omega), h 3 (by omega)⟩
theorem uOK_rd {bs : List UInt8} {j : Nat} (hj : j < 4) (h : rOK (uP bs j) = false) : uOK bs = false := by
  have : uRd bs = false := by
    rw [← Bool.not_eq_true, uRd_at]
    intro ha
    rw [ha j hj] at h; cases h
  simp [uOK, this]
theorem PV.eqd.ok {p q : PV} (h : p.eqd q) : p.ok = q.ok ∧ p.hole = q.hole ∧ p.bytes = q.bytes ∧ ∀ lv, p.fits lv = q.fits lv := by
  obtain ⟨h1, h2, h3, h4⟩ := h
  simp only [PV.ok, PV.hole, PV.bytes, PV.fits, h1, h2, h3, h4, and_self, implies_true]
theorem NV.eqd {x y : NV} (hl : x.lv = y.lv) (h : ∀ j, j < 4 → (x.get j).eqd (y.get j)) : x.ok = y.ok ∧ x.bytes = y.bytes := by
  have e0 := (h 0 (by omega)).ok
  have e1 := (h 1 (by omega)).ok
  have e2 := (h 2 (by omega)).ok
  have e3 := (h 3 (by omega)).ok
  simp only [NV.get] at e0 e1 e2 e3
  constructor
  · simp only [NV.ok, NV.fitsAll, hl, e0.2.2.2, e1.2.2.2, e2.2.2.2, e3.2.2.2]
  · simp only [NV.bytes, packTo, hl, List.range, List.range.loop, List.map_cons, List.map_nil, NV.get, e0.2.2.1, e1.2.2.1, e2.2.2.1, e3.2.2.1]
/-- What is read of a sector: the node, and its pointers' addresses among the pieces R. -/
def NV.isU (E : TypeId) (x : NV) (bs : List UInt8) (R : List HA) (k : Nat) : Prop := ∀ j, j < k → (x.get j).eqd (uPV bs j) ∧ ∃ ao n c, (x.get j).sv = .slice ao n c ∧ HA.row (.slice ao n c) E 2 n (addrsV (x.get j).l) ∈ R ∧ (x.get j).l.length = n
def unOut (bs : List UInt8) (w : World) (E : TypeId) (e : Ending) (w' : World) : Prop :=
  if uOK bs then ∃ (x : NV) (R : List HA), e = .returned (.tuple #[.agg x.cells.toArray, .int .i64 0]) ∧ St w [] w' R ∧ x.lv = (uNV bs).lv ∧ x.isU E bs R 4
  else e = .returned (.tuple #[.agg (zN 0).cells.toArray, .int .i64 (if bs.length = 256 then 2 else 4)]) ∧ St w [] w' []
theorem NV.isU.in {E : TypeId} {x : NV} {bs : List UInt8} {R L : List HA} {w0 w : World} {M : List Nat} {k : Nat} (h : x.isU E bs R k) (hst : St w0 M w L) (hR : ∀ y ∈ R, y ∈ L) (hS : ∀ j, j < k → L32 (uPV bs j).S) (hz : ∀ j, k ≤ j → j < 4 → x.get j = zP) : x.In w := by
  have main : ∀ j, j < 4 → (x.get j).In w := by
    intro j hj
    by_cases hk : j < k
    · obtain ⟨⟨h1, h2, h3, h4⟩, ao, n, c, h5, h6, h7⟩ := h j hk
      exact ⟨by rw [h4]; exact hS j hk, ao, n, c, h5, Rd.row hst (hR _ h6), h7⟩
    · rw [hz j (by omega) hj]; exact zP_in w
  intro j
  match j with
  | 0 => exact main 0 (by omega)
  | 1 => exact main 1 (by omega)
  | 2 => exact main 2 (by omega)
  | _ + 3 => exact main 3 (by omega)
end Go.Proofs.YtifajcblbedcoaaGreat
namespace Go.Proofs.YtifajcblbedcoaaGreat
set_option linter.unusedVariables false
set_option linter.unusedSimpArgs false
open Go.RowKit Hp
set_option maxRecDepth 100000
def xC (id : Int) (nm : List UInt8) (kind size : Int) (p : PV) (a b c d e : Int) : List Value := .int .i64 id :: .string ⟨nm.toArray⟩ :: .int .i64 kind :: .int .i64 size :: (p.cells ++ [.int .i64 a, .int .i64 b, .int .i64 c, .int .i64 d, .int .i64 e])
section
variable {id : Int} {nm : List UInt8} {kind size : Int} {p : PV} {a b c d e : Int}
theorem xC_len (h : L32 p.S) : (xC id nm kind size p a b c d e).length = 44 := by simp [xC, PV.len h]
theorem xC_put0 (z : Int) : putAt (xC id nm kind size p a b c d e) 0 [.int .i64 z] = xC z nm kind size p a b c d e := rfl
theorem xC_put1 (z : List UInt8) : putAt (xC id nm kind size p a b c d e) 1 [.string ⟨z.toArray⟩] = xC id z kind size p a b c d e := rfl
theorem xC_put2 (z : Int) : putAt (xC id nm kind size p a b c d e) 2 [.int .i64 z] = xC id nm z size p a b c d e := rfl
theorem xC_put3 (z : Int) : putAt (xC id nm kind size p a b c d e) 3 [.int .i64 z] = xC id nm kind z p a b c d e := rfl
theorem xC_put4 {q : PV} (h : L32 p.S) (h' : L32 q.S) : putAt (xC id nm kind size p a b c d e) 4 q.cells = xC id nm kind size q a b c d e :=
  put_at [.int .i64 id, .string ⟨nm.toArray⟩, .int .i64 kind, .int .i64 size] p.cells [.int .i64 a, .int .i64 b, .int .i64 c, .int .i64 d, .int .i64 e] q.cells (by rw [PV.len h, PV.len h']) rfl
theorem xC_tail (h : L32 p.S) {k : Nat} {v : Value} {t t' : List Value} (ht : putAt t k [v] = t') : putAt (.int .i64 id :: .string ⟨nm.toArray⟩ :: .int .i64 kind :: .int .i64 size :: (p.cells ++ t)) (39 + k) [v] = .int .i64 id :: .string ⟨nm.toArray⟩ :: .int .i64 kind :: .int .i64 size :: (p.cells ++ t') := by
  have hl := PV.len h
  subst ht
  unfold putAt
  have e1 : (Value.int IntKind.i64 id :: Value.string ⟨nm.toArray⟩ :: Value.int IntKind.i64 kind :: Value.int IntKind.i64 size :: (p.cells ++ t)) = ([Value.int IntKind.i64 id, Value.string ⟨nm.toArray⟩, Value.int IntKind.i64 kind, Value.int IntKind.i64 size] ++ p.cells) ++ t := by simp
  have e2 : ([Value.int IntKind.i64 id, Value.string ⟨nm.toArray⟩, Value.int IntKind.i64 kind, Value.int IntKind.i64 size] ++ p.cells).length = 39 := by simp [hl]
  rw [e1, List.take_append, List.drop_append, e2, List.take_of_length_le (by rw [e2]; omega), List.drop_of_length_le (by rw [e2]; omega)]
  simp
  congr 2
  omega
theorem xC_put39 (h : L32 p.S) (z : Int) : putAt (xC id nm kind size p a b c d e) 39 [.int .i64 z] = xC id nm kind size p z b c d e := xC_tail h (k := 0) rfl
theorem xC_put40 (h : L32 p.S) (z : Int) : putAt (xC id nm kind size p a b c d e) 40 [.int .i64 z] = xC id nm kind size p a z c d e := xC_tail h (k := 1) rfl
theorem xC_put41 (h : L32 p.S) (z : Int) : putAt (xC id nm kind size p a b c d e) 41 [.int .i64 z] = xC id nm kind size p a b z d e := xC_tail h (k := 2) rfl
theorem xC_put42 (h : L32 p.S) (z : Int) : putAt (xC id nm kind size p a b c d e) 42 [.int .i64 z] = xC id nm kind size p a b c z e := xC_tail h (k := 3) rfl
theorem xC_put43 (h : L32 p.S) (z : Int) : putAt (xC id nm kind size p a b c d e) 43 [.int .i64 z] = xC id nm kind size p a b c d z := xC_tail h (k := 4) rfl
theorem xC_all : ((xC id nm kind size p a b c d e).drop 0).take (xC id nm kind size p a b c d e).length = xC id nm kind size p a b c d e := by simp
theorem xC_ones (h : p.cells.all (·.oneCell') = true) : (xC id nm kind size p a b c d e).all (·.oneCell') = true := by
  simp [xC, Value.oneCell', List.all_append] at h ⊢
  exact h
end
theorem numG1_lt (B : List UInt8) (s : GS) : numG B 1 s < 256 := by
  unfold numG
  refine Nat.lt_of_lt_of_le (beN_lt _) ?_
  have : (gotG false B 1 s).length ≤ 1 := by
    unfold gotG
    split
    · simp
    · rw [List.length_take]; omega
  calc 256 ^ (gotG false B 1 s).length ≤ 256 ^ 1 := Nat.pow_le_pow_right (by decide) this
    _ = 256 := by decide
theorem rS_le {B : List UInt8} {s : GS} (h : s.pos ≤ B.length) : (rS1 B s).pos ≤ B.length ∧ (rS2 B s).pos ≤ B.length ∧ (rS3 B s).pos ≤ B.length ∧ (rS4 B s).pos ≤ B.length ∧ (rS5 B s).pos ≤ B.length ∧ (rS6 B s).pos ≤ B.length ∧ (rS7 B s).pos ≤ B.length ∧ (rS8 B s).pos ≤ B.length ∧ (rS9 B s).pos ≤ B.length ∧ (rS10 B s).pos ≤ B.length := by
  have h1 : (rS1 B s).pos ≤ B.length := GS.go_pos h
  have h2 : (rS2 B s).pos ≤ B.length := GS.go_pos h1
  have h3 : (rS3 B s).pos ≤ B.length := GS.go_pos h2
  have h4 : (rS4 B s).pos ≤ B.length := GS.go_pos h3
  have h5 : (rS5 B s).pos ≤ B.length := GS.go_pos h4
  have h6 : (rS6 B s).pos ≤ B.length := GS.go_pos h5
  have h7 : (rS7 B s).pos ≤ B.length := GS.go_pos h6
  have h8 : (rS8 B s).pos ≤ B.length := GS.go_pos h7
  have h9 : (rS9 B s).pos ≤ B.length := GS.go_pos h8
  exact ⟨h1, h2, h3, h4, h5, h6, h7, h8, h9, GS.go_pos h9⟩
theorem rec_cells {z : Bool} {B : List UInt8} {s : GS} {sv : Value} {l : List (Int × Int)} {b v : Int} {S : List UInt8} (h : rootG (gotG z B 47 (rS5 B s)) = ⟨l, b, v, S⟩) :
    cellsR (sv, recG z B s) = xC (numG B 4 s : Nat) (gotG z B (numG B 1 (rS1 B s)) (rS2 B s)) (numG B 1 (rS3 B s) : Nat) (numG B 1 (rS4 B s) : Nat) ⟨sv, l, b, v, S⟩ (numG B 4 (rS6 B s) : Nat) (numG B 4 (rS7 B s) : Nat) (numG B 4 (rS8 B s) : Nat) (numG B 1 (rS9 B s) : Nat) (numG B 1 (rS10 B s) : Nat) := by
  show xC (numG B 4 s : Nat) (gotG z B (numG B 1 (rS1 B s)) (rS2 B s)) (numG B 1 (rS3 B s) : Nat) (numG B 1 (rS4 B s) : Nat) ⟨sv, (rootG (gotG z B 47 (rS5 B s))).l, (rootG (gotG z B 47 (rS5 B s))).b, (rootG (gotG z B 47 (rS5 B s))).v, (rootG (gotG z B 47 (rS5 B s))).S⟩ (numG B 4 (rS6 B s) : Nat) (numG B 4 (rS7 B s) : Nat) (numG B 4 (rS8 B s) : Nat) (numG B 1 (rS9 B s) : Nat) (numG B 1 (rS10 B s) : Nat) = _
  rw [h]
theorem rec_l {z : Bool} {B : List UInt8} {s : GS} {l : List (Int × Int)} {b v : Int} {S : List UInt8} (h : rootG (gotG z B 47 (rS5 B s)) = ⟨l, b, v, S⟩) : (recG z B s).l = l := by
  show (rootG (gotG z B 47 (rS5 B s))).l = l
  rw [h]
theorem rec_S (z : Bool) (B : List UInt8) (s : GS) : L32 (recG z B s).S := rootG_L _
theorem rootG_yes {bs : List UInt8} (h : rOK bs = true) : rootG bs = ⟨rAddrs bs 3, rBirth bs, rLevel bs, rSum bs⟩ := by unfold rootG; rw [if_pos h]
theorem rootG_no {bs : List UInt8} (h : rOK bs = false) : rootG bs = ⟨[], 0, 0, nones⟩ := by unfold rootG; rw [h]; rfl
end Go.Proofs.YtifajcblbedcoaaGreat
namespace Go.Proofs.YtifajcblbedcoaaGreat
set_option linter.unusedVariables false
set_option linter.unusedSimpArgs false
open Go.RowKit Hp
attribute [local irreducible] Go.Calls Go.wpList
set_option maxRecDepth 100000
set_option maxHeartbeats 8000000
attribute [local go_sem ↓] heldInt heldInts heldRecs heldRec heldStr
theorem rowS {w0 w : World} {M : List Nat} (L1 : List HA) {L2 : List HA} {v : Value} {T : TypeId} {sz n : Nat} {xs : List Value} (h : St w0 M w (L1 ++ .row v T sz n xs :: L2)) : ∃ ao c, v = .slice ao n c ∧ n ≤ c ∧ c ≤ 9223372036854775807 := by
  obtain ⟨ao, c, e, h1, h2, _⟩ := row_form h (by simp : HA.row v T sz n xs ∈ L1 ++ .row v T sz n xs :: L2)
  exact ⟨ao, c, e, h1, h2⟩
def rootH (x : Value × RC) : HA := .row x.1 102 2 x.2.l.length (addrsV x.2.l)
/-- A record's addresses are among the pieces. -/
def OwnR (L : List HA) (x : Value × RC) : Prop := rootH x ∈ L ∧ L32 x.2.S ∧ x.2.name.length ≤ 1000000
def OwnX (L : List HA) (xs : List (Value × RC)) : Prop := ∀ x ∈ xs, OwnR L x
theorem OwnR.cons {L : List HA} {x : Value × RC} (h : OwnR L x) (y : HA) : OwnR (y :: L) x := ⟨.tail _ h.1, h.2⟩
theorem OwnX.cons {L : List HA} {xs : List (Value × RC)} (h : OwnX L xs) (y : HA) : OwnX (y :: L) xs := fun x hx => (h x hx).cons y
theorem OwnR.sub {L L' : List HA} {x : Value × RC} (h : OwnR L x) (hs : ∀ y ∈ L, y ∈ L') : OwnR L' x := ⟨hs _ h.1, h.2⟩
theorem OwnX.sub {L L' : List HA} {xs : List (Value × RC)} (h : OwnX L xs) (hs : ∀ y ∈ L, y ∈ L') : OwnX L' xs := fun x hx => (h x hx).sub hs
theorem OwnR.In {w0 w : World} {M : List Nat} {L : List HA} {x : Value × RC} (h : OwnR L x) (hst : St w0 M w L) : RC.In w x := root_in hst h.1 h.2.1 (by have := h.2.2; omega)
theorem OwnR.L {L : List HA} {x : Value × RC} (h : OwnR L x) : (cellsR x).length = 44 := cellsR_len h.2.1
theorem recs_inL {w0 w : World} {M : List Nat} {L : List HA} {rv : Value} {n : Nat} {xs : List (Value × RC)} (hst : St w0 M w L) (hr : HA.row rv 53 44 n (recsV xs) ∈ L) (hn : xs.length = n) (ho : OwnX L xs) : RecsIn w rv n xs := ⟨Rd.row hst hr, hn, fun x hx => (ho x hx).In hst⟩
theorem recsV_len {L : List HA} {xs : List (Value × RC)} (h : OwnX L xs) : (recsV xs).length = xs.length * 44 := by
  induction xs with
  | nil => rfl
  | cons x xs ih =>
    show (cellsR x ++ recsV xs).length = _
    rw [List.length_append, (h x (.head _)).L, ih (fun y hy => h y (.tail _ hy)), List.length_cons]
    omega
theorem recsV_take {L : List HA} {xs : List (Value × RC)} (h : OwnX L xs) {k : Nat} (hk : k ≤ xs.length) : (recsV xs).take (k * 44) = recsV (xs.take k) ∧ (recsV xs).drop (k * 44) = recsV (xs.drop k) := by
  have e : recsV xs = recsV (xs.take k) ++ recsV (xs.drop k) := by rw [← recsV_append, List.take_append_drop]
  have hl : (recsV (xs.take k)).length = k * 44 := by
    rw [recsV_len (L := L) (fun x hx => h x (List.mem_of_mem_take hx)), List.length_take, Nat.min_eq_left hk]
  rw [e, ← hl, List.take_left, List.drop_left]
  exact ⟨rfl, rfl⟩
theorem recsV_ones {w0 w : World} {M : List Nat} {L : List HA} {xs : List (Value × RC)} (hst : St w0 M w L) (h : OwnX L xs) : (recsV xs).all (·.oneCell') = true := by
  induction xs with
  | nil => rfl
  | cons x xs ih =>
    show (cellsR x ++ recsV xs).all (·.oneCell') = true
    rw [List.all_append, cellsR_ones ((h x (.head _)).In hst), ih (fun y hy => h y (.tail _ hy))]
    rfl
theorem insert_any {w0 w : World} {M : List Nat} {R : List HA} (ao : Option Addr) (c i n g : Nat) (C X : List Value) (hS : St w0 M w (.blk g 53 X :: .row (.slice ao n c) 53 44 n C :: R)) (hl : C.length = n * 44) (hx : X.length = 44) (hC : C.all (·.oneCell') = true) (hX : X.all (·.oneCell') = true) (hn : n ≤ 100000) (hi : i ≤ n) :
    Calls Tryz.prog 118 #[.slice ao n c, .int .i64 i, .slice (some ⟨g, 0, none⟩) 1 1] w fun e w' => ∃ v', e = .returned v' ∧ St w0 M w' (.row v' 53 44 (n + 1) (C.take (i * 44) ++ (X ++ C.drop (i * 44))) :: R) := by
  by_cases he : i = n
  · exact insEnd ao c i n g C X hS hl hx hC hX hn he
  · obtain ⟨b, c', rest, e, h1, h2, h3, h4, h5⟩ := row_openV (L1 := [_]) hS (by omega)
    cases e
    by_cases hr : n + 1 ≤ c
    · exact insRoom i n g b c rest C X h5 hl hx hC hX hn (by omega) hr h2 h3
    · exact insGrow i n g b c rest C X h5 hl hx hC hX hn (by omega) h1 (by omega) h2
theorem lay_any {w0 w : World} {M : List Nat} {R : List HA} (gt : Nat) (t : TC) (ao : Option Addr) (n c : Nat) (lv : Value) (xs : List (Value × RC)) (x : Value × RC) (hS : St w0 M w (.blk gt 27 (tabC t (.slice ao n c) lv) :: .row (.slice ao n c) 53 44 n (recsV xs) :: R)) (ho : OwnX R xs) (hx : OwnR R x) (hn : xs.length = n) (hs : Sorted (xs.map (·.2))) (hb : n ≤ 1000) :
    Calls Tryz.prog 78 #[.pointer (some ⟨gt, 0, none⟩), .agg (cellsR x).toArray] w fun e w' => ∃ rv', e = .returned (.tuple #[]) ∧ St w0 M w' (.blk gt 27 (tabC t rv' lv) :: .row rv' 53 44 (n + 1) (recsV (xs.take (nLess x.2 (xs.map (·.2))) ++ x :: xs.drop (nLess x.2 (xs.map (·.2))))) :: R) := by
  have hst0 := hS
  have HO := hid ho
  have HOX := hid hx
  have HN := hid hn
  have HS := hid hs
  have HLX := hid hx.L
  have H1 := hid (cellsR_ones ((hx.cons _ |>.cons _).In hst0))
  obtain ⟨k, hk⟩ : ∃ k, k = nLess x.2 (xs.map (·.2)) := ⟨_, rfl⟩
  have hkn : k ≤ n := by rw [hk, ← hn]; have := nLess_le x.2 (xs.map (·.2)); rwa [List.length_map] at this
  rw [← hk]
  have HK := hid hk
  clear ho hx hn hs hk hS
  go_enter Tryz.func78, Tryz.ntmps78
  go_wp2_with (first | go_big_skip | go_big_guard | (refine wl_boxA hst0 rfl rfl rfl ?_; intro g3 w1 hst; clear hst0))
  have hX := hst.drew
  clear hst
  refine wp_region_held_drew (S := (fun w' => (loadVarH 22 ⟨gt, 1, none⟩).run Tryz.prog w' = .ok (.slice ao n c) w' ∧ (loadVarH 53 ⟨g3, 0, none⟩).run Tryz.prog w' = .ok (.agg (List.toArray (cellsR x))) w')) (by kernel_rfl) (by exact ⟨ldS [_] hX rfl, ldA (cellsR x) [] hX (HLX.out) (cellsR_all x)⟩) (fun hHeld => ?_)
  refine tq 0 7 ?_
  refine tq 4 11 ?_
  refine tq 1 8 ?_
  refine tq 2 9 ?_
  refine tq 3 10 ?_
  refine wpAnyH_ready (rs := [5]) (by kernel_rfl) (by simp) ?_
  refine (AllReadyH.cons (o := ⟨some 12, _, _, _, _, _⟩) rfl (fun K hK => ?_) AllReadyH.nil)
  rw [if_pos (by rfl)]
  go_simp
  go_at_call 116
  refine (search_any ao n c xs x _ (recs_inL hX (.tail _ (.tail _ (.head _))) HN.out ((HO.out.cons _).cons _ |>.cons _)) (((HOX.out.cons _).cons _ |>.cons _).In hX) HS.out (by omega)).mono ?_
  rw [← HK.out]
  rintro _ w9 ⟨q9, rfl, h4⟩
  have hA1 := St.call0 hX h4
  clear h4
  refine hK.out _ _ ?_ (fun hHeld => ?_)
  · exact ⟨ldS [_] hA1 rfl, ldA (cellsR x) [] hA1 (HLX.out) (cellsR_all x)⟩
  clear hK K
  (try simp only [Act.put, List.setIfInBounds_toArray, List.set_cons_zero, List.set_cons_succ])
  refine tq 6 6 ?_
  refine tq 7 13 ?_
  refine tq 8 14 ?_
  refine tq 9 4 ?_
  refine tq 10 5 ?_
  refine wpAnyH_done (by kernel_rfl) ?_ _
  clear hHeld
  go_wp2_with (first | go_big_skip | go_big_guard | fail)
  have hY := hA1.drew
  clear hA1
  refine wp_region_held_drew (S := (fun w' => True)) (by kernel_rfl) (by exact trivial) (fun hHeld => ?_)
  refine tq 0 15 ?_
  refine tq 1 16 ?_
  refine tq 5 20 ?_
  refine tq 2 17 ?_
  refine tq 3 18 ?_
  refine wpAnyH_ready (rs := [4, 6]) (by kernel_rfl) (by simp) ?_
  refine (AllReadyH.cons (o := ⟨some 19, _, _, _, _, _⟩) rfl (fun K hK => ?_) (AllReadyH.cons (o := ⟨some 21, _, _, _, _, _⟩) rfl (fun K hK => ?_) AllReadyH.nil))
  · rw [if_pos (by rfl)]
    refine ow_of_wl (ops := #[]) (by rfl) ?_
    refine wl_loadE rfl rfl rfl ?_
    refine ⟨_, Loads.at [_] hY rfl, ?_⟩
    refine q0_nil ?_
    refine hK.out _ _ ?_ (fun hHeld => ?_)
    · exact trivial
    clear hK K
    (try simp only [Act.put, List.setIfInBounds_toArray, List.set_cons_zero, List.set_cons_succ])
    refine wpAnyH_ready (rs := [6]) (by kernel_rfl) (by simp) ?_
    refine (AllReadyH.cons (o := ⟨some 21, _, _, _, _, _⟩) rfl (fun K hK => ?_) AllReadyH.nil)
    rw [if_pos (by rfl)]
    refine ow_of_wl (ops := #[]) (by rfl) ?_
    refine wl_loadE rfl rfl rfl ?_
    refine ⟨_, Loads.atA (cellsR x) [] hY HLX.out (cellsR_all x), ?_⟩
    refine q0_nil ?_
    refine hK.out _ _ ?_ (fun hHeld => ?_)
    · exact trivial
    clear hK K
    (try simp only [Act.put, List.setIfInBounds_toArray, List.set_cons_zero, List.set_cons_succ])
    refine wpAnyH_ready (rs := [7]) (by kernel_rfl) (by simp) ?_
    refine (AllReadyH.cons (o := ⟨some 22, _, _, _, _, _⟩) rfl (fun K hK => ?_) AllReadyH.nil)
    rw [if_pos (by rfl)]
    refine ow_of_wl (ops := #[]) (by rfl) ?_
    apply wl_bsX [.agg (List.toArray (cellsR x))] (cellsR x) hY
    · rfl
    · rfl
    · exact rfl
    · exact (List.append_nil _)
    · infer_instance
    · infer_instance
    · (show (((List.toArray (cellsR x)).size == 44) && true) = true; rw [List.size_toArray, HLX.out]; rfl)
    · rfl
    · rfl
    intro gb w5 hP1
    refine q0_nil ?_
    refine hK.out _ _ ?_ (fun hHeld => ?_)
    · exact trivial
    clear hK K
    (try simp only [Act.put, List.setIfInBounds_toArray, List.set_cons_zero, List.set_cons_succ])
    refine wpAnyH_ready (rs := [8]) (by kernel_rfl) (by simp) ?_
    refine (AllReadyH.cons (o := ⟨some 23, _, _, _, _, _⟩) rfl (fun K hK => ?_) AllReadyH.nil)
    rw [if_pos (by rfl)]
    go_simp
    go_at_call 118
    refine (insert_any ao c k n gb (recsV xs) (cellsR x) ((St.front (L1 := [_]) (St.front (L1 := [_, _, _]) hP1))) (by rw [recsV_len HO.out, HN.out]) HLX.out (recsV_ones hP1 (HO.out.sub (fun y hy => (by simp [hy])))) (cellsR_ones ((HOX.out.sub (fun y hy => (by simp [hy]))).In hP1)) (by omega) (by omega)).mono ?_
    rintro _ w6 ⟨v6, rfl, h4⟩
    have hI1 := h4
    clear h4
    refine hK.out _ _ ?_ (fun hHeld => ?_)
    · exact trivial
    clear hK K
    (try simp only [Act.put, List.setIfInBounds_toArray, List.set_cons_zero, List.set_cons_succ])
    refine tq 9 24 ?_
    refine tq 10 25 ?_
    refine wpAnyH_ready (rs := [11]) (by kernel_rfl) (by simp) ?_
    refine (AllReadyH.cons (o := ⟨none, _, _, _, _, _⟩) rfl (fun K hK => ?_) AllReadyH.nil)
    rw [if_pos (by rfl)]
    refine ow_of_wl (ops := #[]) (by rfl) ?_
    obtain ⟨a6, c6, rfl, _, _⟩ := rowS [] hI1
    refine wl_store [_, _] hI1 rfl rfl rfl (off := 1) (v := .slice _ _ _) rfl rfl rfl (by show (1 : Nat) + 1 ≤ 7; decide) ?_
    intro w7 hI2
    refine q0_nil ?_
    refine hK.out _ _ ?_ (fun hHeld => ?_)
    · exact trivial
    clear hK K
    (try simp only [Act.put, List.setIfInBounds_toArray, List.set_cons_zero, List.set_cons_succ])
    refine wpAnyH_done (by kernel_rfl) ?_ _
    clear hHeld
    go_wp2_with (first | go_big_skip | go_big_guard | fail)
    go_end0
    refine ⟨.slice a6 (n + 1) c6, rfl, ?_⟩
    have hk := recsV_take HO.out (k := k) (by rw [HN.out]; omega)
    have e1 := (St.front (L1 := [_, _]) hI2)
    rw [hk.1, hk.2] at e1
    have e2 : recsV (xs.take k) ++ (cellsR x ++ recsV (xs.drop k)) = recsV (xs.take k ++ x :: xs.drop k) := by
      rw [recsV_append]
      rfl
    rw [e2] at e1
    exact St.sub e1 (.cons_cons _ (.cons_cons _ (.cons _ (List.Sublist.refl _))))
  · rw [if_pos (by rfl)]
    refine ow_of_wl (ops := #[]) (by rfl) ?_
    refine wl_loadE rfl rfl rfl ?_
    refine ⟨_, Loads.atA (cellsR x) [] hY HLX.out (cellsR_all x), ?_⟩
    refine q0_nil ?_
    refine hK.out _ _ ?_ (fun hHeld => ?_)
    · exact trivial
    clear hK K
    (try simp only [Act.put, List.setIfInBounds_toArray, List.set_cons_zero, List.set_cons_succ])
    refine wpAnyH_ready (rs := [4, 7]) (by kernel_rfl) (by simp) ?_
    refine (AllReadyH.cons (o := ⟨some 19, _, _, _, _, _⟩) rfl (fun K hK => ?_) (AllReadyH.cons (o := ⟨some 22, _, _, _, _, _⟩) rfl (fun K hK => ?_) AllReadyH.nil))
    · rw [if_pos (by rfl)]
      refine ow_of_wl (ops := #[]) (by rfl) ?_
      refine wl_loadE rfl rfl rfl ?_
      refine ⟨_, Loads.at [_] hY rfl, ?_⟩
      refine q0_nil ?_
      refine hK.out _ _ ?_ (fun hHeld => ?_)
      · exact trivial
      clear hK K
      (try simp only [Act.put, List.setIfInBounds_toArray, List.set_cons_zero, List.set_cons_succ])
      refine wpAnyH_ready (rs := [7]) (by kernel_rfl) (by simp) ?_
      refine (AllReadyH.cons (o := ⟨some 22, _, _, _, _, _⟩) rfl (fun K hK => ?_) AllReadyH.nil)
      rw [if_pos (by rfl)]
      refine ow_of_wl (ops := #[]) (by rfl) ?_
      apply wl_bsX [.agg (List.toArray (cellsR x))] (cellsR x) hY
      · rfl
      · rfl
      · exact rfl
      · exact (List.append_nil _)
      · infer_instance
      · infer_instance
      · (show (((List.toArray (cellsR x)).size == 44) && true) = true; rw [List.size_toArray, HLX.out]; rfl)
      · rfl
      · rfl
      intro gb w5 hP2
      refine q0_nil ?_
      refine hK.out _ _ ?_ (fun hHeld => ?_)
      · exact trivial
      clear hK K
      (try simp only [Act.put, List.setIfInBounds_toArray, List.set_cons_zero, List.set_cons_succ])
      refine wpAnyH_ready (rs := [8]) (by kernel_rfl) (by simp) ?_
      refine (AllReadyH.cons (o := ⟨some 23, _, _, _, _, _⟩) rfl (fun K hK => ?_) AllReadyH.nil)
      rw [if_pos (by rfl)]
      go_simp
      go_at_call 118
      refine (insert_any ao c k n gb (recsV xs) (cellsR x) ((St.front (L1 := [_]) (St.front (L1 := [_, _, _]) hP2))) (by rw [recsV_len HO.out, HN.out]) HLX.out (recsV_ones hP2 (HO.out.sub (fun y hy => (by simp [hy])))) (cellsR_ones ((HOX.out.sub (fun y hy => (by simp [hy]))).In hP2)) (by omega) (by omega)).mono ?_
      rintro _ w6 ⟨v6, rfl, h4⟩
      have hI1 := h4
      clear h4
      refine hK.out _ _ ?_ (fun hHeld => ?_)
      · exact trivial
      clear hK K
      (try simp only [Act.put, List.setIfInBounds_toArray, List.set_cons_zero, List.set_cons_succ])
      refine tq 9 24 ?_
      refine tq 10 25 ?_
      refine wpAnyH_ready (rs := [11]) (by kernel_rfl) (by simp) ?_
      refine (AllReadyH.cons (o := ⟨none, _, _, _, _, _⟩) rfl (fun K hK => ?_) AllReadyH.nil)
      rw [if_pos (by rfl)]
      refine ow_of_wl (ops := #[]) (by rfl) ?_
      obtain ⟨a6, c6, rfl, _, _⟩ := rowS [] hI1
      refine wl_store [_, _] hI1 rfl rfl rfl (off := 1) (v := .slice _ _ _) rfl rfl rfl (by show (1 : Nat) + 1 ≤ 7; decide) ?_
      intro w7 hI2
      refine q0_nil ?_
      refine hK.out _ _ ?_ (fun hHeld => ?_)
      · exact trivial
      clear hK K
      (try simp only [Act.put, List.setIfInBounds_toArray, List.set_cons_zero, List.set_cons_succ])
      refine wpAnyH_done (by kernel_rfl) ?_ _
      clear hHeld
      go_wp2_with (first | go_big_skip | go_big_guard | fail)
      go_end0
      refine ⟨.slice a6 (n + 1) c6, rfl, ?_⟩
      have hk := recsV_take HO.out (k := k) (by rw [HN.out]; omega)
      have e1 := (St.front (L1 := [_, _]) hI2)
      rw [hk.1, hk.2] at e1
      have e2 : recsV (xs.take k) ++ (cellsR x ++ recsV (xs.drop k)) = recsV (xs.take k ++ x :: xs.drop k) := by
        rw [recsV_append]
        rfl
      rw [e2] at e1
      exact St.sub e1 (.cons_cons _ (.cons_cons _ (.cons _ (List.Sublist.refl _))))
    · rw [if_pos (by rfl)]
      refine ow_of_wl (ops := #[]) (by rfl) ?_
      apply wl_bsX [.agg (List.toArray (cellsR x))] (cellsR x) hY
      · rfl
      · rfl
      · exact rfl
      · exact (List.append_nil _)
      · infer_instance
      · infer_instance
      · (show (((List.toArray (cellsR x)).size == 44) && true) = true; rw [List.size_toArray, HLX.out]; rfl)
      · rfl
      · rfl
      intro gb w5 hP3
      refine q0_nil ?_
      refine hK.out _ _ ?_ (fun hHeld => ?_)
      · exact trivial
      clear hK K
      (try simp only [Act.put, List.setIfInBounds_toArray, List.set_cons_zero, List.set_cons_succ])
      refine wpAnyH_ready (rs := [4]) (by kernel_rfl) (by simp) ?_
      refine (AllReadyH.cons (o := ⟨some 19, _, _, _, _, _⟩) rfl (fun K hK => ?_) AllReadyH.nil)
      rw [if_pos (by rfl)]
      refine ow_of_wl (ops := #[]) (by rfl) ?_
      refine wl_loadE rfl rfl rfl ?_
      refine ⟨_, Loads.at [_, _] hP3 rfl, ?_⟩
      refine q0_nil ?_
      refine hK.out _ _ ?_ (fun hHeld => ?_)
      · exact trivial
      clear hK K
      (try simp only [Act.put, List.setIfInBounds_toArray, List.set_cons_zero, List.set_cons_succ])
      refine wpAnyH_ready (rs := [8]) (by kernel_rfl) (by simp) ?_
      refine (AllReadyH.cons (o := ⟨some 23, _, _, _, _, _⟩) rfl (fun K hK => ?_) AllReadyH.nil)
      rw [if_pos (by rfl)]
      go_simp
      go_at_call 118
      refine (insert_any ao c k n gb (recsV xs) (cellsR x) ((St.front (L1 := [_]) (St.front (L1 := [_, _, _]) hP3))) (by rw [recsV_len HO.out, HN.out]) HLX.out (recsV_ones hP3 (HO.out.sub (fun y hy => (by simp [hy])))) (cellsR_ones ((HOX.out.sub (fun y hy => (by simp [hy]))).In hP3)) (by omega) (by omega)).mono ?_
      rintro _ w6 ⟨v6, rfl, h4⟩
      have hI1 := h4
      clear h4
      refine hK.out _ _ ?_ (fun hHeld => ?_)
      · exact trivial
      clear hK K
      (try simp only [Act.put, List.setIfInBounds_toArray, List.set_cons_zero, List.set_cons_succ])
      refine tq 9 24 ?_
      refine tq 10 25 ?_
      refine wpAnyH_ready (rs := [11]) (by kernel_rfl) (by simp) ?_
      refine (AllReadyH.cons (o := ⟨none, _, _, _, _, _⟩) rfl (fun K hK => ?_) AllReadyH.nil)
      rw [if_pos (by rfl)]
      refine ow_of_wl (ops := #[]) (by rfl) ?_
      obtain ⟨a6, c6, rfl, _, _⟩ := rowS [] hI1
      refine wl_store [_, _] hI1 rfl rfl rfl (off := 1) (v := .slice _ _ _) rfl rfl rfl (by show (1 : Nat) + 1 ≤ 7; decide) ?_
      intro w7 hI2
      refine q0_nil ?_
      refine hK.out _ _ ?_ (fun hHeld => ?_)
      · exact trivial
      clear hK K
      (try simp only [Act.put, List.setIfInBounds_toArray, List.set_cons_zero, List.set_cons_succ])
      refine wpAnyH_done (by kernel_rfl) ?_ _
      clear hHeld
      go_wp2_with (first | go_big_skip | go_big_guard | fail)
      go_end0
      refine ⟨.slice a6 (n + 1) c6, rfl, ?_⟩
      have hk := recsV_take HO.out (k := k) (by rw [HN.out]; omega)
      have e1 := (St.front (L1 := [_, _]) hI2)
      rw [hk.1, hk.2] at e1
      have e2 : recsV (xs.take k) ++ (cellsR x ++ recsV (xs.drop k)) = recsV (xs.take k ++ x :: xs.drop k) := by
        rw [recsV_append]
        rfl
      rw [e2] at e1
      exact St.sub e1 (.cons_cons _ (.cons_cons _ (.cons _ (List.Sublist.refl _))))
end Go.Proofs.YtifajcblbedcoaaGreat
namespace Go.Proofs.YtifajcblbedcoaaGreat
set_option linter.unusedVariables false
set_option linter.unusedSimpArgs false
open Go.RowKit Hp
attribute [local irreducible] Go.Calls Go.wpList
set_option maxRecDepth 100000
set_option maxHeartbeats 8000000
attribute [local go_sem ↓] heldInt heldInts heldRecs heldRec heldStr heldTab
def idR (x : Value × RC) (z : Int) : Value × RC := (x.1, { x.2 with id := z })
theorem idR_own {L : List HA} {x : Value × RC} (h : OwnR L x) (z : Int) : OwnR L (idR x z) := ⟨h.1, h.2⟩
theorem idR_cells (x : Value × RC) (z : Int) : putAt (cellsR x) 0 [.int .i64 z] = cellsR (idR x z) := rfl
def nextT (t : TC) : TC := { t with next := t.next + 1 }
theorem next_cells (t : TC) (rv lv : Value) : putAt (tabC t rv lv) 0 [.int .i64 (t.next + 1)] = tabC (nextT t) rv lv := rfl
theorem lay_map (x : Value × RC) (xs : List (Value × RC)) : (xs.take (nLess x.2 (xs.map (·.2))) ++ x :: xs.drop (nLess x.2 (xs.map (·.2)))).map (·.2) = layL x.2 (xs.map (·.2)) := by
  rw [layL_at, List.map_append, List.map_cons, List.map_take, List.map_drop]
theorem lay_own {L : List HA} {x : Value × RC} {xs : List (Value × RC)} (h : OwnX L xs) (hx : OwnR L x) (k : Nat) : OwnX L (xs.take k ++ x :: xs.drop k) := fun y hy => by
  rcases List.mem_append.1 hy with hy | hy
  · exact h y (List.mem_of_mem_take hy)
  · rcases List.mem_cons.1 hy with rfl | hy
    · exact hx
    · exact h y (List.mem_of_mem_drop hy)
theorem lay_roots {α : Type} (f : Value × RC → α) (x : Value × RC) (xs : List (Value × RC)) (k : Nat) : ((xs.take k ++ x :: xs.drop k).map f).Perm (f x :: xs.map f) := by
  have h : (xs.take k ++ x :: xs.drop k).Perm (x :: xs) := by
    have := List.perm_middle (a := x) (l₁ := xs.take k) (l₂ := xs.drop k)
    rwa [List.take_append_drop] at this
  exact h.map f
theorem putRec_any {w0 w : World} {M : List Nat} {R : List HA} (gt : Nat) (t : TC) (ao : Option Addr) (n c : Nat) (lv : Value) (xs : List (Value × RC)) (x : Value × RC) (hS : St w0 M w (.blk gt 27 (tabC t (.slice ao n c) lv) :: .row (.slice ao n c) 53 44 n (recsV xs) :: R)) (ho : OwnX R xs) (hx : OwnR R x) (hn : xs.length = n) (hs : Sorted (xs.map (·.2))) (hb : n ≤ 1000) (ht : 0 ≤ t.next ∧ t.next ≤ 2147483648) :
    Calls Tryz.prog 66 #[.pointer (some ⟨gt, 0, none⟩), .agg (cellsR x).toArray] w fun e w' => ∃ rv' xs', e = .returned (.int .i64 0) ∧ xs'.map (·.2) = layL { x.2 with id := t.next } (xs.map (·.2)) ∧ OwnX R xs' ∧ (xs'.map rootH).Perm (rootH x :: xs.map rootH) ∧ St w0 M w' (.blk gt 27 (tabC (nextT t) rv' lv) :: .row rv' 53 44 (n + 1) (recsV xs') :: R) := by
  have hst0 := hS
  have HO := hid ho
  have HOX := hid hx
  have HN := hid hn
  have HS := hid hs
  have HLX := hid hx.L
  have HLY := hid (idR_own hx t.next).L
  have H1 := hid (cellsR_ones ((hx.cons _ |>.cons _).In hst0))
  have z1 : IntKind.i64.wrap (t.next + 1) = t.next + 1 := IntWalk.i64_in _ (by omega)
  clear ho hx hn hs hS
  go_enter Tryz.func66, Tryz.ntmps66
  go_wp2_with (first | go_big_skip | go_big_guard | (refine wl_boxA hst0 rfl rfl rfl ?_; intro g3 w1 hst; clear hst0) | (refine wl_loadE rfl rfl rfl ?_; first | refine ⟨_, Loads.at [_] hst rfl, ?_⟩ | refine ⟨_, Loads.at [_] hst2 rfl, ?_⟩ | refine ⟨_, Loads.atA (cellsR (idR x t.next)) [] hst3 HLY.out (cellsR_all _), ?_⟩) | (refine wl_store [] hst rfl rfl rfl (off := 0) (v := .int .i64 t.next) rfl rfl rfl (by rw [HLX.out]; show (0 : Nat) + 1 ≤ 44; decide) ?_; intro w2 h4; have hst2 : St w0 M w2 (.blk g3 53 (cellsR (idR x t.next)) :: .blk gt 27 (tabC t (.slice ao n c) lv) :: .row (.slice ao n c) 53 44 n (recsV xs) :: R) := h4; clear h4 hst) | (refine wl_store [_] hst2 rfl rfl rfl (off := 0) (v := .int .i64 (t.next + 1)) rfl rfl rfl (by show (0 : Nat) + 1 ≤ 7; decide) ?_; intro w3 h4; have hst3 : St w0 M w3 (.blk g3 53 (cellsR (idR x t.next)) :: .blk gt 27 (tabC (nextT t) (.slice ao n c) lv) :: .row (.slice ao n c) 53 44 n (recsV xs) :: R) := h4; clear h4 hst2) | (go_at_call 78; refine (lay_any (R := R) gt (nextT t) ao n c lv xs (idR x t.next) (St.sub hst3 (.cons _ (List.Sublist.refl _))) HO.out (idR_own HOX.out _) HN.out HS.out hb).mono ?_; rintro _ w9 ⟨rv9, rfl, h4⟩; have hst4 := h4; clear h4 hst3))
  go_ret
  exact ⟨rv9, _, rfl, lay_map _ _, lay_own HO.out (idR_own HOX.out _) _, lay_roots rootH (idR x t.next) xs _, hst4⟩
theorem room_any {w0 w : World} {M : List Nat} {R : List HA} (gt : Nat) (t : TC) (ao : Option Addr) (n c : Nat) (lv : Value) (xs : List (Value × RC)) (nm : List UInt8) (hS : St w0 M w (.blk gt 27 (tabC t (.slice ao n c) lv) :: .row (.slice ao n c) 53 44 n (recsV xs) :: R)) (ho : OwnX R xs) (hn : xs.length = n) (he : xs.map (·.2) = t.recs) (hb : n ≤ 1000) :
    Calls Tryz.prog 65 #[.pointer (some ⟨gt, 0, none⟩), str nm] w fun e w' => e = .returned (.int .i64 (roomE t nm)) ∧ St w0 M w' (.blk gt 27 (tabC t (.slice ao n c) lv) :: .row (.slice ao n c) 53 44 n (recsV xs) :: R) := by
  have hst0 := hS
  have HO := hid ho
  have HN := hid hn
  obtain ⟨E, hE⟩ : ∃ E, E = roomE t nm := ⟨_, rfl⟩
  rw [← hE]
  have HEE := hid hE
  obtain ⟨⟨z, is⟩, hf⟩ : ∃ p, findP nm (xs.map (·.2)) = p := ⟨_, rfl⟩
  have HF := hid hf
  have hi : isAt nm t.recs = is := by rw [← findP_is, ← he, hf]
  have hl : (t.recs.length : Int) = n := by rw [← he, List.length_map, hn]
  have HL := hid hl
  have HI := hid hi
  clear ho hn hS hE hf hi he hl
  cases is
  · by_cases h1 : 16 ≤ n
    · have d1 : decide ((n : Int) ≥ 16) = true := decide_eq_true (by omega)
      have d2 : decide ((16 : Int) ≤ (n : Int)) = true := d1
      have HE := hid (show E = 8 by rw [HEE.out]; unfold roomE fullB; rw [HI.out, HL.out, d1]; rfl)
      go_enter Tryz.func65, Tryz.ntmps65
      go_wp2_with (first | go_big_skip | go_big_guard | (refine wl_loadE rfl rfl rfl ?_; first | refine ⟨_, Loads.atA (tabC t (.slice ao n c) lv) [] hst0 rfl rfl, ?_⟩ | refine ⟨_, Loads.at [] hst rfl, ?_⟩) | (go_at_call 57; refine (find_any t lv nm ao n c xs _ (recs_inL hst0 (.tail _ (.head _)) HN.out (HO.out.cons _ |>.cons _)) (by omega)).mono ?_; rw [HF.out]; rintro _ w9 ⟨rfl, h4⟩; have hst := St.call0 hst0 h4; clear h4 hst0))
      go_ret
      exact ⟨by rw [HE.out]; rfl, hst⟩
    · have d1 : decide ((n : Int) ≥ 16) = false := decide_eq_false (by omega)
      have d2 : decide ((16 : Int) ≤ (n : Int)) = false := d1
      by_cases h2 : t.next ≥ 2147483648
      · have d3 : decide (t.next ≥ 2147483648) = true := decide_eq_true h2
        have HE := hid (show E = 8 by rw [HEE.out]; unfold roomE fullB; rw [HI.out, HL.out, d1, d3]; rfl)
        have d4 : decide (2147483648 ≤ t.next) = true := d3
        go_enter Tryz.func65, Tryz.ntmps65
        go_wp2_with (first | go_big_skip | go_big_guard | (refine wl_loadE rfl rfl rfl ?_; first | refine ⟨_, Loads.atA (tabC t (.slice ao n c) lv) [] hst0 rfl rfl, ?_⟩ | refine ⟨_, Loads.at [] hst rfl, ?_⟩) | (go_at_call 57; refine (find_any t lv nm ao n c xs _ (recs_inL hst0 (.tail _ (.head _)) HN.out (HO.out.cons _ |>.cons _)) (by omega)).mono ?_; rw [HF.out]; rintro _ w9 ⟨rfl, h4⟩; have hst := St.call0 hst0 h4; clear h4 hst0))
        go_ret
        exact ⟨by rw [HE.out]; rfl, hst⟩
      · have d3 : decide (t.next ≥ 2147483648) = false := decide_eq_false h2
        have HE := hid (show E = 0 by rw [HEE.out]; unfold roomE fullB; rw [HI.out, HL.out, d1, d3]; rfl)
        have d4 : decide (2147483648 ≤ t.next) = false := d3
        go_enter Tryz.func65, Tryz.ntmps65
        go_wp2_with (first | go_big_skip | go_big_guard | (refine wl_loadE rfl rfl rfl ?_; first | refine ⟨_, Loads.atA (tabC t (.slice ao n c) lv) [] hst0 rfl rfl, ?_⟩ | refine ⟨_, Loads.at [] hst rfl, ?_⟩) | (go_at_call 57; refine (find_any t lv nm ao n c xs _ (recs_inL hst0 (.tail _ (.head _)) HN.out (HO.out.cons _ |>.cons _)) (by omega)).mono ?_; rw [HF.out]; rintro _ w9 ⟨rfl, h4⟩; have hst := St.call0 hst0 h4; clear h4 hst0))
        go_ret
        exact ⟨by rw [HE.out]; rfl, hst⟩
  · have HE := hid (show E = 7 by rw [HEE.out]; unfold roomE; rw [HI.out]; rfl)
    go_enter Tryz.func65, Tryz.ntmps65
    go_wp2_with (first | go_big_skip | go_big_guard | (refine wl_loadE rfl rfl rfl ?_; first | refine ⟨_, Loads.atA (tabC t (.slice ao n c) lv) [] hst0 rfl rfl, ?_⟩ | refine ⟨_, Loads.at [] hst rfl, ?_⟩) | (go_at_call 57; refine (find_any t lv nm ao n c xs _ (recs_inL hst0 (.tail _ (.head _)) HN.out (HO.out.cons _ |>.cons _)) (by omega)).mono ?_; rw [HF.out]; rintro _ w9 ⟨rfl, h4⟩; have hst := St.call0 hst0 h4; clear h4 hst0))
    go_ret
    exact ⟨by rw [HE.out]; rfl, hst⟩
end Go.Proofs.YtifajcblbedcoaaGreat
namespace Go.Proofs.YtifajcblbedcoaaGreat
set_option linter.unusedVariables false
set_option linter.unusedSimpArgs false
open Go.RowKit Hp
attribute [local irreducible] Go.Calls
set_option maxHeartbeats 4000000
theorem results_cellTmp {fn : Func} {p q : Tmp} {ty : TypeId} {tmps : Array Value} {P : Program} {w : World} {A : Addr} {v : Value} (h : fn.results = #[.cell p ty, .tmp q]) (hp : tmps.getD p undef = .pointer (some A)) (hl : Loads P w ty A v) :
    (results fn tmps).run P w = .ok (.tuple #[v, tmps.getD q undef]) w := by
  have hl' : (loadVar ty A).run P w = .ok v w := hl
  have hp' : tmps[p]?.getD undef = .pointer (some A) := by simpa using hp
  simp [results, h, hp', asAddr, hl', Sem.run_bind]
theorem zN_ln (lv : Int) : (zN lv).Ln := (zN_in lv default).ln
theorem zN_ones (lv : Int) : (zN lv).cells.all (·.oneCell') = true := by
  have : (zN lv).cells = .int .i64 lv :: (zN 0).cells.tail := rfl
  rw [this, List.all_cons]
  rfl
theorem zN_get (lv : Int) : ∀ j, (zN lv).get j = zP
  | 0 => rfl
  | 1 => rfl
  | 2 => rfl
  | _ + 3 => rfl
end Go.Proofs.YtifajcblbedcoaaGreat
namespace Go.Proofs.YtifajcblbedcoaaGreat
set_option linter.unusedVariables false
set_option linter.unusedSimpArgs false
open Go.RowKit Hp
attribute [local irreducible] Go.Calls
set_option maxHeartbeats 4000000
/-- y is x with address lists of its own (rows of R) for the first k pointers. -/
def NV.isO (E : TypeId) (y x : NV) (R : List HA) (k : Nat) : Prop := ∀ j, j < k → (y.get j).eqd (x.get j) ∧ ∃ ao n c, (y.get j).sv = .slice ao n c ∧ HA.row (.slice ao n c) E 2 n (addrsV (y.get j).l) ∈ R ∧ (y.get j).l.length = n
def ownOut (x : NV) (w : World) (E : TypeId) (e : Ending) (w' : World) : Prop :=
  ∃ (y : NV) (R : List HA), e = .returned (.agg y.cells.toArray) ∧ St w [] w' R ∧ y.lv = x.lv ∧ y.isO E x R 4
theorem put_sv {x : NV} (h : x.Ln) {k : Nat} (hk : k < 4) (v : Value) : putAt x.cells (1 + k * 35) [v] = (x.set k { x.get k with sv := v }).cells := by
  have h0 : x.p0.cells.length = 35 := PV.len (h 0)
  have h1 : x.p1.cells.length = 35 := PV.len (h 1)
  have h2 : x.p2.cells.length = 35 := PV.len (h 2)
  have go : ∀ (a c : List Value) (s : Value) (n : Nat) (X Y : List Value), X = a ++ ([s] ++ c) → Y = a ++ ([v] ++ c) → n = a.length → putAt X n [v] = Y := by
    intro a c s n X Y e1 e2 e3
    rw [e1, e2]
    exact put_at a [s] c [v] rfl e3
  obtain rfl | rfl | rfl | rfl : k = 0 ∨ k = 1 ∨ k = 2 ∨ k = 3 := by omega
  · exact go [.int .i64 x.lv] (x.p0.cells.tail ++ (x.p1.cells ++ (x.p2.cells ++ x.p3.cells))) x.p0.sv _ _ _ rfl rfl rfl
  · exact go (.int .i64 x.lv :: x.p0.cells) (x.p1.cells.tail ++ (x.p2.cells ++ x.p3.cells)) x.p1.sv _ _ _ rfl rfl (by simp [h0])
  · refine go (.int .i64 x.lv :: (x.p0.cells ++ x.p1.cells)) (x.p2.cells.tail ++ x.p3.cells) x.p2.sv _ _ _ ?_ ?_ (by simp [h0, h1])
    · rw [List.cons_append, List.append_assoc]; rfl
    · rw [List.cons_append, List.append_assoc]; rfl
  · refine go (.int .i64 x.lv :: (x.p0.cells ++ (x.p1.cells ++ x.p2.cells))) x.p3.cells.tail x.p3.sv _ _ _ ?_ ?_ (by simp [h0, h1, h2])
    · rw [List.cons_append, List.append_assoc, List.append_assoc]; rfl
    · rw [List.cons_append, List.append_assoc, List.append_assoc]; rfl
theorem set_ln {y : NV} (h : y.Ln) {k : Nat} (hk : k < 4) {p : PV} (hp : L32 p.S) : ∀ j, L32 ((y.set k p).get j).S := by
  have main : ∀ j, j < 4 → L32 ((y.set k p).get j).S := by
    intro j hj
    by_cases e : j = k
    · subst e; rw [NV.get_set_same y hk]; exact hp
    · rw [NV.get_set_other y hk hj e]; exact h j
  intro j
  match j with
  | 0 => exact main 0 (by omega)
  | 1 => exact main 1 (by omega)
  | 2 => exact main 2 (by omega)
  | _ + 3 => exact main 3 (by omega)
theorem PV.ones_of {p : PV} {ao : Option Addr} {n c : Nat} (h : p.sv = .slice ao n c) : p.cells.all (·.oneCell') = true := by
  rw [PV.cells, h]
  exact ptr_ones _ _ _ _ _ _
theorem NV.isO.ones {E : TypeId} {y x : NV} {R : List HA} (h : y.isO E x R 4) (_hl : y.lv = x.lv) : y.cells.all (·.oneCell') = true := by
  have g : ∀ j, j < 4 → (y.get j).cells.all (·.oneCell') = true := fun j hj => by
    obtain ⟨_, ao, n, c, h2, _⟩ := h j hj
    exact PV.ones_of h2
  have h0 : y.p0.cells.all (·.oneCell') = true := g 0 (by omega)
  have h1 : y.p1.cells.all (·.oneCell') = true := g 1 (by omega)
  have h2 : y.p2.cells.all (·.oneCell') = true := g 2 (by omega)
  have h3 : y.p3.cells.all (·.oneCell') = true := g 3 (by omega)
  rw [NV.cells, List.all_cons, List.all_append, List.all_append, List.all_append, h0, h1, h2, h3]
  rfl
theorem addrs_ones (l : List (Int × Int)) : (addrsV l).all (·.oneCell') = true := by
  induction l with
  | nil => rfl
  | cons a l ih =>
    rw [addrsV, List.all_cons, List.all_cons, ih]
    rfl
end Go.Proofs.YtifajcblbedcoaaGreat
namespace Go.Proofs.YtifajcblbedcoaaGreat
set_option linter.unusedVariables false
set_option linter.unusedSimpArgs false
open Go.RowKit Hp
attribute [local irreducible] Go.Calls
set_option maxHeartbeats 4000000
set_option maxRecDepth 100000
theorem xor_u8 (x y : UInt8) : bits .xor .u8 (x.toNat : Int) (y.toNat : Int) = ((x ^^^ y).toNat : Int) := by
  have hx := x.toNat_lt
  have hy := y.toNat_lt
  have h : x.toNat ^^^ y.toNat < 2 ^ 8 := Nat.xor_lt_two_pow hx hy
  have e : (BitVec.ofInt 8 (x.toNat : Int) ^^^ BitVec.ofInt 8 (y.toNat : Int)).toNat = x.toNat ^^^ y.toNat := by
    rw [BitVec.toNat_xor, BitVec.ofInt_natCast, BitVec.ofInt_natCast, BitVec.toNat_ofNat, BitVec.toNat_ofNat, Nat.mod_eq_of_lt (by omega), Nat.mod_eq_of_lt (by omega)]
  show IntKind.u8.wrap ((BitVec.ofInt 8 (x.toNat : Int) ^^^ BitVec.ofInt 8 (y.toNat : Int)).toNat : Int) = _
  rw [e, UInt8.toNat_xor]
  show ((x.toNat ^^^ y.toNat : Nat) : Int) % 256 = _
  omega
/-- p with other addresses' slice. -/
abbrev PV.re (p : PV) (s : Value) : PV := ⟨s, p.l, p.b, p.v, p.S⟩
theorem copyPtr_any (p : PV) (w : World) (hp : p.In w) (hl : p.l.length ≤ 100000) : Calls Tryz.prog 10 #[.agg p.cells.toArray] w fun e w' =>
    ∃ ao n c, e = .returned (.agg (PV.cells (p.re (.slice ao n c))).toArray) ∧ St w [] w' [.row (.slice ao n c) 102 2 n (addrsV p.l)] ∧ p.l.length = n := by
  have hst := St.refl w
  have hS := hp.1
  obtain ⟨_, ao, n, c, h2, h3, h4⟩ := hp
  have hPL := hid (PV.len (p := p) hS)
  have H2 := hid h2
  have hn : n ≤ 100000 := by rw [← h4]; exact hl
  have H4 := hid h4
  have hRd := hid h3
  have hat := hid (show p.cells[0]? = some (.slice ao n c) by rw [PV.cells, h2]; rfl)
  clear h2 h3 h4 hl
  go_enter Tryz.func10, Tryz.ntmps10
  go_wp2_with (first | go_big_skip | go_big_guard | (refine wl_boxA hst rfl rfl rfl ?_; intro g w1 hst1; clear hst) | (refine wl_alloc hst1 rfl rfl ?_; intro g2 w2 hst2; clear hst1) | (apply wl_bsX [] [] hst2; rfl; rfl; exact rfl; exact rfl; infer_instance; infer_instance; rfl; rfl; rfl; intro g3 w3 hst3; clear hst2; have hst4 := St.toRow (n := 0) (cap := 0) (sz := 2) hst3 rfl (by decide) (by decide); clear hst3) | (refine wl_loadE rfl rfl rfl ?_; refine ⟨_, Loads.at (off := 0) [_, _] hst4 hat.out, ?_⟩) | (apply wl_appX [] hst4; rfl; rfl; exact rfl; exact rfl; infer_instance; infer_instance; infer_instance; exact Rd.old hst4 hRd.out; exact addrs_ones _; (unfold maxLen; omega); intro v9 w9 hst9 _; clear hst4; obtain ⟨ao9, c9, rfl⟩ := St.rowSliceAt [] hst9; rw [Nat.zero_add] at hst9) | (refine wl_store [_, _] hst9 rfl rfl rfl (v := .slice _ _ _) rfl rfl rfl (by show _ + 1 ≤ _; rw [hPL.out]; omega) ?_; intro w10 hst10; clear hst9; have hst11 : St w [] w10 [.row (.slice ao9 n c9) 102 2 n (addrsV p.l), .blk g2 32 (ptrCells (.slice none 0 0) 0 0 nones), .blk g 32 (PV.cells (p.re (.slice ao9 n c9)))] := hst10; clear hst10) | (refine wl_loadE rfl rfl rfl ?_; first | refine ⟨_, Loads.atA (PV.cells (p.re (.slice ao9 n c9))) [_, _] hst11 (PV.len (p := p.re (.slice ao9 n c9)) hS) (by simp), ?_⟩) | (refine wl_storeA [_] hst11 rfl rfl rfl rfl (PV.len (p := p.re (.slice ao9 n c9)) hS) (PV.ones_of (p := p.re (.slice ao9 n c9)) rfl) rfl ?_; intro w12 hst12; clear hst11))
  have hl := Loads.atA (P := Tryz.prog) (off := 0) (T := 32) (PV.cells (p.re (.slice ao9 n c9))) [_] hst12 (PV.len (p := p.re (.slice ao9 n c9)) hS) (by simp)
  refine bodyPost_ret (results_cellL rfl rfl hl) rfl ?_
  exact ⟨ao9, n, c9, rfl, hst12.sub (.cons_cons _ (List.nil_sublist _)), H4.out⟩
def overB (l : List UInt8) : List UInt8 := l.map (· ^^^ 90)
theorem over_step (bs : List UInt8) {k : Nat} (hk : k < bs.length) (x : UInt8) (hx : x = bs.getD k 0) : putAt (bytesV (overB (bs.take k) ++ bs.drop k)) k [.int .u8 ((x ^^^ 90).toNat : Int)] = bytesV (overB (bs.take (k + 1)) ++ bs.drop (k + 1)) := by
  have e : bs.drop k = bs.getD k 0 :: bs.drop (k + 1) := by rw [List.drop_eq_getElem_cons hk]; simp [List.getD, hk]
  have e2 : bs.take (k + 1) = bs.take k ++ [bs.getD k 0] := by rw [List.take_succ_eq_append_getElem hk]; simp [List.getD, hk]
  have hl : (bytesV (overB (bs.take k))).length = k := by simp [overB]; omega
  rw [e2, bytesV_append]
  have := put_at (bytesV (overB (bs.take k))) (bytesV [bs.getD k 0]) (bytesV (bs.drop (k + 1))) [.int .u8 ((x ^^^ 90).toNat : Int)] rfl hl.symm
  rw [e]
  have h3 : bytesV (bs.getD k 0 :: bs.drop (k + 1)) = bytesV [bs.getD k 0] ++ bytesV (bs.drop (k + 1)) := by simp [bytesV]
  rw [h3, this]
  simp [overB, bytesV, hx]
theorem over_get (bs : List UInt8) {k : Nat} (hk : k < bs.length) : (bytesV (overB (bs.take k) ++ bs.drop k))[k]? = some (.int .u8 ((bs.getD k 0).toNat : Int)) := by
  have hl : (overB (bs.take k)).length = k := by simp [overB]; omega
  rw [bytesV, List.getElem?_map, List.getElem?_append_right (by omega), hl, Nat.sub_self, List.getElem?_drop]
  simp [List.getD, hk]
theorem over_addrs (ao : Option Addr) (n c : Nat) (xs : List Value) (w : World) (hv : w.ownsRow 0 102 2 (.slice ao n c) n xs) :
    Calls Tryz.prog 45 #[.slice ao n c] w fun e w' => ∃ ys, e = .returned (.tuple #[]) ∧ St w (Value.slice ao n c).ownBlock.toList w' [.row (.slice ao n c) 102 2 n ys] := by
  have hst := St.ofRow w hv
  obtain ⟨hl, ho⟩ := hv
  rcases ho with ⟨he, rfl⟩ | ⟨g, cap, cur, he, hg0, hg, hnc, hcm, hcs, htake⟩
  · cases he
    go_enter Tryz.func45, Tryz.ntmps45
    go_wp2_with (first | go_big_skip | go_big_guard | fail)
    go_loopw [2] (fun i wr => i = .int .i64 0 ∧ St w (Value.slice none 0 0).ownBlock.toList wr [.row (.slice none 0 0) 102 2 0 xs]) (fun i _ => 0)
    case atStart => exact ⟨rfl, hst⟩
    case round =>
      clear hst
      obtain ⟨rfl, hst⟩ := hrel
      go_wp2_with (first | go_big_skip | go_big_guard | fail)
      go_end0
      exact ⟨xs, rfl, hst⟩
  · cases he
    have hst2 := St.one w g 102 cur.toList hg
    have hc2 : cur.toList.length = c * 2 := by simpa using hcs
    have hcb : c ≤ 9223372036854775807 := hcm
    clear hg hl htake hst hcs hcm
    have Hc2 := hid hc2; clear hc2
    go_enter Tryz.func45, Tryz.ntmps45
    go_wp2_with (first | go_big_skip | go_big_guard | fail)
    go_loopw [2] (fun i wr => ∃ k : Nat, k ≤ n ∧ i = .int .i64 k ∧ ∃ cs : List Value, Hid (cs.length = c * 2) ∧ St w [g] wr [.blk g 102 cs]) (fun i _ => n - (intOf i).toNat)
    case atStart => exact ⟨0, by omega, rfl, _, Hc2, hst2⟩
    case round =>
      clear hst2 Hc2
      obtain ⟨k, hk, rfl, cs, hcl, hst⟩ := hrel
      by_cases hlt : k < n
      · go_wp2_with (first | go_big_skip | go_big_guard | (refine wl_buildS (cs := [.int .i64 (-7), .int .i64 (-7)]) rfl rfl (by kernel_rfl) ?_) | (refine wl_index rfl rfl rfl rfl hlt ?_) | (refine wl_store [] hst rfl rfl rfl (v := .agg (List.toArray _)) rfl rfl rfl (by rw [hcl.out]; simp [Value.cells]; omega) ?_; intro w5 hst4; clear hst))
        have hl4 := hid (show (putAt cs (0 + k * 2) [.int .i64 (-7), .int .i64 (-7)]).length = c * 2 by
          have := hcl.out
          simp [putAt]; omega)
        have hst5 : St w [g] w5 [.blk g 102 (putAt cs (0 + k * 2) [.int .i64 (-7), .int .i64 (-7)])] := hst4
        clear hst4
        go_roundw
        case rel => exact ⟨k + 1, by omega, by go_num, _, hl4, hst5⟩
        case measure => simp [intOf]; omega
      · have e : k = n := by omega
        subst e
        go_wp2_with (first | go_big_skip | go_big_guard | fail)
        go_end0
        exact ⟨_, rfl, hst.toRow hcl.out hnc hcb⟩
end Go.Proofs.YtifajcblbedcoaaGreat
namespace Go.Proofs.YtifajcblbedcoaaGreat
set_option linter.unusedVariables false
set_option linter.unusedSimpArgs false
open Go.RowKit Hp
attribute [local irreducible] Go.Calls Go.wpList Hp.gvV Hp.gB Hp.gA Hp.bOr Hp.bAnd Hp.bNot
set_option maxRecDepth 100000
set_option maxHeartbeats 8000000
theorem sized_any (n : Int) (w : World) : Calls Tryz.prog 63 #[.int .i64 n] w fun e w' => e = .returned (.bool (inB n 1 64)) ∧ St w [] w' [] := by
  have hst := St.refl w
  unfold inB
  by_cases h1 : 1 ≤ n
  · have d1 : decide (n ≥ 1) = true := decide_eq_true h1
    have d2 : decide (1 ≤ n) = true := d1
    rw [d2]
    clear h1
    go_enter Tryz.func63, Tryz.ntmps63
    go_wp2_with (first | go_big_skip | go_big_guard | fail)
    go_ret
    exact ⟨rfl, hst⟩
  · have d1 : decide (n ≥ 1) = false := decide_eq_false h1
    have d2 : decide (1 ≤ n) = false := d1
    rw [d2]
    clear h1
    go_enter Tryz.func63, Tryz.ntmps63
    go_wp2_with (first | go_big_skip | go_big_guard | fail)
    go_ret
    exact ⟨rfl, hst⟩
theorem commit_any (n : Int) (w : World) : Calls Tryz.prog 64 #[.int .i64 n] w fun e w' => e = .returned (.bool (txgB n)) ∧ St w [] w' [] := by
  have hst := St.refl w
  unfold txgB inB
  by_cases h1 : 1 ≤ n
  · have d1 : decide (n ≥ 1) = true := decide_eq_true h1
    have d2 : decide (1 ≤ n) = true := d1
    rw [d2]
    clear h1
    go_enter Tryz.func64, Tryz.ntmps64
    go_wp2_with (first | go_big_skip | go_big_guard | fail)
    go_ret
    exact ⟨rfl, hst⟩
  · have d1 : decide (n ≥ 1) = false := decide_eq_false h1
    have d2 : decide (1 ≤ n) = false := d1
    rw [d2]
    clear h1
    go_enter Tryz.func64, Tryz.ntmps64
    go_wp2_with (first | go_big_skip | go_big_guard | fail)
    go_ret
    exact ⟨rfl, hst⟩
theorem limit13_any (n : Int) (w : World) : Calls Tryz.prog 81 #[.int .i64 n] w fun e w' => e = .returned (.bool (limB n)) ∧ St w [] w' [] := by
  have hst := St.refl w
  unfold limB inB
  by_cases h1 : 0 ≤ n
  · have d1 : decide (n ≥ 0) = true := decide_eq_true h1
    have d2 : decide (0 ≤ n) = true := d1
    rw [d2]
    clear h1
    go_enter Tryz.func81, Tryz.ntmps81
    go_wp2_with (first | go_big_skip | go_big_guard | fail)
    go_ret
    exact ⟨rfl, hst⟩
  · have d1 : decide (n ≥ 0) = false := decide_eq_false h1
    have d2 : decide (0 ≤ n) = false := d1
    rw [d2]
    clear h1
    go_enter Tryz.func81, Tryz.ntmps81
    go_wp2_with (first | go_big_skip | go_big_guard | fail)
    go_ret
    exact ⟨rfl, hst⟩
theorem named_any (nm : List UInt8) (w : World) (hl : nm.length ≤ 9223372036854775807) : Calls Tryz.prog 56 #[str nm] w fun e w' => e = .returned (.bool (namedB nm)) ∧ St w [] w' [] := by
  have hst := St.refl w
  have HL := hid hl
  unfold namedB
  obtain ⟨a, ha⟩ : ∃ a, a = partB nm := ⟨_, rfl⟩
  obtain ⟨b, hb⟩ : ∃ b, b = snapB nm := ⟨_, rfl⟩
  rw [← ha, ← hb]
  have HA := hid ha
  have HB := hid hb
  clear ha hb hl
  cases a
  all_goals
    go_enter Tryz.func56, Tryz.ntmps56
    go_wp2_with (first | go_big_skip | go_big_guard | (go_at_call 62; refine (volume_any nm _ HL.out).mono ?_; rw [← HA.out]; rintro _ w9 ⟨rfl, h4⟩; replace hst := St.call0 hst h4; clear h4) | (go_at_call 71; refine (snap_any nm _ HL.out).mono ?_; rw [← HB.out]; rintro _ w9 ⟨rfl, h4⟩; replace hst := St.call0 hst h4; clear h4))
    go_ret
    exact ⟨rfl, hst⟩
theorem ownP_any (p : PV) (w : World) (hp : p.In w) (hl : p.l.length ≤ 100000) : Calls Tryz.prog 69 #[.agg p.cells.toArray] w fun e w' =>
    ∃ ao n c, e = .returned (.agg (PV.cells (p.re (.slice ao n c))).toArray) ∧ St w [] w' [.row (.slice ao n c) 102 2 n (addrsV p.l)] ∧ p.l.length = n := by
  have hst := St.refl w
  have hS := hp.1
  obtain ⟨_, ao, n, c, h2, h3, h4⟩ := hp
  have hPL := hid (PV.len (p := p) hS)
  have H2 := hid h2
  have hn : n ≤ 100000 := by rw [← h4]; exact hl
  have H4 := hid h4
  have hRd := hid h3
  have hat := hid (show p.cells[0]? = some (.slice ao n c) by rw [PV.cells, h2]; rfl)
  clear h2 h3 h4 hl
  go_enter Tryz.func69, Tryz.ntmps69
  go_wp2_with (first | go_big_skip | go_big_guard | (refine wl_boxA hst rfl rfl rfl ?_; intro g w1 hst1; clear hst) | (refine wl_alloc hst1 rfl rfl ?_; intro g2 w2 hst2; clear hst1) | (refine wl_loadE rfl rfl rfl ?_; first | refine ⟨_, Loads.at (off := 0) [_] hst2 hat.out, ?_⟩ | refine ⟨_, Loads.atA (PV.cells (p.re (.slice ao9 n c9))) [_, _] hst11 (PV.len (p := p.re (.slice ao9 n c9)) hS) (by simp), ?_⟩) | (go_at_call 113; refine (cloneA_any ao n c _ _ (Rd.old hst2 hRd.out) (addrs_ones _) hn).mono ?_; rintro _ w9 ⟨v9, rfl, h4⟩; have hst9 := St.call hst2 h4; clear h4 hst2; obtain ⟨ao9, c9, rfl, _, _⟩ := rowS [] hst9) | (refine wl_store [_, _] hst9 rfl rfl rfl (v := .slice _ _ _) rfl rfl rfl (by show _ + 1 ≤ _; rw [hPL.out]; omega) ?_; intro w10 hst10; clear hst9; have hst11 : St w [] w10 [.row (.slice ao9 n c9) 102 2 n (addrsV p.l), .blk g2 32 (ptrCells (.slice none 0 0) 0 0 nones), .blk g 32 (PV.cells (p.re (.slice ao9 n c9)))] := hst10; clear hst10) | (refine wl_storeA [_] hst11 rfl rfl rfl rfl (PV.len (p := p.re (.slice ao9 n c9)) hS) (PV.ones_of (p := p.re (.slice ao9 n c9)) rfl) rfl ?_; intro w12 hst12; clear hst11))
  have hl := Loads.atA (P := Tryz.prog) (off := 0) (T := 32) (PV.cells (p.re (.slice ao9 n c9))) [_] hst12 (PV.len (p := p.re (.slice ao9 n c9)) hS) (by simp)
  refine bodyPost_ret (results_cellL rfl rfl hl) rfl ?_
  exact ⟨ao9, n, c9, rfl, hst12.sub (.cons_cons _ (List.nil_sublist _)), H4.out⟩
theorem split_lenG (l : List UInt8) : (splitL l).1.length ≤ l.length ∧ (splitL l).2.1.length ≤ l.length := by
  unfold splitL
  split
  · exact cutL_len l
  · simp
theorem alike13_any (a b : List UInt8) (w : World) (ha : a.length ≤ 9223372036854775807) (hb : b.length ≤ 9223372036854775807) : Calls Tryz.prog 76 #[str a, str b] w fun e w' => e = .returned (.bool (alikeB a b)) ∧ St w [] w' [] := by
  have hst := St.refl w
  have HLA := hid ha
  have HLB := hid hb
  clear ha hb
  obtain ⟨E, hE⟩ : ∃ E, E = alikeB a b := ⟨_, rfl⟩
  rw [← hE]
  obtain ⟨p, hp⟩ : ∃ p, partB a = p := ⟨_, rfl⟩
  obtain ⟨q, hq⟩ : ∃ q, partB b = q := ⟨_, rfl⟩
  obtain ⟨⟨v, u, f⟩, hx⟩ : ∃ p, splitL a = p := ⟨_, rfl⟩
  obtain ⟨⟨v', u', f'⟩, hy⟩ : ∃ p, splitL b = p := ⟨_, rfl⟩
  obtain ⟨s, hs⟩ : ∃ s, (v == v') = s := ⟨_, rfl⟩
  have hE2 : E = ((p && q) || ((f && f') && s)) := by rw [hE]; unfold alikeB; rw [hp, hq, hx, hy, ← hs]
  rw [hE2]
  have HP := hid hp
  have HQ := hid hq
  have HX := hid hx
  have HY := hid hy
  have HS := hid hs
  clear hE hE2 hp hq hx hy hs
  cases p <;> cases q <;> cases f <;> cases f'
  all_goals
    go_enter Tryz.func76, Tryz.ntmps76
    go_wp2_with (first | go_big_skip | go_big_guard | (go_at_call 68; first | (refine (split_any a _ HLA.out).mono ?_; rw [HX.out]; rintro _ w9 ⟨rfl, h4⟩; replace hst := St.call0 hst h4; clear h4) | (refine (split_any b _ HLB.out).mono ?_; rw [HY.out]; rintro _ w9 ⟨rfl, h4⟩; replace hst := St.call0 hst h4; clear h4)) | (go_at_call 62; first | (refine (volume_any a _ HLA.out).mono ?_; rw [HP.out]; rintro _ w9 ⟨rfl, h4⟩; replace hst := St.call0 hst h4; clear h4) | (refine (volume_any b _ HLB.out).mono ?_; rw [HQ.out]; rintro _ w9 ⟨rfl, h4⟩; replace hst := St.call0 hst h4; clear h4)) | (refine wl_eqS rfl rfl rfl rfl ?_; rw [HS.out]))
    go_ret
    exact ⟨by first | rfl | (rw [← HS.out]; rfl) | (cases s <;> rfl), hst⟩
theorem containsR_any (fn g : Nat) (p : RC → Bool) (ao : Option Addr) (n c : Nat) (xs : List (Value × RC)) (w : World) (hfn : ∀ (a : Array Value) (w : World), (callFunc fn a).run Tryz.prog w = .ok (.enter fn a) w)
    (hcl : ∀ (x : Value × RC) (w' : World), x ∈ xs → St w [] w' [] → Calls Tryz.prog fn #[.agg (cellsR x).toArray, .pointer (some ⟨g, 0, none⟩)] w' fun e w2 => e = .returned (.bool (p x.2)) ∧ St w' [] w2 []) (hl : RecsIn w (.slice ao n c) n xs) (hb : n ≤ 1000000) :
    Calls Tryz.prog 58 #[.slice ao n c, capV fn g] w fun e w' => e = .returned (.bool ((xs.map (·.2)).any p)) ∧ St w [] w' [] := by
  have hst := St.refl w
  have HC := hid (indexR_any fn g p ao n c xs w hfn hcl hl hb)
  rw [← idxI_any]
  obtain ⟨i, hi⟩ : ∃ i, i = idxI p (xs.map (·.2)) := ⟨_, rfl⟩
  rw [← hi] at HC ⊢
  clear hi hcl hl
  unfold capV at HC ⊢
  go_enter Tryz.func58, Tryz.ntmps58
  go_wp2_with (first | go_big_skip | go_big_guard | (go_at_call 107; refine HC.out.mono ?_; rintro _ w9 ⟨rfl, h4⟩; replace hst := St.call0 hst h4; clear h4))
  go_ret
  exact ⟨rfl, hst⟩
end Go.Proofs.YtifajcblbedcoaaGreat
namespace Go.Proofs.YtifajcblbedcoaaGreat
set_option linter.unusedVariables false
set_option linter.unusedSimpArgs false
open Go.RowKit Hp
attribute [local irreducible] Go.Calls Go.wpList
set_option maxRecDepth 100000
set_option maxHeartbeats 8000000
attribute [local go_sem ↓] heldInt heldInts heldRecs heldRec heldStr heldTab
theorem cells_slot (x : Value × RC) : (cellsR x)[4]? = some x.1 := rfl
def LX (xs : List (Value × RC)) : Prop := ∀ x ∈ xs, L32 x.2.S
theorem OwnX.LX {L : List HA} {xs : List (Value × RC)} (h : OwnX L xs) : LX xs := fun x hx => (h x hx).2.1
theorem recsV_lenL {xs : List (Value × RC)} (h : LX xs) : (recsV xs).length = xs.length * 44 := by
  induction xs with
  | nil => rfl
  | cons x xs ih =>
    show (cellsR x ++ recsV xs).length = _
    rw [List.length_append, cellsR_len (h x (.head _)), ih (fun y hy => h y (.tail _ hy)), List.length_cons]
    omega
theorem recsV_takeL {xs : List (Value × RC)} (h : LX xs) {k : Nat} (hk : k ≤ xs.length) : (recsV xs).take (k * 44) = recsV (xs.take k) ∧ (recsV xs).drop (k * 44) = recsV (xs.drop k) := by
  have e : recsV xs = recsV (xs.take k) ++ recsV (xs.drop k) := by rw [← recsV_append, List.take_append_drop]
  have hl : (recsV (xs.take k)).length = k * 44 := by
    rw [recsV_lenL (fun x hx => h x (List.mem_of_mem_take hx)), List.length_take, Nat.min_eq_left hk]
  rw [e, ← hl, List.take_left, List.drop_left]
  exact ⟨rfl, rfl⟩
theorem recsV_at {xs : List (Value × RC)} (h : LX xs) {k : Nat} {x : Value × RC} (hx : xs[k]? = some x) {d : Nat} {v : Value} (hd : (cellsR x)[d]? = some v) : (recsV xs)[k * 44 + d]? = some v := by
  have hlt := (List.getElem?_eq_some_iff.1 hx).1
  obtain ⟨h1, h2⟩ := recsV_takeL h (k := k) (by omega)
  have h3 : (recsV xs).drop (k * 44) = cellsR x ++ recsV (xs.drop (k + 1)) := by
    rw [h2, List.drop_eq_getElem_cons hlt]
    have : xs[k] = x := (List.getElem?_eq_some_iff.1 hx).2
    rw [this]
    rfl
  have h4 : ((recsV xs).drop (k * 44))[d]? = some v := by
    rw [h3, List.getElem?_append_left (List.getElem?_eq_some_iff.1 hd).1]
    exact hd
  rwa [List.getElem?_drop] at h4
/-- A cell of an element is written. -/
theorem recsV_put {xs : List (Value × RC)} (h : LX xs) {k : Nat} {x y : Value × RC} (hx : xs[k]? = some x) {d : Nat} {vs : List Value} (hd : d + vs.length ≤ 44) (hy : putAt (cellsR x) d vs = cellsR y) : putAt (recsV xs) (k * 44 + d) vs = recsV (xs.set k y) := by
  have hlt := (List.getElem?_eq_some_iff.1 hx).1
  have hxk : xs[k] = x := (List.getElem?_eq_some_iff.1 hx).2
  have hX := cellsR_len (h x (List.mem_of_getElem? hx))
  obtain ⟨h1, h2⟩ := recsV_takeL h (k := k) (by omega)
  have e1 : recsV xs = recsV (xs.take k) ++ (cellsR x ++ recsV (xs.drop (k + 1))) := by
    have : recsV (xs.drop k) = cellsR x ++ recsV (xs.drop (k + 1)) := by rw [List.drop_eq_getElem_cons hlt, hxk]; rfl
    rw [← this, ← recsV_append, List.take_append_drop]
  have hl : (recsV (xs.take k)).length = k * 44 := by rw [← h1, List.length_take, recsV_lenL h]; omega
  have e2 : xs.set k y = xs.take k ++ y :: xs.drop (k + 1) := by rw [List.set_eq_take_append_cons_drop, if_pos hlt]
  rw [e2, recsV_append, e1]
  have e3 : recsV (y :: xs.drop (k + 1)) = cellsR y ++ recsV (xs.drop (k + 1)) := rfl
  rw [e3, ← hy]
  unfold putAt
  rw [← hl, List.take_length_add_append, List.append_assoc, Nat.add_assoc, List.drop_length_add_append, List.take_append_of_le_length (by rw [hX]; omega), List.drop_append_of_le_length (by rw [hX]; omega)]
  simp only [List.append_assoc]
theorem ownC_any {w0 w : World} {M : List Nat} {R : List HA} (g n c k m cc : Nat) (ao : Option Addr) (C ads : List Value) (hS : St w0 M w (.row (.slice (some ⟨g, 0, none⟩) n c) 53 44 n C :: R)) (hk : k < n) (hv : C[k * 44 + 4]? = some (.slice ao m cc)) (hR : Rd w (.slice ao m cc) 2 m ads) (h1 : ads.all (·.oneCell') = true) (hb : m ≤ 100000) :
    Calls Tryz.prog 112 #[.pointer (some ⟨g, k * 44, none⟩)] w fun e w' => ∃ (a6 : Option Addr) (c6 : Nat), e = .returned (.tuple #[]) ∧ St w0 M w' (.row (.slice (some ⟨g, 0, none⟩) n c) 53 44 n (putAt C (k * 44 + 4) [.slice a6 m c6]) :: .row (.slice a6 m c6) 102 2 m ads :: R) := by
  have hst0 := hS
  have HV := hid hv
  have HR := hid hR
  have H1 := hid h1
  clear hS hv hR h1
  go_enter Tryz.func112, Tryz.ntmps112
  go_wp2_with (first | go_big_skip | go_big_guard | (refine wl_loadE rfl rfl rfl ?_; refine ⟨_, Loads.inRow hst0 (.head _) HV.out, ?_⟩) | (go_at_call 113; refine (cloneA_any ao m cc _ _ HR.out H1.out hb).mono ?_; rintro _ w9 ⟨v9, rfl, h4⟩; have hst := St.call hst0 h4; clear h4 hst0; obtain ⟨a6, c6, rfl, _, _⟩ := rowS [] hst) | (refine wl_storeRow1 [_] hst rfl rfl rfl rfl (v := .slice a6 m c6) rfl rfl (by omega) (by omega) ?_; intro w7 hst2; clear hst))
  go_end0
  exact ⟨rfl, a6, c6, St.perm hst2 (.swap _ _ _)⟩
theorem each_any (ao : Option Addr) (n c : Nat) (xs : List (Value × RC)) (w : World) (hl : RecsIn w (.slice ao n c) n xs) (hn : n ≤ 1000) (ha : ∀ x ∈ xs, x.2.l.length ≤ 100000 ∧ x.2.name.length ≤ 1000000) :
    Calls Tryz.prog 111 #[.slice ao n c, .func (.func 112) #[] #[]] w fun e w' => ∃ (rv : Value) (ys : List (Value × RC)), e = .returned rv ∧ ys.map (·.2) = xs.map (·.2) ∧ (∀ y ∈ ys, L32 y.2.S ∧ y.2.name.length ≤ 1000000) ∧ St w [] w' (.row rv 53 44 n (recsV ys) :: rootRows 102 ys) := by
  have hst0 := St.refl w
  have HL := hid hl
  have HA := hid ha
  have HLX : Hid (LX xs) := hid (fun x hx => (hl.each x hx).L)
  have HN := hid hl.len
  have H1 : Hid ((recsV xs).all (·.oneCell') = true) := hid (by
    rw [recsV, List.all_flatMap, List.all_eq_true]
    exact fun x hx => cellsR_ones (hl.each x hx))
  clear hl ha
  go_enter Tryz.func111, Tryz.ntmps111
  go_wp2_with (first | go_big_skip | go_big_guard | (go_at_call 131; refine (cloneR_any ao n c _ _ (Rd.old hst0 HL.out.rd) H1.out (by omega)).mono ?_; rintro _ w9 ⟨v9, rfl, h4⟩; have hst := St.call hst0 h4; clear h4 hst0; obtain ⟨ar, cr, rfl, _, _⟩ := rowS [] hst))
  go_loopw [11] (fun i wr => ∃ (j : Nat) (ys : List (Value × RC)), j ≤ n ∧ i = .int .i64 (j : Int) ∧ ys.map (·.2) = (xs.take j).map (·.2) ∧ St w [] wr (.row (.slice ar n cr) 53 44 n (recsV (ys ++ xs.drop j)) :: rootRows 102 ys)) (fun i _ => n - (intOf i).toNat)
  case atStart => exact ⟨0, [], Nat.zero_le _, rfl, rfl, hst⟩
  case round =>
    clear hst
    obtain ⟨j, ys, hj, rfl, hy, hst⟩ := hrel
    have HY := hid hy
    have hyl : ys.length = j := by
      have := congrArg List.length hy
      rw [List.length_map, List.length_map, List.length_take, HN.out] at this
      omega
    have HYL := hid hyl
    clear hy hyl
    by_cases hlt : j < n
    · have e1 : decide ((j : Int) < (n : Int)) = true := decide_eq_true (by omega)
      have z1 : IntKind.i64.wrap ((j : Int) + 1) = (j : Int) + 1 := IntWalk.i64_in _ (by omega)
      obtain ⟨x, hx⟩ : ∃ x, xs[j]? = some x := ⟨_, List.getElem?_eq_getElem (by rw [HN.out]; exact hlt)⟩
      have hxm := List.mem_of_getElem? hx
      have hz : (ys ++ xs.drop j)[j]? = some x := by
        rw [List.getElem?_append_right (by rw [HYL.out]; exact Nat.le_refl _), HYL.out, Nat.sub_self, List.getElem?_drop, Nat.add_zero]
        exact hx
      have hzl : LX (ys ++ xs.drop j) := fun y hy => by
        rcases List.mem_append.1 hy with hy | hy
        · have h2 : y.2 ∈ (xs.take j).map (·.2) := by rw [← HY.out]; exact List.mem_map_of_mem hy
          obtain ⟨u, hu, he⟩ := List.mem_map.1 h2
          rw [← he]
          exact HLX.out u (List.mem_of_mem_take hu)
        · exact HLX.out y (List.mem_of_mem_drop hy)
      obtain ⟨hLX2, ao2, m, cc, hsv, hrd, hm⟩ := (HL.out.each x hxm).1
      have hslot := recsV_at hzl hz (d := 4) (v := .slice ao2 m cc) (by rw [cells_slot, ← hsv]; rfl)
      have HX := hid hx
      have HZ := hid hz
      have HZL := hid hzl
      have HS := hid hslot
      have HRD := hid hrd
      have HM : Hid (x.2.l.length = m) := hid hm
      have HB := hid (HA.out x hxm).1
      obtain ⟨g, c9, he, _⟩ := row_spot hst (.head _) (by omega)
      cases he
      clear hx hxm hz hzl hLX2 hsv hrd hm hslot
      go_wp2_with (first | go_big_skip | go_big_guard | (refine wl_index rfl rfl rfl rfl hlt ?_) | (go_at_call 112; refine (ownC_any (k := j) g n cr m cc ao2 _ _ hst hlt HS.out (Rd.old hst HRD.out) (addrs_ones _) (by rw [← HM.out]; exact HB.out)).mono ?_; rintro _ w9 ⟨a6, c6, rfl, h4⟩; have hst2 := h4; clear h4 hst))
      go_roundw
      case rel =>
        refine ⟨j + 1, ys ++ [(.slice a6 m c6, x.2)], by omega, rfl, ?_, ?_⟩
        · rw [List.map_append, HY.out, List.take_add_one, HX.out, List.map_append]
          rfl
        · have e2 : putAt (cellsR x) 4 [.slice a6 m c6] = cellsR ((.slice a6 m c6 : Value), x.2) := rfl
          rw [recsV_put HZL.out HZ.out (d := 4) (by show 4 + 1 ≤ 44; decide) e2] at hst2
          have e3 : (ys ++ xs.drop j).set j ((.slice a6 m c6 : Value), x.2) = (ys ++ [((.slice a6 m c6 : Value), x.2)]) ++ xs.drop (j + 1) := by
            have hlt2 : j < xs.length := by rw [HN.out]; exact hlt
            rw [List.drop_eq_getElem_cons hlt2, List.set_append_right _ _ (by rw [HYL.out]; exact Nat.le_refl _), HYL.out, Nat.sub_self, List.set_cons_zero, List.append_assoc]
            rfl
          rw [e3] at hst2
          rw [rootRows_add]
          have hm2 := HM.out
          subst hm2
          exact hst2
      case measure => simp [intOf]; omega
    · have e1 : decide ((j : Int) < (n : Int)) = false := decide_eq_false (by omega)
      obtain rfl : j = n := by omega
      go_wp2_with (first | go_big_skip | go_big_guard | fail)
      go_ret
      have hd : xs.drop j = [] := List.drop_eq_nil_of_le (by rw [HN.out]; exact Nat.le_refl _)
      have ht : xs.take j = xs := List.take_of_length_le (by rw [HN.out]; exact Nat.le_refl _)
      have hy := HY.out
      rw [hd, List.append_nil] at hst
      rw [ht] at hy
      refine ⟨_, rfl, ys, hy, fun a b hym => ?_, hst⟩
      have h2 : b ∈ xs.map (·.2) := by rw [← hy]; exact List.mem_map_of_mem (f := (·.2)) hym
      obtain ⟨u, hu, he⟩ := List.mem_map.1 h2
      rw [← he]
      exact ⟨HLX.out u hu, (HA.out u hu).2⟩
end Go.Proofs.YtifajcblbedcoaaGreat
