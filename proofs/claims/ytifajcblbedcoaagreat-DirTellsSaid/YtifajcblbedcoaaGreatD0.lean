import Derived.Test.YtifajcblbedcoaaGreatNode
import Derived.Test.YtifajcblbedcoaaGreatNmL
import Derived.Test.YtifajcblbedcoaaGreatStr
namespace Go.Proofs.YtifajcblbedcoaaGreat
set_option linter.unusedVariables false
set_option linter.unusedSimpArgs false
open Go.RowKit Hp
theorem flat_at {α : Type} {f : α → List Value} {sz : Nat} {l : List α} {k : Nat} {d : α} (hf : ∀ d ∈ l, (f d).length = sz) (h : l[k]? = some d) : ((l.flatMap f).drop (k * sz)).take sz = f d := by
  induction l generalizing k with
  | nil => simp at h
  | cons q l ih =>
    rw [List.flatMap_cons]
    have hq := hf q (.head _)
    cases k with
    | zero =>
      simp at h
      subst h
      rw [Nat.zero_mul, List.drop_zero, List.take_append_of_le_length (by omega), List.take_of_length_le (by omega)]
    | succ k =>
      rw [show (k + 1) * sz = sz + k * sz by rw [Nat.add_mul]; omega, List.drop_append, List.drop_of_length_le (by omega), List.nil_append, hq, show sz + k * sz - sz = k * sz by omega]
      exact ih (fun d hd => hf d (.tail _ hd)) (by simpa using h)
theorem range_flat {α : Type} {f : α → List Value} {sz : Nat} {l : List α} {k : Nat} {d : α} {w : World} {b off : Nat} (hf : ∀ d ∈ l, (f d).length = sz) (h : l[k]? = some d) (hr : w.rangeAt b off (l.flatMap f)) : w.rangeAt b (off + k * sz) (f d) := by
  have e := flat_at hf h
  intro j v hv
  rw [← e, List.getElem?_take] at hv
  split at hv
  · rw [List.getElem?_drop] at hv
    have := hr (k * sz + j) v hv
    rwa [← Nat.add_assoc] at this
  · cases hv
structure RC where
  (id kind size made own origin quota reserve : Int)
  name : List UInt8
  l : List (Int × Int)
  b : Int
  v : Int
  S : List UInt8
def RC.pv (r : RC) (sv : Value) : PV := ⟨sv, r.l, r.b, r.v, r.S⟩
def RC.tail (r : RC) : List Value := [.int .i64 r.made, .int .i64 r.own, .int .i64 r.origin, .int .i64 r.quota, .int .i64 r.reserve]
def cellsR (x : Value × RC) : List Value := .int .i64 x.2.id :: .string ⟨x.2.name.toArray⟩ :: .int .i64 x.2.kind :: .int .i64 x.2.size :: ((x.2.pv x.1).cells ++ x.2.tail)
theorem cellsR_len {x : Value × RC} (h : L32 x.2.S) : (cellsR x).length = 44 := by
  simp [cellsR, RC.tail, PV.len (p := x.2.pv x.1) h]
theorem cellsR_root {x : Value × RC} (h : L32 x.2.S) : ((cellsR x).drop 4).take (x.2.pv x.1).cells.length = (x.2.pv x.1).cells := by
  simp [cellsR]
theorem cellsR_tail {x : Value × RC} (h : L32 x.2.S) (k : Nat) : (cellsR x)[39 + k]? = x.2.tail[k]? := by
  have hl := PV.len (p := x.2.pv x.1) h
  simp only [cellsR, show 39 + k = (35 + k) + 1 + 1 + 1 + 1 by omega, List.getElem?_cons_succ]
  rw [List.getElem?_append_right (by omega), hl, Nat.add_sub_cancel_left]
theorem cellsR_39 {x : Value × RC} (h : L32 x.2.S) : (cellsR x)[39]? = some (.int .i64 x.2.made) := cellsR_tail h 0
theorem cellsR_40 {x : Value × RC} (h : L32 x.2.S) : (cellsR x)[40]? = some (.int .i64 x.2.own) := cellsR_tail h 1
theorem cellsR_41 {x : Value × RC} (h : L32 x.2.S) : (cellsR x)[41]? = some (.int .i64 x.2.origin) := cellsR_tail h 2
theorem cellsR_42 {x : Value × RC} (h : L32 x.2.S) : (cellsR x)[42]? = some (.int .i64 x.2.quota) := cellsR_tail h 3
theorem cellsR_43 {x : Value × RC} (h : L32 x.2.S) : (cellsR x)[43]? = some (.int .i64 x.2.reserve) := cellsR_tail h 4
theorem cellsR_all (x : Value × RC) : ((cellsR x).drop 0).take (cellsR x).length = cellsR x := by simp
def RC.In (w : World) (x : Value × RC) : Prop := (x.2.pv x.1).In w ∧ x.2.name.length ≤ 9223372036854775807
theorem RC.In.L {w : World} {x : Value × RC} (h : RC.In w x) : L32 x.2.S := h.1.1
theorem RC.In.old {w0 w : World} {L : List HA} {x : Value × RC} (hst : St w0 [] w L) (h : RC.In w0 x) : RC.In w x := ⟨PV.In.old hst h.1, h.2⟩
theorem cellsR_ones {w : World} {x : Value × RC} (h : RC.In w x) : (cellsR x).all (·.oneCell') = true := by
  have := PV.ones h.1
  simp [cellsR, RC.tail, Value.oneCell', List.all_append] at this ⊢
  exact this
def recsV (l : List (Value × RC)) : List Value := l.flatMap cellsR
theorem recsV_append (l k : List (Value × RC)) : recsV (l ++ k) = recsV l ++ recsV k := by simp [recsV]
def numsV (l : List Int) : List Value := l.map fun x => .int .i64 x
@[simp] theorem length_numsV (l : List Int) : (numsV l).length = l.length := by simp [numsV]
theorem numsV_append (l k : List Int) : numsV (l ++ k) = numsV l ++ numsV k := by simp [numsV]
theorem numsV_get {l : List Int} {k : Nat} {x : Int} (h : l[k]? = some x) : (numsV l)[k]? = some (.int .i64 x) := by simp [numsV, h]
theorem ones_numsV (l : List Int) : (numsV l).all (·.oneCell') = true := by
  rw [List.all_eq_true]
  intro v hv
  simp only [numsV, List.mem_map] at hv
  obtain ⟨x, _, rfl⟩ := hv
  rfl
structure TC where
  next : Int
  recs : List RC
  (kind dev at_ txg : Int)
  lives : List Int
def inB (n lo hi : Int) : Bool := decide (lo ≤ n) && decide (n ≤ hi)
def rootB (p : PV) : Bool := p.hole || (p.ok && (p.v == 3))
def RC.kindB (r : RC) : Bool :=
  if (r.kind == 1) then (((partB r.name && (r.own == 0)) && inB r.origin 0 2147483647) && inB r.quota 0 64) && inB r.reserve 0 64
  else if (r.kind == 2) then ((((snapB r.name && inB r.own 1 2147483647) && (r.origin == 0)) && (r.quota == 0)) && (r.reserve == 0)) && decide (r.b ≤ r.made)
  else false
def RC.aloneB (r : RC) : Bool := (((inB r.id 1 2147483647 && inB r.size 1 64) && inB r.made 1 2147483648) && rootB (r.pv undef)) && r.kindB
def idxI {α : Type} (p : α → Bool) : List α → Int
  | [] => -1
  | x :: l => if p x then 0 else if idxI p l < 0 then -1 else idxI p l + 1
theorem idxI_any {α : Type} (p : α → Bool) (l : List α) : decide (idxI p l ≥ 0) = l.any p := by
  induction l with
  | nil => rfl
  | cons x l ih =>
    unfold idxI
    rw [List.any_cons, ← ih]
    by_cases hx : p x = true
    · simp [hx]
    · by_cases hi : idxI p l < 0
      · simp [hx, hi]
      · simp [hx, hi]
        omega
theorem idxI_first {α : Type} {p : α → Bool} {l : List α} {k : Nat} (hk : k < l.length) (hp : p l[k] = true) (h0 : ∀ j (h : j < k), p (l[j]'(by omega)) = false) : idxI p l = k := by
  induction l generalizing k with
  | nil => simp at hk
  | cons x l ih =>
    unfold idxI
    cases k with
    | zero => simp at hp; simp [hp]
    | succ k =>
      have hx := h0 0 (by omega)
      simp at hx
      have := ih (k := k) (by simpa using hk) (by simpa using hp) (fun j h => by have := h0 (j + 1) (by omega); simpa using this)
      simp [hx, this]
      omega
theorem idxI_none {α : Type} {p : α → Bool} {l : List α} (h0 : ∀ x ∈ l, p x = false) : idxI p l = -1 := by
  induction l with
  | nil => rfl
  | cons x l ih =>
    unfold idxI
    have := ih (fun y hy => h0 y (by simp [hy]))
    simp [h0 x (by simp), this]
def findN (name : List UInt8) (l : List RC) : Int := idxI (fun x => x.name == name) l
def idAt (l : List RC) (n : Int) (q : Int) : Bool := match l[n.toNat]? with
  | some y => y.id == q
  | none => false
def volB (l : List RC) (r : RC) : Bool := decide (0 ≤ findN (splitL r.name).1 l) && idAt l (findN (splitL r.name).1 l) r.own
def kinB (l : List RC) (r : RC) : Bool := if (r.kind == 2) then volB l r else (r.origin == 0) || l.any fun y => (y.id == r.origin) && (y.kind == 2)
def relB (next : Int) (l : List RC) (i : Nat) (r : RC) : Bool := (!((l.take i).any fun y => y.id == r.id) && decide (r.id < next)) && kinB l r
def lessAt (l : List RC) (i : Nat) (r : RC) : Bool := match i with
  | 0 => true
  | j + 1 => match l[j]? with
    | some y => lessL y.name r.name
    | none => true
def allAt (f : Nat → RC → Bool) (l : List RC) : Bool := (List.range l.length).all fun i => match l[i]? with
  | some r => f i r
  | none => true
theorem allAt_no {f : Nat → RC → Bool} {l : List RC} {i : Nat} {r : RC} (h : l[i]? = some r) (hf : f i r = false) : allAt f l = false := by
  unfold allAt
  rw [List.all_eq_false]
  refine ⟨i, ?_, by rw [h]; simp [hf]⟩
  rw [List.mem_range]
  exact (List.getElem?_eq_some_iff.1 h).1
theorem allAt_all {f : Nat → RC → Bool} {l : List RC} (h : ∀ i r, l[i]? = some r → f i r = true) : allAt f l = true := by
  unfold allAt
  rw [List.all_eq_true]
  intro i _
  cases hi : l[i]? with
  | none => rfl
  | some r => exact h i r hi
theorem allAt_at {f : Nat → RC → Bool} {l : List RC} (ha : allAt f l = true) {i : Nat} {r : RC} (h : l[i]? = some r) : f i r = true := by
  cases hf : f i r with
  | true => rfl
  | false => rw [allAt_no h hf] at ha; cases ha
def TC.cur0 (t : TC) : Bool := [t.kind, t.dev, t.at_, t.txg] == [0, 0, 0, 0]
def TC.curB (t : TC) : Bool := t.cur0 || ((inB t.at_ 0 2147483647 && inB t.txg 1 2147483648) && (((t.kind == 1) && (t.dev == 0)) || ((t.kind == 2) && inB t.dev 0 ((t.lives.length : Int) - 1))))
def TC.sizeB (t : TC) : Bool := (inB t.next 1 2147483648 && decide ((t.recs.length : Int) ≤ 16)) && inB (t.lives.length : Int) 2 8
def TC.livesB (t : TC) : Bool := t.lives.all fun n => inB n 0 2147483647
def eachB (l : List RC) (i : Nat) (r : RC) : Bool := r.aloneB && lessAt l i r
def TC.ok (t : TC) : Bool := (((t.sizeB && t.curB) && t.livesB) && allAt (eachB t.recs) t.recs) && allAt (relB t.next t.recs) t.recs
def TC.err (t : TC) : Int := if t.ok then 0 else 2
def RC.bytes (r : RC) : List UInt8 := numB r.id 4 ++ numB r.name.length 1 ++ r.name ++ numB r.kind 1 ++ numB r.size 1 ++ (r.pv undef).bytes ++ numB r.made 4 ++ numB r.own 4 ++ numB r.origin 4 ++ numB r.quota 1 ++ numB r.reserve 1
def TC.bytes (t : TC) : List UInt8 := numB t.next 4 ++ numB t.recs.length 1 ++ t.recs.flatMap RC.bytes ++ numB t.kind 1 ++ numB t.dev 1 ++ numB t.at_ 4 ++ numB t.txg 4 ++ numB t.lives.length 1 ++ t.lives.flatMap fun n => numB n 4
structure RecsIn (w : World) (v : Value) (n : Nat) (xs : List (Value × RC)) : Prop where
  rd : Rd w v 44 n (recsV xs)
  len : xs.length = n
  each : ∀ x ∈ xs, RC.In w x
theorem RecsIn.old {w0 w : World} {L : List HA} {v : Value} {n : Nat} {xs : List (Value × RC)} (hst : St w0 [] w L) (h : RecsIn w0 v n xs) : RecsIn w v n xs := ⟨Rd.old hst h.rd, h.len, fun x hx => (h.each x hx).old hst⟩
theorem RecsIn.at {w : World} {ao : Option Addr} {n c k : Nat} {xs : List (Value × RC)} (h : RecsIn w (.slice ao n c) n xs) (hk : k < n) : ∃ x b off, xs[k]? = some x ∧ ao = some ⟨b, off, none⟩ ∧ RC.In w x ∧ w.rangeAt b (off + k * 44) (cellsR x) := by
  obtain ⟨x, hx⟩ : ∃ x, xs[k]? = some x := ⟨_, List.getElem?_eq_getElem (by rw [h.len]; exact hk)⟩
  obtain ⟨b, off, rfl, hr⟩ := h.rd.at hk
  refine ⟨x, b, off, hx, rfl, h.each x (List.mem_of_getElem? hx), ?_⟩
  exact range_flat (sz := 44) (f := cellsR) (fun d hd => cellsR_len (h.each d hd).L) hx hr
end Go.Proofs.YtifajcblbedcoaaGreat
