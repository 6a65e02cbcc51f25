import Derived.Test.YtifajcblbedcoaaGreatSepQ
namespace Go.Proofs.YtifajcblbedcoaaGreat
set_option linter.unusedVariables false
set_option linter.unusedSimpArgs false
open Go.RowKit
namespace Hp
variable {P : Program}
def gvV (g : Bool) (v : Value) : Value := match g with
  | true => v
  | false => undef
theorem gvV_on {g : Bool} {v : Value} (h : g = true) : gvV g v = v := by subst h; rfl
theorem gvV_and {g c : Bool} {v : Value} (h : (g && c) = true) : gvV g v = v := by
  cases g
  · cases h
  · rfl
def gB (b want : Bool) : Bool := b == want
def gA (g c : Bool) : Bool := g && c
def bOr (b c : Bool) : Bool := b || c
def bAnd (b c : Bool) : Bool := b && c
def bNot (b : Bool) : Bool := !b
theorem bAnd_eq (b c : Bool) : bAnd b c = (b && c) := rfl
theorem bNot_eq (b : Bool) : bNot b = !b := rfl
theorem gvV_gA {g c : Bool} {v : Value} (h : gA g c = true) : gvV g v = v := gvV_and h
def nthL {α : Type} : List α → Nat → Option α
  | [], _ => none
  | x :: _, 0 => some x
  | _ :: l, n + 1 => nthL l n
theorem nthL_eq {α : Type} (l : List α) (n : Nat) : nthL l n = l[n]? := by
  induction l generalizing n with
  | nil => rfl
  | cons x l ih => cases n with
    | zero => rfl
    | succ n => simp [nthL, ih]
def evL (a : Act) (x : Operand) : Value := match x with
  | .tmp n => match nthL a.tmps.toList n with
    | some v => v
    | none => undef
  | .const v => v
  | x => a.eval x
theorem evL_eq (a : Act) (x : Operand) : a.eval x = evL a x := by
  cases x with
  | tmp n =>
    show a.tmps.getD n undef = _
    unfold evL
    simp only [nthL_eq, Array.getElem?_toList, Array.getD_eq_getD_getElem?]
    cases a.tmps[n]? <;> rfl
  | _ => rfl
def heldL (ops : Array Oper) (t : Array Value) (j : Nat) : Value := match nthL ops.toList j with
  | some o => match o.dst with
    | some d => match nthL t.toList d with
      | some v => v
      | none => undef
    | none => undef
  | none => undef
def heldAt (ops : Array Oper) (t : Array Value) (j : Nat) : Value := (((ops[j]?).bind (·.dst)).bind (t[·]?)).getD undef
theorem heldL_eq (ops : Array Oper) (t : Array Value) (j : Nat) : heldAt ops t j = heldL ops t j := by
  unfold heldAt heldL
  simp only [nthL_eq, Array.getElem?_toList]
  cases h : ops[j]? with
  | none => rfl
  | some o =>
    show (o.dst.bind (t[·]?)).getD undef = match o.dst with
      | some d => match t[d]? with
        | some v => v
        | none => undef
      | none => undef
    cases hd : o.dst with
    | none => rfl
    | some d =>
      show (t[d]?).getD undef = match t[d]? with
        | some v => v
        | none => undef
      cases t[d]? <;> rfl
theorem yielded_held {ops : Array Oper} {t : Array Value} {j : Nat} : yielded ops t j = match heldAt ops t j with
    | .bool b => some b
    | _ => none := by
  unfold yielded heldAt
  cases h : ((ops[j]?).bind (·.dst)).bind (t[·]?) with
  | none => rfl
  | some v => cases v <;> rfl
theorem wanted_b {o : Oper} {ops : Array Oper} {t : Array Value} {j : Nat} {want b : Bool} (hg : o.guard = some (j, want)) (hy : heldL ops t j = .bool b) : Region.wanted o (yielded ops t) = gB b want := by
  unfold Region.wanted
  rw [hg]
  show (yielded ops t j == some want) = _
  rw [yielded_held, heldL_eq, hy]
  cases b <;> cases want <;> rfl
theorem wanted_g {o : Oper} {ops : Array Oper} {t : Array Value} {j : Nat} {want g b : Bool} (hg : o.guard = some (j, want)) (hy : heldL ops t j = gvV g (.bool b)) : Region.wanted o (yielded ops t) = gA g (gB b want) := by
  unfold Region.wanted
  rw [hg]
  show (yielded ops t j == some want) = _
  rw [yielded_held, heldL_eq, hy]
  cases g <;> cases b <;> cases want <;> rfl
section
variable {ops : Array Oper} {rest : List Oper} {o : Oper} {a : Act} {w0 w : World} {M : List Nat} {L : List HA} {Q : Exit → Act → World → Prop}
theorem wl_gV {g : Bool} {v : Value} (hw : Region.wanted o (yielded ops a.tmps) = g) (hr : g = true → (execOp a.eval o).run P w = .ok (.value v) w) (h : wpList P ops Q rest (a.put o.dst (gvV g v)) w) : wpList P ops Q (o :: rest) a w := by
  cases g with
  | true =>
    unfold wpList
    rw [if_pos hw]
    refine .inl ?_
    unfold Oper.wp
    rw [hr rfl]
    exact h
  | false =>
    unfold wpList
    rw [if_neg (by rw [hw]; exact Bool.false_ne_true)]
    exact h
theorem hid_iff {p : Prop} : Hid p ↔ p := ⟨fun h => h.out, hid⟩
theorem wl_mv {x : Operand} {b : Bool} (hop : o.op = .move x) (hg : o.guard = none) (hx : evL a x = .bool b) (h : wpList P ops Q rest (a.put o.dst (.bool b)) w) : wpList P ops Q (o :: rest) a w :=
  wl_run (by unfold Region.wanted; rw [hg]) (by unfold execOp; rw [hop]; show Result.ok (Next.value (a.eval x)) w = _; rw [evL_eq, hx]) h
theorem wl_gmove {g : Bool} {x : Operand} {v : Value} (hop : o.op = .move x) (hw : Region.wanted o (yielded ops a.tmps) = g) (hx : g = true → evL a x = v) (h : wpList P ops Q rest (a.put o.dst (gvV g v)) w) : wpList P ops Q (o :: rest) a w :=
  wl_gV hw (fun hg => by unfold execOp; rw [hop]; show Result.ok (Next.value (a.eval x)) w = _; rw [evL_eq, hx hg]) h
theorem wl_gload {g : Bool} {T : TypeId} {x : Operand} {A : Addr} {v : Value} (hop : o.op = .load T x) (hw : Region.wanted o (yielded ops a.tmps) = g) (hx : g = true → evL a x = .pointer (some A)) (hl : Loads P w T A v)
    (h : wpList P ops Q rest (a.put o.dst (gvV g v)) w) : wpList P ops Q (o :: rest) a w := by
  refine wl_gV hw (fun hg => ?_) h
  unfold execOp
  have hl' : (loadVar T A).run P w = .ok v w := hl
  simp only [hop, evL_eq, hx hg, Instr.loadAt, Instr.sureAddr, Sem.run_bind, Sem.run_pure, Result.andThen_ok, hl']
theorem wl_gloadE {g : Bool} {T : TypeId} {x : Operand} {A : Addr} (hop : o.op = .load T x) (hw : Region.wanted o (yielded ops a.tmps) = g) (hx : g = true → evL a x = .pointer (some A))
    (h : ∃ v, Loads P w T A v ∧ wpList P ops Q rest (a.put o.dst (gvV g v)) w) : wpList P ops Q (o :: rest) a w :=
  let ⟨_, h1, h2⟩ := h
  wl_gload hop hw hx h1 h2
theorem wl_pickOr {x y z : Operand} {b c : Bool} (hop : o.op = .pick x y z) (hg : o.guard = none) (hx : evL a x = .bool b) (hy : evL a y = .bool true) (hz : evL a z = gvV (gB b false) (.bool c))
    (h : ∀ q, Hid (q = (b || c)) → wpList P ops Q rest (a.put o.dst (.bool q)) w) : wpList P ops Q (o :: rest) a w := by
  refine wl_run (by unfold Region.wanted; rw [hg]) ?_ (h (b || c) (hid rfl))
  unfold execOp
  cases b <;> simp [hop, evL_eq, hx, hy, hz, gvV, asBool, gB, gA, bOr, bAnd]
theorem wl_pickAnd {x y z : Operand} {b c : Bool} (hop : o.op = .pick x y z) (hg : o.guard = none) (hx : evL a x = .bool b) (hy : evL a y = gvV (gB b true) (.bool c)) (hz : evL a z = .bool false)
    (h : ∀ q, Hid (q = (b && c)) → wpList P ops Q rest (a.put o.dst (.bool q)) w) : wpList P ops Q (o :: rest) a w := by
  refine wl_run (by unfold Region.wanted; rw [hg]) ?_ (h (b && c) (hid rfl))
  unfold execOp
  cases b <;> simp [hop, evL_eq, hx, hy, hz, gvV, asBool, gB, gA, bOr, bAnd]
theorem wl_gpickOr {g : Bool} {x y z : Operand} {b c : Bool} (hop : o.op = .pick x y z) (hw : Region.wanted o (yielded ops a.tmps) = g) (hx : evL a x = gvV g (.bool b)) (hy : evL a y = .bool true) (hz : evL a z = gvV (gA g (gB b false)) (.bool c))
    (h : ∀ q, Hid (q = (b || c)) → wpList P ops Q rest (a.put o.dst (gvV g (.bool q))) w) : wpList P ops Q (o :: rest) a w := by
  refine wl_gV hw (fun hg => ?_) (h (b || c) (hid rfl))
  subst hg
  unfold execOp
  cases b <;> simp [hop, evL_eq, hx, hy, hz, gvV, asBool, gB, gA, bOr, bAnd]
theorem wl_gpickAnd {g : Bool} {x y z : Operand} {b c : Bool} (hop : o.op = .pick x y z) (hw : Region.wanted o (yielded ops a.tmps) = g) (hx : evL a x = gvV g (.bool b)) (hy : evL a y = gvV (gA g (gB b true)) (.bool c)) (hz : evL a z = .bool false)
    (h : ∀ q, Hid (q = (b && c)) → wpList P ops Q rest (a.put o.dst (gvV g (.bool q))) w) : wpList P ops Q (o :: rest) a w := by
  refine wl_gV hw (fun hg => ?_) (h (b && c) (hid rfl))
  subst hg
  unfold execOp
  cases b <;> simp [hop, evL_eq, hx, hy, hz, gvV, asBool, gB, gA, bOr, bAnd]
theorem wl_gnot {g : Bool} {T : TypeId} {x : Operand} {b : Bool} (hop : o.op = .unOp .not T x) (hw : Region.wanted o (yielded ops a.tmps) = g) (hx : g = true → evL a x = .bool b)
    (h : wpList P ops Q rest (a.put o.dst (gvV g (.bool (bNot b)))) w) : wpList P ops Q (o :: rest) a w := by
  refine wl_gV hw (fun hg => ?_) h
  unfold execOp
  simp [hop, evL_eq, hx hg, Op.unary, asBool, bNot]
theorem wl_gcall {g : Bool} {v : Value} (hst : St w0 M w L) (hw : Region.wanted o (yielded ops a.tmps) = g)
    (hc : g = true → ∀ K : Act → World → Prop, (∀ w', St w0 M w' L → K (a.put o.dst v) w') → o.wp P a w K Q)
    (h : ∀ w', St w0 M w' L → wpList P ops Q rest (a.put o.dst (gvV g v)) w') : wpList P ops Q (o :: rest) a w := by
  cases g with
  | true =>
    unfold wpList
    rw [if_pos hw]
    exact .inl (hc rfl _ h)
  | false =>
    unfold wpList
    rw [if_neg (by rw [hw]; exact Bool.false_ne_true)]
    exact h w hst
def cmpI (k : BinOp) (m n : Int) : Option Bool := match k with
  | .lss => some (decide (m < n))
  | .leq => some (decide (m ≤ n))
  | .gtr => some (decide (n < m))
  | .geq => some (decide (n ≤ m))
  | .eql => some (m == n)
  | .neq => some (m != n)
  | _ => none
theorem run_cmpI {k : BinOp} {T : TypeId} {q : IntKind} {m n : Int} {b : Bool} (h : cmpI k m n = some b) (w : World) : (binOp k T (.int q m) (.int q n)).run P w = .ok (.bool b) w := by
  cases k <;> simp only [cmpI, Option.some.injEq, reduceCtorEq] at h <;> subst h <;> simp [go_sem] <;> rfl
theorem run_guardInt {k : BinOp} {T : TypeId} {x y : Operand} {q q' : IntKind} {m n : Int} (w : World) : (eqGuard k T x y (.int q m) (.int q' n)).run P w = .ok () w := by
  unfold eqGuard
  cases k <;> simp [Sem.run_bind]
theorem run_guardStr {k : BinOp} {T : TypeId} {x y : Operand} {m n : ByteArray} (w : World) : (eqGuard k T x y (.string m) (.string n)).run P w = .ok () w := by
  unfold eqGuard
  cases k <;> simp [Sem.run_bind]
theorem wl_gcmp {g : Bool} {k : BinOp} {T T' : TypeId} {x y : Operand} {q : IntKind} {m n : Int} {b : Bool} (hop : o.op = .binOp k T x y T') (hw : Region.wanted o (yielded ops a.tmps) = g) (hx : g = true → evL a x = .int q m) (hy : g = true → evL a y = .int q n)
    (hk : cmpI k m n = some b) (h : wpList P ops Q rest (a.put o.dst (gvV g (.bool b))) w) : wpList P ops Q (o :: rest) a w := by
  refine wl_gV hw (fun hg => ?_) h
  unfold execOp
  simp only [hop, evL_eq, hx hg, hy hg, Sem.run_bind, run_guardInt, Result.andThen_ok, run_cmpI hk, Sem.run_pure]
theorem toList_l (l : List UInt8) : (⟨l.toArray⟩ : ByteArray).toList = l := by rw [ByteArray.toList_eq]
theorem wl_gneqS {g : Bool} {T T' : TypeId} {x y : Operand} {l : List UInt8} {d : ByteArray} (hop : o.op = .binOp .neq T x y T') (hw : Region.wanted o (yielded ops a.tmps) = g) (hx : g = true → evL a x = .string ⟨l.toArray⟩) (hy : g = true → evL a y = .string d)
    (h : wpList P ops Q rest (a.put o.dst (gvV g (.bool (bNot (l == d.data.toList))))) w) : wpList P ops Q (o :: rest) a w := by
  refine wl_gV hw (fun hg => ?_) h
  unfold execOp
  have e : (binOp .neq T (.string ⟨l.toArray⟩) (.string d)).run P w = .ok (.bool (bNot (l == d.data.toList))) w := by
    rw [binOp_string_neq, toList_l, ByteArray.toList_eq]
    rfl
  simp only [hop, evL_eq, hx hg, hy hg, Sem.run_bind, run_guardStr, Result.andThen_ok, e, Sem.run_pure]
theorem wl_geqS {g : Bool} {T T' : TypeId} {x y : Operand} {l : List UInt8} {d : ByteArray} (hop : o.op = .binOp .eql T x y T') (hw : Region.wanted o (yielded ops a.tmps) = g) (hx : g = true → evL a x = .string ⟨l.toArray⟩) (hy : g = true → evL a y = .string d)
    (h : wpList P ops Q rest (a.put o.dst (gvV g (.bool (l == d.data.toList)))) w) : wpList P ops Q (o :: rest) a w := by
  refine wl_gV hw (fun hg => ?_) h
  unfold execOp
  have e : (binOp .eql T (.string ⟨l.toArray⟩) (.string d)).run P w = .ok (.bool (l == d.data.toList)) w := by
    rw [binOp_string_eql, toList_l, ByteArray.toList_eq]
    rfl
  simp only [hop, evL_eq, hx hg, hy hg, Sem.run_bind, run_guardStr, Result.andThen_ok, e, Sem.run_pure]
theorem wl_neqS {T T' : TypeId} {x y : Operand} {l : List UInt8} {d : ByteArray} (hop : o.op = .binOp .neq T x y T') (hg : o.guard = none) (hx : evL a x = .string ⟨l.toArray⟩) (hy : evL a y = .string d)
    (h : wpList P ops Q rest (a.put o.dst (.bool (bNot (l == d.data.toList)))) w) : wpList P ops Q (o :: rest) a w :=
  wl_gneqS (g := true) hop (by unfold Region.wanted; rw [hg]) (fun _ => hx) (fun _ => hy) h
theorem wl_eqS {T T' : TypeId} {x y : Operand} {l : List UInt8} {d : ByteArray} (hop : o.op = .binOp .eql T x y T') (hg : o.guard = none) (hx : evL a x = .string ⟨l.toArray⟩) (hy : evL a y = .string d)
    (h : wpList P ops Q rest (a.put o.dst (.bool (l == d.data.toList))) w) : wpList P ops Q (o :: rest) a w :=
  wl_geqS (g := true) hop (by unfold Region.wanted; rw [hg]) (fun _ => hx) (fun _ => hy) h
theorem wl_glenS {g : Bool} {x : Operand} {t : TypeId} {l : List UInt8} (hop : o.op = .call { callee := .builtin .len, args := #[x], argTypes := #[t] }) [ht : TyStr P t] (hw : Region.wanted o (yielded ops a.tmps) = g) (hx : g = true → evL a x = .string ⟨l.toArray⟩)
    (h : wpList P ops Q rest (a.put o.dst (gvV g (.int .i64 l.length))) w) : wpList P ops Q (o :: rest) a w := by
  refine wl_gV hw (fun hg => ?_) h
  unfold execOp
  have e : (⟨l.toArray⟩ : ByteArray).size = l.length := by simp [ByteArray.size]
  simp [hop, resolve, invoke, builtin, Sem.run_bind, evL_eq, hx hg, Builtin.len_, e, run_underlying ht.out, goInt]
def fldOff (P : Program) (T : TypeId) (k : Nat) : Option Nat := match P.underlying T with
  | some (.struct fs) => match fs[k]? with
    | some f => match P.info? f.type with
      | some i => if i.size = 0 then none else some f.offset
      | none => none
    | none => none
  | _ => none
theorem run_fieldAt {T : TypeId} {k d b off : Nat} (h : fldOff P T k = some d) (w : World) : (Instr.fieldAt T (.pointer (some ⟨b, off, none⟩)) k).run P w = .ok (.pointer (some ⟨b, off + d, none⟩)) w := by
  unfold fldOff at h
  cases hu : P.underlying T with
  | none => simp [hu] at h
  | some t =>
    cases t with
    | struct fs =>
      simp only [hu] at h
      cases hf : fs[k]? with
      | none => simp [hf] at h
      | some f =>
        cases hi : P.info? f.type with
        | none => simp [hf, hi] at h
        | some i =>
          by_cases h0 : i.size = 0
          · simp [hf, hi, h0] at h
          · simp [hf, hi, h0] at h
            subst h
            have hs : (sizeOf f.type).run P w = .ok i.size w := by simp [sizeOf, typeInfo, hi]
            simp [Instr.fieldAt, run_underlying hu, Sem.run_bind, hf, Instr.sureAddr, fieldPlace, hs, h0, Addr.add_mid]
    | _ => simp [hu] at h
theorem wl_gfld {g : Bool} {T : TypeId} {x : Operand} {k d b off : Nat} (hop : o.op = .fieldAddr T x k) (hw : Region.wanted o (yielded ops a.tmps) = g) (hx : g = true → evL a x = .pointer (some ⟨b, off, none⟩)) (hd : fldOff P T k = some d)
    (h : wpList P ops Q rest (a.put o.dst (gvV g (.pointer (some ⟨b, off + d, none⟩)))) w) : wpList P ops Q (o :: rest) a w := by
  refine wl_gV hw (fun hg => ?_) h
  unfold execOp
  simp only [hop, evL_eq, hx hg, Sem.run_bind, run_fieldAt hd, Result.andThen_ok, Sem.run_pure]
end
end Hp
end Go.Proofs.YtifajcblbedcoaaGreat
