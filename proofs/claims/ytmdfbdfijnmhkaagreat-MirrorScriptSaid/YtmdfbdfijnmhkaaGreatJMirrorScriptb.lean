import Derived.Test.YtmdfbdfijnmhkaaGreatProg
import Derived.Test.YtmdfbdfijnmhkaaGreatJMirrorScripta
import Derived.Deep.RegionHeld3
import Derived.LaidEql
import Derived.Stop.Asserts
import Derived.Lib.IfaceEq
import Derived.RowKitTokens
namespace Go.Proofs.YtmdfbdfijnmhkaaGreat
set_option linter.unusedVariables false
set_option linter.unusedSimpArgs false
set_option maxRecDepth 100000
set_option maxHeartbeats 4000000
section
open Hp
instance kS3 : TyS Tryz.prog 3 := ⟨by kernel_rfl⟩
instance kS4 : TyS Tryz.prog 4 := ⟨by kernel_rfl⟩
instance kS5 : TyS Tryz.prog 5 := ⟨by kernel_rfl⟩
instance kS9 : TyS Tryz.prog 9 := ⟨by kernel_rfl⟩
instance kS22 : TyS Tryz.prog 28 := ⟨by kernel_rfl⟩
instance kI3 : TyI Tryz.prog 3 .i64 := ⟨by kernel_rfl⟩
instance kI5 : TyI Tryz.prog 5 .u8 := ⟨by kernel_rfl⟩
instance kStr9 : TyStr Tryz.prog 9 := ⟨by kernel_rfl⟩
instance kSl22 : TySl Tryz.prog 28 5 := ⟨by kernel_rfl⟩
instance kE5 : TyE Tryz.prog 5 1 1 := ⟨by kernel_rfl⟩
instance kE3 : TyE Tryz.prog 3 1 8 := ⟨by kernel_rfl⟩
instance kN3 : TyN Tryz.prog 3 1 := ⟨by kernel_rfl⟩
instance kN4 : TyN Tryz.prog 4 1 := ⟨by kernel_rfl⟩
instance kN5 : TyN Tryz.prog 5 1 := ⟨by kernel_rfl⟩
instance kN9 : TyN Tryz.prog 9 1 := ⟨by kernel_rfl⟩
instance kN22 : TyN Tryz.prog 28 1 := ⟨by kernel_rfl⟩
instance kZ5 : TyZ Tryz.prog 5 [.int .u8 0] := ⟨by kernel_rfl⟩
instance kZ3 : TyZ Tryz.prog 3 [.int .i64 0] := ⟨by kernel_rfl⟩
instance kE22 : TyE Tryz.prog 28 1 24 := ⟨by kernel_rfl⟩
instance kZ22 : TyZ Tryz.prog 28 [.slice none 0 0] := ⟨by kernel_rfl⟩
instance kZ9 : TyZ Tryz.prog 9 [.string ⟨#[]⟩] := ⟨by kernel_rfl⟩
end
section
open Go.RowKit
namespace Hp
variable {P : Program}
theorem wl_buildS {ops : Array Oper} {rest : List Oper} {o : Oper} {a : Act} {w : World} {Q : Exit → Act → World → Prop} {T : TypeId} {parts : Array (Nat × Operand)} {cs : List Value}
  (hop : o.op = .build T parts) (hw : Region.wanted o (yielded ops a.tmps) = true) (hb : P.built T (parts.map fun p => (p.1, a.eval p.2)).toList = some cs.toArray)
  (h : wpList P ops Q rest (a.put o.dst (.agg cs.toArray)) w) : wpList P ops Q (o :: rest) a w := by
 refine jW hw ?_ h; unfold execOp; simp [hop, run_build w T _ _ hb]
end Hp
namespace Hp
variable {P : Program}
theorem ow_storeS {o : Oper} {a : Act} {w0 w : World} {M : List Nat} {K : Act → World → Prop} {Q : Exit → Act → World → Prop} {T T' : TypeId} {x y : Operand} {g off : Nat} {v : Value} {cs : List Value} (L1 : List HA) {L2 : List HA} (hst : St w0 M w (L1 ++ .blk g T' cs :: L2)) (hop : o.op = .store T x y)
  (hx : a.eval x = .pointer (some ⟨g, off, none⟩)) (hy : a.eval y = v) (hi : TyN P T 1) (hv : v.cells = #[v]) (h1 : v.oneCell' = true) (hf : off + 1 ≤ cs.length)
  (h : ∀ w', St w0 M w' (L1 ++ .blk g T' (yw cs off [v]) :: L2) → K (a.put o.dst undef) w') : o.wp P a w K Q := by
 have hg : w.heap[g]? = some (.cells cs.toArray T' (0, 0)) := hst.all (.blk g T' cs) (by simp); have hs := storeVar_row (P := P) (T := T) (v := v) (off := off) hg (by rw [hv]; exact hi.out) (by rw [hv]; simpa using h1) (by rw [hv]; exact hf); rw [hv] at hs; refine ow_skip ?_ (h _ (hst.setRow _)); unfold execOp; simp only [hop, hx, hy, Instr.storeAt, Instr.sureAddr, Sem.run_bind, Sem.run_pure, Result.andThen_ok, hs]
theorem yH {ops : Array Oper} {rest : List Oper} {o : Oper} {a : Act} {w : World} {Q : Exit → Act → World → Prop} {T : TypeId} {parts : Array (Nat × Operand)} {cs : List Value} (ps : List (Nat × Value))
  (hop : o.op = .build T parts) (hw : Region.wanted o (yielded ops a.tmps) = true) (hp : parts.toList.map (fun p => (p.1, a.eval p.2)) = ps) (hb : P.built T ps = some cs.toArray)
  (h : wpList P ops Q rest (a.put o.dst (.agg cs.toArray)) w) : wpList P ops Q (o :: rest) a w :=
 wl_buildS hop hw (by rw [Array.toList_map, hp]; exact hb) h
end Hp
namespace Hp
variable {P : Program}
section
variable {w0 w : World} {M : List Nat} {L1 L2 L : List HA} {p : Value → Bool} {v : Value} {T : TypeId} {sz n : Nat} {xs : List Value}
theorem St.toP (h : St w0 M w (L1 ++ .row v T sz n xs :: L2)) (hp : AllP p w v T) : St w0 M w (L1 ++ .rowP p v T sz n xs :: L2) := h.rep rfl fun h => ⟨h, hp⟩
theorem St.openP (h : St w0 M w (L1 ++ .rowP p v T sz n xs :: L2)) : (v = .slice none 0 0 ∧ n = 0 ∧ xs = [] ∧ St w0 M w (L1 ++ L2)) ∨
  ∃ g cap cs, v = .slice (some ⟨g, 0, none⟩) n cap ∧ n ≤ cap ∧ cap ≤ 9223372036854775807 ∧ cs.length = cap * sz ∧ cs.take (n * sz) = xs ∧ cs.all p = true ∧ St w0 M w (L1 ++ .blk g T cs :: L2) := by
 have hh := h.ownsP (p := p) (v := v) (T := T) (sz := sz) (n := n) (xs := xs) (by simp); obtain ⟨⟨hl, ho⟩, hp⟩ := hh; rcases ho with ⟨rfl, rfl⟩ | ⟨g, cap, cur, rfl, hg0, hg, hnc, hcm, hcs, htake⟩
 ·exact .inl ⟨rfl, rfl, List.eq_nil_of_length_eq_zero (by simpa using hl), h.drop⟩
 ·refine .inr ⟨g, cap, cur.toList, rfl, hnc, hcm, by simpa using hcs, htake, hp g cur rfl hg, h.rep rfl fun _ => hg⟩
theorem run_appP {u : Value} {m bytes : Nat} {ys : List Value} {t ty : TypeId} {e : TypeId} (hst : St w0 M w (L1 ++ .rowP p v e sz n xs :: L2)) (ht : P.underlying t = some (.slice e)) (he : tyE P e sz bytes = true) (hsz : 0 < sz)
  (hrd : Rd w u sz m ys) (h1 : ∀ u ∈ ys, u.oneCell' = true) (h63 : n + m ≤ maxLen) (hbytes : (n + m) * bytes ≤ 140737488355328) (hz : ∀ cs, tyZ P e = some cs → cs.all p = true) (hy : ys.all p = true) :
  ∃ v' w', (Builtin.append_ #[t, t] ty #[v, u]).run P w = .ok v' w' ∧ St w0 M w' (L1 ++ .rowP p v' e sz (n + m) (xs ++ ys) :: L2) ∧ (v' = .slice none 0 0 ↔ v = .slice none 0 0 ∧ m = 0) := by
 obtain ⟨v', w', hr, h2, h3, h4⟩ := run_append (P := P) (t := t) (ty := ty) hst.unP ht he hsz hrd h1 h63 hbytes; exact ⟨v', w', hr, h2.toP (h4 p hz (hst.ownsP (p := p) (v := v) (T := e) (sz := sz) (n := n) (xs := xs) (by simp)).2 hy), h3⟩
end
section
variable {ops : Array Oper} {rest : List Oper} {o : Oper} {a : Act} {w0 w : World} {M : List Nat} {Q : Exit → Act → World → Prop}
theorem yar {s x : Operand} {t t' e : TypeId} {p : Value → Bool} {v u : Value} {sz bytes n m : Nat} {xs ys zs : List Value} (L1 : List HA) {L2 : List HA} (hst : St w0 M w (L1 ++ .rowP p v e sz n xs :: L2))
  (hop : o.op = .call { callee := .builtin .append, args := #[s, x], argTypes := #[t, t'] }) (hw : Region.wanted o (yielded ops a.tmps) = true) (hs : a.eval s = v) (hx : a.eval x = u)
  (ht : TySl P t e) (ht' : TySl P t' e) (he : TyE P e sz bytes) (hzz : TyZ P e zs) (hrd : Rd w u sz m ys) (h1 : ys.all (·.oneCell') = true) (hzp : zs.all p = true) (hy : ys.all p = true) (hb : 0 < sz ∧ n + m ≤ maxLen ∧ (n + m) * bytes ≤ 140737488355328)
  (h : ∀ v' w', St w0 M w' (L1 ++ .rowP p v' e sz (n + m) (xs ++ ys) :: L2) → (v' = .slice none 0 0 ↔ v = .slice none 0 0 ∧ m = 0) → wpList P ops Q rest (a.put o.dst v') w') : wpList P ops Q (o :: rest) a w := by
 obtain ⟨v', w', hr, h2, h3⟩ := run_appP (P := P) (t := t) (ty := o.type) hst ht.out he.out hb.1 hrd (all_ones h1) hb.2.1 hb.2.2 (fun cs h => by rw [hzz.out] at h; cases h; exact hzp) hy; refine jW hw ?_ (h v' w' h2 h3); unfold execOp; simp only [hop, resolve, invoke, builtin, Sem.run_bind, Sem.run_pure, Result.andThen_ok, List.map_toArray, List.map_cons, List.map_nil, hs, hx]; rw [ya2 ht.out ht'.out, hr]; rfl
theorem ow_appP {K : Act → World → Prop} {s x : Operand} {t t' e : TypeId} {p : Value → Bool} {v u : Value} {sz bytes n m : Nat} {xs ys zs : List Value} (L1 : List HA) {L2 : List HA} (hst : St w0 M w (L1 ++ .rowP p v e sz n xs :: L2))
  (hop : o.op = .call { callee := .builtin .append, args := #[s, x], argTypes := #[t, t'] }) (hs : a.eval s = v) (hx : a.eval x = u)
  (ht : TySl P t e) (ht' : TySl P t' e) (he : TyE P e sz bytes) (hzz : TyZ P e zs) (hrd : Rd w u sz m ys) (h1 : ys.all (·.oneCell') = true) (hzp : zs.all p = true) (hy : ys.all p = true) (hb : 0 < sz ∧ n + m ≤ maxLen ∧ (n + m) * bytes ≤ 140737488355328)
  (h : ∀ v' w', St w0 M w' (L1 ++ .rowP p v' e sz (n + m) (xs ++ ys) :: L2) → (v' = .slice none 0 0 ↔ v = .slice none 0 0 ∧ m = 0) → K (a.put o.dst v') w') : o.wp P a w K Q := by
 obtain ⟨v', w', hr, h2, h3⟩ := run_appP (P := P) (t := t) (ty := o.type) hst ht.out he.out hb.1 hrd (all_ones h1) hb.2.1 hb.2.2 (fun cs h => by rw [hzz.out] at h; cases h; exact hzp) hy; refine ow_run ?_ (h v' w' h2 h3); unfold execOp; simp only [hop, resolve, invoke, builtin, Sem.run_bind, Sem.run_pure, Result.andThen_ok, List.map_toArray, List.map_cons, List.map_nil, hs, hx]; rw [ya2 ht.out ht'.out, hr]; rfl
end
theorem qI {o : Oper} {a : Act} {w0 w : World} {M : List Nat} {L : List HA} {K : Act → World → Prop} {Q : Exit → Act → World → Prop} {T : TypeId} {cs : List Value} (hst : St w0 M w L) (hop : o.op = .alloc T) (hzc : TyZ P T cs)
  (h : ∀ g w', St w0 M w' (.blk g T cs :: L) → K (a.put o.dst (.pointer (some ⟨g, 0, none⟩))) w') : o.wp P a w K Q := by
 refine ow_run ?_ (h _ _ (hst.alloc T cs)); have hz := hzc.out; unfold tyZ at hz; cases hi : P.info? T with
 | none => simp [hi] at hz
 | some i =>
  cases hzz : i.zero with
  | none => simp [hi, hzz] at hz
  | some z =>
   have hc : z.cells.toList = cs := by simpa [hi, hzz] using hz
   subst hc; unfold execOp; simp [hop, Instr.alloc, zeroValue, typeInfo, hi, hzz, newVar, newRow]
theorem St.toRowP {w0 w : World} {M : List Nat} {L : List HA} {T : TypeId} {g n cap sz : Nat} {cs : List Value} (p : Value → Bool) (hst : St w0 M w (.blk g T cs :: L)) (hl : cs.length = cap * sz) (hn : n ≤ cap) (hc : cap ≤ 9223372036854775807) (hp : cs.all p = true) :
  St w0 M w (.rowP p (.slice (some ⟨g, 0, none⟩) n cap) T sz n (cs.take (n * sz)) :: L) := by
 have h1 := hst.toRow hl hn hc; refine St.toP (L1 := []) h1 fun g' cs' hg hc' => ?_; simp only [Value.ownBlock, Option.some.injEq] at hg; subst hg; have hb : w.heap[g]? = some (.cells cs.toArray T (0, 0)) := hst.all _ zH; rw [hb] at hc'; simp only [Option.some.injEq, Obj.cells.injEq] at hc'; obtain ⟨rfl, _⟩ := hc'; simpa using hp
theorem Rd.rowP {w0 w : World} {M : List Nat} {L : List HA} {p : Value → Bool} {v : Value} {T : TypeId} {sz n : Nat} {xs : List Value} (hst : St w0 M w L) (hm : HA.rowP p v T sz n xs ∈ L) : Rd w v sz n xs := by
 have hh := (hst.ownsP hm).1; obtain ⟨L1, L2, rfl⟩ := List.append_of_mem hm; exact Rd.row (T := T) hst.unP (by simp)
def yP (v : Value) : Bool := match v with
 | .int .u8 z => decide (0 ≤ z) && decide (z < 256)
 | _ => false
theorem isB_spec {v : Value} (h : yP v = true) : ∃ x : UInt8, v = .int .u8 x.toNat := by
 unfold yP at h; split at h
 ·rename_i z
  simp only [Bool.and_eq_true, decide_eq_true_eq] at h; refine ⟨UInt8.ofNat z.toNat, ?_⟩; have : (UInt8.ofNat z.toNat).toNat = z.toNat := by
   rw [UInt8.toNat_ofNat']; omega
  rw [this, Int.toNat_of_nonneg h.1]
 ·cases h
theorem yaH (l : List UInt8) : (yb l).all yP = true := by
 rw [List.all_eq_true]; intro v hv; simp only [yb, List.mem_map] at hv; obtain ⟨x, _, rfl⟩ := hv; have := x.toNat_lt; simp [yP]; omega
theorem isB_list {cs : List Value} (h : cs.all yP = true) : ∃ l : List UInt8, cs = yb l := by
 induction cs with
 | nil => exact ⟨[], rfl⟩
 | cons c cs ih =>
  rw [List.all_cons, Bool.and_eq_true] at h; obtain ⟨x, rfl⟩ := isB_spec h.1; obtain ⟨l, rfl⟩ := ih h.2; exact ⟨x :: l, rfl⟩
end Hp
namespace Hp
variable {P : Program}
def lastB (ops : Array Oper) (o : Oper) : Bool :=
 o.after.all (fun e => decide (e.on < ops.size)) && (
 (List.range ops.size).all (fun i => o.after.any fun e => Region.binds .any e && e.on == i) &&
 (List.range ops.size).all (fun i => match ops[i]? with
  | some oi => oi.after.all (fun e => decide (e.on < i)) && (match oi.guard with | none => true | some (j, _) => decide (j < ops.size))
  | none => false))
def QL (P : Program) (ops : Array Oper) (o : Oper) (Q : Exit → Act → World → Prop) : Exit → Act → World → Prop
 | .normal, a, w => wpOp P (ops.push o) Q ops.size (fun a' w' => Q .normal a' w') a w
 | e, a, w => Q e a w
theorem QL.letsOut {ops : Array Oper} {o : Oper} {Q : Exit → Act → World → Prop} (h : LetsOut (QL P ops o Q)) : LetsOut Q := h
theorem Oper.wp_swap {o : Oper} {a : Act} {w : World} {K K' : Act → World → Prop} {Q Q' : Exit → Act → World → Prop} (h : ∀ a w, K a w → K' a w) (hp : ∀ c a w, Q (.panic c) a w → Q' (.panic c) a w) (hl : LetsOut Q → LetsOut Q')
  (hh : o.wp P a w K Q) : o.wp P a w K' Q' := by
 unfold Oper.wp at *; generalize (execOp a.eval o).run P w = r at *; cases r with
 | ok n w' =>
  cases n with
  | value v => exact h _ _ hh
  | skip => exact h _ _ hh
  | defer d => exact h _ _ hh
  | enter f args => exact Calls.mono hh (fun e w'' he => by cases e <;> first | exact h _ _ he | exact hp _ _ _ he | exact hl he)
  | row r args => exact Rows.mono hh (fun _ _ he => h _ _ he)
  | _ => exact hh
 | halt x w' => cases x <;> first | exact hp _ _ _ hh | exact hh
section
variable {ops : Array Oper} {o : Oper} {Q : Exit → Act → World → Prop}
theorem lastB.waits (h : lastB ops o = true) {i : Nat} (hi : i < ops.size) : ∃ e ∈ o.after, Region.binds .any e = true ∧ e.on = i := by
 simp only [lastB, Bool.and_eq_true, List.all_eq_true, List.mem_range] at h; obtain ⟨e, he, hb⟩ := Array.any_eq_true'.1 (h.2.1 i hi); simp only [Bool.and_eq_true, beq_iff_eq] at hb; exact ⟨e, he, hb.1, hb.2⟩
theorem lastB.on (h : lastB ops o = true) : ∀ e ∈ o.after, e.on < ops.size := by
 simp only [lastB, Bool.and_eq_true] at h; intro e he; have := Array.all_eq_true'.1 h.1 e he; simpa using this
theorem lastB.back (h : lastB ops o = true) {i : Nat} (hi : i < ops.size) : (∀ e ∈ (ops[i]).after, e.on < i) ∧ ∀ j b, (ops[i]).guard = some (j, b) → j < ops.size := by
 simp only [lastB, Bool.and_eq_true, List.all_eq_true, List.mem_range] at h; have h2 := h.2.2 i hi; rw [Array.getElem?_eq_getElem hi] at h2; simp only [Bool.and_eq_true] at h2; refine ⟨fun e he => ?_, fun j b hg => ?_⟩
 ·have := Array.all_eq_true'.1 h2.1 e he; simpa using this
 ·have := h2.2; rw [hg] at this; simpa using this
theorem lastB.wanted (h : lastB ops o = true) {i : Nat} (hi : i < ops.size) (t : Array Value) : Region.wanted ops[i] (yielded (ops.push o) t) = Region.wanted ops[i] (yielded ops t) := by
 unfold Region.wanted; cases hg : (ops[i]).guard with
 | none => rfl
 | some p =>
  obtain ⟨j, b⟩ := p; have hj := (lastB.back h hi).2 j b hg; simp only [yielded, Array.getElem?_push, Nat.ne_of_lt hj, if_false]
theorem zy {ops : Array Oper} {listed : Array Bool} {i : Nat} : i ∈ Region.ready .any ops listed ↔ ∃ hi : i < ops.size, listed.getD i true = false ∧ ∀ e ∈ (ops[i]).after, Region.binds .any e = true → listed.getD e.on false = true := by
 unfold Region.ready; simp only [List.mem_filter, List.mem_range, Bool.and_eq_true, Bool.not_eq_true']; constructor
 ·rintro ⟨hi, hl, ha⟩; refine ⟨hi, hl, fun e he hb => ?_⟩; rw [Array.getElem?_eq_getElem hi] at ha; simp only [Option.map_some, Option.getD_some] at ha; have := Array.all_eq_true'.1 ha e he; simpa [hb] using this
 ·rintro ⟨hi, hl, ha⟩; refine ⟨hi, hl, ?_⟩; rw [Array.getElem?_eq_getElem hi]; simp only [Option.map_some, Option.getD_some]; refine Array.all_eq_true'.2 fun e he => ?_; by_cases hb : Region.binds .any e = true
  ·simp [hb, ha e he hb]
  ·simp [Bool.eq_false_iff.2 hb]
theorem zY {l : Array Bool} {x d : Bool} {i : Nat} (h : i < l.size) : (l.push x).getD i d = l.getD i d := by
 simp [Array.getD_eq_getD_getElem?, Array.getElem?_push, Nat.ne_of_lt h]
theorem ready_push (h : lastB ops o = true) {listed : Array Bool} (hs : listed.size = ops.size) (x : Bool) {i : Nat} (hi : i < ops.size) : i ∈ Region.ready .any (ops.push o) (listed.push x) ↔ i ∈ Region.ready .any ops listed := by
 rw [zy, zy]; have he : (ops.push o)[i]'(by simp; omega) = ops[i] := by simp [Array.getElem_push, hi]
 constructor
 ·rintro ⟨hi', hl, ha⟩; rw [zY (by omega)] at hl; refine ⟨hi, hl, fun e hm hb => ?_⟩; have h1 := (lastB.back h hi).1 e hm; have := ha e (by rw [he]; exact hm) hb; rwa [zY (by omega)] at this
 ·rintro ⟨hi', hl, ha⟩; refine ⟨by simp; omega, by rw [zY (by omega)]; exact hl, fun e hm hb => ?_⟩; rw [he] at hm; have h1 := (lastB.back h hi).1 e hm; rw [zY (by omega)]; exact ha e hm hb
theorem ready_nil_all (h : lastB ops o = true) {listed : Array Bool} (hs : listed.size = ops.size) (hr : Region.ready .any ops listed = []) : ∀ i, i < ops.size → listed.getD i true = true := by
 intro i
 induction i using Nat.strongRecOn with
 | _ i ih =>
  intro hi; rw [← Bool.not_eq_false]; intro hf; have : i ∈ Region.ready .any ops listed := zy.2 ⟨hi, hf, fun e he hb => by
   have h1 := (lastB.back h hi).1 e he; have h2 := ih e.on h1 (by omega); have h3 : e.on < listed.size := by omega
   simp only [Array.getD_eq_getD_getElem?, Array.getElem?_eq_getElem h3, Option.getD_some] at h2 ⊢; exact h2⟩
  rw [hr] at this; cases this
theorem wpAny_last (h : lastB ops o = true) : ∀ (fuel : Nat) (listed : Array Bool) (a : Act) (w : World), listed.size = ops.size → wpAny P .any ops (QL P ops o Q) fuel listed a w → wpAny P .any (ops.push o) Q (fuel + 1) (listed.push false) a w := by
 have fin : ∀ (fuel : Nat) (listed : Array Bool) (a : Act) (w : World), listed.size = ops.size → Region.ready .any ops listed = [] → QL P ops o Q .normal a w → wpAny P .any (ops.push o) Q (fuel + 1) (listed.push false) a w := by
  intro fuel listed a w hs hr hq; have hall := ready_nil_all h hs hr; have hn : ops.size ∈ Region.ready .any (ops.push o) (listed.push false) := by
   refine zy.2 ⟨by simp, by rw [← hs]; simp, fun e he hb => ?_⟩; have he' : (ops.push o)[ops.size]'(by simp) = o := by simp
   rw [he'] at he; have h1 := lastB.on h e he; rw [zY (by omega)]; have h2 := hall e.on h1; have h3 : e.on < listed.size := by omega
   simp only [Array.getD_eq_getD_getElem?, Array.getElem?_eq_getElem h3, Option.getD_some] at h2 ⊢; exact h2
  refine ⟨fun h0 => ?_, fun i hi => ?_⟩
  ·rw [h0] at hn; cases hn
  ·have hin : i = ops.size := by
    obtain ⟨h1, _⟩ := zy.1 hi; simp at h1; rcases Nat.lt_or_ge i ops.size with h2 | h2
    ·have := (ready_push h hs false h2).1 hi; rw [hr] at this; cases this
    ·omega
   subst hin; refine wpOp_mono (fun a' w' hq' => ?_) hq; have hr2 : Region.ready .any (ops.push o) ((listed.push false).setIfInBounds ops.size true) = [] := by
    have e : (listed.push false).setIfInBounds ops.size true = listed.push true := by
     apply Array.ext
     ·simp
     ·intro i h1 h2; simp at h1; rw [Array.getElem_setIfInBounds (by simpa using h1)]; simp only [Array.getElem_push]; by_cases hj : i < listed.size
      ·rw [dif_pos hj, dif_pos hj, if_neg (by omega)]
      ·rw [dif_neg hj, dif_neg hj, if_pos (by omega)]
    rw [e]; refine List.eq_nil_iff_forall_not_mem.2 fun i hi => ?_; obtain ⟨h1, h2, _⟩ := zy.1 hi; simp at h1; rcases Nat.lt_or_ge i ops.size with h3 | h3
    ·have := (ready_push h hs true h3).1 hi; rw [hr] at this; cases this
    ·have : i = ops.size := by omega
     subst this; have h4 : (listed.push true).getD ops.size true = true := by rw [← hs]; simp
     rw [h4] at h2; cases h2
   cases fuel with
   | zero => exact ⟨hr2, hq'⟩
   | succ fuel => exact ⟨fun _ => hq', fun i hi => by rw [hr2] at hi; cases hi⟩
 intro fuel
 induction fuel with
 | zero => intro listed a w hs hq; exact fin 0 listed a w hs hq.1 hq.2
 | succ fuel ih =>
  intro listed a w hs hq; by_cases hr : Region.ready .any ops listed = []
  ·exact fin _ listed a w hs hr (hq.1 hr)
  ·have hnot : ops.size ∉ Region.ready .any (ops.push o) (listed.push false) := by
    intro hm; obtain ⟨h1, h2, h3⟩ := zy.1 hm; have he' : (ops.push o)[ops.size]'(by simp) = o := by simp
    rw [he'] at h3; obtain ⟨i, hi⟩ := List.exists_mem_of_ne_nil _ hr; obtain ⟨hi1, hi2, _⟩ := zy.1 hi; obtain ⟨e, hem, heb, heo⟩ := lastB.waits h hi1; have := h3 e hem heb; rw [heo, zY (by omega)] at this; have h4 : i < listed.size := by omega
    simp [Array.getD_eq_getD_getElem?, Array.getElem?_eq_getElem h4] at this hi2; rw [this] at hi2; cases hi2
   refine ⟨fun h0 => absurd ?_ hr, fun i hi => ?_⟩
   ·refine List.eq_nil_iff_forall_not_mem.2 fun i hi => ?_; obtain ⟨h1, _⟩ := zy.1 hi; have := (ready_push h hs false h1).2 hi; rw [h0] at this; cases this
   ·have hlt : i < ops.size := by
     obtain ⟨h1, _⟩ := zy.1 hi; simp at h1; rcases Nat.lt_or_ge i ops.size with h2 | h2
     ·exact h2
     ·exact absurd (by rwa [show i = ops.size by omega] at hi) hnot
    have hi' := (ready_push h hs false hlt).1 hi; have hw := hq.2 i hi'; have e : (listed.push false).setIfInBounds i true = (listed.setIfInBounds i true).push false := by
     apply Array.ext
     ·simp
     ·intro j h1 h2; simp at h1; rw [Array.getElem_setIfInBounds (by simpa using h1)]; simp only [Array.getElem_push, Array.size_setIfInBounds]; by_cases hj : j < listed.size
      ·rw [dif_pos hj, dif_pos hj, Array.getElem_setIfInBounds hj]
      ·rw [dif_neg hj, dif_neg hj, if_neg (by omega)]
    rw [e]; unfold wpOp at hw ⊢; have g1 : (ops.push o)[i]? = some ops[i] := by simp [Array.getElem?_push, Nat.ne_of_lt hlt, hlt]
    rw [g1]; rw [Array.getElem?_eq_getElem hlt] at hw; simp only [lastB.wanted h hlt] at hw ⊢; split
    ·rename_i hwt
     simp only [hwt, if_true] at hw; refine hw.imp (fun hx => Oper.wp_swap (fun a' w' hk => ih _ a' w' (by simpa using hs) hk) (Q := QL P ops o Q) (fun c a w hp => hp) (QL.letsOut (P := P) (ops := ops) (o := o)) hx) (fun hx => ⟨hx.1, QL.letsOut (P := P) (ops := ops) (o := o) hx.2⟩)
    ·rename_i hwt
     simp only [hwt] at hw; exact ih _ _ _ (by simpa using hs) hw
end
theorem push_pop {L : Array Oper} {o : Oper} (h : L.back? = some o) : L.pop.push o = L := by
 obtain ⟨l, rfl⟩ : ∃ l : List Oper, L = l.toArray := ⟨L.toList, rfl⟩; simp only [List.back?_toArray] at h; obtain ⟨l', rfl⟩ := List.getLast?_eq_some_iff.1 h; simp
theorem jU {id : Nat} {L : Array Oper} {o : Oper} {Q : Exit → Act → World → Prop} {S : World → Prop} {a : Act} {w : World} (hm : P.follows .mixedOrders = true) (ho : L.back? = some o) (hB : lastB L.pop o = true) (hS : S w.drew)
  (h : S w.drew → wpAnyH P .any L.pop (QL P L.pop o Q) S L.pop.size (Array.replicate L.pop.size false) a w.drew) : (Code.region id L true).wp P Q a w := by
 have e := push_pop ho; refine wp_region_any hm ?_; have h1 := wpAny_last hB _ _ a w.drew (by simp) (wpAny_of_held _ _ _ _ (h hS)); rw [e] at h1; have h2 : L.size = L.pop.size + 1 := by (conv => lhs; rw [← e]); simp
 have h3 : (Array.replicate L.pop.size false).push false = Array.replicate L.size false := by rw [h2, Array.replicate_succ]
 rw [h3, ← h2] at h1; exact h1
theorem yaG {ops : Array Oper} {o : Oper} {Q : Exit → Act → World → Prop} {a : Act} {w : World} (h : wpList P (ops.push o) Q [o] a w) : QL P ops o Q .normal a w := by
 show wpOp _ _ _ _ _ _ _; unfold wpOp; simp only [Array.getElem?_push_size]; unfold wpList at h; exact h
end Hp
namespace Hp
variable {P : Program}
theorem zt {w0 w : World} {M : List Nat} {L : List HA} (T : TypeId) (sz : Nat) (h : St w0 M w L) : St w0 M w (.row (.slice none 0 0) T sz 0 [] :: L) := by
 refine ⟨h.os, h.tape, h.output, h.size, h.old, fun x hx => ?_, fun x hx k hk => ?_, ?_⟩
 ·rcases List.mem_cons.1 hx with rfl | hx
  ·exact ⟨by simp, .inl ⟨rfl, rfl⟩⟩
  ·exact h.all x hx
 ·rcases List.mem_cons.1 hx with rfl | hx
  ·cases hk
  ·exact h.own x hx k hk
 ·refine List.Pairwise.cons (fun y _ k hk => ?_) h.apart; cases hk
theorem qo {w0 w : World} {M : List Nat} {L : List HA} (p : Value → Bool) (T : TypeId) (sz : Nat) (h : St w0 M w L) : St w0 M w (.rowP p (.slice none 0 0) T sz 0 [] :: L) :=
 St.toP (L1 := []) (zt T sz h) (fun g cs hg _ => by cases hg)
theorem Rd.win {w : World} {b off off' n c m c' : Nat} {F : List UInt8} (lo : Nat) (h : Rd w (.slice (some ⟨b, off, none⟩) n c) 1 n (yb F)) (ho : off' = off + lo) (hm : lo + m ≤ n) (hc : m ≤ c' ∧ lo + c' ≤ c) :
  Rd w (.slice (some ⟨b, off', none⟩) m c') 1 m (yb ((F.drop lo).take m)) := by
 subst ho; have hr := h.range; obtain ⟨hl1, ao, c0, he, hn, hcm, hnone, hsome⟩ := h; simp only [Value.slice.injEq, true_and] at he; obtain ⟨he1, rfl⟩ := he; refine Rd.mk hc.1 (by omega) (by simp at hl1 ⊢; omega) ?_; intro j v hv; have := hr (lo + j) v (by
  simp only [yb, List.map_take, List.map_drop] at hv; rw [List.getElem?_take] at hv; split at hv
  ·rw [List.getElem?_drop] at hv; exact hv
  ·cases hv)
 rwa [← Nat.add_assoc] at this
theorem Rd.takeN {w : World} {ao : Option Addr} {n c m : Nat} {F : List UInt8} (h : Rd w (.slice ao n c) 1 n (yb F)) (hm : m ≤ n) : Rd w (.slice ao m c) 1 m (yb (F.take m)) := by
 obtain ⟨hl1, ao', c0, he, hn, hcm, hnone, hsome⟩ := h; simp only [Value.slice.injEq, true_and] at he; obtain ⟨rfl, rfl⟩ := he; refine ⟨by simp at hl1 ⊢; omega, ao, c, rfl, by omega, hcm, fun hh => ?_, fun A hA h0 => ?_⟩
 ·have := hnone hh; omega
 ·obtain ⟨b, off, rfl, hr⟩ := hsome A hA h0; refine ⟨b, off, rfl, fun j v hv => hr j v ?_⟩; simp only [yb, List.map_take] at hv ⊢; rw [List.getElem?_take] at hv; split at hv
  ·exact hv
  ·cases hv
theorem yV {w0 w : World} {M : List Nat} {L : List HA} {v : Value} {T : TypeId} {sz n : Nat} {xs : List Value} (h : St w0 M w L) (hm : HA.row v T sz n xs ∈ L) : ∃ ao c, v = .slice ao n c ∧ n ≤ c ∧ c ≤ 9223372036854775807 ∧ xs.length = n * sz := by
 obtain ⟨hl, h2⟩ := h.owns hm; rcases h2 with ⟨rfl, rfl⟩ | ⟨g, cap, cur, rfl, _, hc, hnc, hcm, _⟩
 ·exact ⟨none, 0, rfl, Nat.le_refl _, by decide, hl⟩
 ·exact ⟨_, cap, rfl, hnc, hcm, hl⟩
theorem eqInSlNil (w : World) (d : Nat) (t e : TypeId) (a : Option Addr) (n c : Nat) (h : P.underlying t = some (.slice e)) : (Op.equalIn (d + 1) t (.slice a n c) (.slice none 0 0)).run P w = .ok a.isNone w := by
 cases a <;> simp [Op.equalIn, run_underlying h]
theorem eqSlNil (w : World) (t e : TypeId) (a : Option Addr) (n c : Nat) (h : P.underlying t = some (.slice e)) : (binOp .eql t (.slice a n c) (.slice none 0 0)).run P w = .ok (.bool a.isNone) w := by
 simp only [binOp]; simp [Op.equal, Op.maxDepth, eqInSlNil w 9999 t e a n c h]
theorem ldRow {w0 w : World} {M : List Nat} {L : List HA} {T T' : TypeId} {b off n m c k : Nat} {v : Value} {xs : List Value} (h : St w0 M w L) (hm : HA.row (.slice (some ⟨b, off, none⟩) n c) T' 1 m xs ∈ L) [ht : TyS P T] (hk : xs[k]? = some v) :
  (yn T ⟨b, off + k, none⟩).run P w = .ok v w := by
 have hr := Rd.row h hm; have hr0 := hr; obtain ⟨hl, ao, c', he, hn, hc, hnone, hsome⟩ := hr; simp only [Value.slice.injEq] at he; obtain ⟨rfl, rfl, rfl⟩ := he; have hx := hr0.range; exact Loads.cell ht.out (hx k v hk)
def Off (v : Value) (F : List Nat) : Prop := ∀ A n c, v = .slice (some A) n c → 0 < n → A.block ∉ F
theorem Off.nil (n c : Nat) (F : List Nat) : Off (.slice none n c) F := fun _ _ _ h => by cases h
theorem Rd.oldM {w0 w : World} {M : List Nat} {L : List HA} {v : Value} {sz n : Nat} {xs : List Value} (hst : St w0 M w L) (h : Rd w0 v sz n xs) (ho : Off v M) : Rd w v sz n xs := by
 obtain ⟨hl, ao, c, rfl, hn, hc, hnone, hsome⟩ := h; refine ⟨hl, ao, c, rfl, hn, hc, hnone, fun A hA h0 => ?_⟩; obtain ⟨b, off, rfl, hr⟩ := hsome A hA h0; subst hA; refine ⟨b, off, rfl, fun j u hu => hst.old_cell (hr j u hu) (show b ∉ M from ho ⟨b, off, none⟩ _ _ rfl ?_)⟩; rcases Nat.eq_zero_or_pos n with h0 | h0
 ·subst h0; have : xs = [] := List.eq_nil_of_length_eq_zero (by simpa using hl); subst this; cases hu
 ·exact h0
theorem Off.old {w : World} {v : Value} {sz n : Nat} {xs : List Value} {F : List Nat} (h : Rd w v sz n xs) (hs : 0 < sz) (hF : ∀ k ∈ F, w.heap.size ≤ k) : Off v F := by
 obtain ⟨hl, ao, c, rfl, hn, hc, hnone, hsome⟩ := h; intro A n' c' e hpos hk; simp only [Value.slice.injEq] at e; obtain ⟨rfl, rfl, rfl⟩ := e; obtain ⟨b, off, rfl, hr⟩ := hsome A rfl (by omega); have hlen : 0 < xs.length := by rw [hl]; exact Nat.mul_pos hpos hs
 have hc0 := hr 0 xs[0] (by simp [hlen]); have h1 := World.block_lt_of_cell? w _ hc0; have h2 := hF _ hk; have h3 : b < w.heap.size := h1; have h4 : w.heap.size ≤ b := h2; omega
theorem feet (R : List HA) : ∀ k ∈ R.filterMap HA.foot, ∃ x ∈ R, x.foot = some k := fun _ hk => List.mem_filterMap.1 hk
theorem St.selfF {w0 w : World} {M : List Nat} {L : List HA} (h : St w0 M w L) : St w (L.filterMap HA.foot) w L :=
 ⟨rfl, rfl, rfl, Nat.le_refl _, fun _ _ _ => rfl, h.all, fun x hx k hk => .inr (List.mem_filterMap.2 ⟨x, hx, hk⟩), h.apart⟩
theorem ya1 {w0 w w' : World} {M : List Nat} {L L' : List HA} (h : St w0 M w L) (h' : St w (L.filterMap HA.foot) w' L') : St w0 M w' L' := by
 have := St.callG (R := []) L (M := M) (w0 := w0) (by simpa using h) h' (feet L); simpa using this
theorem St.callF {w0 w w' : World} {M : List Nat} {L' : List HA} (C : List HA) {R : List HA} (h : St w0 M w (C ++ R)) (h' : St w (C.filterMap HA.foot) w' L') : St w0 M w' (L' ++ R) := St.callG C R h h' (feet C)
theorem Off.rowP {w w' : World} {L : List HA} {p : Value → Bool} {v : Value} {T : TypeId} {sz n : Nat} {xs : List Value} {F : List Nat} (h : St w [] w' L) (hm : HA.rowP p v T sz n xs ∈ L) (hF : ∀ k ∈ F, k < w.heap.size) : Off v F := by
 intro A n' c e _ hk; have h1 := h.own _ hm; obtain ⟨⟨_, h2⟩, _⟩ := h.ownsP hm; rcases h2 with ⟨rfl, rfl⟩ | ⟨g, cap, cur, rfl, _⟩
 ·cases e
 ·cases e; have := hF _ hk; rcases h1 g rfl with h3 | h3
  ·have : ¬ g < w.heap.size := by omega
   exact this (hF _ hk)
  ·cases h3
theorem Off.blk {w w' : World} {L : List HA} {g : Nat} {T : TypeId} {cs : List Value} {F : List Nat} (h : St w [] w' L) (hm : HA.blk g T cs ∈ L) (hF : ∀ k ∈ F, k < w.heap.size) (off n c : Nat) : Off (.slice (some ⟨g, off, none⟩) n c) F := by
 intro A n' c' e _ hk; cases e; rcases h.own _ hm g rfl with h3 | h3
 ·have := hF _ hk; have : g < w.heap.size := this; omega
 ·cases h3
theorem Loads.oldM {w0 w : World} {M : List Nat} {L : List HA} {T : TypeId} {A : Addr} {v : Value} (hst : St w0 M w L) [ht : TyS P T] (h : w0.cell? A = some v) (hM : A.block ∉ M) : Loads P w T A v := Loads.cell ht.out (hst.old_cell h hM)
theorem qY {w0 w : World} {M : List Nat} {L : List HA} {T : TypeId} {A : Addr} {v : Value} (hst : St w0 M w L) [ht : TyS P T] (h : w0.cell? A = some v) (hM : A.block ∉ M) : (yn T A).run P w = .ok v w := Loads.cell ht.out (hst.old_cell h hM)
def Q0 (K : Act → World → Prop) (Q : Exit → Act → World → Prop) : Exit → Act → World → Prop
 | .normal => K
 | .outgrown => fun _ _ => False
 | e => Q e
theorem ow_of_wl {o : Oper} {a : Act} {w : World} {K : Act → World → Prop} {Q : Exit → Act → World → Prop} {ops : Array Oper} (hw : Region.wanted o (yielded ops a.tmps) = true) (h : wpList P ops (Q0 K Q) [o] a w) : o.wp P a w K Q := by
 unfold wpList at h; rw [if_pos hw] at h; rcases h with h | ⟨_, _, _, h⟩
 ·exact Oper.wp_swap (K := wpList P ops (Q0 K Q) []) (Q := Q0 K Q) (Q' := Q) (fun a w hh => hh) (fun c a w hh => hh) (fun hl => by obtain ⟨_, _, hl⟩ := hl; exact (show False from hl).elim) h
 ·exact h.elim
theorem q0_nil {a : Act} {w : World} {K : Act → World → Prop} {Q : Exit → Act → World → Prop} {ops : Array Oper} (h : K a w) : wpList P ops (Q0 K Q) [] a w := h
section
variable {P : Program} {ops : Array Oper} {Q : Exit → Act → World → Prop} {md : Region.Mode} {S : World → Prop} {op : Op} {ty : TypeId} {pos : String} {af : Array Edge} {g : Option (Nat × Bool)} {fuel : Nat} {listed : Array Bool} {a b : Act} {w : World} {d : Option Tmp}
theorem oW {o : Oper} {K : Act → World → Prop} (h : wpList P #[] (Q0 K Q) [o] a w) (hw : Region.wanted o (yielded #[] a.tmps) = true := by rfl) : o.wp P a w K Q := ow_of_wl hw h
theorem rW (i : Nat) (hr : Region.ready md ops listed = [i] := by kernel_rfl) (ho : ops[i]? = some ⟨d, op, ty, pos, af, g⟩ := by rfl) (hw : Region.wanted ⟨d, op, ty, pos, af, g⟩ (yielded ops a.tmps) = true := by rfl) (hw' : Region.wanted ⟨d, op, ty, pos, af, g⟩ (yielded #[] a.tmps) = true := by rfl)
  (h : ∀ K, Bk P md ops Q S fuel (listed.setIfInBounds i true) K → wpList P #[] (Q0 K Q) [⟨d, op, ty, pos, af, g⟩] a w) : wpAnyH P md ops Q S (fuel + 1) listed a w := yF i hr ho hw fun K hK => ow_of_wl hw' (h K hK)
theorem kQ {K : Act → World → Prop} {o : Array Oper} (hK : Bk P md ops Q S fuel listed K) (hS : S w) (ha : a = b := by ((try simp only [pL]); rfl)) (h : S w → wpAnyH P md ops Q S fuel listed b w) : wpList P o (Q0 K Q) [] a w := kD hK hS ha h
end
end Hp
end
section
structure LW where
 dev : Nat
 pl : Nat
 b : List UInt8
structure DV where
 g : Nat
 firm : List (List UInt8)
 gone : Bool
 lo : Bool
 st : Bool
 to : Int
 fail : Int
structure AR where
 devs : List DV
 loose : List LW
 fuse : Int
 out : Bool
 steps : Int
def AR.secs (a : AR) : Nat := match a.devs with
 | [] => 0
 | d :: _ => d.firm.length
def AR.inD (a : AR) (dev : Int) : Bool := decide (0 ≤ dev) && decide (dev < (a.devs.length : Int))
def AR.inS (a : AR) (dev pl : Int) : Bool := (a.inD dev && decide (0 ≤ pl)) && decide (pl < (a.secs : Int))
def DV.zero : DV := ⟨0, [], false, false, false, 0, 0⟩
def AR.dv (a : AR) (dev : Int) : DV := a.devs.getD dev.toNat DV.zero
def AR.upd (a : AR) (dev : Int) (f : DV → DV) : AR := { a with devs := a.devs.modify dev.toNat f }
def jV (d s : Nat) (b : List UInt8) (w : LW) : List UInt8 := if w.dev = d ∧ w.pl = s then w.b else b
def AR.tells (a : AR) (dev pl : Int) : List UInt8 := a.loose.foldl (jV dev.toNat pl.toNat) ((a.dv dev).firm.getD pl.toNat [])
def yt (l : List Int) : Int := (l.find? (· ≠ 0)).getD 0
def y8 (b : Bool) (e : Int) : Int := if b then 0 else e
def AR.stepE (a : AR) : Int := if a.fuse = 0 then 10 else 0
def AR.step (a : AR) : AR := if a.fuse = 0 then { a with out := true } else { a with fuse := if 0 < a.fuse then a.fuse - 1 else a.fuse, steps := a.steps + 1 }
def AR.readE (a : AR) (dev pl : Int) : Int := if a.devs = [] then 1 else if a.out then 10 else if a.inS dev pl = false then 5 else if (a.dv dev).gone then 14 else if 0 < (a.dv dev).fail then 13 else 0
def AR.read (a : AR) (dev pl : Int) : AR := if a.readE dev pl = 13 then a.upd dev fun d => { d with fail := d.fail - 1 } else a
def AR.writeE (a : AR) (dev pl : Int) (b : List UInt8) : Int := if a.devs = [] then 1 else if a.out then 10 else if a.inS dev pl = false then 5 else if b.length ≠ 256 then 2 else if (a.dv dev).gone then 14 else a.stepE
def AR.lay (a : AR) (dev pl : Int) (b : List UInt8) : AR :=
 if (a.dv dev).lo then a.upd dev fun d => { d with lo := false }
 else if (a.dv dev).st then { (a.upd dev fun d => { d with st := false }) with loose := a.loose ++ [⟨dev.toNat, (a.dv dev).to.toNat, b⟩] }
 else { a with loose := a.loose ++ [⟨dev.toNat, pl.toNat, b⟩] }
def AR.write (a : AR) (dev pl : Int) (b : List UInt8) : AR :=
 if a.devs = [] ∨ a.out ∨ a.inS dev pl = false ∨ b.length ≠ 256 ∨ (a.dv dev).gone then a
 else if a.fuse = 0 then a.step else a.step.lay dev pl b
def AR.flushE (a : AR) (dev : Int) : Int := if a.devs = [] then 1 else if a.out then 10 else if a.inD dev = false then 5 else if (a.dv dev).gone then 14 else a.stepE
def jS (l : List (List UInt8)) (w : LW) : List (List UInt8) := l.set w.pl w.b
def AR.firms (a : AR) (dev : Nat) : AR := { (a.upd dev fun d => { d with firm := (a.loose.filter fun w => w.dev == dev).foldl jS d.firm }) with loose := a.loose.filter fun w => w.dev != dev }
def AR.flush (a : AR) (dev : Int) : AR :=
 if a.devs = [] ∨ a.out ∨ a.inD dev = false ∨ (a.dv dev).gone then a
 else if a.fuse = 0 then a.step else a.step.firms dev.toNat
def AR.fuseE (a : AR) (n : Int) : Int := if a.devs = [] then 1 else if a.out then 10 else if n < 0 then 2 else 0
def AR.fused (a : AR) (n : Int) : AR := if a.fuseE n = 0 then { a with fuse := n } else a
end
section
open Go.RowKit Hp
instance rSE : TyS Tryz.prog 37 := ⟨by kernel_rfl⟩
instance rNE : TyN Tryz.prog 37 1 := ⟨by kernel_rfl⟩
instance rIE : TyI Tryz.prog 37 .i64 := ⟨by kernel_rfl⟩
instance rAR : TyA Tryz.prog 154 2 := ⟨by kernel_rfl⟩
instance rNR : TyN Tryz.prog 154 2 := ⟨by kernel_rfl⟩
instance rZR : TyZ Tryz.prog 154 [.int .i64 0, .int .i64 0] := ⟨by kernel_rfl⟩
instance rSpA : TyS Tryz.prog 23 := ⟨by kernel_rfl⟩
instance rNpA : TyN Tryz.prog 23 1 := ⟨by kernel_rfl⟩
instance rAA : TyA Tryz.prog 109 5 := ⟨by kernel_rfl⟩
instance rNA : TyN Tryz.prog 109 5 := ⟨by kernel_rfl⟩
instance rZA : TyZ Tryz.prog 109 [.slice none 0 0, .slice none 0 0, .int .i64 0, .bool false, .int .i64 0] := ⟨by kernel_rfl⟩
instance rBA : TyB Tryz.prog 109 [.slice none 0 0, .slice none 0 0, .int .i64 0, .bool false, .int .i64 0] := ⟨by kernel_rfl⟩
instance rAD : TyA Tryz.prog 89 5 := ⟨by kernel_rfl⟩
instance rND : TyN Tryz.prog 89 5 := ⟨by kernel_rfl⟩
instance rED : TyE Tryz.prog 89 5 48 := ⟨by kernel_rfl⟩
instance rSlD : TySl Tryz.prog 106 89 := ⟨by kernel_rfl⟩
instance rSsD : TyS Tryz.prog 106 := ⟨by kernel_rfl⟩
instance rNsD : TyN Tryz.prog 106 1 := ⟨by kernel_rfl⟩
instance rAW : TyA Tryz.prog 149 258 := ⟨by kernel_rfl⟩
instance rNW : TyN Tryz.prog 149 258 := ⟨by kernel_rfl⟩
instance rEW : TyE Tryz.prog 149 258 272 := ⟨by kernel_rfl⟩
instance rSlW : TySl Tryz.prog 107 149 := ⟨by kernel_rfl⟩
instance rSsW : TyS Tryz.prog 107 := ⟨by kernel_rfl⟩
instance rNsW : TyN Tryz.prog 107 1 := ⟨by kernel_rfl⟩
instance rAS : TyA Tryz.prog 144 256 := ⟨by kernel_rfl⟩
instance rNS : TyN Tryz.prog 144 256 := ⟨by kernel_rfl⟩
instance rES : TyE Tryz.prog 144 256 256 := ⟨by kernel_rfl⟩
instance rSlS : TySl Tryz.prog 86 144 := ⟨by kernel_rfl⟩
instance rSsS : TyS Tryz.prog 86 := ⟨by kernel_rfl⟩
instance rNsS : TyN Tryz.prog 86 1 := ⟨by kernel_rfl⟩
instance rSF : TyS Tryz.prog 87 := ⟨by kernel_rfl⟩
instance rNF : TyN Tryz.prog 87 1 := ⟨by kernel_rfl⟩
instance rSlF : TySl Tryz.prog 146 92 := ⟨by kernel_rfl⟩
instance rSfn : TyS Tryz.prog 92 := ⟨by kernel_rfl⟩
instance rNfn : TyN Tryz.prog 92 1 := ⟨by kernel_rfl⟩
instance rEfn : TyE Tryz.prog 92 1 8 := ⟨by kernel_rfl⟩
instance rSsF : TyS Tryz.prog 146 := ⟨by kernel_rfl⟩
end
section
open Go.RowKit Go.Extern.Stop Go.Stop Go.Extern Hp
attribute [local irreducible] Go.Calls
theorem isTypeOf (v : Value) (w : World) : (Extern.ReflectliteType.typeOf #[.iface 37 v]).run Tryz.prog w = .ok (.iface 206 (.agg #[.pointer (some ⟨0, 37, none⟩)])) w := by kernel_rfl
def rlComparable : Array Value → Sem Value := Extern.ReflectliteType.method fun t => do Extern.Rtype.noPackHeld "Comparable" t; pure (.bool (← typeInfo t).comparable)
theorem isComparable (w : World) : (rlComparable #[.agg #[.pointer (some ⟨0, 37, none⟩)]]).run Tryz.prog w = .ok (.bool true) w := by kernel_rfl
theorem ybC (v : Value) (w : World) : (Go.method 351 206 v "Comparable").run Tryz.prog w = .ok (192, v) w := by kernel_rfl
theorem methodUnwrap (v : Value) (w : World) : (Go.method 351 154 v "Unwrap").run Tryz.prog w = .ok (188, v) w := by kernel_rfl
theorem noIsR (v : Value) (xT : TypeId) (w : World) : (Instr.typeAssert (.iface 154 v) xT 208 true).run Tryz.prog w = .ok (.tuple #[.nilIface, .bool false]) w := run_typeAssert_lacksB Tryz.underlying208 (by kernel_rfl) (by kernel_rfl) v xT w
theorem noIsE (v : Value) (xT : TypeId) (w : World) : (Instr.typeAssert (.iface 37 v) xT 208 true).run Tryz.prog w = .ok (.tuple #[.nilIface, .bool false]) w := run_typeAssert_lacksB Tryz.underlying208 (by kernel_rfl) (by kernel_rfl) v xT w
theorem hasUnwrapR (v : Value) (xT : TypeId) (w : World) : (Instr.typeAssert (.iface 154 v) xT 211 true).run Tryz.prog w = .ok (.tuple #[.iface 154 v, .bool true]) w := run_typeAssert_hasB Tryz.underlying211 (by kernel_rfl) v xT w
theorem noUnwrapE (v : Value) (xT : TypeId) (w : World) : (Instr.typeAssert (.iface 37 v) xT 211 true).run Tryz.prog w = .ok (.tuple #[.nilIface, .bool false]) w := run_typeAssert_lacksB Tryz.underlying211 (by kernel_rfl) (by kernel_rfl) v xT w
theorem noUnwrapsE (v : Value) (xT : TypeId) (w : World) : (Instr.typeAssert (.iface 37 v) xT 213 true).run Tryz.prog w = .ok (.tuple #[.nilIface, .bool false]) w := run_typeAssert_lacksB Tryz.underlying213 (by kernel_rfl) (by kernel_rfl) v xT w
def errV (dev e : Int) : Value := if e = 0 then .nilIface else .iface 154 (.agg #[.int .i64 e, .int .i64 dev])
theorem unwrap_any (e d : Int) (w : World) : Calls Tryz.prog 188 #[.agg #[.int .i64 e, .int .i64 d]] w fun x w' => x = .returned (.iface 37 (.int .i64 e)) ∧ St w [] w' [] := by
 have hst0 := St.refl w; show Calls Tryz.prog 188 #[.agg (List.toArray [.int .i64 e, .int .i64 d])] w _; go_enter Tryz.func188, Tryz.ntmps188; go_wp2_with (first | (refine zj hst0 fun g1 _ hst1 => ?_; clear hst0) | (refine jl (Loads.at [] hst1 rfl) ?_)); go_ret; exact ⟨rfl, hst1.nil⟩
theorem isn_any (e d t : Int) (w : World) : Calls Tryz.prog 145 #[.iface 154 (.agg #[.int .i64 e, .int .i64 d]), .iface 37 (.int .i64 t), .bool true] w fun x w' => x = .returned (.bool (e == t)) ∧ St w [] w' [] := by
 have hst0 := St.refl w; have h8 := @run_callFunc_extern Tryz.prog 144 _ Extern.ReflectliteType.typeOf Tryz.func144 (by kernel_rfl) (by kernel_rfl) (by kernel_rfl) (by kernel_rfl); have h32 := @run_callFunc_extern Tryz.prog 192 _ rlComparable Tryz.func192 (by kernel_rfl) (by kernel_rfl) (by kernel_rfl) (by kernel_rfl); have tT := isTypeOf; have cT := isComparable; have mR := ybC; have mU := methodUnwrap; have n1 := noIsR; have n2 := noIsE; have n3 := hasUnwrapR; have n4 := noUnwrapE; have n5 := noUnwrapsE; have heq := fun w => Go.Lib.run_eql_iface_int (P := Tryz.prog) (k := .i64) w e t Tryz.underlying103 (tx := 37) (by kernel_rfl) Tryz.underlying37; have hty := fun w => run_eql_iface_types (P := Tryz.prog) 154 37 (.agg #[.int .i64 e, .int .i64 d]) (.int .i64 t) Tryz.underlying103 (by decide) w; obtain ⟨q, hq⟩ : ∃ q, q = (e == t) := ⟨_, rfl⟩; rw [← hq] at heq ⊢; have HQ := ya hq; clear hq; go_enter Tryz.func145, Tryz.ntmps145; go_wp2_with (first | go_big_skip | go_big_guard); refine wp_loop_rounds 2 ?_; rw [rounds_succ]; go_wp2_with (first | (go_at_call 188; refine jc hst0 (unwrap_any e d _) fun w9 hst => ?_; clear hst0)); rw [rounds_succ]; go_wp2_with (first | go_big_skip | go_big_guard); all_goals go_ret
 all_goals (clear heq HQ; cases q)
 all_goals first | contradiction | exact ⟨rfl, hst⟩
theorem jw (e d t : Int) (w : World) : Calls Tryz.prog 100 #[.iface 154 (.agg #[.int .i64 e, .int .i64 d]), .iface 37 (.int .i64 t)] w fun x w' => x = .returned (.bool (e == t)) ∧ St w [] w' [] := by
 have hst0 := St.refl w; have h8 := @run_callFunc_extern Tryz.prog 144 _ Extern.ReflectliteType.typeOf Tryz.func144 (by kernel_rfl) (by kernel_rfl) (by kernel_rfl) (by kernel_rfl); have h32 := @run_callFunc_extern Tryz.prog 192 _ rlComparable Tryz.func192 (by kernel_rfl) (by kernel_rfl) (by kernel_rfl) (by kernel_rfl); have tT := isTypeOf; have cT := isComparable; have mR := ybC; go_enter Tryz.func100, Tryz.ntmps100; go_wp2_with (first | (go_at_call 145; refine jc hst0 (isn_any e d t _) fun w9 hst => ?_; clear hst0)); go_ret; exact ⟨rfl, hst⟩
end
section
open Go.RowKit Hp
attribute [local irreducible] Go.Calls Go.wpList
theorem nix0 (w : World) : (Instr.index 155 (.agg #[.int .i64 1, .int .i64 10, .int .i64 5, .int .i64 2, .int .i64 14, .int .i64 13]) (.int .i64 0)).run Tryz.prog w = .ok (.int .i64 1) w := by kernel_rfl
theorem nix1 (w : World) : (Instr.index 155 (.agg #[.int .i64 1, .int .i64 10, .int .i64 5, .int .i64 2, .int .i64 14, .int .i64 13]) (.int .i64 1)).run Tryz.prog w = .ok (.int .i64 10) w := by kernel_rfl
theorem nix2 (w : World) : (Instr.index 155 (.agg #[.int .i64 1, .int .i64 10, .int .i64 5, .int .i64 2, .int .i64 14, .int .i64 13]) (.int .i64 2)).run Tryz.prog w = .ok (.int .i64 5) w := by kernel_rfl
theorem nix3 (w : World) : (Instr.index 155 (.agg #[.int .i64 1, .int .i64 10, .int .i64 5, .int .i64 2, .int .i64 14, .int .i64 13]) (.int .i64 3)).run Tryz.prog w = .ok (.int .i64 2) w := by kernel_rfl
theorem nix4 (w : World) : (Instr.index 155 (.agg #[.int .i64 1, .int .i64 10, .int .i64 5, .int .i64 2, .int .i64 14, .int .i64 13]) (.int .i64 4)).run Tryz.prog w = .ok (.int .i64 14) w := by kernel_rfl
theorem nix5 (w : World) : (Instr.index 155 (.agg #[.int .i64 1, .int .i64 10, .int .i64 5, .int .i64 2, .int .i64 14, .int .i64 13]) (.int .i64 5)).run Tryz.prog w = .ok (.int .i64 13) w := by kernel_rfl
theorem number_1 (d : Int) (w : World) : Calls Tryz.prog 47 #[.iface 154 (.agg #[.int .i64 1, .int .i64 d])] w fun x w' => x = .returned (.int .i64 1) ∧ St w [] w' [] := by
 have hst0 := St.refl w; go_enter Tryz.func47, Tryz.ntmps47; have i0 := nix0; go_wp2_with (first | (refine yH (cs := [.int .i64 1, .int .i64 10, .int .i64 5, .int .i64 2, .int .i64 14, .int .i64 13]) [(0, _), (1, _), (2, _), (3, _), (4, _), (5, _)] rfl rfl (by exact rfl) (by kernel_rfl) ?_)); refine wp_loop_rounds 1 ?_; rw [rounds_succ]; go_wp2_with (first | (go_at_call 100; refine jc hst0 (jw 1 d _ _) fun w1 hst1 => ?_; clear hst0)); go_ret; exact ⟨rfl, hst1⟩
theorem number_10 (d : Int) (w : World) : Calls Tryz.prog 47 #[.iface 154 (.agg #[.int .i64 10, .int .i64 d])] w fun x w' => x = .returned (.int .i64 10) ∧ St w [] w' [] := by
 have hst0 := St.refl w; go_enter Tryz.func47, Tryz.ntmps47; have i0 := nix0; have i1 := nix1; go_wp2_with (first | (refine yH (cs := [.int .i64 1, .int .i64 10, .int .i64 5, .int .i64 2, .int .i64 14, .int .i64 13]) [(0, _), (1, _), (2, _), (3, _), (4, _), (5, _)] rfl rfl (by exact rfl) (by kernel_rfl) ?_)); refine wp_loop_rounds 2 ?_; rw [rounds_succ]; go_wp2_with (first | (go_at_call 100; refine jc hst0 (jw 10 d _ _) fun w1 hst1 => ?_; clear hst0)); rw [rounds_succ]; go_wp2_with (first | (go_at_call 100; refine jc hst1 (jw 10 d _ _) fun w2 hst2 => ?_; clear hst1)); go_ret; exact ⟨rfl, hst2⟩
theorem number_5 (d : Int) (w : World) : Calls Tryz.prog 47 #[.iface 154 (.agg #[.int .i64 5, .int .i64 d])] w fun x w' => x = .returned (.int .i64 5) ∧ St w [] w' [] := by
 have hst0 := St.refl w; go_enter Tryz.func47, Tryz.ntmps47; have i0 := nix0; have i1 := nix1; have i2 := nix2; go_wp2_with (first | (refine yH (cs := [.int .i64 1, .int .i64 10, .int .i64 5, .int .i64 2, .int .i64 14, .int .i64 13]) [(0, _), (1, _), (2, _), (3, _), (4, _), (5, _)] rfl rfl (by exact rfl) (by kernel_rfl) ?_)); refine wp_loop_rounds 3 ?_; rw [rounds_succ]; go_wp2_with (first | (go_at_call 100; refine jc hst0 (jw 5 d _ _) fun w1 hst1 => ?_; clear hst0)); rw [rounds_succ]; go_wp2_with (first | (go_at_call 100; refine jc hst1 (jw 5 d _ _) fun w2 hst2 => ?_; clear hst1)); rw [rounds_succ]; go_wp2_with (first | (go_at_call 100; refine jc hst2 (jw 5 d _ _) fun w3 hst3 => ?_; clear hst2)); go_ret; exact ⟨rfl, hst3⟩
theorem number_2 (d : Int) (w : World) : Calls Tryz.prog 47 #[.iface 154 (.agg #[.int .i64 2, .int .i64 d])] w fun x w' => x = .returned (.int .i64 2) ∧ St w [] w' [] := by
 have hst0 := St.refl w; go_enter Tryz.func47, Tryz.ntmps47; have i0 := nix0; have i1 := nix1; have i2 := nix2; have i3 := nix3; go_wp2_with (first | (refine yH (cs := [.int .i64 1, .int .i64 10, .int .i64 5, .int .i64 2, .int .i64 14, .int .i64 13]) [(0, _), (1, _), (2, _), (3, _), (4, _), (5, _)] rfl rfl (by exact rfl) (by kernel_rfl) ?_)); refine wp_loop_rounds 4 ?_; rw [rounds_succ]; go_wp2_with (first | (go_at_call 100; refine jc hst0 (jw 2 d _ _) fun w1 hst1 => ?_; clear hst0)); rw [rounds_succ]; go_wp2_with (first | (go_at_call 100; refine jc hst1 (jw 2 d _ _) fun w2 hst2 => ?_; clear hst1)); rw [rounds_succ]; go_wp2_with (first | (go_at_call 100; refine jc hst2 (jw 2 d _ _) fun w3 hst3 => ?_; clear hst2)); rw [rounds_succ]; go_wp2_with (first | (go_at_call 100; refine jc hst3 (jw 2 d _ _) fun w4 hst4 => ?_; clear hst3)); go_ret; exact ⟨rfl, hst4⟩
theorem number_14 (d : Int) (w : World) : Calls Tryz.prog 47 #[.iface 154 (.agg #[.int .i64 14, .int .i64 d])] w fun x w' => x = .returned (.int .i64 14) ∧ St w [] w' [] := by
 have hst0 := St.refl w; go_enter Tryz.func47, Tryz.ntmps47; have i0 := nix0; have i1 := nix1; have i2 := nix2; have i3 := nix3; have i4 := nix4; go_wp2_with (first | (refine yH (cs := [.int .i64 1, .int .i64 10, .int .i64 5, .int .i64 2, .int .i64 14, .int .i64 13]) [(0, _), (1, _), (2, _), (3, _), (4, _), (5, _)] rfl rfl (by exact rfl) (by kernel_rfl) ?_)); refine wp_loop_rounds 5 ?_; rw [rounds_succ]; go_wp2_with (first | (go_at_call 100; refine jc hst0 (jw 14 d _ _) fun w1 hst1 => ?_; clear hst0)); rw [rounds_succ]; go_wp2_with (first | (go_at_call 100; refine jc hst1 (jw 14 d _ _) fun w2 hst2 => ?_; clear hst1)); rw [rounds_succ]; go_wp2_with (first | (go_at_call 100; refine jc hst2 (jw 14 d _ _) fun w3 hst3 => ?_; clear hst2)); rw [rounds_succ]; go_wp2_with (first | (go_at_call 100; refine jc hst3 (jw 14 d _ _) fun w4 hst4 => ?_; clear hst3)); rw [rounds_succ]; go_wp2_with (first | (go_at_call 100; refine jc hst4 (jw 14 d _ _) fun w5 hst5 => ?_; clear hst4)); go_ret; exact ⟨rfl, hst5⟩
theorem number_13 (d : Int) (w : World) : Calls Tryz.prog 47 #[.iface 154 (.agg #[.int .i64 13, .int .i64 d])] w fun x w' => x = .returned (.int .i64 13) ∧ St w [] w' [] := by
 have hst0 := St.refl w; go_enter Tryz.func47, Tryz.ntmps47; have i0 := nix0; have i1 := nix1; have i2 := nix2; have i3 := nix3; have i4 := nix4; have i5 := nix5; go_wp2_with (first | (refine yH (cs := [.int .i64 1, .int .i64 10, .int .i64 5, .int .i64 2, .int .i64 14, .int .i64 13]) [(0, _), (1, _), (2, _), (3, _), (4, _), (5, _)] rfl rfl (by exact rfl) (by kernel_rfl) ?_)); refine wp_loop_rounds 6 ?_; rw [rounds_succ]; go_wp2_with (first | (go_at_call 100; refine jc hst0 (jw 13 d _ _) fun w1 hst1 => ?_; clear hst0)); rw [rounds_succ]; go_wp2_with (first | (go_at_call 100; refine jc hst1 (jw 13 d _ _) fun w2 hst2 => ?_; clear hst1)); rw [rounds_succ]; go_wp2_with (first | (go_at_call 100; refine jc hst2 (jw 13 d _ _) fun w3 hst3 => ?_; clear hst2)); rw [rounds_succ]; go_wp2_with (first | (go_at_call 100; refine jc hst3 (jw 13 d _ _) fun w4 hst4 => ?_; clear hst3)); rw [rounds_succ]; go_wp2_with (first | (go_at_call 100; refine jc hst4 (jw 13 d _ _) fun w5 hst5 => ?_; clear hst4)); rw [rounds_succ]; go_wp2_with (first | (go_at_call 100; refine jc hst5 (jw 13 d _ _) fun w6 hst6 => ?_; clear hst5)); go_ret; exact ⟨rfl, hst6⟩
theorem number_any (e d : Int) (he : e = 1 ∨ e = 10 ∨ e = 5 ∨ e = 2 ∨ e = 14 ∨ e = 13) (w : World) : Calls Tryz.prog 47 #[errV d e] w fun x w' => x = .returned (.int .i64 e) ∧ St w [] w' [] := by
 rcases he with rfl | rfl | rfl | rfl | rfl | rfl
 ·exact number_1 d w
 ·exact number_10 d w
 ·exact number_5 d w
 ·exact number_2 d w
 ·exact number_14 d w
 ·exact number_13 d w
theorem qK {l : List Int} (h : ∀ i < l.length, l.getD i 0 = 0) : yt l = 0 := by
 unfold yt; rw [List.find?_eq_none.2]
 ·rfl
 ·intro x hx; obtain ⟨i, hi, rfl⟩ := List.getElem_of_mem hx; have := h i hi; simp [List.getD, hi] at this; simp [this]
theorem firstE_at {l : List Int} {j : Nat} {e : Int} (h : ∀ i < j, l.getD i 0 = 0) (hj : l[j]? = some e) (he : e ≠ 0) : yt l = e := by
 induction l generalizing j with
 | nil => simp at hj
 | cons x l ih =>
  cases j with
  | zero =>
   simp at hj; subst hj; simp [yt, he]
  | succ j =>
   have hx : x = 0 := by simpa using h 0 (by omega)
   have := ih (j := j) (fun i hi => by have := h (i + 1) (by omega); simpa using this) (by simpa using hj); subst hx; simpa [yt] using this
def jq (f : Value) (e : Int) (A B : World → Prop) : Prop := ∃ fn first cap, f = .func (.func fn) (List.toArray first) (List.toArray cap) ∧ (∀ (a : Array Value) (w : World), (callFunc fn a).run Tryz.prog w = .ok (.enter fn a) w) ∧
 ∀ w, A w → Calls Tryz.prog fn (List.toArray (first ++ cap)) w fun x w' => x = .returned (.int .i64 e) ∧ B w'
theorem yak (dev : Int) {v : Value} {n : Nat} {fs : List Value} {f9 : Value} {es : List Int} {e9 : Int} {A B : World → Prop} (w : World)
  (hr : ∀ w, A w → Rd w v 1 n (fs ++ [f9])) (hl : fs.length = es.length) (hn : n = fs.length + 1) (hb : n ≤ 1000)
  (hp : ∀ j f e, fs[j]? = some f → es[j]? = some e → (∀ i < j, es.getD i 0 = 0) → jq f e A A)
  (h9 : (∀ i < es.length, es.getD i 0 = 0) → jq f9 e9 A B) (h0 : A w) :
  Calls Tryz.prog 45 #[.int .i64 dev, v] w fun x w' => (yt es ≠ 0 ∧ x = .returned (errV dev (yt es)) ∧ A w') ∨ (yt es = 0 ∧ x = .returned (errV dev e9) ∧ B w') := by
 obtain ⟨ao, c, rfl⟩ : ∃ ao c, v = .slice ao n c := by
  rcases (hr w h0).casesF with ⟨rfl, h, _⟩ | ⟨a, c, rfl, _⟩
  ·exact ⟨none, 0, by rw [h]⟩
  ·exact ⟨some a, c, rfl⟩
 obtain ⟨R, hR⟩ : ∃ R : Ending → World → Prop, R = fun x w' => (yt es ≠ 0 ∧ x = .returned (errV dev (yt es)) ∧ A w') ∨ (yt es = 0 ∧ x = .returned (errV dev e9) ∧ B w') := ⟨_, rfl⟩; have HR := ya hR; rw [← hR]; have HRD := ya hr; have HL := ya hl; have HN := ya hn; have HP := ya hp; have H9 := ya h9; have H0 := ya h0; clear hr hl hn hp h9 h0 hR; go_enter Tryz.func45, Tryz.ntmps45; go_wp2; go_loopw [10] (fun i wr => ∃ j : Nat, j ≤ n ∧ i = .int .i64 (j : Int) ∧ Hid ((j < n ∧ A wr) ∨ (j = n ∧ B wr ∧ e9 = 0)) ∧ Hid (∀ i, i < j → i < es.length → es.getD i 0 = 0)) (fun i _ => n - (intOf i).toNat)
 case atStart => exact ⟨0, Nat.zero_le _, rfl, ya (.inl ⟨by have := HN.out; omega, H0.out⟩), ya (fun i hi => by omega)⟩
 case round =>
  clear H0; obtain ⟨j, hj, rfl, HX, HZ⟩ := hrel; by_cases hlt : j < n
  ·have d1 : decide ((j : Int) < (n : Int)) = true := zD (by omega); have z1 : IntKind.i64.wrap ((j : Int) + 1) = (j : Int) + 1 := IntWalk.i64_in _ (by omega); have hA : A wr := by
    rcases HX.out with h | h
    ·exact h.2
    ·exact absurd h.1 (by omega)
   have HA := ya hA; have HRw := ya (HRD.out _ hA); clear HX hA; obtain ⟨b, off, rfl, hr⟩ := Rd.at HRw.out hlt; by_cases hlast : j < fs.length
   ·obtain ⟨f, hf⟩ : ∃ f, fs[j]? = some f := ⟨_, List.getElem?_eq_getElem hlast⟩; obtain ⟨e, he⟩ : ∃ e, es[j]? = some e := ⟨_, List.getElem?_eq_getElem (by rw [← HL]; exact hlast)⟩; obtain ⟨fn, first, cap, rfl, hfn, hC⟩ := HP.out j f e hf he (fun i hi => HZ.out i hi (by have := HL.out; omega))
    have hcell := ya (show wr.cell? ⟨b, off + j, none⟩ = some (.func (.func fn) (List.toArray first) (List.toArray cap)) from hr j _ (by rw [List.getElem?_append_left hlast]; exact hf)); have HC := ya hC; have HE := ya he; have hjn := ya (show j + 1 < n by have := HN.out; omega); clear hf he hC hr; by_cases h0 : e = 0
    ·subst h0; go_wp2_with (first | (refine yA hlt ?_) | (refine jl (Loads.cell (T := 92) TyS.out (by rw [Nat.mul_one]; exact hcell.out)) ?_) | (refine yH (cs := [.int .i64 0, .int .i64 dev]) [(0, _), (1, _)] rfl rfl (by exact rfl) (by kernel_rfl) ?_) | (refine (HC.out _ HA.out).mono ?_; rintro _ w10 ⟨rfl, h4⟩; have HB := ya h4; clear h4)); go_roundw
     case rel =>
      refine ⟨j + 1, by have := hjn.out; omega, rfl, ya (.inl ⟨hjn.out, HB.out⟩), ya (fun i hi hi2 => ?_)⟩; by_cases hij : i < j
      ·exact HZ.out i hij hi2
      ·have : i = j := by omega
       subst this; simp [List.getD, HE.out]
     case measure => simp [intOf]; omega
    ·have d3 : (e != 0) = true := by simpa using h0
     have H0 := ya h0; clear h0; go_wp2_with (first | (refine yA hlt ?_) | (refine jl (Loads.cell (T := 92) TyS.out (by rw [Nat.mul_one]; exact hcell.out)) ?_) | (refine yH (cs := [.int .i64 e, .int .i64 dev]) [(0, _), (1, _)] rfl rfl (by exact rfl) (by kernel_rfl) ?_) | (refine (HC.out _ HA.out).mono ?_; rintro _ w10 ⟨rfl, h4⟩; have HB := ya h4; clear h4)); have e1 : yt es = e := firstE_at (fun i hi => HZ.out i hi (by have := (List.getElem?_eq_some_iff.1 HE.out).1; omega)) HE.out H0.out
     rw [HR]; exact .inl ⟨by rw [e1]; exact H0.out, (by rw [e1]; unfold errV; rw [if_neg H0.out]; rfl), HB.out⟩
   ·have hjl : j = fs.length := by have := HN.out; omega
    have hz : ∀ i < es.length, es.getD i 0 = 0 := fun i hi => HZ.out i (by rw [hjl, HL]; exact hi) hi; obtain ⟨fn, first, cap, hf9, hfn, hC⟩ := H9.out hz
    subst hf9; have hcell := ya (show wr.cell? ⟨b, off + j, none⟩ = some (.func (.func fn) (List.toArray first) (List.toArray cap)) from hr j _ (by rw [hjl, List.getElem?_append_right (Nat.le_refl _), Nat.sub_self]; rfl)); have HC := ya hC; have HE := ya (qK hz); have hjn := ya (show j + 1 = n by have := HN.out; omega); clear hC hr hz hjl hlast; by_cases h0 : e9 = 0
    ·subst h0; go_wp2_with (first | (refine yA hlt ?_) | (refine jl (Loads.cell (T := 92) TyS.out (by rw [Nat.mul_one]; exact hcell.out)) ?_) | (refine yH (cs := [.int .i64 0, .int .i64 dev]) [(0, _), (1, _)] rfl rfl (by exact rfl) (by kernel_rfl) ?_) | (refine (HC.out _ HA.out).mono ?_; rintro _ w10 ⟨rfl, h4⟩; have HB := ya h4; clear h4)); go_roundw
     case rel => exact ⟨j + 1, by have := hjn.out; omega, rfl, ya (.inr ⟨hjn.out, HB.out, by trivial⟩), ya (fun i hi hi2 => HZ.out i (by have := hjn.out; have := HN.out; have := HL.out; omega) hi2)⟩
     case measure => simp [intOf]; omega
    ·have d3 : (e9 != 0) = true := by simpa using h0
     have H0 := ya h0; clear h0; go_wp2_with (first | (refine yA hlt ?_) | (refine jl (Loads.cell (T := 92) TyS.out (by rw [Nat.mul_one]; exact hcell.out)) ?_) | (refine yH (cs := [.int .i64 e9, .int .i64 dev]) [(0, _), (1, _)] rfl rfl (by exact rfl) (by kernel_rfl) ?_) | (refine (HC.out _ HA.out).mono ?_; rintro _ w10 ⟨rfl, h4⟩; have HB := ya h4; clear h4)); rw [HR]; exact .inr ⟨HE.out, (by unfold errV; rw [if_neg H0.out]; rfl), HB.out⟩
  ·have d1 : decide ((j : Int) < (n : Int)) = false := zF (by omega); have hB : B wr ∧ e9 = 0 := by
    rcases HX.out with h | h
    ·exact absurd h.1 hlt
    ·exact h.2
   have HB := ya hB; have hjn := ya (show j = n by omega); clear hB HX; go_wp2; rw [HR]; exact .inr ⟨qK (fun i hi => HZ.out i (by have := hjn.out; have := HN.out; have := HL.out; omega) hi), (by rw [HB.2]; rfl), HB.1⟩
theorem z6 (dev : Int) {w0 w : World} {M : List Nat} {X : List HA} {gs n : Nat} {fs : List Value} {f9 : Value} {es : List Int} {e9 : Int} {L Y : List HA} (h0 : St w0 M w ((.blk gs 92 (fs ++ [f9]) :: L) ++ X)) (hl : fs.length = es.length) (hn : n = fs.length + 1) (hb : n ≤ 1000)
  (hp : ∀ j f e, fs[j]? = some f → es[j]? = some e → (∀ i < j, es.getD i 0 = 0) → jq f e (fun w' => St w0 M w' ((.blk gs 92 (fs ++ [f9]) :: L) ++ X)) (fun w' => St w0 M w' ((.blk gs 92 (fs ++ [f9]) :: L) ++ X)))
  (h9 : (∀ i < es.length, es.getD i 0 = 0) → jq f9 e9 (fun w' => St w0 M w' ((.blk gs 92 (fs ++ [f9]) :: L) ++ X)) (fun w' => St w0 M w' ((.blk gs 92 (fs ++ [f9]) :: L) ++ Y))) :
  Calls Tryz.prog 45 #[.int .i64 dev, .slice (some ⟨gs, 0, none⟩) n n] w fun x w' => (yt es ≠ 0 ∧ x = .returned (errV dev (yt es)) ∧ St w0 M w' ((.blk gs 92 (fs ++ [f9]) :: L) ++ X)) ∨ (yt es = 0 ∧ x = .returned (errV dev e9) ∧ St w0 M w' ((.blk gs 92 (fs ++ [f9]) :: L) ++ Y)) :=
 yak dev (v := .slice (some ⟨gs, 0, none⟩) n n) (n := n) (fs := fs) (f9 := f9) (es := es) (e9 := e9) (A := (fun w' => St w0 M w' ((.blk gs 92 (fs ++ [f9]) :: L) ++ X))) (B := (fun w' => St w0 M w' ((.blk gs 92 (fs ++ [f9]) :: L) ++ Y))) w (fun _ h => Rd.blk h zH (Nat.le_refl _) (by unfold maxLen; omega) (by rw [List.length_append, Nat.mul_one]; exact hn.symm) (by rw [List.drop_zero, List.take_length])) hl hn hb hp h9 h0
def jH (b : Bool) (n : Int) : Int := if b then n else 0
def DV.nx (d : DV) : Int := jH d.lo 1 + jH d.st 2
def DV.cells (d : DV) : List Value := [.slice (some ⟨d.g, 0, none⟩) d.firm.length d.firm.length, .bool d.gone, .int .u8 d.nx, .int .i64 d.to, .int .i64 d.fail]
def LW.cells (w : LW) : List Value := .int .i64 w.dev :: .int .i64 w.pl :: yb w.b
def yR (l : List (List UInt8)) : List Value := l.flatMap yb
structure GA where
 gd : Nat
 cd : Nat
 rest : List Value
 lv : Value
def js (x : GA) (a : AR) : List Value := [.slice (some ⟨x.gd, 0, none⟩) a.devs.length x.cd, x.lv, .int .i64 a.fuse, .bool a.out, .int .i64 a.steps]
def yI (a : AR) : List Value := a.devs.flatMap DV.cells
def qt (a : AR) : List Value := a.loose.flatMap LW.cells
def yj (ga : Nat) (x : GA) (a : AR) : List HA := .blk ga 109 (js x a) :: .blk x.gd 89 (yI a ++ x.rest) :: .row x.lv 149 258 a.loose.length (qt a) :: a.devs.map (fun d => .blk d.g 144 (yR d.firm))
structure ArrAt (w : World) (ga : Nat) (x : GA) (a : AR) : Prop where
 hdr : w.rangeAt ga 0 (js x a)
 dev : w.rangeAt x.gd 0 (yI a)
 n0 : a.devs ≠ []
theorem ArrAt.of {w0 w : World} {M : List Nat} {L : List HA} {ga : Nat} {x : GA} {a : AR} (h : St w0 M w L) (hm : ∀ p ∈ yj ga x a, p ∈ L) (hn : a.devs ≠ []) : ArrAt w ga x a := by
 refine ⟨?_, ?_, hn⟩
 ·have := h.range (off := 0) (hm (.blk ga 109 (js x a)) (by simp [yj])); rwa [List.drop_zero] at this
 ·have := h.range (off := 0) (hm (.blk x.gd 89 (yI a ++ x.rest)) (by simp [yj])); rw [List.drop_zero] at this; have h2 := rangeAt_take (n := (yI a).length) this; rwa [List.take_left] at h2
section
variable {w : World} {ga : Nat} {x : GA} {a : AR} (h : ArrAt w ga x a)
include h
theorem ArrAt.c0 : w.cell? ⟨ga, 0, none⟩ = some (.slice (some ⟨x.gd, 0, none⟩) a.devs.length x.cd) := h.hdr 0 _ rfl
theorem ArrAt.c1 : w.cell? ⟨ga, 1, none⟩ = some x.lv := h.hdr 1 _ rfl
theorem ArrAt.c2 : w.cell? ⟨ga, 2, none⟩ = some (.int .i64 a.fuse) := h.hdr 2 _ rfl
theorem ArrAt.c3 : w.cell? ⟨ga, 3, none⟩ = some (.bool a.out) := h.hdr 3 _ rfl
theorem ArrAt.c4 : w.cell? ⟨ga, 4, none⟩ = some (.int .i64 a.steps) := h.hdr 4 _ rfl
end
theorem ArrAt.later {w0 w : World} {L : List HA} {ga : Nat} {x : GA} {a : AR} (hst : St w0 [] w L) (h : ArrAt w0 ga x a) : ArrAt w ga x a :=
 ⟨fun j v hj => hst.old_cell (h.hdr j v hj) (by simp), fun j v hj => hst.old_cell (h.dev j v hj) (by simp), h.n0⟩
theorem zI {a : AR} {dev : Int} (h : a.inD dev = true) : a.devs[dev.toNat]? = some (a.dv dev) := by
 unfold AR.inD at h; simp only [Bool.and_eq_true, decide_eq_true_eq] at h; unfold AR.dv; rw [List.getD_eq_getElem?_getD, List.getElem?_eq_getElem (by omega)]; rfl
theorem yaf {α : Type} {f : α → List Value} {sz : Nat} {l : List α} {k : Nat} {d : α} (hf : ∀ d, (f d).length = sz) (h : l[k]? = some d) (i : Nat) (hi : i < sz) : (l.flatMap f)[k * sz + i]? = (f d)[i]? := by
 induction l generalizing k with
 | nil => simp at h
 | cons q l ih =>
  rw [List.flatMap_cons]; cases k with
  | zero =>
   simp at h; subst h; rw [List.getElem?_append_left (by rw [hf]; omega)]
   congr 1; omega
  | succ k =>
   rw [List.getElem?_append_right (by rw [hf, Nat.add_mul]; omega), hf, show (k + 1) * sz + i - sz = k * sz + i by rw [Nat.add_mul]; omega]; exact ih (by simpa using h)
theorem ArrAt.dcell {w : World} {ga : Nat} {x : GA} {a : AR} (h : ArrAt w ga x a) {k : Nat} {d : DV} (hd : a.devs[k]? = some d) {i : Nat} {v : Value} (hv : d.cells[i]? = some v) (hi : i < 5) : w.cell? ⟨x.gd, k * 5 + i, none⟩ = some v := by
 have := h.dev (k * 5 + i) v (by rw [yI, yaf (sz := 5) (fun d => rfl) hd i hi]; exact hv); rwa [Nat.zero_add] at this
theorem jz (b : Bool) (e : Int) (w : World) : Calls Tryz.prog 85 #[.bool b, .int .i64 e] w fun x w' => x = .returned (.int .i64 (y8 b e)) ∧ St w [] w' [] := by
 have hst := St.refl w; cases b
 ·go_enter Tryz.func85, Tryz.ntmps85; go_wp2; go_ret; exact ⟨rfl, hst⟩
 ·go_enter Tryz.func85, Tryz.ntmps85; go_wp2; go_ret; exact ⟨rfl, hst⟩
theorem yaD {w : World} {ga : Nat} {x : GA} {a : AR} (h : ArrAt w ga x a) : Calls Tryz.prog 51 #[.pointer (some ⟨ga, 0, none⟩)] w fun e w' => e = .returned (.bool false) ∧ St w [] w' [] := by
 have hst := St.refl w; have h0 := ya h.c0; have dn : ((a.devs.length : Int) == 0) = false := by
  have := h.n0; cases hd : a.devs with
  | nil => exact absurd hd this
  | cons d l => simp; omega
 clear h; go_enter Tryz.func51, Tryz.ntmps51; go_wp2_with (first | (refine jl (Loads.old hst h0.out) ?_)); go_ret; exact ⟨rfl, hst⟩
theorem made_any {w : World} {ga : Nat} {x : GA} {a : AR} (h : ArrAt w ga x a) : Calls Tryz.prog 46 #[.pointer (some ⟨ga, 0, none⟩)] w fun e w' => e = .returned (.int .i64 0) ∧ St w [] w' [] := by
 have hst := St.refl w; have H := ya h; clear h; go_enter Tryz.func46, Tryz.ntmps46; go_wp2_with (first | (go_at_call 51; refine jc hst (yaD (ArrAt.later hst H.out)) fun w9 hst => ?_) | (go_at_call 85; refine jc hst (jz _ _ _) fun w9 hst => ?_)); go_ret; exact ⟨rfl, hst⟩
theorem runs_any {w : World} {ga : Nat} {x : GA} {a : AR} (h : ArrAt w ga x a) : Calls Tryz.prog 88 #[.pointer (some ⟨ga, 0, none⟩)] w fun e w' => e = .returned (.int .i64 (y8 (!a.out) 10)) ∧ St w [] w' [] := by
 have hst := St.refl w; have h3 := ya h.c3; clear h; go_enter Tryz.func88, Tryz.ntmps88; go_wp2_with (first | (refine jl (Loads.old hst h3.out) ?_) | (go_at_call 85; refine jc hst (jz _ _ _) fun w9 hst => ?_)); go_ret; exact ⟨rfl, hst⟩
theorem yag {w : World} {ga : Nat} {x : GA} {a : AR} (h : ArrAt w ga x a) : Calls Tryz.prog 67 #[.pointer (some ⟨ga, 0, none⟩)] w fun e w' => e = .returned (.int .i64 a.devs.length) ∧ St w [] w' [] := by
 have hst := St.refl w; have H := ya h; have h0 := ya h.c0; clear h; go_enter Tryz.func67, Tryz.ntmps67; go_wp2_with (first | (go_at_call 51; refine jc hst (yaD (ArrAt.later hst H.out)) fun w9 hst => ?_) | (refine jl (Loads.old hst h0.out) ?_)); go_ret; exact ⟨rfl, hst⟩
theorem yaQ {w : World} {ga : Nat} {x : GA} {a : AR} (h : ArrAt w ga x a) (dev : Int) : Calls Tryz.prog 94 #[.pointer (some ⟨ga, 0, none⟩), .int .i64 dev] w fun e w' => e = .returned (.bool (a.inD dev)) ∧ St w [] w' [] := by
 have hst := St.refl w; have h0 := ya h.c0; clear h; unfold AR.inD; obtain ⟨nd, hnd⟩ : ∃ nd, nd = a.devs.length := ⟨_, rfl⟩; rw [← hnd] at h0 ⊢; clear hnd; by_cases k1 : 0 ≤ dev
 ·have d1 : decide (dev ≥ 0) = true := zD k1; have d2 : decide (0 ≤ dev) = true := d1; obtain ⟨q, hq⟩ : ∃ q, q = decide (dev < (nd : Int)) := ⟨_, rfl⟩; have d3 : decide (dev < (nd : Int)) = q := hq.symm; rw [d2, d3, Bool.true_and]; clear k1 hq; go_enter Tryz.func94, Tryz.ntmps94; go_wp2_with (first | (refine jl (Loads.old hst h0.out) ?_)); go_ret; exact ⟨rfl, hst⟩
 ·have d1 : decide (dev ≥ 0) = false := zF k1; have d2 : decide (0 ≤ dev) = false := d1; rw [d2, Bool.false_and]; clear k1; go_enter Tryz.func94, Tryz.ntmps94; go_wp2_with (first | (refine jl (Loads.old hst h0.out) ?_)); go_ret; exact ⟨rfl, hst⟩
theorem yaU {w : World} {ga : Nat} {x : GA} {a : AR} (h : ArrAt w ga x a) : Calls Tryz.prog 48 #[.pointer (some ⟨ga, 0, none⟩)] w fun e w' => e = .returned (.int .i64 a.secs) ∧ St w [] w' [] := by
 have hst := St.refl w; have H := ya h; have h0 := ya h.c0; obtain ⟨d, l, hd⟩ : ∃ d l, a.devs = d :: l := by
  cases hd : a.devs with
  | nil => exact absurd hd h.n0
  | cons d l => exact ⟨d, l, rfl⟩
 have h1 := ya (show w.cell? ⟨x.gd, 0, none⟩ = some (.slice (some ⟨d.g, 0, none⟩) a.secs a.secs) from by
  have hs : a.secs = d.firm.length := by unfold AR.secs; rw [hd]
  rw [hs]; exact h.dcell (k := 0) (by rw [hd]; rfl) (i := 0) rfl (by decide))
 have hlt : 0 < a.devs.length := by rw [hd]; exact Nat.succ_pos _
 clear h hd; go_enter Tryz.func48, Tryz.ntmps48; go_wp2_with (first | (go_at_call 51; refine jc hst (yaD (ArrAt.later hst H.out)) fun w9 hst => ?_) | (refine jl (Loads.old hst h0.out) ?_) | (refine jl (Loads.old hst h1.out) ?_) | (refine yA hlt ?_)); go_ret; exact ⟨rfl, hst⟩
theorem sector_any {w : World} {ga : Nat} {x : GA} {a : AR} (h : ArrAt w ga x a) (dev pl : Int) : Calls Tryz.prog 49 #[.pointer (some ⟨ga, 0, none⟩), .int .i64 dev, .int .i64 pl] w fun e w' => e = .returned (.bool (a.inS dev pl)) ∧ St w [] w' [] := by
 have hst := St.refl w; have H := ya h; clear h; unfold AR.inS; obtain ⟨q1, hq1⟩ : ∃ q, q = a.inD dev := ⟨_, rfl⟩; have H1 := ya hq1; rw [← hq1]; clear hq1; obtain ⟨ns, hns⟩ : ∃ ns, ns = a.secs := ⟨_, rfl⟩; have HS := ya hns; rw [← hns]; clear hns; cases q1
 ·rw [Bool.false_and, Bool.false_and]; go_enter Tryz.func49, Tryz.ntmps49; go_wp2_with (first | (go_at_call 94; have HD := yaQ (ArrAt.later hst H.out) dev; rw [← H1] at HD; refine jc hst HD fun w9 hst => ?_)); go_ret; exact ⟨rfl, hst⟩
 ·by_cases k1 : 0 ≤ pl
  ·have d1 : decide (pl ≥ 0) = true := zD k1; have d2 : decide (0 ≤ pl) = true := d1; obtain ⟨q, hq⟩ : ∃ q, q = decide (pl < (ns : Int)) := ⟨_, rfl⟩; have d3 : decide (pl < (ns : Int)) = q := hq.symm; rw [d2, d3, Bool.true_and, Bool.true_and]; clear k1 hq; go_enter Tryz.func49, Tryz.ntmps49; go_wp2_with (first | (go_at_call 94; have HD := yaQ (ArrAt.later hst H.out) dev; rw [← H1] at HD; refine jc hst HD fun w9 hst => ?_) | (go_at_call 48; have HD := yaU (ArrAt.later hst H.out); rw [← HS] at HD; refine jc hst HD fun w9 hst => ?_)); go_ret; exact ⟨rfl, hst⟩
  ·have d1 : decide (pl ≥ 0) = false := zF k1; have d2 : decide (0 ≤ pl) = false := d1; rw [d2, Bool.and_false, Bool.false_and]; clear k1; go_enter Tryz.func49, Tryz.ntmps49; go_wp2_with (first | (go_at_call 94; have HD := yaQ (ArrAt.later hst H.out) dev; rw [← H1] at HD; refine jc hst HD fun w9 hst => ?_)); go_ret; exact ⟨rfl, hst⟩
def yc (g : Nat) : Value := .pointer (some ⟨g, 0, none⟩)
def yh (fn : Nat) (cap : List Value) : Value := .func (.func fn) #[] cap.toArray
def yi (fn : Nat) (r : Value) : Value := .func (.func fn) #[r] #[]
theorem rmf (fn : Fn) (first cap : Array Value) (w : World) : (Instr.makeFunc fn first cap).run Tryz.prog w = .ok (.func fn first cap) w := rfl
theorem j1 (ga : Nat) (dev : Int) (w : World) : Calls Tryz.prog 40 #[.pointer (some ⟨ga, 0, none⟩), .int .i64 dev] w fun e w' => ∃ g0 g1, e = .returned (yh 93 [yc g0, yc g1]) ∧ St w [] w' [.blk g1 3 [.int .i64 dev], .blk g0 23 [.pointer (some ⟨ga, 0, none⟩)]] := by
 have hmf := rmf; have hst := St.refl w; go_enter Tryz.func40, Tryz.ntmps40; go_wp2_with (first | (refine zbo hst fun g0 w1 hst1 => ?_; clear hst) | (refine zbo hst1 fun g1 w2 hst2 => ?_; clear hst1)); go_ret; exact ⟨g0, g1, rfl, hst2⟩
theorem zW (ga : Nat) (dev : Int) (w : World) : Calls Tryz.prog 89 #[.pointer (some ⟨ga, 0, none⟩), .int .i64 dev] w fun e w' => ∃ g0 g1, e = .returned (yh 139 [yc g0, yc g1]) ∧ St w [] w' [.blk g1 3 [.int .i64 dev], .blk g0 23 [.pointer (some ⟨ga, 0, none⟩)]] := by
 have hmf := rmf; have hst := St.refl w; go_enter Tryz.func89, Tryz.ntmps89; go_wp2_with (first | (refine zbo hst fun g0 w1 hst1 => ?_; clear hst) | (refine zbo hst1 fun g1 w2 hst2 => ?_; clear hst1)); go_ret; exact ⟨g0, g1, rfl, hst2⟩
theorem jy (ga : Nat) (dev pl : Int) (w : World) : Calls Tryz.prog 87 #[.pointer (some ⟨ga, 0, none⟩), .int .i64 dev, .int .i64 pl] w fun e w' => ∃ g0 g1 g2, e = .returned (yh 138 [yc g0, yc g1, yc g2]) ∧ St w [] w' [.blk g2 3 [.int .i64 pl], .blk g1 3 [.int .i64 dev], .blk g0 23 [.pointer (some ⟨ga, 0, none⟩)]] := by
 have hmf := rmf; have hst := St.refl w; go_enter Tryz.func87, Tryz.ntmps87; go_wp2_with (first | (refine zbo hst fun g0 w1 hst1 => ?_; clear hst) | (refine zbo hst1 fun g1 w2 hst2 => ?_; clear hst1) | (refine zbo hst2 fun g2 w3 hst3 => ?_; clear hst2)); go_ret; exact ⟨g0, g1, g2, rfl, hst3⟩
theorem isDevice1_any {w : World} {ga : Nat} {x : GA} {a : AR} (h : ArrAt w ga x a) {g0 g1 : Nat} {dev : Int} (hb0 : w.cell? ⟨g0, 0, none⟩ = some (.pointer (some ⟨ga, 0, none⟩))) (hb1 : w.cell? ⟨g1, 0, none⟩ = some (.int .i64 dev)) : Calls Tryz.prog 93 #[yc g0, yc g1] w fun e w' => e = .returned (.int .i64 (y8 (a.inD dev) 5)) ∧ St w [] w' [] := by
 have hst := St.refl w; have H := ya h; have HB0 := ya hb0; have HB1 := ya hb1; clear h hb0 hb1; unfold yc; go_enter Tryz.func93, Tryz.ntmps93; go_wp2_with (first | (refine jl (Loads.old hst HB0.out) ?_) | (refine jl (Loads.old hst HB1.out) ?_) | (go_at_call 94; refine jc hst (yaQ (ArrAt.later hst H.out) dev) fun w9 hst => ?_) | (go_at_call 85; refine jc hst (jz _ _ _) fun w9 hst => ?_)); go_ret; exact ⟨rfl, hst⟩
theorem isSector1_any {w : World} {ga : Nat} {x : GA} {a : AR} (h : ArrAt w ga x a) {g0 g1 g2 : Nat} {dev pl : Int} (hb0 : w.cell? ⟨g0, 0, none⟩ = some (.pointer (some ⟨ga, 0, none⟩))) (hb1 : w.cell? ⟨g1, 0, none⟩ = some (.int .i64 dev)) (hb2 : w.cell? ⟨g2, 0, none⟩ = some (.int .i64 pl)) : Calls Tryz.prog 138 #[yc g0, yc g1, yc g2] w fun e w' => e = .returned (.int .i64 (y8 (a.inS dev pl) 5)) ∧ St w [] w' [] := by
 have hst := St.refl w; have H := ya h; have HB0 := ya hb0; have HB1 := ya hb1; have HB2 := ya hb2; clear h hb0 hb1 hb2; unfold yc; go_enter Tryz.func138, Tryz.ntmps138; go_wp2_with (first | (refine jl (Loads.old hst HB0.out) ?_) | (refine jl (Loads.old hst HB1.out) ?_) | (refine jl (Loads.old hst HB2.out) ?_) | (go_at_call 49; refine jc hst (sector_any (ArrAt.later hst H.out) dev pl) fun w9 hst => ?_) | (go_at_call 85; refine jc hst (jz _ _ _) fun w9 hst => ?_)); go_ret; exact ⟨rfl, hst⟩
section
theorem loadedPA (A : Addr) : loadVar 23 A = yn 23 A := rfl
theorem loadedSD (A : Addr) : loadVar 106 A = yn 106 A := rfl
theorem yaE (A : Addr) : loadVar 3 A = yn 3 A := rfl
theorem loadedBo (A : Addr) : loadVar 4 A = yn 4 A := rfl
attribute [local go_sem ↓] loadedPA loadedSD yaE loadedBo
theorem isHere1_any {w : World} {ga : Nat} {x : GA} {a : AR} (h : ArrAt w ga x a) {g0 g1 : Nat} {dev : Int} (hb0 : w.cell? ⟨g0, 0, none⟩ = some (.pointer (some ⟨ga, 0, none⟩))) (hb1 : w.cell? ⟨g1, 0, none⟩ = some (.int .i64 dev)) (hd : a.inD dev = true) : Calls Tryz.prog 139 #[yc g0, yc g1] w fun e w' => e = .returned (.int .i64 (y8 (!(a.dv dev).gone) 14)) ∧ St w [] w' [] := by
 have hst := St.refl w; have H0 := ya h.c0; have hdg := zI hd; have HG := ya (h.dcell hdg (i := 1) rfl (by decide)); have hlt : dev.toNat < a.devs.length := (List.getElem?_eq_some_iff.1 hdg).1; obtain ⟨k, hk⟩ : ∃ k : Nat, k = dev.toNat := ⟨_, rfl⟩; have hdev : dev = (k : Int) := by
  unfold AR.inD at hd; simp only [Bool.and_eq_true, decide_eq_true_eq] at hd; omega
 rw [← hk] at HG hlt; obtain ⟨a9, ha9⟩ : ∃ a9, a9 = (a.dv dev).gone := ⟨_, rfl⟩; rw [← ha9] at HG ⊢; rw [hdev] at hb1; have HB0 := ya hb0; have HB1 := ya hb1; clear h hb0 hb1 hd hdg hk hdev ha9; unfold yc; go_enter Tryz.func139, Tryz.ntmps139; go_wp2; have hX := hst.drew; clear hst; refine wD (S := fun w' => Ld 23 g0 0 (.pointer (some ⟨ga, 0, none⟩)) w' ∧ Ld 3 g1 0 (.int .i64 (k : Int)) w' ∧ Ld 106 ga 0 (.slice (some ⟨x.gd, 0, none⟩) a.devs.length x.cd) w' ∧ Ld 4 x.gd (k * 5 + 1) (.bool a9) w') ⟨ldO hX (HB0.out), ldO hX (HB1.out), ldO hX (H0.out), ldO hX (HG.out)⟩ fun hHeld => ?_; refine jt 0 (h:=jt 4 (h:=jt 1 (h:=jt 2 (h:=jt 3 (h:=jt 5 (h:=jt 6 (h:=jt 7 (h:=jt 8 (h:=?_))))))))); refine yF 9 (h0:=fun K hK => ?_); go_simp; go_at_call 85; refine jc hX (jz _ _ _) fun w9 hE => ?_; refine kD hK ⟨ldO hE (HB0.out), ldO hE (HB1.out), ldO hE (H0.out), ldO hE (HG.out)⟩ (h:=fun hHeld => ?_); refine jt 10 (h:=?_); refine jn ?_; clear hHeld; go_wp2; go_ret; exact ⟨rfl, hE⟩
end
theorem jQ {fn : Nat} {cap : List Value} {e : Int} {A B : World → Prop} (hfn : ∀ (a : Array Value) (w : World), (callFunc fn a).run Tryz.prog w = .ok (.enter fn a) w)
  (hC : ∀ w, A w → Calls Tryz.prog fn (List.toArray cap) w fun x w' => x = .returned (.int .i64 e) ∧ B w') : jq (yh fn cap) e A B := ⟨fn, [], cap, rfl, hfn, hC⟩
theorem probe_meth {fn : Nat} {r : Value} {e : Int} {A B : World → Prop} (hfn : ∀ (a : Array Value) (w : World), (callFunc fn a).run Tryz.prog w = .ok (.enter fn a) w)
  (hC : ∀ w, A w → Calls Tryz.prog fn #[r] w fun x w' => x = .returned (.int .i64 e) ∧ B w') : jq (yi fn r) e A B := ⟨fn, [r], [], rfl, hfn, hC⟩
def Keeps (A : World → Prop) : Prop := ∀ w w', A w → St w [] w' [] → A w'
theorem yK {w0 : World} {M : List Nat} {L : List HA} : Keeps (fun w => St w0 M w L) := fun _ _ h h' => h.call0 h'
section
variable {ga : Nat} {x : GA} {a : AR} {A : World → Prop} (hA : ∀ w, A w → ArrAt w ga x a) (hk : Keeps A)
include hA hk
theorem ja : jq (yi 46 (.pointer (some ⟨ga, 0, none⟩))) 0 A A :=
 probe_meth (fun _ _ => rfl) fun w h => (made_any (hA w h)).mono fun _ _ ⟨e, h4⟩ => ⟨e, hk _ _ h h4⟩
theorem yaP : jq (yi 88 (.pointer (some ⟨ga, 0, none⟩))) (y8 (!a.out) 10) A A :=
 probe_meth (fun _ _ => rfl) fun w h => (runs_any (hA w h)).mono fun _ _ ⟨e, h4⟩ => ⟨e, hk _ _ h h4⟩
theorem qm {g0 g1 : Nat} {dev : Int} (h0 : ∀ w, A w → w.cell? ⟨g0, 0, none⟩ = some (.pointer (some ⟨ga, 0, none⟩))) (h1 : ∀ w, A w → w.cell? ⟨g1, 0, none⟩ = some (.int .i64 dev)) :
  jq (yh 93 [yc g0, yc g1]) (y8 (a.inD dev) 5) A A :=
 jQ (fun _ _ => rfl) fun w h => (isDevice1_any (hA w h) (h0 w h) (h1 w h)).mono fun _ _ ⟨e, h4⟩ => ⟨e, hk _ _ h h4⟩
theorem yaT {g0 g1 g2 : Nat} {dev pl : Int} (h0 : ∀ w, A w → w.cell? ⟨g0, 0, none⟩ = some (.pointer (some ⟨ga, 0, none⟩))) (h1 : ∀ w, A w → w.cell? ⟨g1, 0, none⟩ = some (.int .i64 dev)) (h2 : ∀ w, A w → w.cell? ⟨g2, 0, none⟩ = some (.int .i64 pl)) :
  jq (yh 138 [yc g0, yc g1, yc g2]) (y8 (a.inS dev pl) 5) A A :=
 jQ (fun _ _ => rfl) fun w h => (isSector1_any (hA w h) (h0 w h) (h1 w h) (h2 w h)).mono fun _ _ ⟨e, h4⟩ => ⟨e, hk _ _ h h4⟩
theorem qr {g0 g1 : Nat} {dev : Int} (hd : a.inD dev = true) (h0 : ∀ w, A w → w.cell? ⟨g0, 0, none⟩ = some (.pointer (some ⟨ga, 0, none⟩))) (h1 : ∀ w, A w → w.cell? ⟨g1, 0, none⟩ = some (.int .i64 dev)) :
  jq (yh 139 [yc g0, yc g1]) (y8 (!(a.dv dev).gone) 14) A A :=
 jQ (fun _ _ => rfl) fun w h => (isHere1_any (hA w h) (h0 w h) (h1 w h) hd).mono fun _ _ ⟨e, h4⟩ => ⟨e, hk _ _ h h4⟩
end
theorem len1_any {w : World} {g0 : Nat} {ao : Option Addr} {n c : Nat} (h0 : w.cell? ⟨g0, 0, none⟩ = some (.slice ao n c)) : Calls Tryz.prog 97 #[yc g0] w fun e w' => e = .returned (.int .i64 (y8 ((n : Int) == 256) 2)) ∧ St w [] w' [] := by
 have hst := St.refl w; have H0 := ya h0; clear h0; unfold yc; go_enter Tryz.func97, Tryz.ntmps97; go_wp2_with (first | (refine jl (Loads.old hst H0.out) ?_) | (go_at_call 85; refine jc hst (jz _ _ _) fun w9 hst => ?_)); go_ret; exact ⟨rfl, hst⟩
theorem fuse1_any {w : World} {g0 : Nat} {n : Int} (h0 : w.cell? ⟨g0, 0, none⟩ = some (.int .i64 n)) : Calls Tryz.prog 104 #[yc g0] w fun e w' => e = .returned (.int .i64 (y8 (decide (0 ≤ n)) 2)) ∧ St w [] w' [] := by
 have hst := St.refl w; have H0 := ya h0; clear h0; unfold yc; obtain ⟨q, hq⟩ : ∃ q, q = decide (0 ≤ n) := ⟨_, rfl⟩; have d1 : decide (n ≥ 0) = q := hq.symm; have d2 : decide (0 ≤ n) = q := hq.symm; rw [d2]; clear hq; go_enter Tryz.func104, Tryz.ntmps104; go_wp2_with (first | (refine jl (Loads.old hst H0.out) ?_) | (go_at_call 85; refine jc hst (jz _ _ _) fun w9 hst => ?_)); go_ret; exact ⟨rfl, hst⟩
theorem fail1_any {w : World} {g0 : Nat} {n : Int} (h0 : w.cell? ⟨g0, 0, none⟩ = some (.int .i64 n)) : Calls Tryz.prog 108 #[yc g0] w fun e w' => e = .returned (.int .i64 (y8 (decide (0 ≤ n)) 2)) ∧ St w [] w' [] := by
 have hst := St.refl w; have H0 := ya h0; clear h0; unfold yc; obtain ⟨q, hq⟩ : ∃ q, q = decide (0 ≤ n) := ⟨_, rfl⟩; have d1 : decide (n ≥ 0) = q := hq.symm; have d2 : decide (0 ≤ n) = q := hq.symm; rw [d2]; clear hq; go_enter Tryz.func108, Tryz.ntmps108; go_wp2_with (first | (refine jl (Loads.old hst H0.out) ?_) | (go_at_call 85; refine jc hst (jz _ _ _) fun w9 hst => ?_)); go_ret; exact ⟨rfl, hst⟩
theorem crash1_any {w : World} {g0 : Nat} {n : Int} (h0 : w.cell? ⟨g0, 0, none⟩ = some (.int .i64 n)) : Calls Tryz.prog 103 #[yc g0] w fun e w' => e = .returned (.int .i64 (y8 (decide (0 ≤ n) && decide (n < 256)) 2)) ∧ St w [] w' [] := by
 have hst := St.refl w; have H0 := ya h0; clear h0; unfold yc; by_cases k1 : 0 ≤ n
 ·have d1 : decide (n ≥ 0) = true := zD k1; have d2 : decide (0 ≤ n) = true := d1; obtain ⟨q, hq⟩ : ∃ q, q = decide (n < 256) := ⟨_, rfl⟩; have d3 : decide (n < 256) = q := hq.symm; rw [d2, d3, Bool.true_and]; clear k1 hq; go_enter Tryz.func103, Tryz.ntmps103; go_wp2_with (first | (refine jl (Loads.old hst H0.out) ?_) | (go_at_call 85; refine jc hst (jz _ _ _) fun w9 hst => ?_)); go_ret; exact ⟨rfl, hst⟩
 ·have d1 : decide (n ≥ 0) = false := zF k1; have d2 : decide (0 ≤ n) = false := d1; rw [d2, Bool.false_and]; clear k1; go_enter Tryz.func103, Tryz.ntmps103; go_wp2_with (first | (refine jl (Loads.old hst H0.out) ?_) | (go_at_call 85; refine jc hst (jz _ _ _) fun w9 hst => ?_)); go_ret; exact ⟨rfl, hst⟩
theorem spoil1_any {w : World} {g0 : Nat} {n : Int} (h0 : w.cell? ⟨g0, 0, none⟩ = some (.int .i64 n)) : Calls Tryz.prog 84 #[yc g0] w fun e w' => e = .returned (.int .i64 (y8 (decide (0 ≤ n) && decide (n < 256)) 5)) ∧ St w [] w' [] := by
 have hst := St.refl w; have H0 := ya h0; clear h0; unfold yc; by_cases k1 : 0 ≤ n
 ·have d1 : decide (n ≥ 0) = true := zD k1; have d2 : decide (0 ≤ n) = true := d1; obtain ⟨q, hq⟩ : ∃ q, q = decide (n < 256) := ⟨_, rfl⟩; have d3 : decide (n < 256) = q := hq.symm; rw [d2, d3, Bool.true_and]; clear k1 hq; go_enter Tryz.func84, Tryz.ntmps84; go_wp2_with (first | (refine jl (Loads.old hst H0.out) ?_) | (go_at_call 85; refine jc hst (jz _ _ _) fun w9 hst => ?_)); go_ret; exact ⟨rfl, hst⟩
 ·have d1 : decide (n ≥ 0) = false := zF k1; have d2 : decide (0 ≤ n) = false := d1; rw [d2, Bool.false_and]; clear k1; go_enter Tryz.func84, Tryz.ntmps84; go_wp2_with (first | (refine jl (Loads.old hst H0.out) ?_) | (go_at_call 85; refine jc hst (jz _ _ _) fun w9 hst => ?_)); go_ret; exact ⟨rfl, hst⟩
theorem step_any {w : World} {ga : Nat} {x : GA} {a : AR} (hS : St w [ga] w [.blk ga 109 (js x a)]) (hs : 0 ≤ a.steps ∧ a.steps < 4611686018427387904) (hf : -1 ≤ a.fuse ∧ a.fuse ≤ 9223372036854775807) :
  Calls Tryz.prog 98 #[.pointer (some ⟨ga, 0, none⟩)] w fun e w' => e = .returned (.int .i64 a.stepE) ∧ St w [ga] w' [.blk ga 109 (js x a.step)] := by
 obtain ⟨devs, loose, fu, out, stp⟩ := a; dsimp only at hs hf; replace hS : St w [ga] w [.blk ga 109 [.slice (some ⟨x.gd, 0, none⟩) devs.length x.cd, x.lv, .int .i64 fu, .bool out, .int .i64 stp]] := hS; unfold AR.stepE AR.step js; dsimp only; have z2 : IntKind.i64.wrap (stp + 1) = stp + 1 := IntWalk.i64_in _ (by omega); by_cases k0 : fu = 0
 ·rw [if_pos k0, if_pos k0]; have d0 : (fu == 0) = true := by simpa using k0
  clear k0; go_enter Tryz.func98, Tryz.ntmps98; go_wp2_with (first | (refine jl (Loads.at [] hS rfl) ?_) | (refine ye [] hS rfl rfl rfl (v := .bool _) rfl rfl rfl (by show (3 : Nat) + 1 ≤ 5; decide) ?_; intro w2 hs2; clear hS)); go_ret; exact ⟨rfl, hs2⟩
 ·rw [if_neg k0, if_neg k0]; have d0 : (fu == 0) = false := by simpa using k0
  by_cases k1 : 0 < fu
  ·rw [if_pos k1]; have d1 : decide (fu > 0) = true := zD k1; have d2 : decide (0 < fu) = true := d1; have z1 : IntKind.i64.wrap (fu - 1) = fu - 1 := IntWalk.i64_in _ (by omega); clear k0 k1; go_enter Tryz.func98, Tryz.ntmps98; go_wp2_with (first | (refine jl (Loads.at [] hS rfl) ?_) | (refine jl (Loads.at [] hs2 rfl) ?_) | (refine ye [] hS rfl rfl rfl (v := .int _ _) rfl rfl rfl (by show (2 : Nat) + 1 ≤ 5; decide) ?_; intro w2 hs2; clear hS) | (refine ye [] hs2 rfl rfl rfl (v := .int _ _) rfl rfl rfl (by show (4 : Nat) + 1 ≤ 5; decide) ?_; intro w3 hs3; clear hs2)); go_ret; exact ⟨rfl, hs3⟩
  ·rw [if_neg k1]; have d1 : decide (fu > 0) = false := zF k1; have d2 : decide (0 < fu) = false := d1; clear k0 k1; go_enter Tryz.func98, Tryz.ntmps98; go_wp2_with (first | (refine jl (Loads.at [] hS rfl) ?_) | (refine ye [] hS rfl rfl rfl (v := .int _ _) rfl rfl rfl (by show (4 : Nat) + 1 ≤ 5; decide) ?_; intro w3 hs3; clear hS)); go_ret; exact ⟨rfl, hs3⟩
theorem has_0_1 (w : World) : Calls Tryz.prog 143 #[.int .u8 0, .int .u8 1] w fun e w' => e = .returned (.bool false) ∧ St w [] w' [] := by
 have hst := St.refl w; go_enter Tryz.func143, Tryz.ntmps143; go_wp2; go_ret; exact ⟨rfl, hst⟩
section
variable {w : World} {g off : Nat} {T : TypeId} {cs : List Value} (hS : St w [g] w [.blk g T cs]) (hc : cs[off]? = some (.int .u8 0))
include hS hc
theorem use_0_1 : Calls Tryz.prog 99 #[.pointer (some ⟨g, off, none⟩), .int .u8 1] w fun e w' => e = .returned (.bool false) ∧ St w [g] w' [.blk g T (yw cs off [.int .u8 0])] := by
 have HC := ya hc; have hlt : off + 1 ≤ cs.length := (List.getElem?_eq_some_iff.1 hc).1; clear hc; go_enter Tryz.func99, Tryz.ntmps99; go_wp2_with (first | (refine jl (Loads.at [] hS HC.out) ?_) | (go_at_call 143; refine jc hS (has_0_1 _) fun w9 hS => ?_) | (refine ye [] hS rfl rfl rfl (v := .int _ _) rfl rfl rfl hlt ?_; intro w3 hs3; clear hS)); go_ret; exact ⟨rfl, hs3⟩
theorem set_0_1 : Calls Tryz.prog 106 #[.pointer (some ⟨g, off, none⟩), .int .u8 1] w fun e w' => e = .returned (.tuple #[]) ∧ St w [g] w' [.blk g T (yw cs off [.int .u8 1])] := by
 have HC := ya hc; have hlt : off + 1 ≤ cs.length := (List.getElem?_eq_some_iff.1 hc).1; clear hc; go_enter Tryz.func106, Tryz.ntmps106; go_wp2_with (first | (refine jl (Loads.at [] hS HC.out) ?_) | (refine ye [] hS rfl rfl rfl (v := .int _ _) rfl rfl rfl hlt ?_; intro w3 hs3; clear hS)); go_end0; exact ⟨rfl, hs3⟩
end
theorem has_0_2 (w : World) : Calls Tryz.prog 143 #[.int .u8 0, .int .u8 2] w fun e w' => e = .returned (.bool false) ∧ St w [] w' [] := by
 have hst := St.refl w; go_enter Tryz.func143, Tryz.ntmps143; go_wp2; go_ret; exact ⟨rfl, hst⟩
section
variable {w : World} {g off : Nat} {T : TypeId} {cs : List Value} (hS : St w [g] w [.blk g T cs]) (hc : cs[off]? = some (.int .u8 0))
include hS hc
theorem use_0_2 : Calls Tryz.prog 99 #[.pointer (some ⟨g, off, none⟩), .int .u8 2] w fun e w' => e = .returned (.bool false) ∧ St w [g] w' [.blk g T (yw cs off [.int .u8 0])] := by
 have HC := ya hc; have hlt : off + 1 ≤ cs.length := (List.getElem?_eq_some_iff.1 hc).1; clear hc; go_enter Tryz.func99, Tryz.ntmps99; go_wp2_with (first | (refine jl (Loads.at [] hS HC.out) ?_) | (go_at_call 143; refine jc hS (has_0_2 _) fun w9 hS => ?_) | (refine ye [] hS rfl rfl rfl (v := .int _ _) rfl rfl rfl hlt ?_; intro w3 hs3; clear hS)); go_ret; exact ⟨rfl, hs3⟩
theorem set_0_2 : Calls Tryz.prog 106 #[.pointer (some ⟨g, off, none⟩), .int .u8 2] w fun e w' => e = .returned (.tuple #[]) ∧ St w [g] w' [.blk g T (yw cs off [.int .u8 2])] := by
 have HC := ya hc; have hlt : off + 1 ≤ cs.length := (List.getElem?_eq_some_iff.1 hc).1; clear hc; go_enter Tryz.func106, Tryz.ntmps106; go_wp2_with (first | (refine jl (Loads.at [] hS HC.out) ?_) | (refine ye [] hS rfl rfl rfl (v := .int _ _) rfl rfl rfl hlt ?_; intro w3 hs3; clear hS)); go_end0; exact ⟨rfl, hs3⟩
end
theorem has_1_1 (w : World) : Calls Tryz.prog 143 #[.int .u8 1, .int .u8 1] w fun e w' => e = .returned (.bool true) ∧ St w [] w' [] := by
 have hst := St.refl w; go_enter Tryz.func143, Tryz.ntmps143; go_wp2; go_ret; exact ⟨rfl, hst⟩
section
variable {w : World} {g off : Nat} {T : TypeId} {cs : List Value} (hS : St w [g] w [.blk g T cs]) (hc : cs[off]? = some (.int .u8 1))
include hS hc
theorem use_1_1 : Calls Tryz.prog 99 #[.pointer (some ⟨g, off, none⟩), .int .u8 1] w fun e w' => e = .returned (.bool true) ∧ St w [g] w' [.blk g T (yw cs off [.int .u8 0])] := by
 have HC := ya hc; have hlt : off + 1 ≤ cs.length := (List.getElem?_eq_some_iff.1 hc).1; clear hc; go_enter Tryz.func99, Tryz.ntmps99; go_wp2_with (first | (refine jl (Loads.at [] hS HC.out) ?_) | (go_at_call 143; refine jc hS (has_1_1 _) fun w9 hS => ?_) | (refine ye [] hS rfl rfl rfl (v := .int _ _) rfl rfl rfl hlt ?_; intro w3 hs3; clear hS)); go_ret; exact ⟨rfl, hs3⟩
theorem set_1_1 : Calls Tryz.prog 106 #[.pointer (some ⟨g, off, none⟩), .int .u8 1] w fun e w' => e = .returned (.tuple #[]) ∧ St w [g] w' [.blk g T (yw cs off [.int .u8 1])] := by
 have HC := ya hc; have hlt : off + 1 ≤ cs.length := (List.getElem?_eq_some_iff.1 hc).1; clear hc; go_enter Tryz.func106, Tryz.ntmps106; go_wp2_with (first | (refine jl (Loads.at [] hS HC.out) ?_) | (refine ye [] hS rfl rfl rfl (v := .int _ _) rfl rfl rfl hlt ?_; intro w3 hs3; clear hS)); go_end0; exact ⟨rfl, hs3⟩
end
theorem has_1_2 (w : World) : Calls Tryz.prog 143 #[.int .u8 1, .int .u8 2] w fun e w' => e = .returned (.bool false) ∧ St w [] w' [] := by
 have hst := St.refl w; go_enter Tryz.func143, Tryz.ntmps143; go_wp2; go_ret; exact ⟨rfl, hst⟩
section
variable {w : World} {g off : Nat} {T : TypeId} {cs : List Value} (hS : St w [g] w [.blk g T cs]) (hc : cs[off]? = some (.int .u8 1))
include hS hc
theorem use_1_2 : Calls Tryz.prog 99 #[.pointer (some ⟨g, off, none⟩), .int .u8 2] w fun e w' => e = .returned (.bool false) ∧ St w [g] w' [.blk g T (yw cs off [.int .u8 1])] := by
 have HC := ya hc; have hlt : off + 1 ≤ cs.length := (List.getElem?_eq_some_iff.1 hc).1; clear hc; go_enter Tryz.func99, Tryz.ntmps99; go_wp2_with (first | (refine jl (Loads.at [] hS HC.out) ?_) | (go_at_call 143; refine jc hS (has_1_2 _) fun w9 hS => ?_) | (refine ye [] hS rfl rfl rfl (v := .int _ _) rfl rfl rfl hlt ?_; intro w3 hs3; clear hS)); go_ret; exact ⟨rfl, hs3⟩
theorem set_1_2 : Calls Tryz.prog 106 #[.pointer (some ⟨g, off, none⟩), .int .u8 2] w fun e w' => e = .returned (.tuple #[]) ∧ St w [g] w' [.blk g T (yw cs off [.int .u8 3])] := by
 have HC := ya hc; have hlt : off + 1 ≤ cs.length := (List.getElem?_eq_some_iff.1 hc).1; clear hc; go_enter Tryz.func106, Tryz.ntmps106; go_wp2_with (first | (refine jl (Loads.at [] hS HC.out) ?_) | (refine ye [] hS rfl rfl rfl (v := .int _ _) rfl rfl rfl hlt ?_; intro w3 hs3; clear hS)); go_end0; exact ⟨rfl, hs3⟩
end
theorem has_2_1 (w : World) : Calls Tryz.prog 143 #[.int .u8 2, .int .u8 1] w fun e w' => e = .returned (.bool false) ∧ St w [] w' [] := by
 have hst := St.refl w; go_enter Tryz.func143, Tryz.ntmps143; go_wp2; go_ret; exact ⟨rfl, hst⟩
section
variable {w : World} {g off : Nat} {T : TypeId} {cs : List Value} (hS : St w [g] w [.blk g T cs]) (hc : cs[off]? = some (.int .u8 2))
include hS hc
theorem use_2_1 : Calls Tryz.prog 99 #[.pointer (some ⟨g, off, none⟩), .int .u8 1] w fun e w' => e = .returned (.bool false) ∧ St w [g] w' [.blk g T (yw cs off [.int .u8 2])] := by
 have HC := ya hc; have hlt : off + 1 ≤ cs.length := (List.getElem?_eq_some_iff.1 hc).1; clear hc; go_enter Tryz.func99, Tryz.ntmps99; go_wp2_with (first | (refine jl (Loads.at [] hS HC.out) ?_) | (go_at_call 143; refine jc hS (has_2_1 _) fun w9 hS => ?_) | (refine ye [] hS rfl rfl rfl (v := .int _ _) rfl rfl rfl hlt ?_; intro w3 hs3; clear hS)); go_ret; exact ⟨rfl, hs3⟩
theorem set_2_1 : Calls Tryz.prog 106 #[.pointer (some ⟨g, off, none⟩), .int .u8 1] w fun e w' => e = .returned (.tuple #[]) ∧ St w [g] w' [.blk g T (yw cs off [.int .u8 3])] := by
 have HC := ya hc; have hlt : off + 1 ≤ cs.length := (List.getElem?_eq_some_iff.1 hc).1; clear hc; go_enter Tryz.func106, Tryz.ntmps106; go_wp2_with (first | (refine jl (Loads.at [] hS HC.out) ?_) | (refine ye [] hS rfl rfl rfl (v := .int _ _) rfl rfl rfl hlt ?_; intro w3 hs3; clear hS)); go_end0; exact ⟨rfl, hs3⟩
end
theorem has_2_2 (w : World) : Calls Tryz.prog 143 #[.int .u8 2, .int .u8 2] w fun e w' => e = .returned (.bool true) ∧ St w [] w' [] := by
 have hst := St.refl w; go_enter Tryz.func143, Tryz.ntmps143; go_wp2; go_ret; exact ⟨rfl, hst⟩
section
variable {w : World} {g off : Nat} {T : TypeId} {cs : List Value} (hS : St w [g] w [.blk g T cs]) (hc : cs[off]? = some (.int .u8 2))
include hS hc
theorem use_2_2 : Calls Tryz.prog 99 #[.pointer (some ⟨g, off, none⟩), .int .u8 2] w fun e w' => e = .returned (.bool true) ∧ St w [g] w' [.blk g T (yw cs off [.int .u8 0])] := by
 have HC := ya hc; have hlt : off + 1 ≤ cs.length := (List.getElem?_eq_some_iff.1 hc).1; clear hc; go_enter Tryz.func99, Tryz.ntmps99; go_wp2_with (first | (refine jl (Loads.at [] hS HC.out) ?_) | (go_at_call 143; refine jc hS (has_2_2 _) fun w9 hS => ?_) | (refine ye [] hS rfl rfl rfl (v := .int _ _) rfl rfl rfl hlt ?_; intro w3 hs3; clear hS)); go_ret; exact ⟨rfl, hs3⟩
theorem set_2_2 : Calls Tryz.prog 106 #[.pointer (some ⟨g, off, none⟩), .int .u8 2] w fun e w' => e = .returned (.tuple #[]) ∧ St w [g] w' [.blk g T (yw cs off [.int .u8 2])] := by
 have HC := ya hc; have hlt : off + 1 ≤ cs.length := (List.getElem?_eq_some_iff.1 hc).1; clear hc; go_enter Tryz.func106, Tryz.ntmps106; go_wp2_with (first | (refine jl (Loads.at [] hS HC.out) ?_) | (refine ye [] hS rfl rfl rfl (v := .int _ _) rfl rfl rfl hlt ?_; intro w3 hs3; clear hS)); go_end0; exact ⟨rfl, hs3⟩
end
theorem has_3_1 (w : World) : Calls Tryz.prog 143 #[.int .u8 3, .int .u8 1] w fun e w' => e = .returned (.bool true) ∧ St w [] w' [] := by
 have hst := St.refl w; go_enter Tryz.func143, Tryz.ntmps143; go_wp2; go_ret; exact ⟨rfl, hst⟩
section
variable {w : World} {g off : Nat} {T : TypeId} {cs : List Value} (hS : St w [g] w [.blk g T cs]) (hc : cs[off]? = some (.int .u8 3))
include hS hc
theorem use_3_1 : Calls Tryz.prog 99 #[.pointer (some ⟨g, off, none⟩), .int .u8 1] w fun e w' => e = .returned (.bool true) ∧ St w [g] w' [.blk g T (yw cs off [.int .u8 2])] := by
 have HC := ya hc; have hlt : off + 1 ≤ cs.length := (List.getElem?_eq_some_iff.1 hc).1; clear hc; go_enter Tryz.func99, Tryz.ntmps99; go_wp2_with (first | (refine jl (Loads.at [] hS HC.out) ?_) | (go_at_call 143; refine jc hS (has_3_1 _) fun w9 hS => ?_) | (refine ye [] hS rfl rfl rfl (v := .int _ _) rfl rfl rfl hlt ?_; intro w3 hs3; clear hS)); go_ret; exact ⟨rfl, hs3⟩
theorem set_3_1 : Calls Tryz.prog 106 #[.pointer (some ⟨g, off, none⟩), .int .u8 1] w fun e w' => e = .returned (.tuple #[]) ∧ St w [g] w' [.blk g T (yw cs off [.int .u8 3])] := by
 have HC := ya hc; have hlt : off + 1 ≤ cs.length := (List.getElem?_eq_some_iff.1 hc).1; clear hc; go_enter Tryz.func106, Tryz.ntmps106; go_wp2_with (first | (refine jl (Loads.at [] hS HC.out) ?_) | (refine ye [] hS rfl rfl rfl (v := .int _ _) rfl rfl rfl hlt ?_; intro w3 hs3; clear hS)); go_end0; exact ⟨rfl, hs3⟩
end
theorem has_3_2 (w : World) : Calls Tryz.prog 143 #[.int .u8 3, .int .u8 2] w fun e w' => e = .returned (.bool true) ∧ St w [] w' [] := by
 have hst := St.refl w; go_enter Tryz.func143, Tryz.ntmps143; go_wp2; go_ret; exact ⟨rfl, hst⟩
section
variable {w : World} {g off : Nat} {T : TypeId} {cs : List Value} (hS : St w [g] w [.blk g T cs]) (hc : cs[off]? = some (.int .u8 3))
include hS hc
theorem use_3_2 : Calls Tryz.prog 99 #[.pointer (some ⟨g, off, none⟩), .int .u8 2] w fun e w' => e = .returned (.bool true) ∧ St w [g] w' [.blk g T (yw cs off [.int .u8 1])] := by
 have HC := ya hc; have hlt : off + 1 ≤ cs.length := (List.getElem?_eq_some_iff.1 hc).1; clear hc; go_enter Tryz.func99, Tryz.ntmps99; go_wp2_with (first | (refine jl (Loads.at [] hS HC.out) ?_) | (go_at_call 143; refine jc hS (has_3_2 _) fun w9 hS => ?_) | (refine ye [] hS rfl rfl rfl (v := .int _ _) rfl rfl rfl hlt ?_; intro w3 hs3; clear hS)); go_ret; exact ⟨rfl, hs3⟩
theorem set_3_2 : Calls Tryz.prog 106 #[.pointer (some ⟨g, off, none⟩), .int .u8 2] w fun e w' => e = .returned (.tuple #[]) ∧ St w [g] w' [.blk g T (yw cs off [.int .u8 3])] := by
 have HC := ya hc; have hlt : off + 1 ≤ cs.length := (List.getElem?_eq_some_iff.1 hc).1; clear hc; go_enter Tryz.func106, Tryz.ntmps106; go_wp2_with (first | (refine jl (Loads.at [] hS HC.out) ?_) | (refine ye [] hS rfl rfl rfl (v := .int _ _) rfl rfl rfl hlt ?_; intro w3 hs3; clear hS)); go_end0; exact ⟨rfl, hs3⟩
end
section
variable {w : World} {g off : Nat} {T : TypeId} {cs : List Value} (lo st : Bool) (hS : St w [g] w [.blk g T cs]) (hc : cs[off]? = some (.int .u8 (jH lo 1 + jH st 2)))
include lo st hS hc
theorem use1_any : Calls Tryz.prog 99 #[.pointer (some ⟨g, off, none⟩), .int .u8 1] w fun e w' => e = .returned (.bool lo) ∧ St w [g] w' [.blk g T (yw cs off [.int .u8 (jH false 1 + jH st 2)])] := by
 cases lo <;> cases st
 ·exact use_0_1 hS hc
 ·exact use_2_1 hS hc
 ·exact use_1_1 hS hc
 ·exact use_3_1 hS hc
theorem use2_any : Calls Tryz.prog 99 #[.pointer (some ⟨g, off, none⟩), .int .u8 2] w fun e w' => e = .returned (.bool st) ∧ St w [g] w' [.blk g T (yw cs off [.int .u8 (jH lo 1 + jH false 2)])] := by
 cases lo <;> cases st
 ·exact use_0_2 hS hc
 ·exact use_2_2 hS hc
 ·exact use_1_2 hS hc
 ·exact use_3_2 hS hc
theorem set1_any : Calls Tryz.prog 106 #[.pointer (some ⟨g, off, none⟩), .int .u8 1] w fun e w' => e = .returned (.tuple #[]) ∧ St w [g] w' [.blk g T (yw cs off [.int .u8 (jH true 1 + jH st 2)])] := by
 cases lo <;> cases st
 ·exact set_0_1 hS hc
 ·exact set_2_1 hS hc
 ·exact set_1_1 hS hc
 ·exact set_3_1 hS hc
theorem set2_any : Calls Tryz.prog 106 #[.pointer (some ⟨g, off, none⟩), .int .u8 2] w fun e w' => e = .returned (.tuple #[]) ∧ St w [g] w' [.blk g T (yw cs off [.int .u8 (jH lo 1 + jH true 2)])] := by
 cases lo <;> cases st
 ·exact set_0_2 hS hc
 ·exact set_2_2 hS hc
 ·exact set_1_2 hS hc
 ·exact set_3_2 hS hc
end
end
section
open Go.RowKit Hp
structure AR.Ok (a : AR) : Prop where
 d0 : a.devs ≠ []
 dn : a.devs.length ≤ 8
 sn : a.secs ≤ 4096
 fm : ∀ d ∈ a.devs, d.firm.length = a.secs ∧ (∀ s ∈ d.firm, s.length = 256) ∧ (d.st = true → 0 ≤ d.to ∧ d.to < a.secs) ∧ 0 ≤ d.fail ∧ d.fail ≤ 9223372036854775807
 lw : ∀ w ∈ a.loose, w.dev < a.devs.length ∧ w.pl < a.secs ∧ w.b.length = 256
 fu : -1 ≤ a.fuse ∧ a.fuse ≤ 9223372036854775807
theorem yS {α : Type} (f : α → α) (l : List α) (k j : Nat) : (l.modify k f)[j]? = if k = j then (l[j]?).map f else l[j]? := by
 rw [List.getElem?_modify]; by_cases h : k = j
 ·subst h; simp
 ·simp [h]
theorem upd_same {a : AR} {dev : Int} {f : DV → DV} (h : a.inD dev = true) (hf : f (a.dv dev) = a.dv dev) : a.upd dev f = a := by
 have hd := zI h; unfold AR.upd; obtain ⟨devs, loose, fu, out, stp⟩ := a
 congr 1
 dsimp only at hd hf ⊢; apply List.ext_getElem?; intro i; rw [yS]; by_cases hi : dev.toNat = i
 ·subst hi; rw [if_pos rfl, hd, Option.map_some, hf]
 ·rw [if_neg hi]
theorem flat_put {α : Type} {f : α → List Value} {sz : Nat} {l : List α} {k : Nat} {d d' : α} {i : Nat} {v : Value} (hf : ∀ d, (f d).length = sz) (h : l[k]? = some d) (hi : i < sz) (hd : yw (f d) i [v] = f d') (rest : List Value) :
  yw (l.flatMap f ++ rest) (k * sz + i) [v] = (l.set k d').flatMap f ++ rest := by
 have key : ∀ (xs : List Value) (off : Nat), off < xs.length → yw xs off [v] = xs.set off v := fun xs off ho => by
  rw [List.set_eq_take_append_cons_drop, if_pos ho]; rfl
 rw [key _ _ (by rw [hf]; exact hi)] at hd
 induction l generalizing k with
 | nil => simp at h
 | cons q l ih =>
  rw [List.flatMap_cons, List.append_assoc]; cases k with
  | zero =>
   simp at h; subst h; rw [Nat.zero_mul, Nat.zero_add, key _ _ (by rw [List.length_append, hf]; omega), List.set_append_left _ _ (by rw [hf]; exact hi), hd, List.set_cons_zero, List.flatMap_cons, List.append_assoc]
  | succ k =>
   have := ih (by simpa using h); have hlt : k * sz + i < (l.flatMap f ++ rest).length := by
    have hk := (List.getElem?_eq_some_iff.1 (show l[k]? = some d by simpa using h)).1; have hl : ∀ l : List α, (l.flatMap f).length = l.length * sz := by
     intro l
     induction l with
     | nil => simp
     | cons q l ih => rw [List.flatMap_cons, List.length_append, hf, ih, List.length_cons, Nat.add_mul]; omega
    have h9 : k * sz + sz ≤ l.length * sz := by rw [← Nat.succ_mul]; exact Nat.mul_le_mul_right _ hk
    rw [List.length_append, hl]; omega
   rw [key _ _ hlt] at this; rw [key _ _ (by rw [List.length_append, hf, Nat.add_mul]; omega), List.set_append_right _ _ (by rw [hf, Nat.add_mul]; omega), hf, show (k + 1) * sz + i - sz = k * sz + i by rw [Nat.add_mul]; omega, this, List.set_cons_succ, List.flatMap_cons, List.append_assoc]
theorem qb {a : AR} {dev : Int} {f : DV → DV} {i : Nat} {v : Value} {rest : List Value} (h : a.inD dev = true) (hi : i < 5) (hf : yw (a.dv dev).cells i [v] = (f (a.dv dev)).cells) :
  yw (yI a ++ rest) (dev.toNat * 5 + i) [v] = yI (a.upd dev f) ++ rest := by
 have hd := zI h; have := flat_put (sz := 5) (fun d => rfl) hd hi hf rest; unfold yI; rw [this]
 congr 2
 unfold AR.upd; apply List.ext_getElem?; intro j; rw [yS, List.getElem?_set]; by_cases hj : dev.toNat = j
 ·subst hj; rw [if_pos rfl, if_pos rfl, hd, if_pos (List.getElem?_eq_some_iff.1 hd).1, Option.map_some]
 ·rw [if_neg hj, if_neg hj]
theorem jk {a : AR} {dev : Int} {i : Nat} {v : Value} {rest : List Value} (h : a.inD dev = true) (hv : (a.dv dev).cells[i]? = some v) (hi : i < 5) : (yI a ++ rest)[dev.toNat * 5 + i]? = some v := by
 have h1 : (yI a)[dev.toNat * 5 + i]? = some v := by rw [yI, yaf (sz := 5) (fun d => rfl) (zI h) i hi]; exact hv
 rw [List.getElem?_append_left (List.getElem?_eq_some_iff.1 h1).1]; exact h1
theorem upd_map {β : Type} (a : AR) (dev : Int) (f : DV → DV) (g : DV → β) (h : ∀ d, g (f d) = g d) : (a.upd dev f).devs.map g = a.devs.map g := by
 apply List.ext_getElem?; intro j; unfold AR.upd; rw [List.getElem?_map, List.getElem?_map, yS]; split
 ·cases a.devs[j]? with
  | none => rfl
  | some d => simp [h]
 ·rfl
theorem upd_len (a : AR) (dev : Int) (f : DV → DV) : (a.upd dev f).devs.length = a.devs.length := by
 unfold AR.upd; simp
theorem upd_inD (a : AR) (dev e : Int) (f : DV → DV) : (a.upd dev f).inD e = a.inD e := by
 unfold AR.inD; rw [upd_len]
theorem upd_dv {a : AR} {dev : Int} {f : DV → DV} (h : a.inD dev = true) : (a.upd dev f).dv dev = f (a.dv dev) := by
 have hd := zI h; unfold AR.dv at hd ⊢; unfold AR.upd; rw [List.getD_eq_getElem?_getD, yS, if_pos rfl, hd]; rfl
theorem step_devs (a : AR) : a.step.devs = a.devs := by unfold AR.step; split <;> rfl
theorem qg (a : AR) : a.step.loose = a.loose := by unfold AR.step; split <;> rfl
theorem step_secs (a : AR) : a.step.secs = a.secs := by unfold AR.secs; rw [step_devs]
theorem step_inD (a : AR) (dev : Int) : a.step.inD dev = a.inD dev := by unfold AR.inD; rw [step_devs]
theorem yas (a : AR) (dev : Int) : a.step.dv dev = a.dv dev := by unfold AR.dv; rw [step_devs]
theorem arP_step (ga : Nat) (x : GA) (a : AR) : yj ga x a.step = .blk ga 109 (js x a.step) :: .blk x.gd 89 (yI a ++ x.rest) :: .row x.lv 149 258 a.loose.length (qt a) :: a.devs.map (fun d => .blk d.g 144 (yR d.firm)) := by
 unfold yj yI qt; rw [step_devs, qg]
theorem qB {w0 : World} {M : List Nat} {L1 : List HA} {ga : Nat} {x : GA} {a : AR} (hs : 0 ≤ a.steps ∧ a.steps < 4611686018427387904) (hf : -1 ≤ a.fuse ∧ a.fuse ≤ 9223372036854775807) :
  jq (yi 98 (.pointer (some ⟨ga, 0, none⟩))) a.stepE (fun w => St w0 M w (L1 ++ yj ga x a)) (fun w => St w0 M w (L1 ++ yj ga x a.step)) := by
 refine probe_meth (fun _ _ => rfl) fun w h => ?_; have h1 : St w [ga] w [.blk ga 109 (js x a)] := St.one _ _ _ _ (h.all (.blk ga 109 (js x a)) (by simp [yj])); refine (step_any h1 hs hf).mono ?_; rintro _ w' ⟨rfl, h4⟩; refine ⟨rfl, ?_⟩; have := qp L1 h h4; rw [arP_step]; exact this
theorem writes_places (ps : List (Nat × Value)) : Tryz.prog.built 149 ps = Instr.fill (#[(0, 1), (1, 1), (2, 256)][·]?) (Array.mk (.int .i64 0 :: .int .i64 0 :: List.replicate 256 (.int .u8 0))) ps := by kernel_rfl
theorem built_write {d p : Int} {b : List UInt8} (hb : b.length = 256) : Tryz.prog.built 149 [(0, .int .i64 d), (1, .int .i64 p), (2, .agg (yb b).toArray)] = some (List.toArray (.int .i64 d :: .int .i64 p :: yb b)) := by
 rw [writes_places]; have h1 := fold_set 2 (yb b) 0 [.int .i64 d, .int .i64 p] (List.replicate 256 (.int .u8 0)) rfl (by rw [length_bytesV, hb, List.length_replicate]; exact Nat.le_refl _); have hl : (yb b).length = 256 := by rw [length_bytesV, hb]
 obtain ⟨Z, hZ⟩ : ∃ Z : List Value, Z = List.replicate 256 (.int .u8 0) := ⟨_, rfl⟩; have hz : Z.length = 256 := by rw [hZ, List.length_replicate]
 rw [← hZ] at h1 ⊢; have hc : (Value.agg (yb b).toArray).cells = (yb b).toArray := rfl; have e0 : Instr.fill (#[(0, 1), (1, 1), (2, 256)][·]?) (Array.mk (.int .i64 0 :: .int .i64 0 :: Z)) [(0, .int .i64 d), (1, .int .i64 p), (2, .agg (yb b).toArray)] = Instr.fill (#[(0, 1), (1, 1), (2, 256)][·]?) (Array.mk (.int .i64 d :: .int .i64 p :: Z)) [(2, .agg (yb b).toArray)] := by
  simp [Instr.fill, Value.cells]; omega
 rw [e0]; simp only [Instr.fill, hc]; rw [show (#[(0, 1), (1, 1), (2, 256)] : Array (Nat × Nat))[2]? = some (2, 256) from rfl]; dsimp only; rw [if_neg (by simp [hb, hz])]; rw [← Array.foldl_toList, Array.toList_zipIdx]; have h2 : List.foldl (fun (cs : Array Value) (x : Value × Nat) => match x with | (c, j) => cs.setIfInBounds (2 + j) c) (Array.mk (Value.int .i64 d :: Value.int .i64 p :: Z)) (yb b).zipIdx = ([Value.int .i64 d, Value.int .i64 p] ++ (yb b ++ Z.drop (yb b).length)).toArray := h1; rw [List.toList_toArray, h2, hl, List.drop_of_length_le (by omega), List.append_nil]; rfl
def jC (a : AR) (dev pl : Int) (n : Nat) : List Int := [0, y8 (!a.out) 10, y8 (a.inS dev pl) 5, y8 ((n : Int) == 256) 2, y8 (!(a.dv dev).gone) 14]
def isE (e : Int) : Prop := e = 1 ∨ e = 10 ∨ e = 5 ∨ e = 2 ∨ e = 14 ∨ e = 13
theorem firstE_mem {l : List Int} (h : yt l ≠ 0) : yt l ∈ l := by
 unfold yt at h ⊢; cases hf : l.find? (· ≠ 0) with
 | none => rw [hf] at h; exact absurd rfl h
 | some x => exact List.mem_of_find?_eq_some hf
theorem ya9 {l : List Int} (hl : ∀ e ∈ l, e = 0 ∨ isE e) (h : yt l ≠ 0) : isE (yt l) := by
 rcases hl _ (firstE_mem h) with h1 | h1
 ·exact absurd h1 h
 ·exact h1
theorem jO (b : Bool) (e : Int) (h : isE e) : y8 b e = 0 ∨ isE (y8 b e) := by
 unfold y8; cases b
 ·exact .inr h
 ·exact .inl rfl
theorem zu {l : List Int} (h : yt l = 0) : ∀ e ∈ l, e = 0 := by
 intro e he; unfold yt at h; cases hf : l.find? (· ≠ 0) with
 | none =>
  have := List.find?_eq_none.1 hf e he; simpa using this
 | some x =>
  rw [hf] at h; have := List.find?_some hf; simp at this h; exact absurd h this
theorem yY {b : Bool} {e : Int} (he : e ≠ 0) (h : y8 b e = 0) : b = true := by
 unfold y8 at h; cases b
 ·exact absurd h he
 ·rfl
theorem jA (e d : Int) (he : isE e) (h0 : e ≠ 0) (w : World) : Calls Tryz.prog 47 #[.iface 154 (.agg #[.int .i64 e, .int .i64 d])] w fun x w' => x = .returned (.int .i64 e) ∧ St w [] w' [] := by
 have := number_any e d he w; unfold errV at this; rwa [if_neg h0] at this
theorem ybb {es : List Int} {dev e9 : Int} {PA PB : Prop} {x : Ending} (h : yt es ≠ 0) (hh : (yt es ≠ 0 ∧ x = .returned (errV dev (yt es)) ∧ PA) ∨ (yt es = 0 ∧ x = .returned (errV dev e9) ∧ PB)) :
  x = .returned (.iface 154 (.agg #[.int .i64 (yt es), .int .i64 dev])) ∧ PA := by
 rcases hh with ⟨_, hx, hA⟩ | ⟨h0, _⟩
 ·unfold errV at hx; rw [if_neg h] at hx; exact ⟨hx, hA⟩
 ·exact absurd h0 h
theorem qL {es : List Int} {dev e9 : Int} {PA PB : Prop} {x : Ending} (h : yt es = 0) (h9 : e9 ≠ 0) (hh : (yt es ≠ 0 ∧ x = .returned (errV dev (yt es)) ∧ PA) ∨ (yt es = 0 ∧ x = .returned (errV dev e9) ∧ PB)) :
  x = .returned (.iface 154 (.agg #[.int .i64 e9, .int .i64 dev])) ∧ PB := by
 rcases hh with ⟨h0, _⟩ | ⟨_, hx, hB⟩
 ·exact absurd h h0
 ·unfold errV at hx; rw [if_neg h9] at hx; exact ⟨hx, hB⟩
theorem jI {es : List Int} {dev : Int} {PA PB : Prop} {x : Ending} (h : yt es = 0) (hh : (yt es ≠ 0 ∧ x = .returned (errV dev (yt es)) ∧ PA) ∨ (yt es = 0 ∧ x = .returned (errV dev 0) ∧ PB)) :
  x = .returned .nilIface ∧ PB := by
 rcases hh with ⟨h0, _⟩ | ⟨_, hx, hB⟩
 ·exact absurd h h0
 ·exact ⟨hx, hB⟩
theorem yG {a : AR} {dev pl : Int} (h : a.inS dev pl = true) : a.inD dev = true := by
 unfold AR.inS at h; simp only [Bool.and_eq_true] at h; exact h.1.1
theorem jE {a : AR} {dev pl : Int} (h : a.inS dev pl = true) : 0 ≤ pl ∧ pl < a.secs := by
 unfold AR.inS at h; simp only [Bool.and_eq_true, decide_eq_true_eq] at h; exact ⟨h.1.2, h.2⟩
theorem yQ {a : AR} {dev : Int} (h : a.inD dev = true) : 0 ≤ dev ∧ dev < a.devs.length := by
 unfold AR.inD at h; simp only [Bool.and_eq_true, decide_eq_true_eq] at h; exact h
theorem writeL_isE (a : AR) (dev pl : Int) (n : Nat) : ∀ e ∈ jC a dev pl n, e = 0 ∨ isE e := by
 intro e he; unfold jC at he; simp only [List.mem_cons, List.not_mem_nil, or_false] at he; rcases he with rfl | rfl | rfl | rfl | rfl
 ·exact .inl rfl
 ·exact jO _ _ (by unfold isE; decide)
 ·exact jO _ _ (by unfold isE; decide)
 ·exact jO _ _ (by unfold isE; decide)
 ·exact jO _ _ (by unfold isE; decide)
theorem write_bad {a : AR} {dev pl : Int} {b : List UInt8} (h0 : a.devs ≠ []) (h : yt (jC a dev pl b.length) ≠ 0) : a.writeE dev pl b = yt (jC a dev pl b.length) ∧ a.write dev pl b = a := by
 unfold AR.writeE AR.write jC y8 yt at *; have hn : ((b.length : Int) == 256) = decide (b.length = 256) := by
  rw [Bool.eq_iff_iff]; simp; omega
 rw [hn] at h ⊢; rw [if_neg h0]; by_cases h3 : b.length = 256 <;> cases h1 : a.out <;> cases h2 : a.inS dev pl <;> cases h4 : (a.dv dev).gone <;> simp_all
theorem write_ok {a : AR} {dev pl : Int} {b : List UInt8} (h0 : a.devs ≠ []) (h : yt (jC a dev pl b.length) = 0) : a.out = false ∧ a.inS dev pl = true ∧ b.length = 256 ∧ (a.dv dev).gone = false ∧ a.writeE dev pl b = a.stepE ∧ a.write dev pl b = if a.fuse = 0 then a.step else a.step.lay dev pl b := by
 have hz := zu h; unfold jC at hz; have h1 := yY (by decide) (hz _ (zT zH)); have h2 := yY (by decide) (hz _ (zT (zT zH))); have h3 := yY (by decide) (hz _ (zT (zT (zT zH)))); have h4 := yY (by decide) (hz _ (zT (zT (zT (zT zH))))); have h1' : a.out = false := by simpa using h1
 have h4' : (a.dv dev).gone = false := by simpa using h4
 have h3' : b.length = 256 := by
  have : (b.length : Int) = 256 := by simpa using h3
  omega
 refine ⟨h1', h2, h3', h4', ?_, ?_⟩
 ·unfold AR.writeE; rw [if_neg h0, h1', h2, h4', if_neg Bool.false_ne_true, if_neg (by decide), if_neg (by rw [h3']; simp), if_neg Bool.false_ne_true]
 ·unfold AR.write; rw [if_neg (by rw [h1', h2, h4', h3']; simp [h0])]
theorem yaI {ga : Nat} {x : GA} {a : AR} {A : World → Prop} (hA : ∀ w, A w → ArrAt w ga x a) (hk : Keeps A) {g7 g0 g1 g2 k0 k1 : Nat} {ao : Option Addr} {n c : Nat} {dev pl : Int}
  (c7 : ∀ w, A w → w.cell? ⟨g7, 0, none⟩ = some (.slice ao n c)) (c0 : ∀ w, A w → w.cell? ⟨g0, 0, none⟩ = some (.pointer (some ⟨ga, 0, none⟩))) (c1 : ∀ w, A w → w.cell? ⟨g1, 0, none⟩ = some (.int .i64 dev)) (c2 : ∀ w, A w → w.cell? ⟨g2, 0, none⟩ = some (.int .i64 pl))
  (d0 : ∀ w, A w → w.cell? ⟨k0, 0, none⟩ = some (.pointer (some ⟨ga, 0, none⟩))) (d1 : ∀ w, A w → w.cell? ⟨k1, 0, none⟩ = some (.int .i64 dev)) :
  ∀ (j : Nat) (f : Value) (e : Int), [yi 46 (yc ga), yi 88 (yc ga), yh 138 [yc g0, yc g1, yc g2], yh 97 [yc g7], yh 139 [yc k0, yc k1]][j]? = some f →
   (jC a dev pl n)[j]? = some e → (∀ i < j, (jC a dev pl n).getD i 0 = 0) → jq f e A A := by
 intro j f e hf he hz; unfold jC at he hz
 match j, hf, he, hz with
 | 0, hf, he, _ => cases hf; cases he; exact ja hA hk
 | 1, hf, he, _ => cases hf; cases he; exact yaP hA hk
 | 2, hf, he, _ => cases hf; cases he; exact yaT hA hk c0 c1 c2
 | 3, hf, he, _ => cases hf; cases he; exact jQ (fun _ _ => rfl) fun w h => (len1_any (c7 w h)).mono fun _ _ ⟨e, h4⟩ => ⟨e, hk _ _ h h4⟩
 | 4, hf, he, hz =>
  cases hf; cases he; have h2 : a.inS dev pl = true := yY (by decide) (hz 2 (by decide)); exact qr hA hk (yG h2) d0 d1
 | j + 5, hf, _, _ => simp at hf
end
section
open Go.RowKit Hp
attribute [local irreducible] Go.Calls Go.wpList
def yT (ga : Nat) (x : GA) (a : AR) : List Nat := (yj ga x a).filterMap HA.foot
theorem z5 {w0 w : World} {M : List Nat} {L : List HA} {T : TypeId} {b off n : Nat} {cs : List Value} (hst : St w0 M w L) [ht : TyA Tryz.prog T n] (hn : cs.length = n) (h : w0.rangeAt b off cs) (hM : b ∉ M) : (yn T ⟨b, off, none⟩).run Tryz.prog w = .ok (.agg cs.toArray) w :=
 Loads.range (by rw [hn]; exact ht.out) (fun j v hv => hst.old_cell (h j v hv) hM)
section
theorem loadedSW (A : Addr) : loadVar 107 A = yn 107 A := rfl
theorem loadedSB (A : Addr) : loadVar 28 A = yn 28 A := rfl
theorem loadedSe (A : Addr) : loadVar 144 A = yn 144 A := rfl
attribute [local go_sem ↓] loadedSW loadedSB loadedSe
section
variable {w : World} {ga : Nat} {x : GA} {a : AR} (hS : St w (yT ga x a) w (yj ga x a)) (ok : a.Ok) (hs : 0 ≤ a.steps ∧ a.steps < 4611686018427387904) (dev pl : Int) (ao : Option Addr) (n c : Nat) (bs : List UInt8) (hr : Rd w (.slice ao n c) 1 n (yb bs)) (hn : bs.length = n) (ho : Off (.slice ao n c) (yT ga x a))
include hS ok hs dev pl ao n c bs hr hn ho
theorem write_no (h1 : yt (jC a dev pl n) ≠ 0) :
  Calls Tryz.prog 44 #[.pointer (some ⟨ga, 0, none⟩), .int .i64 dev, .int .i64 pl, .slice ao n c] w fun e w' => e = .returned (.int .i64 (a.writeE dev pl bs)) ∧ ∃ x', St w (yT ga x a) w' (yj ga x' (a.write dev pl bs)) := by
 have _ := hr; have _ := ho; have hb := write_bad (b := bs) (dev := dev) (pl := pl) ok.d0 (by rw [hn]; exact h1); rw [hn] at hb; rw [hb.1, hb.2]; have HE := ya (ya9 (writeL_isE a dev pl n) h1); have H1 := ya h1; clear hb h1 hr hn ho; have hst0 := hS; have OK := ya ok; have hmf := rmf; clear hS ok; go_enter Tryz.func44, Tryz.ntmps44; go_wp2_with (first | (refine zbo hst0 fun g7 w1 hst1 => ?_; clear hst0) | (go_at_call 87; refine (jy ga dev pl _).mono ?_; rintro _ w2 ⟨g0, g1, g2, rfl, h4⟩; have hst2 := St.call hst1 h4; clear h4 hst1) | (go_at_call 89; refine (zW ga dev _).mono ?_; rintro _ w3 ⟨k0, k1, rfl, h4⟩; have hst3 := St.call hst2 h4; clear h4 hst2) | (refine za ([yi 46 (yc ga), yi 88 (yc ga), yh 138 [yc g0, yc g1, yc g2], yh 97 [yc g7], yh 139 [yc k0, yc k1], yi 98 (yc ga)]) ([yi 46 (yc ga), yi 88 (yc ga), yh 138 [yc g0, yc g1, yc g2], yh 97 [yc g7], yh 139 [yc k0, yc k1], yi 98 (yc ga)]) hst3 (h:=fun gs w4 hst4 => ?_); clear hst3) | (go_at_call 45; have hC := yak dev (v := .slice (some ⟨gs, 0, none⟩) 6 6) (n := 6) (fs := [yi 46 (yc ga), yi 88 (yc ga), yh 138 [yc g0, yc g1, yc g2], yh 97 [yc g7], yh 139 [yc k0, yc k1]]) (f9 := yi 98 (yc ga)) (es := jC a dev pl n) (e9 := a.stepE) (A := (fun w' => St w (yT ga x a) w' (([HA.blk gs 92 ([yi 46 (yc ga), yi 88 (yc ga), yh 138 [yc g0, yc g1, yc g2], yh 97 [yc g7], yh 139 [yc k0, yc k1], yi 98 (yc ga)]), .blk k1 3 [.int .i64 dev], .blk k0 23 [.pointer (some ⟨ga, 0, none⟩)], .blk g2 3 [.int .i64 pl], .blk g1 3 [.int .i64 dev], .blk g0 23 [.pointer (some ⟨ga, 0, none⟩)], .blk g7 28 [.slice ao n c]] : List HA) ++ yj ga x a))) (B := (fun w' => St w (yT ga x a) w' (([HA.blk gs 92 ([yi 46 (yc ga), yi 88 (yc ga), yh 138 [yc g0, yc g1, yc g2], yh 97 [yc g7], yh 139 [yc k0, yc k1], yi 98 (yc ga)]), .blk k1 3 [.int .i64 dev], .blk k0 23 [.pointer (some ⟨ga, 0, none⟩)], .blk g2 3 [.int .i64 pl], .blk g1 3 [.int .i64 dev], .blk g0 23 [.pointer (some ⟨ga, 0, none⟩)], .blk g7 28 [.slice ao n c]] : List HA) ++ yj ga x a.step))) w4 (fun _ h => Rd.blk h zH (Nat.le_refl _) (by decide) rfl rfl) rfl rfl (by decide) (yaI (fun _ h => ArrAt.of h (fun p hp => zR hp) OK.out.d0) yK (fun _ h => St.cell h (off := 0) (zT (zT (zT (zT (zT (zT zH)))))) rfl) (fun _ h => St.cell h (off := 0) (zT (zT (zT (zT (zT zH))))) rfl) (fun _ h => St.cell h (off := 0) (zT (zT (zT (zT zH)))) rfl) (fun _ h => St.cell h (off := 0) (zT (zT (zT zH))) rfl) (fun _ h => St.cell h (off := 0) (zT (zT zH)) rfl) (fun _ h => St.cell h (off := 0) (zT zH) rfl)) (fun _ => qB (L1 := ([HA.blk gs 92 ([yi 46 (yc ga), yi 88 (yc ga), yh 138 [yc g0, yc g1, yc g2], yh 97 [yc g7], yh 139 [yc k0, yc k1], yi 98 (yc ga)]), .blk k1 3 [.int .i64 dev], .blk k0 23 [.pointer (some ⟨ga, 0, none⟩)], .blk g2 3 [.int .i64 pl], .blk g1 3 [.int .i64 dev], .blk g0 23 [.pointer (some ⟨ga, 0, none⟩)], .blk g7 28 [.slice ao n c]] : List HA)) (ga := ga) (x := x) hs OK.out.fu) hst4; refine hC.mono ?_; rintro _ w5 hh; obtain ⟨rfl, h4⟩ := ybb H1.out hh; clear hC hh hst4; have hst5 := h4; clear h4; obtain ⟨E, hE⟩ : ∃ E, E = yt (jC a dev pl n) := ⟨_, rfl⟩; have HQ := ya hE; rw [← hE] at HE H1; rw [← hE]; clear hE) | (go_at_call 47; refine jc hst5 (jA E dev HE.out H1.out _) fun w6 hst6 => ?_; clear hst5)); go_ret; rw [← HQ]; exact ⟨rfl, x, St.sub hst6 zA⟩
theorem write_out (h1 : yt (jC a dev pl n) = 0) (h2 : a.fuse = 0) :
  Calls Tryz.prog 44 #[.pointer (some ⟨ga, 0, none⟩), .int .i64 dev, .int .i64 pl, .slice ao n c] w fun e w' => e = .returned (.int .i64 (a.writeE dev pl bs)) ∧ ∃ x', St w (yT ga x a) w' (yj ga x' (a.write dev pl bs)) := by
 have _ := hr; have _ := ho; have hb := write_ok (b := bs) (dev := dev) (pl := pl) ok.d0 (by rw [hn]; exact h1); have he : a.stepE = 10 := by unfold AR.stepE; rw [if_pos h2]
 rw [hb.2.2.2.2.1, hb.2.2.2.2.2, if_pos h2, he]; have H1 := ya h1; have HE := ya he; clear hb h1 h2 he hr hn ho; have hst0 := hS; have OK := ya ok; have hmf := rmf; clear hS ok; go_enter Tryz.func44, Tryz.ntmps44; go_wp2_with (first | (refine zbo hst0 fun g7 w1 hst1 => ?_; clear hst0) | (go_at_call 87; refine (jy ga dev pl _).mono ?_; rintro _ w2 ⟨g0, g1, g2, rfl, h4⟩; have hst2 := St.call hst1 h4; clear h4 hst1) | (go_at_call 89; refine (zW ga dev _).mono ?_; rintro _ w3 ⟨k0, k1, rfl, h4⟩; have hst3 := St.call hst2 h4; clear h4 hst2) | (refine za ([yi 46 (yc ga), yi 88 (yc ga), yh 138 [yc g0, yc g1, yc g2], yh 97 [yc g7], yh 139 [yc k0, yc k1], yi 98 (yc ga)]) ([yi 46 (yc ga), yi 88 (yc ga), yh 138 [yc g0, yc g1, yc g2], yh 97 [yc g7], yh 139 [yc k0, yc k1], yi 98 (yc ga)]) hst3 (h:=fun gs w4 hst4 => ?_); clear hst3) | (go_at_call 45; have hC := yak dev (v := .slice (some ⟨gs, 0, none⟩) 6 6) (n := 6) (fs := [yi 46 (yc ga), yi 88 (yc ga), yh 138 [yc g0, yc g1, yc g2], yh 97 [yc g7], yh 139 [yc k0, yc k1]]) (f9 := yi 98 (yc ga)) (es := jC a dev pl n) (e9 := a.stepE) (A := (fun w' => St w (yT ga x a) w' (([HA.blk gs 92 ([yi 46 (yc ga), yi 88 (yc ga), yh 138 [yc g0, yc g1, yc g2], yh 97 [yc g7], yh 139 [yc k0, yc k1], yi 98 (yc ga)]), .blk k1 3 [.int .i64 dev], .blk k0 23 [.pointer (some ⟨ga, 0, none⟩)], .blk g2 3 [.int .i64 pl], .blk g1 3 [.int .i64 dev], .blk g0 23 [.pointer (some ⟨ga, 0, none⟩)], .blk g7 28 [.slice ao n c]] : List HA) ++ yj ga x a))) (B := (fun w' => St w (yT ga x a) w' (([HA.blk gs 92 ([yi 46 (yc ga), yi 88 (yc ga), yh 138 [yc g0, yc g1, yc g2], yh 97 [yc g7], yh 139 [yc k0, yc k1], yi 98 (yc ga)]), .blk k1 3 [.int .i64 dev], .blk k0 23 [.pointer (some ⟨ga, 0, none⟩)], .blk g2 3 [.int .i64 pl], .blk g1 3 [.int .i64 dev], .blk g0 23 [.pointer (some ⟨ga, 0, none⟩)], .blk g7 28 [.slice ao n c]] : List HA) ++ yj ga x a.step))) w4 (fun _ h => Rd.blk h zH (Nat.le_refl _) (by decide) rfl rfl) rfl rfl (by decide) (yaI (fun _ h => ArrAt.of h (fun p hp => zR hp) OK.out.d0) yK (fun _ h => St.cell h (off := 0) (zT (zT (zT (zT (zT (zT zH)))))) rfl) (fun _ h => St.cell h (off := 0) (zT (zT (zT (zT (zT zH))))) rfl) (fun _ h => St.cell h (off := 0) (zT (zT (zT (zT zH)))) rfl) (fun _ h => St.cell h (off := 0) (zT (zT (zT zH))) rfl) (fun _ h => St.cell h (off := 0) (zT (zT zH)) rfl) (fun _ h => St.cell h (off := 0) (zT zH) rfl)) (fun _ => qB (L1 := ([HA.blk gs 92 ([yi 46 (yc ga), yi 88 (yc ga), yh 138 [yc g0, yc g1, yc g2], yh 97 [yc g7], yh 139 [yc k0, yc k1], yi 98 (yc ga)]), .blk k1 3 [.int .i64 dev], .blk k0 23 [.pointer (some ⟨ga, 0, none⟩)], .blk g2 3 [.int .i64 pl], .blk g1 3 [.int .i64 dev], .blk g0 23 [.pointer (some ⟨ga, 0, none⟩)], .blk g7 28 [.slice ao n c]] : List HA)) (ga := ga) (x := x) hs OK.out.fu) hst4; rw [HE] at hC; refine hC.mono ?_; rintro _ w5 hh; obtain ⟨rfl, h4⟩ := qL H1.out (by decide) hh; clear hC hh hst4; have hst5 := h4; clear h4) | (go_at_call 47; refine jc hst5 (jA 10 dev (by unfold isE; decide) (by decide) _) fun w6 hst6 => ?_; clear hst5)); go_ret; exact ⟨rfl, x, St.sub hst6 zA⟩
end
end
end
end Go.Proofs.YtmdfbdfijnmhkaaGreat
