import Derived.Test.YtmdfbdfijnmhkaaGreatSepY
namespace Go.Proofs.YtmdfbdfijnmhkaaGreat
set_option linter.unusedVariables false
set_option linter.unusedSimpArgs false
open Go.RowKit
namespace Hp
variable {P : Program}
section
variable {w0 w : World} {M : List Nat} {L1 L2 L : List HA} {p : Value → Bool} {v : Value} {T : TypeId} {sz n : Nat} {xs : List Value}
theorem St.toP (h : St w0 M w (L1 ++ .row v T sz n xs :: L2)) (hp : AllP p w v T) : St w0 M w (L1 ++ .rowP p v T sz n xs :: L2) := h.rep rfl fun h => ⟨h, hp⟩
theorem run_appP {u : Value} {m bytes : Nat} {ys : List Value} {t ty : TypeId} {e : TypeId} (hst : St w0 M w (L1 ++ .rowP p v e sz n xs :: L2)) (ht : P.underlying t = some (.slice e)) (he : tyE P e sz bytes = true) (hsz : 0 < sz)
    (hrd : Rd w u sz m ys) (h1 : ∀ u ∈ ys, u.oneCell' = true) (h63 : n + m ≤ maxLen) (hbytes : (n + m) * bytes ≤ 140737488355328) (hz : ∀ cs, tyZ P e = some cs → cs.all p = true) (hy : ys.all p = true) :
    ∃ v' w', (Builtin.append_ #[t, t] ty #[v, u]).run P w = .ok v' w' ∧ St w0 M w' (L1 ++ .rowP p v' e sz (n + m) (xs ++ ys) :: L2) ∧ (v' = .slice none 0 0 ↔ v = .slice none 0 0 ∧ m = 0) := by
  obtain ⟨v', w', hr, h2, h3, h4⟩ := run_append (P := P) (t := t) (ty := ty) hst.unP ht he hsz hrd h1 h63 hbytes
  exact ⟨v', w', hr, h2.toP (h4 p hz (hst.ownsP (p := p) (v := v) (T := e) (sz := sz) (n := n) (xs := xs) (by simp)).2 hy), h3⟩
end
section
variable {ops : Array Oper} {rest : List Oper} {o : Oper} {a : Act} {w0 w : World} {M : List Nat} {Q : Exit → Act → World → Prop}
theorem wl_appP {s x : Operand} {t t' e : TypeId} {p : Value → Bool} {v u : Value} {sz bytes n m : Nat} {xs ys zs : List Value} (L1 : List HA) {L2 : List HA} (hst : St w0 M w (L1 ++ .rowP p v e sz n xs :: L2))
    (hop : o.op = .call { callee := .builtin .append, args := #[s, x], argTypes := #[t, t'] }) (hw : Region.wanted o (yielded ops a.tmps) = true) (hs : a.eval s = v) (hx : a.eval x = u)
    (ht : TySl P t e) (ht' : TySl P t' e) (he : TyE P e sz bytes) (hzz : TyZ P e zs) (hrd : Rd w u sz m ys) (h1 : ys.all (·.oneCell') = true) (hzp : zs.all p = true) (hy : ys.all p = true) (hb : 0 < sz ∧ n + m ≤ maxLen ∧ (n + m) * bytes ≤ 140737488355328)
    (h : ∀ v' w', St w0 M w' (L1 ++ .rowP p v' e sz (n + m) (xs ++ ys) :: L2) → (v' = .slice none 0 0 ↔ v = .slice none 0 0 ∧ m = 0) → wpList P ops Q rest (a.put o.dst v') w') : wpList P ops Q (o :: rest) a w := by
  obtain ⟨v', w', hr, h2, h3⟩ := run_appP (P := P) (t := t) (ty := o.type) hst ht.out he.out hb.1 hrd (all_ones h1) hb.2.1 hb.2.2 (fun cs h => by rw [hzz.out] at h; cases h; exact hzp) hy
  refine wl_run hw ?_ (h v' w' h2 h3)
  unfold execOp
  simp only [hop, resolve, invoke, builtin, Sem.run_bind, Sem.run_pure, Result.andThen_ok, List.map_toArray, List.map_cons, List.map_nil, hs, hx]
  rw [run_append_types ht.out ht'.out, hr]
  rfl
theorem ow_appP {K : Act → World → Prop} {s x : Operand} {t t' e : TypeId} {p : Value → Bool} {v u : Value} {sz bytes n m : Nat} {xs ys zs : List Value} (L1 : List HA) {L2 : List HA} (hst : St w0 M w (L1 ++ .rowP p v e sz n xs :: L2))
    (hop : o.op = .call { callee := .builtin .append, args := #[s, x], argTypes := #[t, t'] }) (hs : a.eval s = v) (hx : a.eval x = u)
    (ht : TySl P t e) (ht' : TySl P t' e) (he : TyE P e sz bytes) (hzz : TyZ P e zs) (hrd : Rd w u sz m ys) (h1 : ys.all (·.oneCell') = true) (hzp : zs.all p = true) (hy : ys.all p = true) (hb : 0 < sz ∧ n + m ≤ maxLen ∧ (n + m) * bytes ≤ 140737488355328)
    (h : ∀ v' w', St w0 M w' (L1 ++ .rowP p v' e sz (n + m) (xs ++ ys) :: L2) → (v' = .slice none 0 0 ↔ v = .slice none 0 0 ∧ m = 0) → K (a.put o.dst v') w') : o.wp P a w K Q := by
  obtain ⟨v', w', hr, h2, h3⟩ := run_appP (P := P) (t := t) (ty := o.type) hst ht.out he.out hb.1 hrd (all_ones h1) hb.2.1 hb.2.2 (fun cs h => by rw [hzz.out] at h; cases h; exact hzp) hy
  refine ow_run ?_ (h v' w' h2 h3)
  unfold execOp
  simp only [hop, resolve, invoke, builtin, Sem.run_bind, Sem.run_pure, Result.andThen_ok, List.map_toArray, List.map_cons, List.map_nil, hs, hx]
  rw [run_append_types ht.out ht'.out, hr]
  rfl
end
theorem ow_alloc {o : Oper} {a : Act} {w0 w : World} {M : List Nat} {L : List HA} {K : Act → World → Prop} {Q : Exit → Act → World → Prop} {T : TypeId} {cs : List Value} (hst : St w0 M w L) (hop : o.op = .alloc T) (hzc : TyZ P T cs)
    (h : ∀ g w', St w0 M w' (.blk g T cs :: L) → K (a.put o.dst (.pointer (some ⟨g, 0, none⟩))) w') : o.wp P a w K Q := by
  refine ow_run ?_ (h _ _ (hst.alloc T cs))
  have hz := hzc.out
  unfold tyZ at hz
  cases hi : P.info? T with
  | none => simp [hi] at hz
  | some i =>
    cases hzz : i.zero with
    | none => simp [hi, hzz] at hz
    | some z =>
      have hc : z.cells.toList = cs := by simpa [hi, hzz] using hz
      subst hc
      unfold execOp
      simp [hop, Instr.alloc, zeroValue, typeInfo, hi, hzz, newVar, newRow]
theorem St.toRowP {w0 w : World} {M : List Nat} {L : List HA} {T : TypeId} {g n cap sz : Nat} {cs : List Value} (p : Value → Bool) (hst : St w0 M w (.blk g T cs :: L)) (hl : cs.length = cap * sz) (hn : n ≤ cap) (hc : cap ≤ 9223372036854775807) (hp : cs.all p = true) :
    St w0 M w (.rowP p (.slice (some ⟨g, 0, none⟩) n cap) T sz n (cs.take (n * sz)) :: L) := by
  have h1 := hst.toRow hl hn hc
  refine St.toP (L1 := []) h1 fun g' cs' hg hc' => ?_
  simp only [Value.ownBlock, Option.some.injEq] at hg
  subst hg
  have hb : w.heap[g]? = some (.cells cs.toArray T (0, 0)) := hst.all _ (.head _)
  rw [hb] at hc'
  simp only [Option.some.injEq, Obj.cells.injEq] at hc'
  obtain ⟨rfl, _⟩ := hc'
  simpa using hp
theorem Rd.rowP {w0 w : World} {M : List Nat} {L : List HA} {p : Value → Bool} {v : Value} {T : TypeId} {sz n : Nat} {xs : List Value} (hst : St w0 M w L) (hm : HA.rowP p v T sz n xs ∈ L) : Rd w v sz n xs := by
  have hh := (hst.ownsP hm).1
  obtain ⟨L1, L2, rfl⟩ := List.append_of_mem hm
  exact Rd.row (T := T) hst.unP (by simp)
def isB (v : Value) : Bool := match v with
  | .int .u8 z => decide (0 ≤ z) && decide (z < 256)
  | _ => false
theorem isB_bytes (l : List UInt8) : (bytesV l).all isB = true := by
  rw [List.all_eq_true]
  intro v hv
  simp only [bytesV, List.mem_map] at hv
  obtain ⟨x, _, rfl⟩ := hv
  have := x.toNat_lt
  simp [isB]
  omega
end Hp
end Go.Proofs.YtmdfbdfijnmhkaaGreat
