import Derived.Test.YtmdfbdfijnmhkaaGreatSepW
import Derived.Laws.CopyRow
namespace Go.Proofs.YtmdfbdfijnmhkaaGreat
set_option linter.unusedVariables false
set_option linter.unusedSimpArgs false
open Go.RowKit
namespace Hp
section
variable {P : Program}
section
variable {w0 w : World} {M : List Nat} {L1 L2 : List HA} {v : Value} {e : TypeId} {sz n : Nat} {xs : List Value}
theorem St.row_swap {w' : World} {v' : Value} {n' : Nat} {xs' : List Value} {row : Option Nat} (hst : St w0 M w (L1 ++ .row v e sz n xs :: L2)) (hg : w.grownBy w' row) (hrow : row = v.ownBlock)
    (hown : w'.ownsRow 0 e sz v' n' xs') (hnew : v'.ownBlock = v.ownBlock ∨ ∀ k, v'.ownBlock = some k → w.heap.size ≤ k) : St w0 M w' (L1 ++ .row v' e sz n' xs' :: L2) := by
  subst hrow
  have hmem : HA.row v e sz n xs ∈ L1 ++ .row v e sz n xs :: L2 := by simp
  have hvo := hst.own _ hmem
  have hap := hst.apart
  unfold Apart at hap
  rw [List.pairwise_append, List.pairwise_cons] at hap
  have hother : ∀ x, x ∈ L1 ∨ x ∈ L2 → ∀ k, x.foot = some k → some k ≠ v.ownBlock := by
    rintro x (hx | hx) k hk he
    · exact hap.2.2 x hx (.row v e sz n xs) (by simp) k hk he.symm
    · exact hap.2.1.1 x hx k he.symm hk
  have hlt : ∀ x, x ∈ L1 ∨ x ∈ L2 → ∀ k, x.foot = some k → k < w.heap.size := by
    rintro x hx k hk
    exact hst.lt (x := x) (by rcases hx with hx | hx <;> simp [hx]) hk
  have hv' : ∀ k, v'.ownBlock = some k → v.ownBlock = some k ∨ w.heap.size ≤ k := by
    intro k hk
    rcases hnew with h | h
    · exact .inl (h ▸ hk)
    · exact .inr (h k hk)
  refine ⟨hg.os.trans hst.os, hg.tape.trans hst.tape, hg.output.trans hst.output, Nat.le_trans hst.size hg.size, fun k hk hM => ?_, fun x hx => ?_, fun x hx k hk => ?_, ?_⟩
  · refine (hg.block k (Nat.lt_of_lt_of_le hk hst.size) (fun he => ?_)).trans (hst.old k hk hM)
    rcases hvo k he.symm with h1 | h1
    · omega
    · exact hM h1
  · rcases List.mem_append.1 hx with hx | hx
    · exact HA.keep (hst.all x (by simp [hx])) fun k hk => hg.block k (hlt x (.inl hx) k hk) (hother x (.inl hx) k hk)
    · rcases List.mem_cons.1 hx with rfl | hx
      · exact hown
      · exact HA.keep (hst.all x (by simp [hx])) fun k hk => hg.block k (hlt x (.inr hx) k hk) (hother x (.inr hx) k hk)
  · rcases List.mem_append.1 hx with hx | hx
    · exact hst.own x (by simp [hx]) k hk
    · rcases List.mem_cons.1 hx with rfl | hx
      · rcases hv' k hk with h1 | h1
        · exact hvo k h1
        · exact .inl (Nat.le_trans hst.size h1)
      · exact hst.own x (by simp [hx]) k hk
  · unfold Apart
    rw [List.pairwise_append, List.pairwise_cons]
    refine ⟨hap.1, ⟨fun y hy k hk hk' => ?_, hap.2.1.2⟩, fun x hx y hy k hk hk' => ?_⟩
    · rcases hv' k hk with h1 | h1
      · exact hother y (.inr hy) k hk' h1.symm
      · have := hlt y (.inr hy) k hk'; omega
    · rcases List.mem_cons.1 hy with rfl | hy
      · rcases hv' k hk' with h1 | h1
        · exact hother x (.inl hx) k hk h1.symm
        · have := hlt x (.inl hx) k hk; omega
      · exact hap.2.2 x hx y (by simp [hy]) k hk hk'
theorem all_zeroCells {p : Value → Bool} {z : Array Value} (h : z.toList.all p = true) : ∀ k, (Builtin.zeroCells z k).toList.all p = true := by
  intro k
  rw [List.all_eq_true] at h ⊢
  intro x hx
  unfold Builtin.zeroCells at hx
  simp only [Array.toList_map, Array.toList_range, List.mem_map, List.mem_range] at hx
  obtain ⟨i, hi, rfl⟩ := hx
  have hz : 0 < z.size := by
    rcases Nat.eq_zero_or_pos z.size with h0 | h0
    · rw [h0] at hi; simp at hi
    · exact h0
  have hlt := Nat.mod_lt i hz
  rw [getElem!_pos z _ hlt]
  exact h _ (by simp)
theorem run_append {u : Value} {m bytes : Nat} {ys : List Value} {t ty : TypeId} (hst : St w0 M w (L1 ++ .row v e sz n xs :: L2)) (ht : P.underlying t = some (.slice e)) (he : tyE P e sz bytes = true) (hsz : 0 < sz)
    (hrd : Rd w u sz m ys) (h1 : ∀ u ∈ ys, u.oneCell' = true) (h63 : n + m ≤ maxLen) (hbytes : (n + m) * bytes ≤ 140737488355328) :
    ∃ v' w', (Builtin.append_ #[t, t] ty #[v, u]).run P w = .ok v' w' ∧ St w0 M w' (L1 ++ .row v' e sz (n + m) (xs ++ ys) :: L2) ∧ (v' = .slice none 0 0 ↔ v = .slice none 0 0 ∧ m = 0) ∧
      (∀ p : Value → Bool, (∀ cs, tyZ P e = some cs → cs.all p = true) → AllP p w v e → ys.all p = true → AllP p w' v' e) := by
  obtain ⟨i, z, hi, hz, hs, hb, hzs⟩ := tyE_spec he
  have hown : w.ownsRow 0 e sz v n xs := hst.all (.row v e sz n xs) (by simp)
  have hrd3 : (u = .slice none 0 0 ∧ m = 0 ∧ ys = []) ∨ ∃ A c, u = .slice (some A) m c ∧ ys.length = m * sz ∧ ∀ j u, ys[j]? = some u → w.cell? (A.add j) = some u := by
    rcases hrd.cases with h | ⟨A, rfl, rfl, rfl⟩ | ⟨b, off, c, rfl, hmc, hcm, hyl, hr⟩
    · exact .inl h
    · exact .inr ⟨A, 0, rfl, by simp, fun j u hu => by cases hu⟩
    · exact .inr ⟨_, c, rfl, hyl, fun j u hu => by rw [Addr.add_mid]; exact hr j u hu⟩
  rcases hrd3 with ⟨rfl, rfl, rfl⟩ | ⟨AA, c, rfl, hyl, hnews⟩
  · have hrun := run_append_owned_none (P := P) w 0 t ty e i sz ht hi v n xs hown
    refine ⟨v, w, hrun, by simpa using hst, by simp, fun p _ h _ => h⟩
  · skip
    subst hs; subst hb
    have hlen : (xs ++ ys).length = (n + m) * i.size := by rw [List.length_append, hown.1, hyl, Nat.add_mul]
    have newP : ∀ (old : Nat) (p : Value → Bool), (∀ cs, tyZ P e = some cs → cs.all p = true) → xs.all p = true → ys.all p = true →
        AllP p (w.drew.alloc (.cells (xs.toArray ++ ys.toArray ++ Builtin.zeroCells z.cells (grownCap w (n + m) old e - (n + m))) e)) (.slice (some ⟨w.heap.size, 0, none⟩) (n + m) (grownCap w (n + m) old e)) e := by
      intro old p hz0 hx hy g cs hg hc
      simp only [Value.ownBlock, Option.some.injEq] at hg
      subst hg
      have h2 : (w.drew.alloc (.cells (xs.toArray ++ ys.toArray ++ Builtin.zeroCells z.cells (grownCap w (n + m) old e - (n + m))) e)).heap[w.heap.size]? = _ := heap_alloc_new w.drew _
      rw [h2] at hc
      simp only [Option.some.injEq, Obj.cells.injEq] at hc
      obtain ⟨rfl, _⟩ := hc
      have hzz : z.cells.toList.all p = true := hz0 _ (by unfold tyZ; rw [hi]; simp [hz])
      simp only [Array.toList_append, List.all_append, hx, hy, Bool.true_and]
      exact all_zeroCells hzz _
    have grown : ∀ (old : Nat), old < n + m → ∀ (row : Option Nat),
        (w.drew.alloc (.cells (xs.toArray ++ ys.toArray ++ Builtin.zeroCells z.cells (grownCap w (n + m) old e - (n + m))) e)).ownsRow 0 e i.size
          (.slice (some ⟨w.heap.size, 0, none⟩) (n + m) (grownCap w (n + m) old e)) (n + m) (xs ++ ys) ∧
        w.grownBy (w.drew.alloc (.cells (xs.toArray ++ ys.toArray ++ Builtin.zeroCells z.cells (grownCap w (n + m) old e - (n + m))) e)) row := by
      intro old ho row
      have hge := grownCap_ge w (n + m) old e
      have hcm : grownCap w (n + m) old e ≤ maxLen := grownCap_le_maxLen w (n + m) old e h63
      refine ⟨⟨hlen, .inr ⟨w.heap.size, _, _, rfl, Nat.zero_le _, heap_alloc_new w.drew _, hge, hcm, ?_, ?_⟩⟩, ⟨rfl, rfl, rfl, by simp, fun k hk _ => heap_alloc_old w.drew _ hk⟩⟩
      · simp only [Array.size_append, List.size_toArray, size_zeroCells, hzs, hown.1, hyl, ← Nat.add_mul]
        congr 1
        omega
      · simp only [Array.toList_append, List.append_assoc]
        rw [← List.append_assoc, ← hlen]
        exact List.take_left
    rcases hown.2 with ⟨rfl, rfl⟩ | ⟨g, cap, cur, rfl, hbg, hg, hnc, hcm', hcs, htake⟩
    · have hx : xs = [] := List.eq_nil_of_length_eq_zero (by simpa using hown.1)
      subst hx
      by_cases hm : m = 0
      · subst hm
        have hn : ys = [] := List.eq_nil_of_length_eq_zero (by simpa using hyl)
        subst hn
        refine ⟨.slice none 0 0, w, ?_, by simpa using hst, by simp, fun p _ h _ => h⟩
        simp [Builtin.append_, run_underlying ht, sizeOf, typeInfo, hi, Builtin.lenOf, Builtin.firstCells, loadCells, loadCellsFrom]
      · have hrun := run_append_nil (P := P) w t ty e i z ht hi hz AA m c ys hyl hnews (by omega) (by simp only [maxLen] at h63; omega) (by have hb := hbytes; simp only [Nat.zero_add] at hb; omega)
        have hgr := grown 0 (by omega) (Value.ownBlock (.slice none 0 0))
        have hnp := newP 0
        simp only [Nat.zero_add, List.nil_append, Array.empty_append] at hgr hnp ⊢
        exact ⟨_, _, hrun, hst.row_swap hgr.2 rfl hgr.1 (.inr fun k hk => by simp [Value.ownBlock] at hk; omega), by simp [hm], fun p h0 _ h2 => hnp p h0 rfl h2⟩
    · by_cases hroom : n + m ≤ cap
      · have hfit : n * i.size + ys.length ≤ cur.size := by rw [hyl, hcs, ← Nat.add_mul]; exact Nat.mul_le_mul_right _ hroom
        have hrun := run_append_room (P := P) w t ty e i ht hi g n cap cur hg AA m c ys hyl hnews h1 hroom hfit
        refine ⟨_, _, hrun, hst.row_swap (row := some g) ⟨rfl, rfl, rfl, by simp, fun k _ hk => setRow_other w g k _ (fun e => hk (by simp [e]))⟩ rfl ⟨hlen, .inr ⟨g, cap, _, rfl, hbg, setRow_heap w g cur _ e _ hg, hroom, hcm', ?_, ?_⟩⟩ (.inl rfl), by simp, fun p _ h2 h3 => ?_⟩
        · simp only [List.size_toArray, List.length_append, List.length_take, List.length_drop, Array.length_toList]
          omega
        · rw [htake, ← hlen]
          exact List.take_left
        · intro g' cs hg' hc
          simp only [Value.ownBlock, Option.some.injEq] at hg'
          subst hg'
          rw [setRow_heap w g cur _ e _ hg] at hc
          simp only [Option.some.injEq, Obj.cells.injEq] at hc
          obtain ⟨rfl, _⟩ := hc
          have hcur := h2 g cur rfl hg
          rw [List.all_eq_true] at hcur
          rw [List.all_append, List.all_append, h3, Bool.and_true, Bool.and_eq_true, List.all_eq_true, List.all_eq_true]
          exact ⟨fun x hx => hcur x (List.mem_of_mem_take hx), fun x hx => hcur x (List.mem_of_mem_drop hx)⟩
      · have holds : ∀ j u, xs[j]? = some u → w.cell? ((⟨g, 0, none⟩ : Addr).add j) = some u := hown.cells (g := g) rfl
        have hrun := run_append_grow (P := P) w t ty e i z ht hi hz ⟨g, 0, none⟩ n cap xs hown.1 holds AA m c ys hyl hnews (by omega) (by simp only [maxLen] at h63; omega) (growslice_fits (by omega) hbytes)
        have hgr := grown cap (by omega) (Value.ownBlock (.slice (some ⟨g, 0, none⟩) n cap))
        refine ⟨_, _, hrun, hst.row_swap hgr.2 rfl hgr.1 (.inr fun k hk => by simp [Value.ownBlock] at hk; omega), by simp, fun p h0 h2 h3 => newP cap p h0 ?_ h3⟩
        have hcur := h2 g cur rfl hg
        rw [List.all_eq_true] at hcur ⊢
        rw [← htake]
        exact fun x hx => hcur x (List.mem_of_mem_take hx)
end
theorem run_append_types {w : World} {t t' ty e : TypeId} {v u : Value} (ht : P.underlying t = some (.slice e)) (ht' : P.underlying t' = some (.slice e)) :
    (Builtin.append_ #[t, t'] ty #[v, u]).run P w = (Builtin.append_ #[t, t] ty #[v, u]).run P w := by
  simp only [Builtin.append_, List.getElem?_toArray, List.getElem?_cons_zero, List.getElem?_cons_succ, Sem.run_bind, run_underlying ht, Result.andThen_ok]
  cases v with
  | slice b n c =>
    simp only [Sem.run_bind]
    generalize (sizeOf e).run P w = r
    cases r with
    | halt h w1 => rfl
    | ok s w1 => simp only [Result.andThen_ok, Sem.run_bind, run_underlying ht, run_underlying ht', Sem.run_pure]
  | _ => rfl
section
variable {ops : Array Oper} {rest : List Oper} {o : Oper} {a : Act} {w0 w : World} {M : List Nat} {Q : Exit → Act → World → Prop}
theorem wl_append {s x : Operand} {t t' e : TypeId} {v u : Value} {sz bytes n m : Nat} {xs ys : List Value} (L1 : List HA) {L2 : List HA} (hst : St w0 M w (L1 ++ .row v e sz n xs :: L2))
    (hop : o.op = .call { callee := .builtin .append, args := #[s, x], argTypes := #[t, t'] }) (hw : Region.wanted o (yielded ops a.tmps) = true) (hs : a.eval s = v) (hx : a.eval x = u)
    [ht : TySl P t e] [ht' : TySl P t' e] [he : TyE P e sz bytes] (hrd : Rd w u sz m ys) (h1 : ∀ u ∈ ys, u.oneCell' = true) (hb : 0 < sz ∧ n + m ≤ maxLen ∧ (n + m) * bytes ≤ 140737488355328)
    (h : ∀ v' w', St w0 M w' (L1 ++ .row v' e sz (n + m) (xs ++ ys) :: L2) → (v' = .slice none 0 0 ↔ v = .slice none 0 0 ∧ m = 0) → wpList P ops Q rest (a.put o.dst v') w') : wpList P ops Q (o :: rest) a w := by
  obtain ⟨v', w', hr, h2, h3, h4⟩ := run_append (P := P) (t := t) (ty := o.type) hst ht.out he.out hb.1 hrd h1 hb.2.1 hb.2.2
  refine wl_run hw ?_ (h v' w' h2 h3)
  unfold execOp
  simp only [hop, resolve, invoke, builtin, Sem.run_bind, Sem.run_pure, Result.andThen_ok, List.map_toArray, List.map_cons, List.map_nil, hs, hx]
  rw [run_append_types ht.out ht'.out, hr]
  rfl
end
theorem all_ones {ys : List Value} (h : ys.all (·.oneCell') = true) : ∀ u ∈ ys, u.oneCell' = true := List.all_eq_true.1 h
theorem ones_bytesV (l : List UInt8) : (bytesV l).all (·.oneCell') = true := by
  rw [List.all_eq_true]; intro u hu
  simp only [bytesV, List.mem_map] at hu
  obtain ⟨x, _, rfl⟩ := hu; rfl
theorem Rd.blk0 {w0 w : World} {M : List Nat} {L : List HA} {T : TypeId} {g n sz : Nat} {cs : List Value} (hst : St w0 M w (.blk g T cs :: L)) (hl : cs.length = n * sz) (hn : n ≤ 9223372036854775807) : Rd w (.slice (some ⟨g, 0, none⟩) n n) sz n cs :=
  Rd.blk hst (.head _) (Nat.le_refl _) (by unfold maxLen; omega) hl (by simp)
theorem wl_appX {ops : Array Oper} {rest : List Oper} {o : Oper} {a : Act} {w0 w : World} {M : List Nat} {Q : Exit → Act → World → Prop} {s x : Operand} {t t' e : TypeId} {v u : Value} {sz bytes n m : Nat} {xs ys : List Value} (L1 : List HA) {L2 : List HA} (hst : St w0 M w (L1 ++ .row v e sz n xs :: L2))
    (hop : o.op = .call { callee := .builtin .append, args := #[s, x], argTypes := #[t, t'] }) (hw : Region.wanted o (yielded ops a.tmps) = true) (hs : a.eval s = v) (hx : a.eval x = u)
    (_ht : TySl P t e) (_ht' : TySl P t' e) (_he : TyE P e sz bytes) (hrd : Rd w u sz m ys) (h1 : ys.all (·.oneCell') = true) (hb : 0 < sz ∧ n + m ≤ maxLen ∧ (n + m) * bytes ≤ 140737488355328)
    (h : ∀ v' w', St w0 M w' (L1 ++ .row v' e sz (n + m) (xs ++ ys) :: L2) → (v' = .slice none 0 0 ↔ v = .slice none 0 0 ∧ m = 0) → wpList P ops Q rest (a.put o.dst v') w') : wpList P ops Q (o :: rest) a w :=
  wl_append L1 hst hop hw hs hx hrd (all_ones h1) hb h
theorem St.toRow {w0 w : World} {M : List Nat} {L : List HA} {T : TypeId} {g n cap sz : Nat} {cs : List Value} (hst : St w0 M w (.blk g T cs :: L)) (hl : cs.length = cap * sz) (hn : n ≤ cap) (hc : cap ≤ 9223372036854775807) :
    St w0 M w (.row (.slice (some ⟨g, 0, none⟩) n cap) T sz n (cs.take (n * sz)) :: L) := by
  have hap := hst.apart
  unfold Apart at hap
  rw [List.pairwise_cons] at hap
  have hnl : n * sz ≤ cs.length := by rw [hl]; exact Nat.mul_le_mul_right _ hn
  refine ⟨hst.os, hst.tape, hst.output, hst.size, hst.old, fun x hx => ?_, fun x hx k hk => ?_, ?_⟩
  · rcases List.mem_cons.1 hx with rfl | hx
    · refine ⟨by simp; omega, .inr ⟨g, cap, cs.toArray, rfl, Nat.zero_le _, hst.all _ (.head _), hn, by unfold maxLen; omega, by simpa using hl, by simp⟩⟩
    · exact hst.all x (.tail _ hx)
  · rcases List.mem_cons.1 hx with rfl | hx
    · exact hst.own _ (.head _) k hk
    · exact hst.own x (.tail _ hx) k hk
  · unfold Apart
    rw [List.pairwise_cons]
    exact ⟨fun y hy k hk => hap.1 y hy k hk, hap.2⟩
theorem ow_run {o : Oper} {a : Act} {w w' : World} {K : Act → World → Prop} {Q : Exit → Act → World → Prop} {v : Value} (hr : (execOp a.eval o).run P w = .ok (.value v) w') (h : K (a.put o.dst v) w') : o.wp P a w K Q := by
  unfold Oper.wp
  rw [hr]; exact h
theorem run_copy_st {w0 w : World} {M : List Nat} {L1 L2 : List HA} {g off n c m : Nat} {T e t t' ty : TypeId} {cs xs : List Value} {u : Value} {bytes : Nat} (hst : St w0 M w (L1 ++ .blk g T cs :: L2)) (ht : P.underlying t = some (.slice e)) (he : tyE P e 1 bytes = true)
    (hrd : Rd w u 1 m xs) (h1 : xs.all (·.oneCell') = true) (hm : m ≤ n) (hf : off + m ≤ cs.length) :
    (Builtin.copy_ #[t, t'] ty #[.slice (some ⟨g, off, none⟩) n c, u]).run P w = .ok (.int .i64 m) (w.setRow g (putAt cs off xs).toArray) := by
  obtain ⟨i, z, hi, hz, hs, hb, hzs⟩ := tyE_spec he
  have hg : w.heap[g]? = some (.cells cs.toArray T (0, 0)) := hst.all (.blk g T cs) (by simp)
  have hrd3 : (u = .slice none 0 0 ∧ m = 0 ∧ xs = []) ∨ ∃ A c, u = .slice (some A) m c ∧ xs.length = m * 1 ∧ ∀ j u, xs[j]? = some u → w.cell? (A.add j) = some u := by
    rcases hrd.cases with h | ⟨A, rfl, rfl, rfl⟩ | ⟨b, off, c, rfl, hmc, hcm, hyl, hr⟩
    · exact .inl h
    · exact .inr ⟨A, 0, rfl, by simp, fun j u hu => by cases hu⟩
    · exact .inr ⟨_, c, rfl, hyl, fun j u hu => by rw [Addr.add_mid]; exact hr j u hu⟩
  rcases hrd3 with ⟨rfl, rfl, rfl⟩ | ⟨AA, c', rfl, hyl, hnews⟩
  · rw [run_copy_nil (P := P) w t t' ty e ⟨g, off, none⟩ n c ht (by rw [hi]; rfl)]
    have : putAt cs off [] = cs := by simp [putAt]
    rw [this, setRow_self w g cs.toArray T (0, 0) hg]; rfl
  · rw [Nat.mul_one] at hyl
    rw [run_copy_row (P := P) w t t' ty e g off n c AA m c' cs.toArray T xs ht (by rw [hi]; simp [hs]) hg (by rw [hyl]; exact (Nat.min_eq_left hm).symm) hnews (by simpa [hyl] using hf) (all_ones h1)]
    simp [putAt, goInt, hyl]
theorem wl_copy {ops : Array Oper} {rest : List Oper} {o : Oper} {a : Act} {w0 w : World} {M : List Nat} {Q : Exit → Act → World → Prop} {d x : Operand} {g off n c m bytes : Nat} {T e t t' : TypeId} {cs xs : List Value} {u : Value} (L1 : List HA) {L2 : List HA} (hst : St w0 M w (L1 ++ .blk g T cs :: L2))
    (hop : o.op = .call { callee := .builtin .copy, args := #[d, x], argTypes := #[t, t'] }) (hw : Region.wanted o (yielded ops a.tmps) = true) (hd : a.eval d = .slice (some ⟨g, off, none⟩) n c) (hx : a.eval x = u)
    (ht : TySl P t e) (he : TyE P e 1 bytes) (hrd : Rd w u 1 m xs) (h1 : xs.all (·.oneCell') = true) (hm : m ≤ n) (hf : off + m ≤ cs.length)
    (h : ∀ w', St w0 M w' (L1 ++ .blk g T (putAt cs off xs) :: L2) → wpList P ops Q rest (a.put o.dst (.int .i64 m)) w') : wpList P ops Q (o :: rest) a w := by
  refine wl_run hw ?_ (h _ (hst.setRow _))
  unfold execOp
  simp only [hop, resolve, invoke, builtin, Sem.run_bind, Sem.run_pure, Result.andThen_ok, List.map_toArray, List.map_cons, List.map_nil, hd, hx]
  rw [run_copy_st hst ht.out he.out hrd h1 hm hf]
  rfl
theorem eqItems_bytes {w : World} {e : TypeId} (he : P.underlying e = some (.int .u8)) (d : Nat) (l k : List UInt8) : ∀ (m s : Nat), l.length = s + m → k.length = s + m →
    (Op.eqItems (d + 1) e 1 (bytesV l).toArray (bytesV k).toArray (List.range' s m)).run P w = .ok (l.drop s == k.drop s) w
  | 0, s, h1, h2 => by
    rw [List.drop_of_length_le (by omega), List.drop_of_length_le (by omega)]
    simp [Op.eqItems]
  | m + 1, s, h1, h2 => by
    have hagg : (isAgg e).run P w = .ok false w := by
      unfold isAgg
      rw [Sem.run_bind, run_underlying he w]
      simp
    have hp : ∀ q : List UInt8, s < q.length → (part e (bytesV q).toArray (s * 1)).run P w = .ok (.int .u8 ((q.getD s 0).toNat)) w := by
      intro q hq
      unfold part
      rw [Sem.run_bind, hagg]
      have : (bytesV q).toArray[s * 1]? = some (.int .u8 ((q.getD s 0).toNat)) := by simp [bytesV, List.getD, hq]
      simp only [Result.andThen_ok, Bool.false_eq_true, if_false, this]
      rfl
    have ih := eqItems_bytes (w := w) he d l k m (s + 1) (by omega) (by omega)
    have hl : l.drop s = l.getD s 0 :: l.drop (s + 1) := by rw [List.drop_eq_getElem_cons (by omega)]; simp [List.getD, show s < l.length by omega]
    have hk : k.drop s = k.getD s 0 :: k.drop (s + 1) := by rw [List.drop_eq_getElem_cons (by omega)]; simp [List.getD, show s < k.length by omega]
    rw [hl, hk]
    simp only [List.range'_succ, Op.eqItems, Sem.run_bind, hp l (by omega), hp k (by omega), Result.andThen_ok, run_equalIn_int w d e .u8 .u8 _ _ he]
    have hbeq : (((l.getD s 0).toNat : Int) == ((k.getD s 0).toNat : Int)) = (l.getD s 0 == k.getD s 0) := by
      rw [Bool.eq_iff_iff]
      simp only [beq_iff_eq, Int.natCast_inj]
      exact UInt8.toNat_inj
    rw [hbeq, List.cons_beq_cons]
    cases hb : (l.getD s 0 == k.getD s 0)
    · simp
    · simp [ih]
class TyArr (P : Program) (T : TypeId) (n e : outParam Nat) : Prop where
  out : P.underlying T = some (.array n e) ∧ P.underlying e = some (.int .u8) ∧ (P.info? e).map (·.size) = some 1 ∧ P.eqGuardType P.depth T = false
theorem run_eql_bytes {w : World} {T : TypeId} {n e : Nat} (h : TyArr P T n e) (l k : List UInt8) (hl : l.length = n) (hk : k.length = n) :
    (binOp .eql T (.agg (bytesV l).toArray) (.agg (bytesV k).toArray)).run P w = .ok (.bool (l == k)) w := by
  obtain ⟨h1, h2, h3, _⟩ := h.out
  cases hi : P.info? e with
  | none => simp [hi] at h3
  | some i =>
    have hc : P.cellsOf e = 1 := by unfold Program.cellsOf; rw [hi] at h3 ⊢; simpa using h3
    rw [run_eql_struct]
    rw [run_equalIn_array w 9999 _ _ h1 hi, hc, List.range_eq_range', eqItems_bytes h2 9998 l k n 0 (by omega) (by omega)]
    rfl
theorem run_neq_bytes {w : World} {T : TypeId} {n e : Nat} (h : TyArr P T n e) (l k : List UInt8) (hl : l.length = n) (hk : k.length = n) :
    (binOp .neq T (.agg (bytesV l).toArray) (.agg (bytesV k).toArray)).run P w = .ok (.bool (!(l == k))) w := by
  obtain ⟨h1, h2, h3, _⟩ := h.out
  cases hi : P.info? e with
  | none => simp [hi] at h3
  | some i =>
    have hc : P.cellsOf e = 1 := by unfold Program.cellsOf; rw [hi] at h3 ⊢; simpa using h3
    rw [run_neq_struct]
    rw [run_equalIn_array w 9999 _ _ h1 hi, hc, List.range_eq_range', eqItems_bytes h2 9998 l k n 0 (by omega) (by omega)]
    rfl
section
variable {ops : Array Oper} {rest : List Oper} {o : Oper} {a : Act} {w : World} {Q : Exit → Act → World → Prop}
theorem run_eqGuard_agg {w : World} {T : TypeId} (h : P.eqGuardType P.depth T = false) (op : BinOp) (x y : Operand) (xs ys : Array Value) : (eqGuard op T x y (.agg xs) (.agg ys)).run P w = .ok () w := by
  unfold eqGuard
  cases op <;> simp [Sem.run_bind, h]
theorem wl_eql_bytes {T T' n e : Nat} {x y : Operand} {l k : List UInt8} (hop : o.op = .binOp .eql T x y T') (hw : Region.wanted o (yielded ops a.tmps) = true) (hx : a.eval x = .agg (bytesV l).toArray) (hy : a.eval y = .agg (bytesV k).toArray)
    [h : TyArr P T n e] (hlk : l.length = n ∧ k.length = n) (hh : wpList P ops Q rest (a.put o.dst (.bool (l == k))) w) : wpList P ops Q (o :: rest) a w := by
  refine wl_run hw ?_ hh
  unfold execOp
  simp only [hop, hx, hy, Sem.run_bind, run_eqGuard_agg h.out.2.2.2, Result.andThen_ok, run_eql_bytes h l k hlk.1 hlk.2, Sem.run_pure]
end
def partsOf : List Value → Nat → List (Nat × Value)
  | [], _ => []
  | v :: vs, k => (k, v) :: partsOf vs (k + 1)
theorem fold_set (off : Nat) : ∀ (c : List Value) (j : Nat) (pre rest : List Value), pre.length = off + j → c.length ≤ rest.length →
    (c.zipIdx j).foldl (fun (cs : Array Value) (p : Value × Nat) => cs.setIfInBounds (off + p.2) p.1) (pre ++ rest).toArray = (pre ++ (c ++ rest.drop c.length)).toArray
  | [], _, _, _, _, _ => by simp
  | v :: c, j, pre, [], _, h => by simp at h
  | v :: c, j, pre, r :: rest, hp, h => by
    have ih := fold_set off c (j + 1) (pre ++ [v]) rest (by simp; omega) (by simpa using h)
    simp only [List.zipIdx_cons, List.foldl_cons, List.setIfInBounds_toArray]
    have : (pre ++ r :: rest).set (off + j) v = pre ++ [v] ++ rest := by
      rw [List.set_append_right _ _ (by omega), show off + j - pre.length = 0 by omega]
      simp
    rw [this, ih]
    simp
theorem fill_all (sz : Nat) : ∀ (vs : List Value) (k : Nat) (pre post : List Value), pre.length = k * sz → vs.all (fun v => v.cells.size == sz) = true → post.length = vs.length * sz →
    Instr.fill (fun i => some (i * sz, sz)) (pre ++ post).toArray (partsOf vs k) = some (pre ++ vs.flatMap fun v => v.cells.toList).toArray
  | [], k, pre, post, hp, _, hl => by
    have : post = [] := List.eq_nil_of_length_eq_zero (by simpa using hl)
    subst this
    simp [Instr.fill, partsOf]
  | v :: vs, k, pre, post, hp, hv, hl => by
    simp only [List.all_cons, Bool.and_eq_true, beq_iff_eq] at hv
    have hlen : v.cells.toList.length = sz := by simpa using hv.1
    have hpost : sz ≤ post.length := by rw [hl, List.length_cons, Nat.succ_mul]; omega
    have h1 := fold_set (k * sz) v.cells.toList 0 pre post (by omega) (by omega)
    have ih := fill_all sz vs (k + 1) (pre ++ v.cells.toList) (post.drop sz) (by rw [List.length_append, hp, hlen, Nat.succ_mul]) hv.2 (by rw [List.length_drop, hl, List.length_cons, Nat.succ_mul]; omega)
    have hsz : ¬ (v.cells.size ≠ sz ∨ k * sz + v.cells.size > (pre ++ post).toArray.size) := by
      simp only [not_or, Decidable.not_not, List.size_toArray, List.length_append, hv.1]
      exact ⟨trivial, by omega⟩
    simp only [partsOf, Instr.fill]
    rw [if_neg (by simpa using hsz)]
    rw [← Array.foldl_toList, Array.toList_zipIdx]
    rw [hlen, ← List.append_assoc] at h1
    have h2 : List.foldl (fun (cs : Array Value) (x : Value × Nat) => match x with | (c, j) => cs.setIfInBounds (k * sz + j) c) (pre ++ post).toArray v.cells.toList.zipIdx = ((pre ++ v.cells.toList) ++ post.drop sz).toArray := h1
    rw [h2, ih]
    simp
theorem wl_bsV {ops : Array Oper} {rest : List Oper} {o : Oper} {a : Act} {w0 w : World} {M : List Nat} {L : List HA} {Q : Exit → Act → World → Prop} {T e : TypeId} {len : Nat} {parts : Array (Nat × Operand)} {sz bytes : Nat} (vs cs : List Value) (hst : St w0 M w L)
    (hop : o.op = .buildSlice T len parts) (hw : Region.wanted o (yielded ops a.tmps) = true)
    (hp : (parts.map fun p => (p.1, a.eval p.2)).toList = partsOf vs 0) (hcs : (vs.flatMap fun v => v.cells.toList) = cs) [ht : TySl P T e] [he : TyE P e sz bytes]
    (hv : vs.all (fun v => v.cells.size == sz) = true) (hl : vs.length = len) (hlen' : Nat.ble (len * sz) 16777216 = true)
    (h : ∀ g w', St w0 M w' (.blk g e cs :: L) → wpList P ops Q rest (a.put o.dst (.slice (some ⟨g, 0, none⟩) len len)) w') : wpList P ops Q (o :: rest) a w := by
  have hlen := Nat.le_of_ble_eq_true hlen'
  subst hl
  refine wl_buildSlice hst hop hw hlen ?_ (fun z hz => ?_) h
  · rw [← hcs]
    clear hp hcs h hop hlen hlen'
    induction vs with
    | nil => simp
    | cons v vs ih =>
      simp only [List.all_cons, Bool.and_eq_true, beq_iff_eq] at hv
      have := ih hv.2
      rw [List.flatMap_cons, List.length_append, ← this, List.length_cons, Nat.succ_mul]
      have : v.cells.toList.length = sz := by simpa using hv.1
      omega
  · rw [hp]
    have := fill_all sz vs 0 [] z.toList (by simp) hv (by simpa using hz)
    simp only [List.nil_append, Array.toArray_toList] at this
    rw [this, hcs]
theorem wl_bsX {ops : Array Oper} {rest : List Oper} {o : Oper} {a : Act} {w0 w : World} {M : List Nat} {L : List HA} {Q : Exit → Act → World → Prop} {T e : TypeId} {len : Nat} {parts : Array (Nat × Operand)} {sz bytes : Nat} (vs cs : List Value) (hst : St w0 M w L)
    (hop : o.op = .buildSlice T len parts) (hw : Region.wanted o (yielded ops a.tmps) = true)
    (hp : parts.toList.map (fun p => (p.1, a.eval p.2)) = partsOf vs 0) (hcs : (vs.flatMap fun v => v.cells.toList) = cs) (_ht : TySl P T e) (_he : TyE P e sz bytes)
    (hv : vs.all (fun v => v.cells.size == sz) = true) (hl : vs.length = len) (hlen' : Nat.ble (len * sz) 16777216 = true)
    (h : ∀ g w', St w0 M w' (.blk g e cs :: L) → wpList P ops Q rest (a.put o.dst (.slice (some ⟨g, 0, none⟩) len len)) w') : wpList P ops Q (o :: rest) a w :=
  wl_bsV vs cs hst hop hw (by rw [Array.toList_map]; exact hp) hcs hv hl hlen' h
def p2ok (P : Program) (T : TypeId) : Bool := match P.underlying T with
  | some (.struct fs) => match fs.toList with
    | [f1, f2] => f1.name != "_" && f2.name != "_" && f1.offset == 0 && f2.offset == 1 && (match P.underlying f1.type with | some (.int _) => true | _ => false) && (match P.underlying f2.type with | some (.int _) => true | _ => false) && !(P.stoodInHeld T) && !(P.eqGuardType P.depth T)
    | _ => false
  | _ => false
class TyP2 (P : Program) (T : TypeId) : Prop where
  out : p2ok P T = true
theorem p2_spec {T : TypeId} (h : p2ok P T = true) : ∃ f1 f2 k1 k2, P.fieldsOf T = #[f1, f2] ∧ P.underlying T = some (.struct (P.fieldsOf T)) ∧ f1.name ≠ "_" ∧ f2.name ≠ "_" ∧ f1.offset = 0 ∧ f2.offset = 1 ∧ P.underlying f1.type = some (.int k1) ∧ P.underlying f2.type = some (.int k2) ∧ P.stoodInHeld T = false ∧ P.eqGuardType P.depth T = false := by
  unfold p2ok at h
  cases hu : P.underlying T with
  | none => simp [hu] at h
  | some d =>
    cases d with
    | struct fs =>
      simp only [hu] at h
      obtain ⟨l⟩ := fs
      match l, h with
      | [f1, f2], h =>
        simp only [Bool.and_eq_true, bne_iff_ne, ne_eq, beq_iff_eq, Bool.not_eq_true'] at h
        obtain ⟨⟨⟨⟨⟨⟨⟨h1, h2⟩, h3⟩, h4⟩, h5⟩, h6⟩, h7⟩, h8⟩ := h
        have hf : P.fieldsOf T = #[f1, f2] := by simp [Program.fieldsOf, hu]
        cases hk1 : P.underlying f1.type with
        | none => simp [hk1] at h5
        | some d1 =>
          cases hk2 : P.underlying f2.type with
          | none => simp [hk2] at h6
          | some d2 =>
            cases d1 <;> first | (simp [hk1] at h5; done) | skip
            cases d2 <;> first | (simp [hk2] at h6; done) | skip
            exact ⟨f1, f2, _, _, hf, by rw [hf], h1, h2, h3, h4, hk1, hk2, h7, h8⟩
    | _ => simp [hu] at h
theorem run_part_int {w : World} {T : TypeId} {k q : IntKind} {n : Int} {cs : Array Value} {off : Nat} (h : P.underlying T = some (.int k)) (hc : cs[off]? = some (.int q n)) : (part T cs off).run P w = .ok (.int q n) w := by
  have hagg : (isAgg T).run P w = .ok false w := by
    unfold isAgg
    rw [Sem.run_bind, run_underlying h w]
    simp
  unfold part
  rw [Sem.run_bind, hagg]
  simp [hc]
theorem run_equal_p2 {w : World} {T : TypeId} (h : p2ok P T = true) (a b c d : Int) (k1 k2 : IntKind) :
    (Op.equalIn 10000 T (.agg #[.int k1 a, .int k2 b]) (.agg #[.int k1 c, .int k2 d])).run P w = .ok ((a == c) && (b == d)) w := by
  obtain ⟨f1, f2, q1, q2, hf, hu, n1, n2, o1, o2, u1, u2, hs, _⟩ := p2_spec h
  rw [show (10000 : Nat) = 9999 + 1 from rfl, run_equalIn_struct w 9999 T _ _ hu hs, hf]
  have e1 := run_equalIn_int (P := P) w 9998 f1.type k1 q1 a c u1
  have e2 := run_equalIn_int (P := P) w 9998 f2.type k2 q2 b d u2
  simp only [Op.eqFields, n1, n2, ne_eq, not_false_eq_true, if_true, Sem.run_bind, o1, o2,
    run_part_int (cs := #[.int k1 a, .int k2 b]) (off := 0) u1 rfl, run_part_int (cs := #[.int k1 c, .int k2 d]) (off := 0) u1 rfl, Result.andThen_ok, e1,
    run_part_int (cs := #[.int k1 a, .int k2 b]) (off := 1) u2 rfl, run_part_int (cs := #[.int k1 c, .int k2 d]) (off := 1) u2 rfl]
  cases (a == c) <;> cases hb : (b == d) <;> simp [run_part_int (cs := #[.int k1 a, .int k2 b]) (off := 1) u2 rfl, run_part_int (cs := #[.int k1 c, .int k2 d]) (off := 1) u2 rfl, e2, hb]
theorem run_eql_p2 {T : TypeId} (h : TyP2 P T) (a b c d : Int) (k1 k2 : IntKind) (w : World) : (binOp .eql T (.agg #[.int k1 a, .int k2 b]) (.agg #[.int k1 c, .int k2 d])).run P w = .ok (.bool ((a == c) && (b == d))) w := by
  rw [run_eql_struct, run_equal_p2 h.out]; rfl
theorem run_neq_p2 {T : TypeId} (h : TyP2 P T) (a b c d : Int) (k1 k2 : IntKind) (w : World) : (binOp .neq T (.agg #[.int k1 a, .int k2 b]) (.agg #[.int k1 c, .int k2 d])).run P w = .ok (.bool (!((a == c) && (b == d)))) w := by
  rw [run_neq_struct, run_equal_p2 h.out]; rfl
theorem run_guard_p2 {T : TypeId} (h : TyP2 P T) (op : BinOp) (x y : Operand) (xs ys : Array Value) (w : World) : (eqGuard op T x y (.agg xs) (.agg ys)).run P w = .ok () w := by
  obtain ⟨f1, f2, q1, q2, hf, hu, n1, n2, o1, o2, u1, u2, hs, hg⟩ := p2_spec h.out
  unfold eqGuard
  cases op <;> simp [Sem.run_bind, hg]
section
variable {ops : Array Oper} {rest : List Oper} {o : Oper} {a : Act} {w : World} {Q : Exit → Act → World → Prop}
theorem Rd.at {w : World} {ao : Option Addr} {n m c sz : Nat} {xs : List Value} (h : Rd w (.slice ao n c) sz m xs) {k : Nat} (hk : k < n) : ∃ b off, ao = some ⟨b, off, none⟩ ∧ w.rangeAt b off xs := by
  obtain ⟨hl, ao', c', he, hn, hc, hnone, hsome⟩ := h
  simp only [Value.slice.injEq] at he
  obtain ⟨rfl, rfl, rfl⟩ := he
  cases ao with
  | none => obtain ⟨rfl, rfl⟩ := hnone rfl; omega
  | some A => obtain ⟨b, off, rfl, hr⟩ := hsome A rfl (by omega); exact ⟨b, off, rfl, hr⟩
theorem Rd.bd {w : World} {ao : Option Addr} {n m c sz : Nat} {xs : List Value} (h : Rd w (.slice ao n c) sz m xs) : n ≤ c ∧ c ≤ 9223372036854775807 ∧ xs.length = n * sz := by
  obtain ⟨hl, ao', c', he, hn, hc, hnone, hsome⟩ := h
  simp only [Value.slice.injEq] at he
  obtain ⟨rfl, rfl, rfl⟩ := he
  exact ⟨hn, hc, hl⟩
theorem wl_index {T e : TypeId} {sz : Nat} {x ix : Operand} {b off n c k : Nat} {q : IntKind} (hop : o.op = .indexAddr T x ix) (hw : Region.wanted o (yielded ops a.tmps) = true)
    (hx : a.eval x = .slice (some ⟨b, off, none⟩) n c) (hi : a.eval ix = .int q (k : Int)) [ht : TySl P T e] [hz : TyN P e sz] (hk : k < n)
    (h : wpList P ops Q rest (a.put o.dst (.pointer (some ⟨b, off + k * sz, none⟩))) w) : wpList P ops Q (o :: rest) a w := by
  refine wl_run hw ?_ h
  have hs : (sizeOf e).run P w = .ok sz w := by
    have := hz.out
    cases hq : P.info? e with
    | none => simp [hq] at this
    | some i => simp [hq] at this; simp [sizeOf, typeInfo, hq, this]
  unfold execOp
  have hkn : (0 : Int) ≤ (k : Int) ∧ (k : Int) < (n : Int) := ⟨by omega, by omega⟩
  have hnk : ¬ n ≤ k := by omega
  simp [hop, hx, hi, Instr.indexAt, asIntOf, run_underlying ht.out, hkn, hs, Addr.add_mid, hnk]
end
end
end Hp
end Go.Proofs.YtmdfbdfijnmhkaaGreat
