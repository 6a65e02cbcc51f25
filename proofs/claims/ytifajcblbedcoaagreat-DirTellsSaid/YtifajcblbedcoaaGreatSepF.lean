import Derived.Test.YtifajcblbedcoaaGreatSepY
namespace Go.Proofs.YtifajcblbedcoaaGreat
set_option linter.unusedVariables false
set_option linter.unusedSimpArgs false
open Go.RowKit
namespace Hp
variable {P : Program}
theorem wl_appRoom {ops : Array Oper} {rest : List Oper} {o : Oper} {a : Act} {w0 w : World} {M : List Nat} {Q : Exit → Act → World → Prop} {s x : Operand} {t t' e : TypeId} {v u : Value} {g sz bytes n m cap : Nat} {cs ys : List Value} (L1 : List HA) {L2 : List HA} (hst : St w0 M w (L1 ++ .blk g e cs :: L2)) (hv : v = .slice (some ⟨g, 0, none⟩) n cap)
    (hop : o.op = .call { callee := .builtin .append, args := #[s, x], argTypes := #[t, t'] }) (hw : Region.wanted o (yielded ops a.tmps) = true) (hs : a.eval s = v) (hx : a.eval x = u)
    (ht : TySl P t e) (ht' : TySl P t' e) (he : TyE P e sz bytes) (hrd : Rd w u sz m ys) (h1 : ys.all (·.oneCell') = true) (hroom : n + m ≤ cap) (hcs : cs.length = cap * sz) (hcap : cap ≤ 9223372036854775807)
    (h : ∀ w', St w0 M w' (L1 ++ .blk g e (putAt cs (n * sz) ys) :: L2) → wpList P ops Q rest (a.put o.dst (.slice (some ⟨g, 0, none⟩) (n + m) cap)) w') : wpList P ops Q (o :: rest) a w := by
  subst hv
  obtain ⟨i, z, hi, hz, hsz, hb, hzs⟩ := tyE_spec he.out
  have hg : w.heap[g]? = some (.cells cs.toArray e (0, 0)) := hst.all (.blk g e cs) (by simp)
  have hr : ∃ w', (Builtin.append_ #[t, t'] o.type #[.slice (some ⟨g, 0, none⟩) n cap, u]).run P w = .ok (.slice (some ⟨g, 0, none⟩) (n + m) cap) w' ∧ St w0 M w' (L1 ++ .blk g e (putAt cs (n * sz) ys) :: L2) := by
    rw [run_append_types ht.out ht'.out]
    have hrd3 : (u = .slice none 0 0 ∧ m = 0 ∧ ys = []) ∨ ∃ A c, u = .slice (some A) m c ∧ ys.length = m * sz ∧ ∀ j u, ys[j]? = some u → w.cell? (A.add j) = some u := by
      rcases hrd.cases with h | ⟨A, rfl, rfl, rfl⟩ | ⟨b, off, c, rfl, hmc, hcm, hyl, hr⟩
      · exact .inl h
      · exact .inr ⟨A, 0, rfl, by simp, fun j u hu => by cases hu⟩
      · exact .inr ⟨_, c, rfl, hyl, fun j u hu => by rw [Addr.add_mid]; exact hr j u hu⟩
    rcases hrd3 with ⟨rfl, rfl, rfl⟩ | ⟨AA, c, rfl, hyl, hnews⟩
    · refine ⟨w, ?_, ?_⟩
      · have hnc : n * sz ≤ cs.length := by rw [hcs]; exact Nat.mul_le_mul_right _ (by omega)
        exact run_append_owned_none (P := P) w 0 t o.type e i sz ht.out hi _ n (cs.take (n * sz)) ⟨by simp; omega, .inr ⟨g, cap, cs.toArray, rfl, Nat.zero_le _, hg, by omega, by unfold maxLen; omega, by simpa using hcs, by simp⟩⟩
      · have : putAt cs (n * sz) [] = cs := by simp [putAt]
        rw [this]; exact hst
    · subst hsz
      have hfit : n * i.size + ys.length ≤ cs.toArray.size := by rw [hyl, List.size_toArray, hcs, ← Nat.add_mul]; exact Nat.mul_le_mul_right _ hroom
      have hrun := run_append_room (P := P) w t o.type e i ht.out hi g n cap cs.toArray hg AA m c ys hyl hnews (all_ones h1) hroom hfit
      refine ⟨_, hrun, ?_⟩
      have h2 := hst.setRow (L1 := L1) (putAt cs (n * i.size) ys)
      have e2 : (putAt cs (n * i.size) ys).toArray = (cs.toArray.toList.take (n * i.size) ++ (ys ++ cs.toArray.toList.drop (n * i.size + ys.length))).toArray := by simp [putAt]
      rw [e2] at h2
      simpa using h2
  obtain ⟨w', hr, h2⟩ := hr
  refine wl_run hw ?_ (h w' h2)
  unfold execOp
  simp only [hop, resolve, invoke, builtin, Sem.run_bind, Sem.run_pure, Result.andThen_ok, List.map_toArray, List.map_cons, List.map_nil, hs, hx]
  rw [hr]
  rfl
end Hp
end Go.Proofs.YtifajcblbedcoaaGreat
