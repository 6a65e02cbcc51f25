import Derived.Test.YtifajcblbedcoaaGreatSepE
namespace Go.Proofs.YtifajcblbedcoaaGreat
set_option linter.unusedVariables false
set_option linter.unusedSimpArgs false
open Go.RowKit
namespace Hp
variable {P : Program}
theorem eqFields_ints {w : World} {q : IntKind} (d : Nat) (l k : List Int) : ∀ (fs : List Field) (s : Nat), (∀ i f, fs[i]? = some f → f.name ≠ "_" ∧ f.offset = s + i ∧ ∃ c, P.underlying f.type = some (.int c)) → l.length = s + fs.length → k.length = s + fs.length →
    (Op.eqFields (d + 1) (intsV q l).toArray (intsV q k).toArray fs).run P w = .ok (l.drop s == k.drop s) w
  | [], s, _, h1, h2 => by
    rw [List.drop_of_length_le (by simp at h1; omega), List.drop_of_length_le (by simp at h2; omega)]
    simp [Op.eqFields]
  | f :: fs, s, hall, h1, h2 => by
    obtain ⟨n1, o1, c, u1⟩ := hall 0 f rfl
    have ih := eqFields_ints (w := w) (q := q) d l k fs (s + 1) (fun i g hg => by
      have := hall (i + 1) g (by simpa using hg)
      rw [show s + 1 + i = s + (i + 1) by omega]; exact this) (by simp at h1; omega) (by simp at h2; omega)
    have hs1 : s < l.length := by simp at h1; omega
    have hs2 : s < k.length := by simp at h2; omega
    have hl : l.drop s = l.getD s 0 :: l.drop (s + 1) := by rw [List.drop_eq_getElem_cons hs1]; simp [List.getD, hs1]
    have hk : k.drop s = k.getD s 0 :: k.drop (s + 1) := by rw [List.drop_eq_getElem_cons hs2]; simp [List.getD, hs2]
    have hp : ∀ u : List Int, s < u.length → (part f.type (intsV q u).toArray s).run P w = .ok (.int q (u.getD s 0)) w := fun u hu =>
      run_part_int u1 (by simp [intsV, List.getD, hu])
    rw [hl, hk]
    simp only [Op.eqFields, n1, ne_eq, not_false_eq_true, if_true, Sem.run_bind, o1, Nat.add_zero, hp l hs1, hp k hs2, Result.andThen_ok, run_equalIn_int w d f.type q c _ _ u1]
    rw [List.cons_beq_cons]
    cases hb : (l.getD s 0 == k.getD s 0)
    · simp
    · simp [ih]
def siok (P : Program) (T : TypeId) (n : Nat) : Bool := match P.underlying T with
  | some (.struct fs) => fs.toList.length == n && ((List.range n).all (fun i => match fs.toList[i]? with
    | some f => f.name != "_" && f.offset == i && (match P.underlying f.type with | some (.int _) => true | _ => false)
    | none => false)) && !(P.stoodInHeld T) && !(P.eqGuardType P.depth T)
  | _ => false
class TySI (P : Program) (T : TypeId) (n : outParam Nat) : Prop where
  out : siok P T n = true
theorem si_spec {T : TypeId} {n : Nat} (h : siok P T n = true) : P.underlying T = some (.struct (P.fieldsOf T)) ∧ (P.fieldsOf T).toList.length = n ∧ (∀ i f, (P.fieldsOf T).toList[i]? = some f → f.name ≠ "_" ∧ f.offset = 0 + i ∧ ∃ c, P.underlying f.type = some (.int c)) ∧ P.stoodInHeld T = false ∧ P.eqGuardType P.depth T = false := by
  unfold siok at h
  cases hu : P.underlying T with
  | none => simp [hu] at h
  | some d =>
    cases d with
    | struct fs =>
      have hf : P.fieldsOf T = fs := by simp [Program.fieldsOf, hu]
      simp only [hu] at h
      rw [hf]
      simp only [Bool.and_eq_true, beq_iff_eq, Bool.not_eq_true'] at h
      obtain ⟨⟨⟨h1, h2⟩, h3⟩, h4⟩ := h
      refine ⟨rfl, h1, fun i f hi => ?_, h3, h4⟩
      have hlt := (List.getElem?_eq_some_iff.1 hi).1
      have := List.all_eq_true.1 h2 i (by rw [List.mem_range]; omega)
      rw [hi] at this
      simp only [Bool.and_eq_true, bne_iff_ne, ne_eq, beq_iff_eq] at this
      refine ⟨this.1.1, by omega, ?_⟩
      cases hk : P.underlying f.type with
      | none => simp [hk] at this
      | some q => cases q <;> first | (simp [hk] at this; done) | exact ⟨_, rfl⟩
    | _ => simp [hu] at h
theorem run_eqlSI {w : World} {T : TypeId} {n : Nat} {q : IntKind} [h : TySI P T n] (l k : List Int) (hl : l.length = n) (hk : k.length = n) :
    (binOp .eql T (.agg (intsV q l).toArray) (.agg (intsV q k).toArray)).run P w = .ok (.bool (l == k)) w := by
  obtain ⟨hu, h1, h2, h3, _⟩ := si_spec h.out
  rw [run_eql_struct, show (10000 : Nat) = 9999 + 1 from rfl, run_equalIn_struct w 9999 T _ _ hu h3, eqFields_ints 9998 l k _ 0 h2 (by omega) (by omega)]
  rfl
theorem run_neqSI {w : World} {T : TypeId} {n : Nat} {q : IntKind} [h : TySI P T n] (l k : List Int) (hl : l.length = n) (hk : k.length = n) :
    (binOp .neq T (.agg (intsV q l).toArray) (.agg (intsV q k).toArray)).run P w = .ok (.bool (!(l == k))) w := by
  obtain ⟨hu, h1, h2, h3, _⟩ := si_spec h.out
  rw [run_neq_struct, show (10000 : Nat) = 9999 + 1 from rfl, run_equalIn_struct w 9999 T _ _ hu h3, eqFields_ints 9998 l k _ 0 h2 (by omega) (by omega)]
  rfl
theorem run_guardSI {w : World} {T : TypeId} {n : Nat} [h : TySI P T n] (op : BinOp) (x y : Operand) (xs ys : Array Value) : (eqGuard op T x y (.agg xs) (.agg ys)).run P w = .ok () w := by
  obtain ⟨hu, h1, h2, h3, hg⟩ := si_spec h.out
  unfold eqGuard
  cases op <;> simp [Sem.run_bind, hg]
end Hp
end Go.Proofs.YtifajcblbedcoaaGreat
