/- Questions (four numbers each) among the arguments, opened. -/
import Derived.Test.YtlgioloanjjndaaOpenB
import Derived.Test.YtlgioloanjjndaaF29
import Derived.Deep.Slices
namespace Go.Proofs.Ytlgioloanjjndaa
set_option linter.unusedVariables false
set_option linter.unusedSimpArgs false
open Go.ChangeShapes Go.WideShapes Go.ChangeAt Go.RowKit Go.Deep Go.Lib Go.Joins Hp
instance : Inhabited KV := ⟨⟨0, 0, 0, 0⟩⟩
theorem cellsK : Try.prog.cellsOf 58 = 4 := by kernel_rfl
theorem cellsKi : Try.prog.cellsOf 3 = 1 := by kernel_rfl
theorem i64_wf {z : Int} (hw : (Lit.int .i64 z).wf = true) : -9223372036854775808 ≤ z ∧ z ≤ 9223372036854775807 := by
  simp only [Lit.wf, Bool.and_eq_true, decide_eq_true_eq] at hw
  have h3 : IntKind.i64.min = -9223372036854775808 := rfl
  have h4 : IntKind.i64.max = 9223372036854775807 := rfl
  omega
theorem open_ask {H : Type} {enc : TypeId × Value → H} {W : World} {fuel : Nat} {cs : List Value} {x : DataW H × List MemPlace} (hl : cs.length = 4)
    (h : DataW.trod enc Try.prog W 0 (fun _ => true) true fuel 58 cs = some x) : ∃ k : KV, cs = k.cells ∧ k.Ok := by
  match cs, hl with
  | [a, b, c, d], _ =>
    obtain ⟨y0, y1, y2, y3, n, _, _, h0, h1, h2, h3⟩ := trod_struct4 Try.underlying58 h
    simp only [cellsKi, List.drop_zero, List.drop_succ_cons, List.take_succ_cons, List.take_zero] at h0 h1 h2 h3
    obtain ⟨z0, e0, _⟩ := DataW.trod_int Try.underlying3 h0
    obtain ⟨z1, e1, _, w1⟩ := DataW.trod_int Try.underlying3 h1
    obtain ⟨z2, e2, _⟩ := DataW.trod_int Try.underlying3 h2
    obtain ⟨z3, e3, _⟩ := DataW.trod_int Try.underlying3 h3
    cases e0; cases e1; cases e2; cases e3
    exact ⟨⟨z0, z1, z2, z3⟩, rfl, i64_wf w1⟩
theorem asksV_inv : ∀ (ks : List KV) (k : Nat) (v : Value), (ks.flatMap KV.cells)[k]? = some v → ∃ i j x, ks[i]? = some x ∧ k = i * 4 + j ∧ x.cells[j]? = some v ∧ j < 4
  | [], k, v, h => by simp at h
  | x :: ks, k, v, h => by
    have hl : x.cells.length = 4 := rfl
    rw [List.flatMap_cons] at h
    by_cases hk : k < 4
    · rw [List.getElem?_append_left (by rw [hl]; exact hk)] at h
      exact ⟨0, k, x, rfl, by omega, h, hk⟩
    · rw [List.getElem?_append_right (by rw [hl]; omega), hl] at h
      obtain ⟨i, j, y, h1, h2, h3, h4⟩ := asksV_inv ks (k - 4) v h
      exact ⟨i + 1, j, y, by simpa using h1, by omega, h3, h4⟩
theorem length_asks (ks : List KV) : (ks.flatMap KV.cells).length = ks.length * 4 := by
  induction ks with
  | nil => rfl
  | cons x ks ih =>
    have hl : x.cells.length = 4 := rfl
    rw [List.flatMap_cons, List.length_append, ih, hl, List.length_cons]
    omega
theorem open_asks {H : Type} {enc : TypeId × Value → H} {W : World} {base fuel : Nat} {v : Value} {x : DataW H × List MemPlace} (hv : Value.okWide Try.prog W .any base 52 v)
    (h : DataW.trod enc Try.prog W 0 (fun _ => true) true fuel 52 v.cells.toList = some x) : ∃ ao n c, ∃ ks : List KV, v = .slice ao n c ∧ Rd W (.slice ao n c) 4 n (ks.flatMap KV.cells) ∧ ks.length = n ∧ ∀ x ∈ ks, x.Ok := by
  obtain ⟨a, len, cap, rfl⟩ := okWide_slice Try.underlying52 hv
  rcases open_slice Try.underlying52 h with ⟨hc, _⟩ | ⟨a', len', cap', m, n, D, Pl, hc, _, hl, hm, hmm, _, hx⟩
  · simp [Value.cells] at hc
    obtain ⟨rfl, rfl, rfl⟩ := hc
    exact ⟨none, 0, 0, [], rfl, Rd.nil _ _, rfl, by simp⟩
  · simp [Value.cells] at hc
    obtain ⟨rfl, rfl, rfl⟩ := hc
    have hs := slice_spotV Try.underlying52 hv
    obtain ⟨b, off, rfl⟩ : ∃ b off, a' = ⟨b, off, none⟩ := ⟨a'.block, a'.off, by cases a'; simp_all⟩
    simp only [if_true] at hmm
    rw [cellsK] at hx
    obtain ⟨K, hK⟩ := choose_lt (α := KV) (p := fun i k => k.Ok ∧ ∀ j, j < 4 → W.cell? ⟨b, off + i * 4 + j, none⟩ = k.cells[j]?) (fun i hi => by
      obtain ⟨cs', h1, h2⟩ := hx i hi
      obtain ⟨_, hlen, hcell⟩ := World.cells?_some h1
      obtain ⟨k, rfl, hk⟩ := open_ask hlen h2
      refine ⟨k, hk, fun j hj => ?_⟩
      have := hcell j hj
      rwa [Addr.add_mid, Addr.add_mid] at this)
    refine ⟨_, len, cap, (List.range len).map K, rfl, Rd.mk hl hm (by rw [length_asks]; simp) (fun k v hk => ?_), by simp, fun x hx => ?_⟩
    · obtain ⟨i, j, y, h1, rfl, h3, h4⟩ := asksV_inv _ _ _ hk
      have hi : i < len := by
        have := (List.getElem?_eq_some_iff.1 h1).1
        simpa using this
      rw [List.getElem?_map, List.getElem?_range hi] at h1
      simp at h1
      subst h1
      rw [← Nat.add_assoc, (hK i (by omega)).2 j h4, h3]
    · obtain ⟨i, hi, rfl⟩ := List.mem_map.1 hx
      exact (hK i (by have := List.mem_range.1 hi; omega)).1
end Go.Proofs.Ytlgioloanjjndaa
