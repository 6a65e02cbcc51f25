/- Acts (three numbers, a text, bytes) among the arguments, opened. -/
import Derived.Test.YtlgioloanjjndaaOpenB
import Derived.Test.YtlgioloanjjndaaF21
import Derived.Deep.Slices
namespace Go.Proofs.Ytlgioloanjjndaa
set_option linter.unusedVariables false
set_option linter.unusedSimpArgs false
open Go.ChangeShapes Go.WideShapes Go.ChangeAt Go.RowKit Go.Deep Go.Lib Go.Joins Hp
instance : Inhabited AV := ⟨⟨0, 0, 0, [], none, 0, 0, []⟩⟩
theorem cellsA : Try.prog.cellsOf 34 = 5 := by kernel_rfl
theorem cellsAi : Try.prog.cellsOf 3 = 1 := by kernel_rfl
theorem cellsAs : Try.prog.cellsOf 9 = 1 := by kernel_rfl
theorem cellsAb : Try.prog.cellsOf 26 = 1 := by kernel_rfl
/-- What is known of an act that was handed in. -/
structure AV.Ok0 (x : AV) (w : World) : Prop where
  rd : Rd w (.slice x.au x.m x.cu) 1 x.m (bytesV x.B)
  len : x.B.length = x.m
  s : x.s.length ≤ 9223372036854775807
  n : -9223372036854775808 ≤ x.n ∧ x.n ≤ 9223372036854775807
  size : -9223372036854775808 ≤ x.size ∧ x.size ≤ 9223372036854775807
theorem AV.Ok0.ok {x : AV} {w : World} (h : x.Ok0 w) (hm : x.m ≤ 300) (hs : x.s.length ≤ 300) : x.Ok w := ⟨h.rd, h.len, by omega, by omega, h.n, h.size⟩
theorem AV.Ok0.old {x : AV} {w w' : World} {L : List HA} (h : x.Ok0 w) (hst : St w [] w' L) : x.Ok0 w' := ⟨Rd.old hst h.rd, h.len, h.s, h.n, h.size⟩
theorem i64_wfA {z : Int} (hw : (Lit.int .i64 z).wf = true) : -9223372036854775808 ≤ z ∧ z ≤ 9223372036854775807 := by
  simp only [Lit.wf, Bool.and_eq_true, decide_eq_true_eq] at hw
  have h3 : IntKind.i64.min = -9223372036854775808 := rfl
  have h4 : IntKind.i64.max = 9223372036854775807 := rfl
  omega
/-- Bytes that lie within a handed value: where there is no room, the address says nothing. -/
theorem open_bytesN {H : Type} {enc : TypeId × Value → H} {W : World} {fuel : Nat} {cs : List Value} {x : DataW H × List MemPlace}
    (h : DataW.trod enc Try.prog W 0 (fun _ => true) true fuel 26 cs = some x) : ∃ ao n c bs, cs = [.slice ao n c] ∧ Rd W (.slice ao n c) 1 n (bytesV bs) ∧ bs.length = n := by
  rcases open_ints Try.underlying26 Try.underlying5 (by kernel_rfl) h with ⟨hc, _⟩ | ⟨a', len', cap', zs, hc, _, hl, hm, hz, _, hcell, hw⟩
  · exact ⟨none, 0, 0, [], hc, Rd.nil _ _, rfl⟩
  · by_cases h0 : cap' = 0
    · subst h0
      obtain rfl : len' = 0 := by omega
      exact ⟨some a', 0, 0, [], hc, Rd.empty _ _ _, rfl⟩
    · simp only [if_true] at hz
      have hspot : a'.spot = none := by
        have h1 := hcell 0 (by omega)
        unfold World.cell? at h1
        split at h1
        · by_cases hs : a'.spot = none
          · exact hs
          · have : ((a'.add 0).spot).isSome = true := by
              cases hq : a'.spot with
              | none => exact absurd hq hs
              | some q => simp [Addr.add, hq]
            rw [if_pos this] at h1
            cases h1
        · cases h1
      obtain ⟨b, off, rfl⟩ : ∃ b off, a' = ⟨b, off, none⟩ := ⟨a'.block, a'.off, by cases a'; simp_all⟩
      refine ⟨_, len', cap', (List.range len').map fun i => UInt8.ofNat (zs.getD i 0).toNat, hc, rd_ints _ hl hm fun i hi => ?_, by simp⟩
      have h1 := hcell i (by omega)
      rw [Addr.add_mid] at h1
      rw [h1]
      have h2 := hw (zs.getD i 0) (by rw [List.getD_eq_getElem?_getD, List.getElem?_eq_getElem (by omega)]; exact List.getElem_mem _)
      simp only [Lit.wf, Bool.and_eq_true, decide_eq_true_eq] at h2
      have h3 : IntKind.u8.min = 0 := rfl
      have h4 : IntKind.u8.max = 255 := rfl
      have h5 : ((UInt8.ofNat (zs.getD i 0).toNat).toNat : Int) = zs.getD i 0 := by rw [UInt8.toNat_ofNat']; omega
      rw [h5]
theorem trod_struct5 {H : Type} {enc : TypeId × Value → H} {P : Program} {w : World} {base : Nat} {spare : Nat → Bool} {held : Bool} {t : TypeId} {f0 f1 f2 f3 f4 : Field} {fuel : Nat} {cs : List Value} {x : DataW H × List MemPlace} (ht : P.underlying t = some (.struct #[f0, f1, f2, f3, f4])) (h : DataW.trod enc P w base spare held fuel t cs = some x) :
    ∃ y0 y1 y2 y3 y4 n, cs.length = P.cellsOf t ∧ DataW.trod enc P w base spare held n f0.type ((cs.drop f0.offset).take (P.cellsOf f0.type)) = some y0 ∧
      DataW.trod enc P w base spare held n f1.type ((cs.drop f1.offset).take (P.cellsOf f1.type)) = some y1 ∧ DataW.trod enc P w base spare held n f2.type ((cs.drop f2.offset).take (P.cellsOf f2.type)) = some y2 ∧
      DataW.trod enc P w base spare held n f3.type ((cs.drop f3.offset).take (P.cellsOf f3.type)) = some y3 ∧ DataW.trod enc P w base spare held n f4.type ((cs.drop f4.offset).take (P.cellsOf f4.type)) = some y4 := by
  obtain ⟨xs, n, _, rfl, hl, hlen, hf⟩ := DataW.trod_struct ht h
  match xs, hlen with
  | [y0, y1, y2, y3, y4], _ => exact ⟨y0, y1, y2, y3, y4, n, hl, by simpa using hf 0 f0 rfl, by simpa using hf 1 f1 rfl, by simpa using hf 2 f2 rfl, by simpa using hf 3 f3 rfl, by simpa using hf 4 f4 rfl⟩
theorem open_act {H : Type} {enc : TypeId × Value → H} {W : World} {fuel : Nat} {cs : List Value} {x : DataW H × List MemPlace} (hl : cs.length = 5)
    (h : DataW.trod enc Try.prog W 0 (fun _ => true) true fuel 34 cs = some x) : ∃ k : AV, cs = k.cells ∧ k.Ok0 W := by
  match cs, hl with
  | [a, b, c, d, e], _ =>
    obtain ⟨y0, y1, y2, y3, y4, n, _, h0, h1, h2, h3, h4⟩ := trod_struct5 Try.underlying34 h
    simp only [cellsAi, cellsAs, cellsAb, List.drop_zero, List.drop_succ_cons, List.take_succ_cons, List.take_zero] at h0 h1 h2 h3 h4
    obtain ⟨z0, e0, _⟩ := DataW.trod_int Try.underlying3 h0
    obtain ⟨z1, e1, _, w1⟩ := DataW.trod_int Try.underlying3 h1
    obtain ⟨z2, e2, _, w2⟩ := DataW.trod_int Try.underlying3 h2
    obtain ⟨s, e3, _, w3⟩ := DataW.trod_string Try.underlying9 h3
    obtain ⟨ao, m, cu, bs, e4, hr, hb⟩ := open_bytesN h4
    cases e0; cases e1; cases e2; cases e3; cases e4
    have h5 : s.data.toList.length = s.size := by rw [Array.length_toList]; rfl
    exact ⟨⟨z0, z1, z2, s.data.toList, ao, m, cu, bs⟩, rfl, ⟨hr, hb, by rw [h5]; exact w3, i64_wfA w1, i64_wfA w2⟩⟩
theorem actsV_inv : ∀ (ks : List AV) (k : Nat) (v : Value), (ks.flatMap AV.cells)[k]? = some v → ∃ i j x, ks[i]? = some x ∧ k = i * 5 + j ∧ x.cells[j]? = some v ∧ j < 5
  | [], k, v, h => by simp at h
  | x :: ks, k, v, h => by
    have hl : x.cells.length = 5 := rfl
    rw [List.flatMap_cons] at h
    by_cases hk : k < 5
    · rw [List.getElem?_append_left (by rw [hl]; exact hk)] at h
      exact ⟨0, k, x, rfl, by omega, h, hk⟩
    · rw [List.getElem?_append_right (by rw [hl]; omega), hl] at h
      obtain ⟨i, j, y, h1, h2, h3, h4⟩ := actsV_inv ks (k - 5) v h
      exact ⟨i + 1, j, y, by simpa using h1, by omega, h3, h4⟩
theorem length_acts (ks : List AV) : (ks.flatMap AV.cells).length = ks.length * 5 := by
  induction ks with
  | nil => rfl
  | cons x ks ih =>
    have hl : x.cells.length = 5 := rfl
    rw [List.flatMap_cons, List.length_append, ih, hl, List.length_cons]
    omega
theorem open_acts {H : Type} {enc : TypeId × Value → H} {W : World} {base fuel : Nat} {v : Value} {x : DataW H × List MemPlace} (hv : Value.okWide Try.prog W .any base 22 v)
    (h : DataW.trod enc Try.prog W 0 (fun _ => true) true fuel 22 v.cells.toList = some x) : ∃ ao n c, ∃ ks : List AV, v = .slice ao n c ∧ Rd W (.slice ao n c) 5 n (ks.flatMap AV.cells) ∧ ks.length = n ∧ ∀ x ∈ ks, x.Ok0 W := by
  obtain ⟨a, len, cap, rfl⟩ := okWide_slice Try.underlying22 hv
  rcases open_slice Try.underlying22 h with ⟨hc, _⟩ | ⟨a', len', cap', m, n, D, Pl, hc, _, hl, hm, hmm, _, hx⟩
  · simp [Value.cells] at hc
    obtain ⟨rfl, rfl, rfl⟩ := hc
    exact ⟨none, 0, 0, [], rfl, Rd.nil _ _, rfl, by simp⟩
  · simp [Value.cells] at hc
    obtain ⟨rfl, rfl, rfl⟩ := hc
    have hs := slice_spotV Try.underlying22 hv
    obtain ⟨b, off, rfl⟩ : ∃ b off, a' = ⟨b, off, none⟩ := ⟨a'.block, a'.off, by cases a'; simp_all⟩
    simp only [if_true] at hmm
    rw [cellsA] at hx
    obtain ⟨K, hK⟩ := choose_lt (α := AV) (p := fun i k => k.Ok0 W ∧ ∀ j, j < 5 → W.cell? ⟨b, off + i * 5 + j, none⟩ = k.cells[j]?) (fun i hi => by
      obtain ⟨cs', h1, h2⟩ := hx i hi
      obtain ⟨_, hlen, hcell⟩ := World.cells?_some h1
      obtain ⟨k, rfl, hk⟩ := open_act hlen h2
      refine ⟨k, hk, fun j hj => ?_⟩
      have := hcell j hj
      rwa [Addr.add_mid, Addr.add_mid] at this)
    refine ⟨_, len, cap, (List.range len).map K, rfl, Rd.mk hl hm (by rw [length_acts]; simp) (fun k v hk => ?_), by simp, fun x hx => ?_⟩
    · obtain ⟨i, j, y, h1, rfl, h3, h4⟩ := actsV_inv _ _ _ hk
      have hi : i < len := by
        have := (List.getElem?_eq_some_iff.1 h1).1
        simpa using this
      rw [List.getElem?_map, List.getElem?_range hi] at h1
      simp at h1
      subst h1
      rw [← Nat.add_assoc, (hK i (by omega)).2 j h4, h3]
    · obtain ⟨i, hi, rfl⟩ := List.mem_map.1 hx
      exact (hK i (by have := List.mem_range.1 hi; omega)).1
end Go.Proofs.Ytlgioloanjjndaa
