import Derived.Test.YtmdfbdfijnmhkaaGreatOpenB
import Derived.Test.YtmdfbdfijnmhkaaGreatOpenP
import Derived.Test.YtmdfbdfijnmhkaaGreatNode
import Derived.Deep.Slices
namespace Go.Proofs.YtmdfbdfijnmhkaaGreat
set_option linter.unusedVariables false
set_option linter.unusedSimpArgs false
open Go.ChangeShapes Go.WideShapes Go.ChangeAt Go.RowKit Go.Deep Go.Lib Go.Joins Hp
set_option maxRecDepth 100000
theorem flat_invD {α : Type} {f : α → List Value} {sz : Nat} (hl : ∀ a, (f a).length = sz) : ∀ (ks : List α) (k : Nat) (v : Value), (ks.flatMap f)[k]? = some v → ∃ i j x, ks[i]? = some x ∧ k = i * sz + j ∧ (f x)[j]? = some v ∧ j < sz
  | [], k, v, h => by simp at h
  | x :: ks, k, v, h => by
    rw [List.flatMap_cons] at h
    by_cases hk : k < sz
    · rw [List.getElem?_append_left (by rw [hl]; exact hk)] at h
      exact ⟨0, k, x, rfl, by omega, h, hk⟩
    · rw [List.getElem?_append_right (by rw [hl]; omega), hl] at h
      obtain ⟨i, j, y, h1, h2, h3, h4⟩ := flat_invD hl ks (k - sz) v h
      refine ⟨i + 1, j, y, by simpa using h1, ?_, h3, h4⟩
      rw [Nat.succ_mul]
      omega
theorem flat_lenD {α : Type} {f : α → List Value} {sz : Nat} (hl : ∀ a, (f a).length = sz) (ks : List α) : (ks.flatMap f).length = ks.length * sz := by
  induction ks with
  | nil => simp
  | cons x ks ih => rw [List.flatMap_cons, List.length_append, ih, hl, List.length_cons, Nat.succ_mul]; omega
theorem spot_addD {a : Addr} (h : (a.add 0).spot = none) : a.spot = none := by
  simpa [Addr.add] using h
theorem spot_cellD {W : World} {a : Addr} {v : Value} (h1 : W.cell? a = some v) : a.spot = none := by
  unfold World.cell? at h1
  split at h1
  · by_cases hs : a.spot = none
    · exact hs
    · have : (a.spot).isSome = true := by
        cases hq : a.spot with
        | none => exact absurd hq hs
        | some q => rfl
      rw [if_pos this] at h1
      cases h1
  · cases h1
theorem open_structsD {α : Type} [Inhabited α] {f : α → List Value} {sz : Nat} (hl : ∀ a, (f a).length = sz) (hsz : 0 < sz) (ok : α → World → Prop) {H : Type} {enc : TypeId × Value → H} {W : World} {fuel : Nat} {T e : TypeId} {cs : List Value} {x : DataW H × List MemPlace} (hT : Tryz.prog.underlying T = some (.slice e)) (he : Tryz.prog.cellsOf e = sz)
    (hop : ∀ (fuel : Nat) (cs : List Value) (x : DataW H × List MemPlace), cs.length = sz → DataW.trod enc Tryz.prog W 0 (fun _ => true) true fuel e cs = some x → ∃ k : α, cs = f k ∧ ok k W)
    (h : DataW.trod enc Tryz.prog W 0 (fun _ => true) true fuel T cs = some x) : ∃ ao n c, ∃ ks : List α, cs = [.slice ao n c] ∧ Rd W (.slice ao n c) sz n (ks.flatMap f) ∧ ks.length = n ∧ ∀ x ∈ ks, ok x W := by
  rcases open_slice hT h with ⟨hc, _⟩ | ⟨a', len, cap, m, n, D, Pl, hc, _, hll, hm, hmm, _, hx⟩
  · exact ⟨none, 0, 0, [], hc, Rd.nil _ _, rfl, by simp⟩
  · by_cases h0 : cap = 0
    · subst h0
      obtain rfl : len = 0 := by omega
      exact ⟨some a', 0, 0, [], hc, Rd.empty _ _ _, rfl, by simp⟩
    · simp only [if_true] at hmm
      rw [he] at hx
      obtain ⟨cs0, h1, h2⟩ := hx 0 (by omega)
      obtain ⟨_, hlen0, hcell0⟩ := World.cells?_some h1
      have hspot : a'.spot = none := by
        have h3 := hcell0 0 hsz
        rw [Nat.zero_mul] at h3
        have : cs0[0]? = some cs0[0] := List.getElem?_eq_getElem (by omega)
        rw [this] at h3
        exact spot_addD (spot_addD (spot_cellD h3))
      obtain ⟨b, off, rfl⟩ : ∃ b off, a' = ⟨b, off, none⟩ := ⟨a'.block, a'.off, by cases a'; simp_all⟩
      obtain ⟨K, hK⟩ := choose_lt (α := α) (p := fun i k => ok k W ∧ ∀ j, j < sz → W.cell? ⟨b, off + i * sz + j, none⟩ = (f k)[j]?) (fun i hi => by
        obtain ⟨cs', h1, h2⟩ := hx i hi
        obtain ⟨_, hlen, hcell⟩ := World.cells?_some h1
        obtain ⟨k, rfl, hk⟩ := hop _ _ _ hlen h2
        refine ⟨k, hk, fun j hj => ?_⟩
        have := hcell j hj
        rwa [Addr.add_mid, Addr.add_mid] at this)
      refine ⟨_, len, cap, (List.range len).map K, hc, Rd.mk hll hm (by rw [flat_lenD hl, List.length_map, List.length_range]) (fun k v hk => ?_), by simp, fun x hx => ?_⟩
      · obtain ⟨i, j, y, h1, rfl, h3, h4⟩ := flat_invD hl _ _ _ hk
        have hi : i < len := by
          have := (List.getElem?_eq_some_iff.1 h1).1
          simpa using this
        rw [List.getElem?_map, List.getElem?_range hi] at h1
        simp at h1
        subst h1
        rw [← Nat.add_assoc, (hK i (by omega)).2 j h4, h3]
      · obtain ⟨i, hi, rfl⟩ := List.mem_map.1 hx
        exact (hK i (by have := List.mem_range.1 hi; omega)).1
theorem open_addrsD {H : Type} {enc : TypeId × Value → H} {W : World} {fuel : Nat} {cs : List Value} {x : DataW H × List MemPlace}
    (h : DataW.trod enc Tryz.prog W 0 (fun _ => true) true fuel 30 cs = some x) : ∃ ao n c l, cs = [.slice ao n c] ∧ Rd W (.slice ao n c) 2 n (addrsV l) ∧ l.length = n := by
  obtain ⟨ao, n, c, ks, e, hr, hl, -⟩ := open_structsD (α := Int × Int) (f := fun a => [.int .i64 a.1, .int .i64 a.2]) (sz := 2) (fun _ => rfl) (by decide) (fun _ _ => True) Tryz.underlying30 cellsE (fun fuel cs x hl h => by
    match cs, hl with
    | [a, b], _ =>
      obtain ⟨y0, y1, n, _, _, h0, h1⟩ := trod_struct2 Tryz.underlying83 h
      simp only [cellsI, List.drop_zero, List.drop_succ_cons, List.take_succ_cons, List.take_zero] at h0 h1
      obtain ⟨z0, e0, _⟩ := DataW.trod_int Tryz.underlying3 h0
      obtain ⟨z1, e1, _⟩ := DataW.trod_int Tryz.underlying3 h1
      cases e0; cases e1
      exact ⟨(z0, z1), rfl, trivial⟩) h
  refine ⟨ao, n, c, ks, e, ?_, hl⟩
  have : ks.flatMap (fun a => [.int .i64 a.1, .int .i64 a.2]) = addrsV ks := by
    clear hr hl
    induction ks with
    | nil => rfl
    | cons a ks ih => rw [List.flatMap_cons, ih]; rfl
  rw [← this]
  exact hr
theorem open_ptrD {H : Type} {enc : TypeId × Value → H} {W : World} {fuel : Nat} {L : List Value} {x : DataW H × List MemPlace} (hL : L.length = 35)
    (h : DataW.trod enc Tryz.prog W 0 (fun _ => true) true fuel 34 L = some x) : ∃ p : PV, L = p.cells ∧ p.In W := by
  match L, hL with
  | a :: b :: c :: T, hL =>
    have hT : T.length = 32 := by simpa using hL
    obtain ⟨y0, y1, y2, y3, n, _, _, h0, h1, h2, h3⟩ := trod_struct4 Tryz.underlying34 h
    simp only [cellsA, cellsI, cellsD, List.drop_zero, List.drop_succ_cons, List.take_succ_cons, List.take_zero] at h0 h1 h2 h3
    rw [List.take_of_length_le (by omega)] at h3
    obtain ⟨zb, eb, _⟩ := DataW.trod_int Tryz.underlying3 h1
    obtain ⟨zc, ec, _⟩ := DataW.trod_int Tryz.underlying3 h2
    obtain ⟨S, rfl, hS⟩ := open_id hT h3
    cases eb; cases ec
    obtain ⟨ao, len, cap, l, e, hR, hl⟩ := open_addrsD h0
    cases e
    exact ⟨⟨.slice ao len cap, l, zb, zc, S⟩, rfl, hS, ao, len, cap, rfl, hR, hl⟩
end Go.Proofs.YtmdfbdfijnmhkaaGreat
