/- A node among the arguments, opened. -/
import Derived.Test.YthjafocnfpphlaaOpenP
import Derived.Test.YthjafocnfpphlaaNode
import Derived.ChangeSame
namespace Go.Proofs.Ythjafocnfpphlaa
open Go.ChangeShapes Go.WideShapes Go.ChangeAt Go.RowKit Go.Deep Go.Lib Go.Joins Hp
theorem open_pcells {H : Type} {enc : TypeId × Value → H} {W : World} {fuel : Nat} {L : List Value} {x : DataW H × List MemPlace} (hL : L.length = 35) (hsp : ∀ a n c, L[0]? = some (.slice (some a) n c) → a.spot = none)
    (h : DataW.trod enc Try.prog W 0 (fun _ => true) true fuel 29 L = some x) : ∃ p : PV, L = p.cells ∧ p.In W := by
  match L, hL with
  | a :: b :: c :: T, hL =>
    have hT : T.length = 32 := by simpa using hL
    obtain ⟨y0, y1, y2, y3, n, _, _, h0, h1, h2, h3⟩ := trod_struct4 Try.underlying29 h
    simp only [cellsA, cellsI, cellsD, List.drop_zero, List.drop_succ_cons, List.take_succ_cons, List.take_zero] at h0 h1 h2 h3
    rw [List.take_of_length_le (by omega)] at h3
    obtain ⟨zb, eb, _⟩ := DataW.trod_int Try.underlying3 h1
    obtain ⟨zc, ec, _⟩ := DataW.trod_int Try.underlying3 h2
    obtain ⟨S, rfl, hS⟩ := open_id hT h3
    cases eb; cases ec
    obtain ⟨ao, len, cap, rfl⟩ : ∃ ao len cap, a = .slice ao len cap := by
      rcases open_slice_pairs Try.underlying25 Try.underlying42 cellsE rfl rfl cellsI cellsI h0 with ⟨hc, _⟩ | ⟨_, _, _, _, _, _, _, _, _, _, _, hc, _⟩
      · cases hc; exact ⟨_, _, _, rfl⟩
      · cases hc; exact ⟨_, _, _, rfl⟩
    obtain ⟨l, hR, hl⟩ := open_addrs (fun a ha => by subst ha; exact hsp _ _ _ rfl) h0
    exact ⟨⟨.slice ao len cap, l, zb, zc, S⟩, rfl, hS, ao, len, cap, rfl, hR, hl⟩
theorem cellsN : Try.prog.cellsOf 51 = 141 := by kernel_rfl
theorem cellsN4 : Try.prog.cellsOf 49 = 140 := by kernel_rfl
def ptrTypes : List TypeId := 25 :: 3 :: 3 :: List.replicate 32 5
theorem open_node {H : Type} {enc : TypeId × Value → H} {W : World} {base fuel : Nat} {v : Value} {x : DataW H × List MemPlace} (hv : Value.okWide Try.prog W .any base 51 v)
    (h : DataW.trod enc Try.prog W 0 (fun _ => true) true fuel 51 v.cells.toList = some x) : ∃ y : NV, v = .agg y.cells.toArray ∧ y.In W := by
  unfold Value.okWide at hv
  rw [Try.underlying51] at hv
  obtain ⟨cs, rfl, hsz, ts, hts, _, hcell⟩ := hv
  rw [show Try.prog.cellTypes Try.prog.depth 51 = some (3 :: (ptrTypes ++ (ptrTypes ++ (ptrTypes ++ ptrTypes)))) from by kernel_rfl] at hts
  cases hts
  rw [cellsN] at hsz
  obtain ⟨L, rfl⟩ : ∃ L : List Value, cs = L.toArray := ⟨cs.toList, rfl⟩
  have hL : L.length = 141 := by simpa using hsz
  match L, hL with
  | a :: T, hL =>
    have hT : T.length = 140 := by simpa using hL
    obtain ⟨y0, y1, n, _, _, h0, h1⟩ := trod_struct2 Try.underlying51 h
    simp only [Value.cells, cellsI, cellsN4, List.drop_zero, List.drop_succ_cons, List.take_succ_cons, List.take_zero] at h0 h1
    rw [List.take_of_length_le (by omega)] at h1
    obtain ⟨zl, el, _⟩ := DataW.trod_int Try.underlying3 h0
    cases el
    obtain ⟨xs, m, _, _, _, hxs, hx⟩ := DataW.trod_array Try.underlying49 h1
    have one : ∀ i, i < 4 → ∃ p : PV, (T.drop (i * 35)).take 35 = p.cells ∧ p.In W := by
      intro i hi
      have hxi := hx i hi
      rw [cellsP, List.getElem?_eq_getElem (by omega)] at hxi
      refine open_pcells (by rw [List.length_take, List.length_drop]; omega) (fun a n c hc => ?_) hxi
      rw [List.getElem?_take_of_lt (by decide), List.getElem?_drop] at hc
      have e : (Value.int .i64 zl :: T).toArray[1 + i * 35]? = some (.slice (some a) n c) := by
        rw [List.getElem?_toArray, show 1 + i * 35 = i * 35 + 0 + 1 by omega, List.getElem?_cons_succ]
        exact hc
      obtain ⟨u, hu, hok⟩ := hcell (1 + i * 35) _ e
      have hts : (3 :: (ptrTypes ++ (ptrTypes ++ (ptrTypes ++ ptrTypes))))[(1 + i * 35) % (3 :: (ptrTypes ++ (ptrTypes ++ (ptrTypes ++ ptrTypes)))).length]? = some 25 := by
        obtain rfl | rfl | rfl | rfl : i = 0 ∨ i = 1 ∨ i = 2 ∨ i = 3 := by omega
        all_goals kernel_rfl
      rw [hts] at hu
      cases hu
      exact slice_spot Try.underlying25 hok
    obtain ⟨p0, e0, i0⟩ := one 0 (by omega)
    obtain ⟨p1, e1, i1⟩ := one 1 (by omega)
    obtain ⟨p2, e2, i2⟩ := one 2 (by omega)
    obtain ⟨p3, e3, i3⟩ := one 3 (by omega)
    refine ⟨⟨zl, p0, p1, p2, p3⟩, ?_, fun k => ?_⟩
    · have e : T = p0.cells ++ (p1.cells ++ (p2.cells ++ p3.cells)) := by
        rw [← e0, ← e1, ← e2, ← e3]
        have s : ∀ (l : List Value) (k : Nat), l = l.take k ++ l.drop k := fun l k => (List.take_append_drop k l).symm
        conv => lhs; rw [s T 35, s (T.drop 35) 35, s ((T.drop 35).drop 35) 35]
        simp only [List.drop_drop, Nat.zero_mul, List.drop_zero, Nat.one_mul]
        rw [List.take_of_length_le (l := T.drop (3 * 35)) (by rw [List.length_drop]; omega)]
      rw [e]; rfl
    · match k with
      | 0 => exact i0
      | 1 => exact i1
      | 2 => exact i2
      | _ + 3 => exact i3
end Go.Proofs.Ythjafocnfpphlaa
