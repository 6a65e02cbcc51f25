/- A pointer among the arguments, opened. -/
import Derived.Test.YtifajcblbedcoaaGreatOpen
namespace Go.Proofs.YtifajcblbedcoaaGreat
set_option linter.unusedVariables false
set_option linter.unusedSimpArgs false
open Go.ChangeShapes Go.WideShapes Go.ChangeAt Go.RowKit Go.Deep Go.Lib Go.Joins Hp
set_option maxRecDepth 100000
theorem slice_spot {P : Program} {W : World} {base n c : Nat} {t e : TypeId} {a : Addr} (ht : P.underlying t = some (.slice e)) (h : Cell.okWide P W .any base t (.slice (some a) n c)) : a.spot = none := by
  unfold Cell.okWide at h
  rw [ht] at h
  simp [Cell.ok, ht, World.has] at h
  exact h.2.2.2.1
theorem addr_form {a : Addr} (h : a.spot = none) : ∃ b off, a = ⟨b, off, none⟩ := ⟨a.block, a.off, by cases a; simp_all⟩
theorem cellsA : Tryz.prog.cellsOf 28 = 1 := by kernel_rfl
theorem cellsE : Tryz.prog.cellsOf 102 = 2 := by kernel_rfl
theorem cellsI : Tryz.prog.cellsOf 3 = 1 := by kernel_rfl
theorem cellsB : Tryz.prog.cellsOf 5 = 1 := by kernel_rfl
theorem cellsD : Tryz.prog.cellsOf 30 = 32 := by kernel_rfl
theorem cellsP : Tryz.prog.cellsOf 32 = 35 := by kernel_rfl
theorem open_addrs {H : Type} {enc : TypeId × Value → H} {W : World} {fuel : Nat} {ao : Option Addr} {len cap : Nat} {x : DataW H × List MemPlace} (hok : ∀ a, ao = some a → a.spot = none)
    (h : DataW.trod enc Tryz.prog W 0 (fun _ => true) true fuel 28 [.slice ao len cap] = some x) : ∃ l : List (Int × Int), Rd W (.slice ao len cap) 2 len (addrsV l) ∧ l.length = len := by
  rcases open_slice_pairs Tryz.underlying28 Tryz.underlying102 cellsE rfl rfl cellsI cellsI h with ⟨hc, _⟩ | ⟨a, len', cap', m, n, V0, V1, D0, D1, P0, P1, hc, _, hl, hm, hmm, _, hx⟩
  · simp at hc
    obtain ⟨rfl, rfl, rfl⟩ := hc
    exact ⟨[], Rd.nil _ _, rfl⟩
  · simp at hc
    obtain ⟨rfl, rfl, rfl⟩ := hc
    obtain ⟨b, off, rfl⟩ := addr_form (hok a rfl)
    simp at hmm
    subst hmm
    have hf : ∀ i, ∃ q : Int × Int, i < m → V0 i = .int .i64 q.1 ∧ V1 i = .int .i64 q.2 := by
      intro i
      by_cases hi : i < m
      · obtain ⟨_, _, h2, h3⟩ := hx i hi
        obtain ⟨z0, e0, _⟩ := DataW.trod_int Tryz.underlying3 h2
        obtain ⟨z1, e1, _⟩ := DataW.trod_int Tryz.underlying3 h3
        exact ⟨(z0, z1), fun _ => ⟨by simpa using e0, by simpa using e1⟩⟩
      · exact ⟨(0, 0), fun h => absurd h hi⟩
    obtain ⟨f, hf⟩ := Classical.axiomOfChoice hf
    refine ⟨(List.range len).map f, rd_pairs f hl hm fun i hi => ?_, by simp⟩
    obtain ⟨h0, h1, _, _⟩ := hx i (by omega)
    obtain ⟨e0, e1⟩ := hf i (by omega)
    rw [Addr.add_mid, e0] at h0
    rw [Addr.add_mid, e1] at h1
    exact ⟨h0, h1⟩
theorem open_id {H : Type} {enc : TypeId × Value → H} {W : World} {fuel : Nat} {T : List Value} {x : DataW H × List MemPlace} (hT : T.length = 32)
    (h : DataW.trod enc Tryz.prog W 0 (fun _ => true) true fuel 30 T = some x) : ∃ S, T = bytesV S ∧ L32 S := by
  obtain ⟨xs, m, _, _, _, hxs, hx⟩ := DataW.trod_array Tryz.underlying30 h
  obtain ⟨S, hS, hl⟩ := bytes_of_cells T (by
    intro v hv
    obtain ⟨i, hi, rfl⟩ := List.getElem_of_mem hv
    have h1 := hx i (by omega)
    rw [cellsB, Nat.mul_one, List.getElem?_eq_getElem (by omega)] at h1
    obtain ⟨k, e, _, hw⟩ := DataW.trod_int Tryz.underlying5 h1
    have e2 : T[i] = .int .u8 k := by
      have := congrArg (·[0]?) e
      simpa [List.getElem?_take, List.getElem?_drop, hi] using this
    refine ⟨k, e2, ?_⟩
    simp only [Lit.wf, Bool.and_eq_true, decide_eq_true_eq] at hw
    have h3 : IntKind.u8.min = 0 := rfl
    have h4 : IntKind.u8.max = 255 := rfl
    omega)
  exact ⟨S, hS, by unfold L32; omega⟩
theorem open_pointer {H : Type} {enc : TypeId × Value → H} {W : World} {base fuel : Nat} {v : Value} {x : DataW H × List MemPlace} (hv : Value.okWide Tryz.prog W .any base 32 v)
    (h : DataW.trod enc Tryz.prog W 0 (fun _ => true) true fuel 32 v.cells.toList = some x) :
    ∃ ao n c b vl S l, v = .agg (ptrCells (.slice ao n c) b vl S).toArray ∧ L32 S ∧ Rd W (.slice ao n c) 2 n (addrsV l) ∧ l.length = n := by
  unfold Value.okWide at hv
  rw [Tryz.underlying32] at hv
  obtain ⟨cs, rfl, hsz, ts, hts, _, hcell⟩ := hv
  rw [show Tryz.prog.cellTypes Tryz.prog.depth 32 = some (28 :: 3 :: 3 :: List.replicate 32 5) from by kernel_rfl] at hts
  cases hts
  rw [cellsP] at hsz
  obtain ⟨L, rfl⟩ : ∃ L : List Value, cs = L.toArray := ⟨cs.toList, rfl⟩
  have hL : L.length = 35 := by simpa using hsz
  match L, hL with
  | a :: b :: c :: T, hL =>
    have hT : T.length = 32 := by simpa using hL
    obtain ⟨y0, y1, y2, y3, n, _, _, h0, h1, h2, h3⟩ := trod_struct4 Tryz.underlying32 h
    simp only [Value.cells, cellsA, cellsI, cellsD, List.drop_zero, List.drop_succ_cons, List.take_succ_cons, List.take_zero] at h0 h1 h2 h3
    rw [List.take_of_length_le (by omega)] at h3
    obtain ⟨zb, eb, _⟩ := DataW.trod_int Tryz.underlying3 h1
    obtain ⟨zc, ec, _⟩ := DataW.trod_int Tryz.underlying3 h2
    obtain ⟨S, rfl, hS⟩ := open_id hT h3
    cases eb; cases ec
    obtain ⟨u, hu, hok⟩ := hcell 0 a rfl
    cases hu
    obtain ⟨ao, len, cap, rfl⟩ : ∃ ao len cap, a = .slice ao len cap := by
      rcases open_slice_pairs Tryz.underlying28 Tryz.underlying102 cellsE rfl rfl cellsI cellsI h0 with ⟨hc, _⟩ | ⟨_, _, _, _, _, _, _, _, _, _, _, hc, _⟩
      · cases hc; exact ⟨_, _, _, rfl⟩
      · cases hc; exact ⟨_, _, _, rfl⟩
    obtain ⟨l, hR, hl⟩ := open_addrs (fun a ha => by subst ha; exact slice_spot Tryz.underlying28 hok) h0
    exact ⟨ao, len, cap, zb, zc, S, l, rfl, hS, hR, hl⟩
end Go.Proofs.YtifajcblbedcoaaGreat
