/- What changing a name tells. -/
import Derived.Test.YtifajcblbedcoaaGreatJDirKeepsf
namespace Go.Proofs.YtifajcblbedcoaaGreat
set_option linter.unusedVariables false
set_option linter.unusedSimpArgs false
open Go.RowKit Hp
attribute [local irreducible] Go.Calls Go.wpList
set_option maxRecDepth 100000
set_option maxHeartbeats 8000000
theorem fill_step {place : Nat → Option (Nat × Nat)} {i off : Nat} {v : Value} {vs cs cs' : List Value} (hp : place i = some (off, vs.length)) (hv : v.cells = vs.toArray) (hf : off + vs.length ≤ cs.length) (he : putAt cs off vs = cs') (rest : List (Nat × Value)) : Instr.fill place cs.toArray ((i, v) :: rest) = Instr.fill place cs'.toArray rest := by
  subst he
  have h1 := fold_set off vs 0 (cs.take off) (cs.drop off) (by rw [List.length_take]; omega) (by rw [List.length_drop]; omega)
  rw [List.take_append_drop, List.drop_drop] at h1
  simp only [Instr.fill, hp, hv]
  rw [if_neg (by simp; omega)]
  rw [← Array.foldl_toList, Array.toList_zipIdx]
  have h2 : List.foldl (fun (cs : Array Value) (x : Value × Nat) => match x with | (c, j) => cs.setIfInBounds (off + j) c) cs.toArray vs.zipIdx = (cs.take off ++ (vs ++ cs.drop (off + vs.length))).toArray := h1
  rw [List.toList_toArray, h2]
  rfl
def recPl : Array (Nat × Nat) := #[(0, 1), (1, 1), (2, 1), (3, 1), (4, 35), (39, 1), (40, 1), (41, 1), (42, 1), (43, 1)]
theorem rec_places (ps : List (Nat × Value)) : Tryz.prog.built 53 ps = Instr.fill (recPl[·]?) (xC 0 [] 0 0 ⟨.slice none 0 0, [], 0, 0, nones⟩ 0 0 0 0 0).toArray ps := by kernel_rfl
theorem bldSnap {v : RC} (h : L32 v.S) (sv : Value) (nm : List UInt8) (txg : Int) : Tryz.prog.built 53 [(1, .string ⟨nm.toArray⟩), (2, .int .i64 2), (3, .int .i64 v.size), (4, .agg (PV.cells ((v.pv undef).re sv)).toArray), (5, .int .i64 txg), (6, .int .i64 v.id)] = some (cellsR (sv, snapR v nm txg)).toArray := by
  have hq : L32 ((v.pv undef).re sv).S := h
  rw [rec_places]
  rw [fill_step (vs := [.string ⟨nm.toArray⟩]) rfl rfl (by rw [xC_len L32.nones]; show 1 + 1 ≤ 44; decide) (xC_put1 _)]
  rw [fill_step (vs := [.int .i64 2]) rfl rfl (by rw [xC_len L32.nones]; decide) (xC_put2 _)]
  rw [fill_step (vs := [.int .i64 v.size]) rfl rfl (by rw [xC_len L32.nones]; show 3 + 1 ≤ 44; decide) (xC_put3 _)]
  rw [fill_step (off := 4) (vs := PV.cells ((v.pv undef).re sv)) (by rw [PV.len hq]; rfl) rfl (by rw [xC_len L32.nones, PV.len hq]; decide) (xC_put4 L32.nones hq)]
  rw [fill_step (vs := [.int .i64 txg]) rfl rfl (by rw [xC_len hq]; show 39 + 1 ≤ 44; decide) (xC_put39 hq _)]
  rw [fill_step (vs := [.int .i64 v.id]) rfl rfl (by rw [xC_len hq]; show 40 + 1 ≤ 44; decide) (xC_put40 hq _)]
  rfl
theorem bldClone {v : RC} (h : L32 v.S) (sv : Value) (nm : List UInt8) (txg : Int) : Tryz.prog.built 53 [(1, .string ⟨nm.toArray⟩), (2, .int .i64 1), (3, .int .i64 v.size), (4, .agg (PV.cells ((v.pv undef).re sv)).toArray), (5, .int .i64 txg), (7, .int .i64 v.id)] = some (cellsR (sv, cloneR v nm txg)).toArray := by
  have hq : L32 ((v.pv undef).re sv).S := h
  rw [rec_places]
  rw [fill_step (vs := [.string ⟨nm.toArray⟩]) rfl rfl (by rw [xC_len L32.nones]; show 1 + 1 ≤ 44; decide) (xC_put1 _)]
  rw [fill_step (vs := [.int .i64 1]) rfl rfl (by rw [xC_len L32.nones]; decide) (xC_put2 _)]
  rw [fill_step (vs := [.int .i64 v.size]) rfl rfl (by rw [xC_len L32.nones]; show 3 + 1 ≤ 44; decide) (xC_put3 _)]
  rw [fill_step (off := 4) (vs := PV.cells ((v.pv undef).re sv)) (by rw [PV.len hq]; rfl) rfl (by rw [xC_len L32.nones, PV.len hq]; decide) (xC_put4 L32.nones hq)]
  rw [fill_step (vs := [.int .i64 txg]) rfl rfl (by rw [xC_len hq]; show 39 + 1 ≤ 44; decide) (xC_put39 hq _)]
  rw [fill_step (vs := [.int .i64 v.id]) rfl rfl (by rw [xC_len hq]; show 41 + 1 ≤ 44; decide) (xC_put41 hq _)]
  rfl
section
variable {w w1 : World} {g : Nat} {t : TC} {rv lv : Value} {xs : List (Value × RC)} {R : List HA}
theorem tp_recs (L : List HA) (hok : Okx xs t) (hst : St w [] w1 (L ++ TP g t rv lv xs R)) : RecsIn w1 rv xs.length xs :=
  recs_inL hst (List.mem_append_right _ (.tail _ (.head _))) rfl (OwnX.sub (hok.own (.row lv 3 1 t.lives.length (numsV t.lives)) R) fun y hy => List.mem_append_right _ (.tail _ (.tail _ hy)))
theorem tp_spot (L : List HA) (hst : St w [] w1 (L ++ TP g t rv lv xs R)) (hn : 0 < xs.length) : ∃ g2 c, rv = .slice (some ⟨g2, 0, none⟩) xs.length c := by
  obtain ⟨g2, c, h, _⟩ := row_spot hst (List.mem_append_right _ (.tail _ (.head _))) hn
  exact ⟨g2, c, h⟩
theorem tp_range (L : List HA) {g2 c j : Nat} {x : Value × RC} (hok : Okx xs t) (hst : St w [] w1 (L ++ TP g t (.slice (some ⟨g2, 0, none⟩) xs.length c) lv xs R)) (hx : xs[j]? = some x) : w1.rangeAt g2 (j * 44) (cellsR x) := by
  have hlt := (List.getElem?_eq_some_iff.1 hx).1
  obtain ⟨x', b, off, hx', he, _, hr⟩ := RecsIn.at (tp_recs L hok hst) hlt
  cases he
  rw [hx] at hx'
  cases hx'
  rwa [Nat.zero_add] at hr
theorem tp_loadR (L : List HA) {g2 c j : Nat} {x : Value × RC} (hok : Okx xs t) (hst : St w [] w1 (L ++ TP g t (.slice (some ⟨g2, 0, none⟩) xs.length c) lv xs R)) (hx : xs[j]? = some x) : Loads Tryz.prog w1 53 ⟨g2, j * 44, none⟩ (.agg (cellsR x).toArray) :=
  Loads.range (by rw [cellsR_len (hok.ok x (List.mem_of_getElem? hx)).1]; exact (inferInstance : TyA Tryz.prog 53 44).out) (tp_range L hok hst hx)
theorem tp_loadC (L : List HA) {T : TypeId} {g2 c j d : Nat} {v : Value} {x : Value × RC} (hok : Okx xs t) (hst : St w [] w1 (L ++ TP g t (.slice (some ⟨g2, 0, none⟩) xs.length c) lv xs R)) (hx : xs[j]? = some x) (hd : (cellsR x)[d]? = some v) [ht : TyS Tryz.prog T] : Loads Tryz.prog w1 T ⟨g2, j * 44 + d, none⟩ v :=
  Loads.cell ht.out (tp_range L hok hst hx d v hd)
theorem tp_loadR0 (L : List HA) {g2 c j : Nat} {x : Value × RC} (hok : Okx xs t) (hst : St w [] w1 (L ++ TP g t (.slice (some ⟨g2, 0, none⟩) xs.length c) lv xs R)) (hx : xs[j]? = some x) : Loads Tryz.prog w1 53 ⟨g2, 0 + j * 44, none⟩ (.agg (cellsR x).toArray) := by
  rw [Nat.zero_add]
  exact tp_loadR L hok hst hx
theorem tp_loadC0 (L : List HA) {T : TypeId} {g2 c j d : Nat} {v : Value} {x : Value × RC} (hok : Okx xs t) (hst : St w [] w1 (L ++ TP g t (.slice (some ⟨g2, 0, none⟩) xs.length c) lv xs R)) (hx : xs[j]? = some x) (hd : (cellsR x)[d]? = some v) [ht : TyS Tryz.prog T] : Loads Tryz.prog w1 T ⟨g2, 0 + j * 44 + d, none⟩ v := by
  rw [Nat.zero_add]
  exact tp_loadC L hok hst hx hd
theorem tp_in (L : List HA) {j : Nat} {x : Value × RC} (hok : Okx xs t) (hst : St w [] w1 (L ++ TP g t rv lv xs R)) (hx : xs[j]? = some x) : RC.In w1 x := (tp_recs L hok hst).each x (List.mem_of_getElem? hx)
theorem okx_at {j : Nat} {y : RC} (hok : Okx xs t) (hy : t.recs[j]? = some y) : ∃ x, xs[j]? = some x ∧ x.2 = y := by
  rw [← hok.eq, List.getElem?_map] at hy
  cases hx : xs[j]? with
  | none => rw [hx] at hy; cases hy
  | some x => rw [hx] at hy; exact ⟨x, rfl, Option.some.inj hy⟩
end
end Go.Proofs.YtifajcblbedcoaaGreat
namespace Go.Proofs.YtifajcblbedcoaaGreat
set_option linter.unusedVariables false
set_option linter.unusedSimpArgs false
open Go.RowKit Hp
attribute [local irreducible] Go.Calls Go.wpList
set_option maxRecDepth 100000
set_option maxHeartbeats 8000000
attribute [local go_sem ↓] heldInt heldInts heldRecs heldRec heldStr heldTab heldPtr
theorem birth_le {t : TC} (h : t.ok = true) {y : RC} (hy : y ∈ t.recs) : y.l.length ≤ 3 ∧ y.name.length ≤ 1000000 := ⟨((ok_bd h).recs y hy).rootLen, by have := ((ok_bd h).recs y hy).name; omega⟩
theorem split_in (l : List UInt8) (h : l.length ≤ 1000000) : (splitL l).1.length ≤ 1000000 ∧ (splitL l).2.1.length ≤ 1000000 := ⟨Nat.le_trans (split_lenG l).1 h, Nat.le_trans (split_lenG l).2 h⟩
theorem snap_does {w : World} {g1 gx : Nat} (nm : List UInt8) (txg : Int) (h1 : w.cell? ⟨g1, 0, none⟩ = some (.string ⟨nm.toArray⟩)) (h2 : w.cell? ⟨gx, 0, none⟩ = some (.int .i64 txg)) (hl : nm.length ≤ 1000000) (t : TC) (hk : t.ok = true) :
    Does 67 #[.pointer (some ⟨g1, 0, none⟩), .pointer (some ⟨gx, 0, none⟩)] w t (snapT t nm txg) := by
  intro g ao c al cl xs R w1 hok hst0
  show Calls _ _ #[.pointer (some ⟨g, 0, none⟩), .pointer (some ⟨g1, 0, none⟩), .pointer (some ⟨gx, 0, none⟩)] _ _
  have hst := hst0
  have H1 := hid h1
  have H2 := hid h2
  have HOK := hid hok
  have HK := hid hk
  have b2 : xs.length ≤ 16 := by rw [hok.len]; exact ok_many hk
  clear hst0 hok hk h1 h2
  obtain ⟨r, hr⟩ : ∃ r, r = snapT t nm txg := ⟨_, rfl⟩
  rw [← hr]
  have HNM := H1
  have HTX := H2
  obtain ⟨⟨v, u, f⟩, hx⟩ : ∃ p, splitL nm = p := ⟨_, rfl⟩
  have hvl : v.length ≤ 1000000 := by have := (split_in nm hl).1; rwa [hx] at this
  obtain ⟨s, hs⟩ : ∃ s, txgB txg = s := ⟨_, rfl⟩
  obtain ⟨z, hz⟩ : ∃ z, roomE t nm = z := ⟨_, rfl⟩
  have HX := hid hx
  have HT := hid hs
  have HRM := hid hz
  have HV := hid (show r = if f && s then (match recAt v t.recs with
    | none => badR 6
    | some y => if z == 0 then (if decide (txg < y.b) then badR 2 else (0, putT t (snapR y nm txg))) else badR z) else badR 2 by rw [hr]; unfold snapT snapB; rw [hx, hs, hz]; rfl)
  clear hr hx hs hz
  cases hc : (f && s)
  · have HB := hid (show r = badR 2 by rw [HV.out, hc]; rfl)
    clear HV
    cases f <;> cases s <;> first | (cases hc; done) | skip
    all_goals
      clear hc
      go_enter Tryz.func67, Tryz.ntmps67
      go_wp2_with (first | go_big_skip | go_big_guard | (refine wl_loadE rfl rfl rfl ?_; first | refine ⟨_, Loads.atA (tabC t (.slice ao xs.length c) (.slice al t.lives.length cl)) [] hst rfl rfl, ?_⟩ | refine ⟨_, Loads.old hst H1.out, ?_⟩ | refine ⟨_, Loads.old hst H2.out, ?_⟩) | (go_at_call 68; refine (split_any nm _ (by omega)).mono ?_; rw [HX.out]; rintro _ w9 ⟨rfl, h4⟩; replace hst := St.call0 hst h4; clear h4) | (go_at_call 64; refine (commit_any txg _).mono ?_; rw [HT.out]; rintro _ w9 ⟨rfl, h4⟩; replace hst := St.call0 hst h4; clear h4))
      go_ret
      exact does_bad (L := []) HB.out (by decide) hst
  · have h3 : f = true ∧ s = true := by revert hc; cases f <;> cases s <;> decide
    obtain ⟨rfl, rfl⟩ := h3
    rcases find_split (nm := v) (l := t.recs) with ⟨hra, hf⟩ | ⟨j, y, hy, hra, hfn, hf, hnm⟩
    · have HF := hid hf
      have HB := hid (show r = badR 6 by rw [HV.out, hc, hra]; rfl)
      clear hc HV hf hra
      go_enter Tryz.func67, Tryz.ntmps67
      go_wp2_with (first | go_big_skip | go_big_guard | (refine wl_loadE rfl rfl rfl ?_; first | refine ⟨_, Loads.atA (tabC t (.slice ao xs.length c) (.slice al t.lives.length cl)) [] hst rfl rfl, ?_⟩ | refine ⟨_, Loads.old hst H1.out, ?_⟩ | refine ⟨_, Loads.old hst H2.out, ?_⟩) | (go_at_call 68; refine (split_any nm _ (by omega)).mono ?_; rw [HX.out]; rintro _ w9 ⟨rfl, h4⟩; replace hst := St.call0 hst h4; clear h4) | (go_at_call 64; refine (commit_any txg _).mono ?_; rw [HT.out]; rintro _ w9 ⟨rfl, h4⟩; replace hst := St.call0 hst h4; clear h4) | (go_at_call 57; refine (find_any t _ v ao xs.length c xs _ (tp_recs [] HOK.out hst) (by omega)).mono ?_; rw [HOK.out.eq, HF.out]; rintro _ w9 ⟨rfl, h4⟩; replace hst := St.call0 hst h4; clear h4))
      go_ret
      exact does_bad (L := []) HB.out (by decide) hst
    · skip
      obtain ⟨x, hx, hxy⟩ := okx_at HOK.out hy
      subst hxy
      have hlt : j < xs.length := (List.getElem?_eq_some_iff.1 hx).1
      obtain ⟨g2, c2, he⟩ := tp_spot [] hst (by omega)
      cases he
      have HF := hid hf
      have HRA := hid hra
      have HXJ := hid hx
      have HLL := hid ((HOK.out.ok x (List.mem_of_getElem? hx)).1)
      have HLX := hid (cellsR_len (HOK.out.ok x (List.mem_of_getElem? hx)).1)
      have HON := hid (cellsR_ones (tp_in [] HOK.out hst hx))
      have H35 := hid (PV.len (p := x.2.pv x.1) (HOK.out.ok x (List.mem_of_getElem? hx)).1)
      have HB3 := hid (birth_le HK.out (List.mem_of_getElem? hy))
      clear hx hy hf hra hfn hnm
      cases hz : (z == 0)
      · have HB := hid (show r = badR z by rw [HV.out, hc, HRA.out]; show (if z == 0 then _ else _) = _; rw [hz]; rfl)
        have HZ := hid hz
        have d1 : (z != 0) = true := by rw [bne, hz]; rfl
        clear hc hz HV
        go_enter Tryz.func67, Tryz.ntmps67
        go_wp2_with (first | go_big_skip | go_big_guard | (refine wl_loadE rfl rfl rfl ?_; first | refine ⟨_, Loads.atA (tabC t (.slice (some ⟨g2, 0, none⟩) xs.length c) (.slice al t.lives.length cl)) [] hst rfl rfl, ?_⟩ | refine ⟨_, Loads.at [] hst2 rfl, ?_⟩ | refine ⟨_, tp_loadR0 [] HOK.out hst2 HXJ.out, ?_⟩ | refine ⟨.int .i64 x.2.b, Loads.at [] hst4 rfl, ?_⟩ | refine ⟨_, Loads.old hst H1.out, ?_⟩ | refine ⟨_, Loads.old hst H2.out, ?_⟩ | refine ⟨_, Loads.old hst2 H1.out, ?_⟩ | refine ⟨_, Loads.old hst2 H2.out, ?_⟩ | refine ⟨_, Loads.old hst4 H1.out, ?_⟩ | refine ⟨_, Loads.old hst4 H2.out, ?_⟩) | (go_at_call 68; refine (split_any nm _ (by omega)).mono ?_; rw [HX.out]; rintro _ w9 ⟨rfl, h4⟩; replace hst := St.call0 hst h4; clear h4) | (go_at_call 64; refine (commit_any txg _).mono ?_; rw [HT.out]; rintro _ w9 ⟨rfl, h4⟩; replace hst := St.call0 hst h4; clear h4) | (go_at_call 57; refine (find_any t _ v (some ⟨g2, 0, none⟩) xs.length c xs _ (tp_recs [] HOK.out hst) (by omega)).mono ?_; rw [HOK.out.eq, HF.out]; rintro _ w9 ⟨rfl, h4⟩; replace hst := St.call0 hst h4; clear h4) | (go_at_call 65; refine (room_any g t (some ⟨g2, 0, none⟩) xs.length c _ xs nm hst (HOK.out.own _ _) rfl HOK.out.eq (by omega)).mono ?_; rw [HRM.out]; rintro _ w9 ⟨rfl, h4⟩; have hst2 : St w [] w9 (TP g t (.slice (some ⟨g2, 0, none⟩) xs.length c) (.slice al t.lives.length cl) xs R) := h4; clear h4 hst))
        go_ret
        exact does_bad (L := []) HB.out HZ.out hst2
      · have d1 : (z != 0) = false := by rw [bne, hz]; rfl
        by_cases hb : txg < x.2.b
        · have d2 : decide (txg < x.2.b) = true := decide_eq_true hb
          have HB := hid (show r = badR 2 by rw [HV.out, hc, HRA.out]; show (if z == 0 then (if decide (txg < x.2.b) then _ else _) else _) = _; rw [hz, d2]; rfl)
          have d3 : decide (x.2.b > txg) = true := d2
          clear hc hz HV
          go_enter Tryz.func67, Tryz.ntmps67
          go_wp2_with (first | go_big_skip | go_big_guard | (refine wl_loadE rfl rfl rfl ?_; first | refine ⟨_, Loads.atA (tabC t (.slice (some ⟨g2, 0, none⟩) xs.length c) (.slice al t.lives.length cl)) [] hst rfl rfl, ?_⟩ | refine ⟨_, Loads.at [] hst2 rfl, ?_⟩ | refine ⟨_, tp_loadR0 [] HOK.out hst2 HXJ.out, ?_⟩ | refine ⟨.int .i64 x.2.b, Loads.at [] hst4 rfl, ?_⟩ | refine ⟨_, Loads.old hst H1.out, ?_⟩ | refine ⟨_, Loads.old hst H2.out, ?_⟩ | refine ⟨_, Loads.old hst2 H1.out, ?_⟩ | refine ⟨_, Loads.old hst2 H2.out, ?_⟩ | refine ⟨_, Loads.old hst4 H1.out, ?_⟩ | refine ⟨_, Loads.old hst4 H2.out, ?_⟩) | (go_at_call 68; refine (split_any nm _ (by omega)).mono ?_; rw [HX.out]; rintro _ w9 ⟨rfl, h4⟩; replace hst := St.call0 hst h4; clear h4) | (go_at_call 64; refine (commit_any txg _).mono ?_; rw [HT.out]; rintro _ w9 ⟨rfl, h4⟩; replace hst := St.call0 hst h4; clear h4) | (go_at_call 57; refine (find_any t _ v (some ⟨g2, 0, none⟩) xs.length c xs _ (tp_recs [] HOK.out hst) (by omega)).mono ?_; rw [HOK.out.eq, HF.out]; rintro _ w9 ⟨rfl, h4⟩; replace hst := St.call0 hst h4; clear h4) | (go_at_call 65; refine (room_any g t (some ⟨g2, 0, none⟩) xs.length c _ xs nm hst (HOK.out.own _ _) rfl HOK.out.eq (by omega)).mono ?_; rw [HRM.out]; rintro _ w9 ⟨rfl, h4⟩; have hst2 : St w [] w9 (TP g t (.slice (some ⟨g2, 0, none⟩) xs.length c) (.slice al t.lives.length cl) xs R) := h4; clear h4 hst) | (refine wl_index rfl rfl rfl rfl hlt ?_) | (refine wl_alloc hst2 rfl rfl ?_; intro g9 w3 hst3; clear hst2) | (refine wl_storeA [] hst3 rfl rfl rfl rfl (by exact HLX.out) HON.out rfl ?_; intro w4 hst4; clear hst3))
          go_ret
          exact does_bad (L := [_]) HB.out (by decide) hst4
        · have d2 : decide (txg < x.2.b) = false := decide_eq_false hb
          have HB := hid (show r = (0, putT t (snapR x.2 nm txg)) by rw [HV.out, hc, HRA.out]; show (if z == 0 then (if decide (txg < x.2.b) then _ else _) else _) = _; rw [hz, d2]; rfl)
          have d3 : decide (x.2.b > txg) = false := d2
          have hz0 := ok_next HK.out
          have HS := hid (ok_sorted HK.out)
          clear hc hz HV
          go_enter Tryz.func67, Tryz.ntmps67
          go_wp2_with (first | go_big_skip | go_big_guard | (refine wl_loadE rfl rfl rfl ?_; first | refine ⟨_, Loads.atA (tabC t (.slice (some ⟨g2, 0, none⟩) xs.length c) (.slice al t.lives.length cl)) [] hst rfl rfl, ?_⟩ | refine ⟨_, Loads.at [] hst2 rfl, ?_⟩ | refine ⟨_, tp_loadR0 [] HOK.out hst2 HXJ.out, ?_⟩ | refine ⟨.int .i64 x.2.b, Loads.at [] hst4 rfl, ?_⟩ | refine ⟨_, Loads.old hst H1.out, ?_⟩ | refine ⟨_, Loads.old hst H2.out, ?_⟩ | refine ⟨_, Loads.old hst2 H1.out, ?_⟩ | refine ⟨_, Loads.old hst2 H2.out, ?_⟩ | refine ⟨_, Loads.old hst4 H1.out, ?_⟩ | refine ⟨_, Loads.old hst4 H2.out, ?_⟩) | (go_at_call 68; refine (split_any nm _ (by omega)).mono ?_; rw [HX.out]; rintro _ w9 ⟨rfl, h4⟩; replace hst := St.call0 hst h4; clear h4) | (go_at_call 64; refine (commit_any txg _).mono ?_; rw [HT.out]; rintro _ w9 ⟨rfl, h4⟩; replace hst := St.call0 hst h4; clear h4) | (go_at_call 57; refine (find_any t _ v (some ⟨g2, 0, none⟩) xs.length c xs _ (tp_recs [] HOK.out hst) (by omega)).mono ?_; rw [HOK.out.eq, HF.out]; rintro _ w9 ⟨rfl, h4⟩; replace hst := St.call0 hst h4; clear h4) | (go_at_call 65; refine (room_any g t (some ⟨g2, 0, none⟩) xs.length c _ xs nm hst (HOK.out.own _ _) rfl HOK.out.eq (by omega)).mono ?_; rw [HRM.out]; rintro _ w9 ⟨rfl, h4⟩; have hst2 : St w [] w9 (TP g t (.slice (some ⟨g2, 0, none⟩) xs.length c) (.slice al t.lives.length cl) xs R) := h4; clear h4 hst) | (refine wl_index rfl rfl rfl rfl hlt ?_) | (refine wl_alloc hst2 rfl rfl ?_; intro g9 w3 hst3; clear hst2) | (refine wl_storeA [] hst3 rfl rfl rfl rfl (by exact HLX.out) HON.out rfl ?_; intro w4 hst4; clear hst3))
          have hX := hst4.drew
          clear hst4
          refine wp_region_held_drew (S := (fun w' => (loadVarH 9 ⟨g1, 0, none⟩).run Tryz.prog w' = .ok (.string ⟨nm.toArray⟩) w' ∧ (loadVarH 3 ⟨gx, 0, none⟩).run Tryz.prog w' = .ok (.int .i64 txg) w' ∧ (loadVarH 3 ⟨g9, 3, none⟩).run Tryz.prog w' = .ok (.int .i64 x.2.size) w' ∧ (loadVarH 32 ⟨g9, 4, none⟩).run Tryz.prog w' = .ok (.agg (List.toArray ((x.2.pv x.1).cells))) w' ∧ (loadVarH 3 ⟨g9, 0, none⟩).run Tryz.prog w' = .ok (.int .i64 x.2.id) w')) (by kernel_rfl) (by exact ⟨ldO hX (HNM.out), ldO hX (HTX.out), ldS [] hX rfl, ldA ((x.2.pv x.1).cells) [] hX (H35.out) (cellsR_root HLL.out), ldS [] hX rfl⟩) (fun hHeld => ?_)
          refine tq 0 53 ?_
          refine tq 1 54 ?_
          refine tq 2 55 ?_
          refine tq 4 57 ?_
          refine tq 7 60 ?_
          refine tq 8 61 ?_
          refine tq 3 56 ?_
          refine tq 5 58 ?_
          refine tq 9 62 ?_
          refine wpAnyH_ready (rs := [6]) (by kernel_rfl) (by simp) ?_
          refine (AllReadyH.cons (o := ⟨some 59, _, _, _, _, _⟩) rfl (fun K hK => ?_) AllReadyH.nil)
          rw [if_pos (by rfl)]
          go_simp
          go_at_call 69
          refine (ownP_any (x.2.pv x.1) _ (tp_in [_] HOK.out hX HXJ.out).1 (by show x.2.l.length ≤ 100000; have := HB3.out.1; omega)).mono ?_
          rintro _ w5 ⟨a5, n5, c5, rfl, h4, hl5⟩
          have hst5 := St.call hX h4
          subst hl5
          clear h4
          refine hK.out _ _ ?_ (fun hHeld => ?_)
          · exact ⟨ldO hst5 (HNM.out), ldO hst5 (HTX.out), ldS [_] hst5 rfl, ldA ((x.2.pv x.1).cells) [_] hst5 (H35.out) (cellsR_root HLL.out), ldS [_] hst5 rfl⟩
          clear hK K
          (try simp only [Act.put, List.setIfInBounds_toArray, List.set_cons_zero, List.set_cons_succ])
          refine wpAnyH_ready (rs := [10]) (by kernel_rfl) (by simp) ?_
          refine (AllReadyH.cons (o := ⟨some 63, _, _, _, _, _⟩) rfl (fun K hK => ?_) AllReadyH.nil)
          rw [if_pos (by rfl)]
          refine ow_of_wl (ops := #[]) (by rfl) ?_
          refine wl_buildX (cs := cellsR ((.slice a5 (x.2.pv x.1).l.length c5 : Value), snapR x.2 nm txg)) [(1, .string ⟨nm.toArray⟩), (2, .int .i64 2), (3, .int .i64 x.2.size), (4, .agg (PV.cells ((x.2.pv undef).re (.slice a5 (x.2.pv x.1).l.length c5))).toArray), (5, .int .i64 txg), (6, .int .i64 x.2.id)] rfl rfl (by exact rfl) (bldSnap HLL.out _ _ _) ?_
          refine q0_nil ?_
          refine hK.out _ _ ?_ (fun hHeld => ?_)
          · exact ⟨ldO hst5 (HNM.out), ldO hst5 (HTX.out), ldS [_] hst5 rfl, ldA ((x.2.pv x.1).cells) [_] hst5 (H35.out) (cellsR_root HLL.out), ldS [_] hst5 rfl⟩
          clear hK K
          (try simp only [Act.put, List.setIfInBounds_toArray, List.set_cons_zero, List.set_cons_succ])
          refine wpAnyH_ready (rs := [11]) (by kernel_rfl) (by simp) ?_
          refine (AllReadyH.cons (o := ⟨some 64, _, _, _, _, _⟩) rfl (fun K hK => ?_) AllReadyH.nil)
          rw [if_pos (by rfl)]
          go_simp
          go_at_call 66
          have hrd := put_ready (E := [.blk g9 53 (cellsR x)]) (g := g) (t := t) (rv := .slice (some ⟨g2, 0, none⟩) xs.length c) (lv := .slice al t.lives.length cl) (xs := xs) (R := R) (x := ((.slice a5 (x.2.pv x.1).l.length c5 : Value), snapR x.2 nm txg)) hst5
          have hox := ready_own (x := ((.slice a5 (x.2.pv x.1).l.length c5 : Value), snapR x.2 nm txg)) (c := .row (.slice al t.lives.length cl) 3 1 t.lives.length (numsV t.lives)) (E := [.blk g9 53 (cellsR x)] ++ R) HOK.out ⟨HLL.out, hl⟩
          refine (putRec_any g t (some ⟨g2, 0, none⟩) xs.length c _ xs ((.slice a5 (x.2.pv x.1).l.length c5 : Value), snapR x.2 nm txg) hrd hox.1 hox.2 rfl (by rw [HOK.out.eq]; exact HS.out) (by omega) hz0).mono ?_
          rintro _ w9 ⟨rv9, xs9, rfl, he9, ho9, hp9, h4⟩
          have HE9 := hid he9
          have HO9 := hid ho9
          have HP9 := hid hp9
          have hst6 := put_front h4
          clear h4 he9 ho9 hp9 hrd hox
          refine hK.out _ _ ?_ (fun hHeld => ?_)
          · exact ⟨ldO hst6 (HNM.out), ldO hst6 (HTX.out), ldS [] hst6 rfl, ldA ((x.2.pv x.1).cells) [] hst6 (H35.out) (cellsR_root HLL.out), ldS [] hst6 rfl⟩
          clear hK K
          (try simp only [Act.put, List.setIfInBounds_toArray, List.set_cons_zero, List.set_cons_succ])
          refine tq 12 4 ?_
          refine wpAnyH_done (by kernel_rfl) ?_ _
          clear hHeld
          go_wp2_with (first | go_big_skip | go_big_guard | fail)
          go_ret
          exact put_done (E := []) (g := g) (al := al) (cl := cl) (t := t) (rv := rv9) (xs := xs) (xs' := xs9) (R := R) (x := ((.slice a5 (x.2.pv x.1).l.length c5 : Value), snapR x.2 nm txg)) HB.out HOK.out HE9.out (fun y hy => (HO9.out y hy).2) HP9.out (St.sub hst6 (.cons _ (List.Sublist.refl _)))
theorem clone_does {w : World} {g1 g2n gx : Nat} (sp nm : List UInt8) (txg : Int) (h1 : w.cell? ⟨g1, 0, none⟩ = some (.string ⟨sp.toArray⟩)) (h2 : w.cell? ⟨g2n, 0, none⟩ = some (.string ⟨nm.toArray⟩)) (h3 : w.cell? ⟨gx, 0, none⟩ = some (.int .i64 txg)) (hl0 : sp.length ≤ 1000000) (hl : nm.length ≤ 1000000) (t : TC) (hk : t.ok = true) :
    Does 70 #[.pointer (some ⟨g1, 0, none⟩), .pointer (some ⟨g2n, 0, none⟩), .pointer (some ⟨gx, 0, none⟩)] w t (cloneT t sp nm txg) := by
  intro g ao c al cl xs R w1 hok hst0
  show Calls _ _ #[.pointer (some ⟨g, 0, none⟩), .pointer (some ⟨g1, 0, none⟩), .pointer (some ⟨g2n, 0, none⟩), .pointer (some ⟨gx, 0, none⟩)] _ _
  have hst := hst0
  have H1 := hid h1
  have H2 := hid h2
  have H3 := hid h3
  have HOK := hid hok
  have HK := hid hk
  have b2 : xs.length ≤ 16 := by rw [hok.len]; exact ok_many hk
  clear hst0 hok hk h1 h2 h3
  obtain ⟨r, hr⟩ : ∃ r, r = cloneT t sp nm txg := ⟨_, rfl⟩
  rw [← hr]
  have HTX := H3
  obtain ⟨e, hsn⟩ : ∃ e, snapB sp = e := ⟨_, rfl⟩
  obtain ⟨f, hp⟩ : ∃ f, partB nm = f := ⟨_, rfl⟩
  obtain ⟨s, hs⟩ : ∃ s, txgB txg = s := ⟨_, rfl⟩
  obtain ⟨z, hz⟩ : ∃ z, roomE t nm = z := ⟨_, rfl⟩
  have HSP := hid hsn
  have HP := hid hp
  have HT := hid hs
  have HRM := hid hz
  have HV := hid (show r = if (e && f) && s then (match recAt sp t.recs with
    | none => badR 6
    | some y => if z == 0 then (0, putT t (cloneR y nm txg)) else badR z) else badR 2 by rw [hr]; unfold cloneT; rw [hsn, hp, hs, hz]; rfl)
  clear hr hsn hp hs hz
  cases hc : ((e && f) && s)
  · have HB := hid (show r = badR 2 by rw [HV.out, hc]; rfl)
    clear HV
    cases e <;> cases f <;> cases s <;> first | (cases hc; done) | skip
    all_goals
      clear hc
      go_enter Tryz.func70, Tryz.ntmps70
      go_wp2_with (first | go_big_skip | go_big_guard | (refine wl_loadE rfl rfl rfl ?_; first | refine ⟨_, Loads.atA (tabC t (.slice ao xs.length c) (.slice al t.lives.length cl)) [] hst rfl rfl, ?_⟩ | refine ⟨_, Loads.old hst H1.out, ?_⟩ | refine ⟨_, Loads.old hst H2.out, ?_⟩ | refine ⟨_, Loads.old hst H3.out, ?_⟩) | (go_at_call 71; refine (snap_any sp _ (by omega)).mono ?_; rw [HSP.out]; rintro _ w9 ⟨rfl, h4⟩; replace hst := St.call0 hst h4; clear h4) | (go_at_call 62; refine (volume_any nm _ (by omega)).mono ?_; rw [HP.out]; rintro _ w9 ⟨rfl, h4⟩; replace hst := St.call0 hst h4; clear h4) | (go_at_call 64; refine (commit_any txg _).mono ?_; rw [HT.out]; rintro _ w9 ⟨rfl, h4⟩; replace hst := St.call0 hst h4; clear h4))
      go_ret
      exact does_bad (L := []) HB.out (by decide) hst
  · have h3 : e = true ∧ f = true ∧ s = true := by revert hc; cases e <;> cases f <;> cases s <;> decide
    obtain ⟨rfl, rfl, rfl⟩ := h3
    rcases find_split (nm := sp) (l := t.recs) with ⟨hra, hf⟩ | ⟨j, y, hy, hra, hfn, hf, hnm⟩
    · have HF := hid hf
      have HB := hid (show r = badR 6 by rw [HV.out, hc, hra]; rfl)
      clear hc HV hf hra
      go_enter Tryz.func70, Tryz.ntmps70
      go_wp2_with (first | go_big_skip | go_big_guard | (refine wl_loadE rfl rfl rfl ?_; first | refine ⟨_, Loads.atA (tabC t (.slice ao xs.length c) (.slice al t.lives.length cl)) [] hst rfl rfl, ?_⟩ | refine ⟨_, Loads.old hst H1.out, ?_⟩ | refine ⟨_, Loads.old hst H2.out, ?_⟩ | refine ⟨_, Loads.old hst H3.out, ?_⟩) | (go_at_call 71; refine (snap_any sp _ (by omega)).mono ?_; rw [HSP.out]; rintro _ w9 ⟨rfl, h4⟩; replace hst := St.call0 hst h4; clear h4) | (go_at_call 62; refine (volume_any nm _ (by omega)).mono ?_; rw [HP.out]; rintro _ w9 ⟨rfl, h4⟩; replace hst := St.call0 hst h4; clear h4) | (go_at_call 64; refine (commit_any txg _).mono ?_; rw [HT.out]; rintro _ w9 ⟨rfl, h4⟩; replace hst := St.call0 hst h4; clear h4))
      have hX := hst.drew
      clear hst
      refine wp_region_held_drew (S := (fun w' => (loadVarH 27 ⟨g, 0, none⟩).run Tryz.prog w' = .ok (.agg (List.toArray ((tabC t (.slice ao xs.length c) (.slice al t.lives.length cl))))) w' ∧ (loadVarH 9 ⟨g1, 0, none⟩).run Tryz.prog w' = .ok (.string ⟨sp.toArray⟩) w')) (by kernel_rfl) (by exact ⟨ldA ((tabC t (.slice ao xs.length c) (.slice al t.lives.length cl))) [] hX (rfl) (rfl), ldO hX (H1.out)⟩) (fun hHeld => ?_)
      refine tq 0 24 ?_
      refine tq 3 27 ?_
      refine tq 1 25 ?_
      refine tq 2 26 ?_
      refine wpAnyH_ready (rs := [4]) (by kernel_rfl) (by simp) ?_
      refine (AllReadyH.cons (o := ⟨some 28, _, _, _, _, _⟩) rfl (fun K hK => ?_) AllReadyH.nil)
      rw [if_pos (by rfl)]
      go_simp
      go_at_call 57
      refine (find_any t _ sp ao xs.length c xs _ (tp_recs [] HOK.out hX) (by omega)).mono ?_
      rw [HOK.out.eq, HF.out]
      rintro _ w5 ⟨rfl, h4⟩
      have hstF := St.call0 hX h4
      clear h4
      refine hK.out _ _ ?_ (fun hHeld => ?_)
      · exact ⟨ldA ((tabC t (.slice ao xs.length c) (.slice al t.lives.length cl))) [] hstF (rfl) (rfl), ldO hstF (H1.out)⟩
      clear hK K
      (try simp only [Act.put, List.setIfInBounds_toArray, List.set_cons_zero, List.set_cons_succ])
      refine tq 5 23 ?_
      refine tq 6 29 ?_
      refine tq 7 30 ?_
      refine tq 8 6 ?_
      refine tq 9 7 ?_
      refine wpAnyH_done (by kernel_rfl) ?_ _
      clear hHeld
      have hst : St w [] _ (TP g t (.slice ao xs.length c) (.slice al t.lives.length cl) xs R) := hstF
      clear hstF
      go_wp2_with (first | go_big_skip | go_big_guard | fail)
      go_ret
      exact does_bad (L := []) HB.out (by decide) hst
    · skip
      obtain ⟨x, hx, hxy⟩ := okx_at HOK.out hy
      subst hxy
      have hlt : j < xs.length := (List.getElem?_eq_some_iff.1 hx).1
      obtain ⟨g2, c2, he⟩ := tp_spot [] hst (by omega)
      cases he
      have HF := hid hf
      have HRA := hid hra
      have HXJ := hid hx
      have HLL := hid ((HOK.out.ok x (List.mem_of_getElem? hx)).1)
      have HLX := hid (cellsR_len (HOK.out.ok x (List.mem_of_getElem? hx)).1)
      have HON := hid (cellsR_ones (tp_in [] HOK.out hst hx))
      have H35 := hid (PV.len (p := x.2.pv x.1) (HOK.out.ok x (List.mem_of_getElem? hx)).1)
      have HB3 := hid (birth_le HK.out (List.mem_of_getElem? hy))
      clear hx hy hf hra hfn hnm
      cases hz : (z == 0)
      · have HB := hid (show r = badR z by rw [HV.out, hc, HRA.out]; show (if z == 0 then _ else _) = _; rw [hz]; rfl)
        have HZ := hid hz
        have d1 : (z != 0) = true := by rw [bne, hz]; rfl
        clear hc hz HV
        go_enter Tryz.func70, Tryz.ntmps70
        go_wp2_with (first | go_big_skip | go_big_guard | (refine wl_loadE rfl rfl rfl ?_; first | refine ⟨_, Loads.atA (tabC t (.slice (some ⟨g2, 0, none⟩) xs.length c) (.slice al t.lives.length cl)) [] hst rfl rfl, ?_⟩ | refine ⟨_, Loads.at [] hst2 rfl, ?_⟩ | refine ⟨_, tp_loadR0 [] HOK.out hst2 HXJ.out, ?_⟩ | refine ⟨.int .i64 x.2.b, Loads.at [] hst4 rfl, ?_⟩ | refine ⟨_, Loads.old hst H1.out, ?_⟩ | refine ⟨_, Loads.old hst H2.out, ?_⟩ | refine ⟨_, Loads.old hst H3.out, ?_⟩ | refine ⟨_, Loads.old hst2 H1.out, ?_⟩ | refine ⟨_, Loads.old hst2 H2.out, ?_⟩ | refine ⟨_, Loads.old hst2 H3.out, ?_⟩ | refine ⟨_, Loads.old hst4 H1.out, ?_⟩ | refine ⟨_, Loads.old hst4 H2.out, ?_⟩ | refine ⟨_, Loads.old hst4 H3.out, ?_⟩) | (go_at_call 71; refine (snap_any sp _ (by omega)).mono ?_; rw [HSP.out]; rintro _ w9 ⟨rfl, h4⟩; replace hst := St.call0 hst h4; clear h4) | (go_at_call 62; refine (volume_any nm _ (by omega)).mono ?_; rw [HP.out]; rintro _ w9 ⟨rfl, h4⟩; replace hst := St.call0 hst h4; clear h4) | (go_at_call 64; refine (commit_any txg _).mono ?_; rw [HT.out]; rintro _ w9 ⟨rfl, h4⟩; replace hst := St.call0 hst h4; clear h4))
        have hX := hst.drew
        clear hst
        refine wp_region_held_drew (S := (fun w' => (loadVarH 27 ⟨g, 0, none⟩).run Tryz.prog w' = .ok (.agg (List.toArray ((tabC t (.slice (some ⟨g2, 0, none⟩) xs.length c) (.slice al t.lives.length cl))))) w' ∧ (loadVarH 9 ⟨g1, 0, none⟩).run Tryz.prog w' = .ok (.string ⟨sp.toArray⟩) w')) (by kernel_rfl) (by exact ⟨ldA ((tabC t (.slice (some ⟨g2, 0, none⟩) xs.length c) (.slice al t.lives.length cl))) [] hX (rfl) (rfl), ldO hX (H1.out)⟩) (fun hHeld => ?_)
        refine tq 0 24 ?_
        refine tq 3 27 ?_
        refine tq 1 25 ?_
        refine tq 2 26 ?_
        refine wpAnyH_ready (rs := [4]) (by kernel_rfl) (by simp) ?_
        refine (AllReadyH.cons (o := ⟨some 28, _, _, _, _, _⟩) rfl (fun K hK => ?_) AllReadyH.nil)
        rw [if_pos (by rfl)]
        go_simp
        go_at_call 57
        refine (find_any t _ sp (some ⟨g2, 0, none⟩) xs.length c xs _ (tp_recs [] HOK.out hX) (by omega)).mono ?_
        rw [HOK.out.eq, HF.out]
        rintro _ w5 ⟨rfl, h4⟩
        have hstF := St.call0 hX h4
        clear h4
        refine hK.out _ _ ?_ (fun hHeld => ?_)
        · exact ⟨ldA ((tabC t (.slice (some ⟨g2, 0, none⟩) xs.length c) (.slice al t.lives.length cl))) [] hstF (rfl) (rfl), ldO hstF (H1.out)⟩
        clear hK K
        (try simp only [Act.put, List.setIfInBounds_toArray, List.set_cons_zero, List.set_cons_succ])
        refine tq 5 23 ?_
        refine tq 6 29 ?_
        refine tq 7 30 ?_
        refine tq 8 6 ?_
        refine tq 9 7 ?_
        refine wpAnyH_done (by kernel_rfl) ?_ _
        clear hHeld
        have hst : St w [] _ (TP g t (.slice (some ⟨g2, 0, none⟩) xs.length c) (.slice al t.lives.length cl) xs R) := hstF
        clear hstF
        go_wp2_with (first | go_big_skip | go_big_guard | (refine wl_loadE rfl rfl rfl ?_; first | refine ⟨_, Loads.atA (tabC t (.slice (some ⟨g2, 0, none⟩) xs.length c) (.slice al t.lives.length cl)) [] hst rfl rfl, ?_⟩ | refine ⟨_, Loads.at [] hst2 rfl, ?_⟩ | refine ⟨_, tp_loadR0 [] HOK.out hst2 HXJ.out, ?_⟩ | refine ⟨.int .i64 x.2.b, Loads.at [] hst4 rfl, ?_⟩ | refine ⟨_, Loads.old hst H1.out, ?_⟩ | refine ⟨_, Loads.old hst H2.out, ?_⟩ | refine ⟨_, Loads.old hst H3.out, ?_⟩ | refine ⟨_, Loads.old hst2 H1.out, ?_⟩ | refine ⟨_, Loads.old hst2 H2.out, ?_⟩ | refine ⟨_, Loads.old hst2 H3.out, ?_⟩ | refine ⟨_, Loads.old hst4 H1.out, ?_⟩ | refine ⟨_, Loads.old hst4 H2.out, ?_⟩ | refine ⟨_, Loads.old hst4 H3.out, ?_⟩) | (go_at_call 65; refine (room_any g t (some ⟨g2, 0, none⟩) xs.length c _ xs nm hst (HOK.out.own _ _) rfl HOK.out.eq (by omega)).mono ?_; rw [HRM.out]; rintro _ w9 ⟨rfl, h4⟩; have hst2 : St w [] w9 (TP g t (.slice (some ⟨g2, 0, none⟩) xs.length c) (.slice al t.lives.length cl) xs R) := h4; clear h4 hst))
        go_ret
        exact does_bad (L := []) HB.out HZ.out hst2
      · have d1 : (z != 0) = false := by rw [bne, hz]; rfl
        have HB := hid (show r = (0, putT t (cloneR x.2 nm txg)) by rw [HV.out, hc, HRA.out]; show (if z == 0 then _ else _) = _; rw [hz]; rfl)
        have hz0 := ok_next HK.out
        have HS := hid (ok_sorted HK.out)
        clear hc hz HV
        go_enter Tryz.func70, Tryz.ntmps70
        go_wp2_with (first | go_big_skip | go_big_guard | (refine wl_loadE rfl rfl rfl ?_; first | refine ⟨_, Loads.atA (tabC t (.slice (some ⟨g2, 0, none⟩) xs.length c) (.slice al t.lives.length cl)) [] hst rfl rfl, ?_⟩ | refine ⟨_, Loads.at [] hst2 rfl, ?_⟩ | refine ⟨_, tp_loadR0 [] HOK.out hst2 HXJ.out, ?_⟩ | refine ⟨.int .i64 x.2.b, Loads.at [] hst4 rfl, ?_⟩ | refine ⟨_, Loads.old hst H1.out, ?_⟩ | refine ⟨_, Loads.old hst H2.out, ?_⟩ | refine ⟨_, Loads.old hst H3.out, ?_⟩ | refine ⟨_, Loads.old hst2 H1.out, ?_⟩ | refine ⟨_, Loads.old hst2 H2.out, ?_⟩ | refine ⟨_, Loads.old hst2 H3.out, ?_⟩ | refine ⟨_, Loads.old hst4 H1.out, ?_⟩ | refine ⟨_, Loads.old hst4 H2.out, ?_⟩ | refine ⟨_, Loads.old hst4 H3.out, ?_⟩) | (go_at_call 71; refine (snap_any sp _ (by omega)).mono ?_; rw [HSP.out]; rintro _ w9 ⟨rfl, h4⟩; replace hst := St.call0 hst h4; clear h4) | (go_at_call 62; refine (volume_any nm _ (by omega)).mono ?_; rw [HP.out]; rintro _ w9 ⟨rfl, h4⟩; replace hst := St.call0 hst h4; clear h4) | (go_at_call 64; refine (commit_any txg _).mono ?_; rw [HT.out]; rintro _ w9 ⟨rfl, h4⟩; replace hst := St.call0 hst h4; clear h4))
        have hX := hst.drew
        clear hst
        refine wp_region_held_drew (S := (fun w' => (loadVarH 27 ⟨g, 0, none⟩).run Tryz.prog w' = .ok (.agg (List.toArray ((tabC t (.slice (some ⟨g2, 0, none⟩) xs.length c) (.slice al t.lives.length cl))))) w' ∧ (loadVarH 9 ⟨g1, 0, none⟩).run Tryz.prog w' = .ok (.string ⟨sp.toArray⟩) w')) (by kernel_rfl) (by exact ⟨ldA ((tabC t (.slice (some ⟨g2, 0, none⟩) xs.length c) (.slice al t.lives.length cl))) [] hX (rfl) (rfl), ldO hX (H1.out)⟩) (fun hHeld => ?_)
        refine tq 0 24 ?_
        refine tq 3 27 ?_
        refine tq 1 25 ?_
        refine tq 2 26 ?_
        refine wpAnyH_ready (rs := [4]) (by kernel_rfl) (by simp) ?_
        refine (AllReadyH.cons (o := ⟨some 28, _, _, _, _, _⟩) rfl (fun K hK => ?_) AllReadyH.nil)
        rw [if_pos (by rfl)]
        go_simp
        go_at_call 57
        refine (find_any t _ sp (some ⟨g2, 0, none⟩) xs.length c xs _ (tp_recs [] HOK.out hX) (by omega)).mono ?_
        rw [HOK.out.eq, HF.out]
        rintro _ w5 ⟨rfl, h4⟩
        have hstF := St.call0 hX h4
        clear h4
        refine hK.out _ _ ?_ (fun hHeld => ?_)
        · exact ⟨ldA ((tabC t (.slice (some ⟨g2, 0, none⟩) xs.length c) (.slice al t.lives.length cl))) [] hstF (rfl) (rfl), ldO hstF (H1.out)⟩
        clear hK K
        (try simp only [Act.put, List.setIfInBounds_toArray, List.set_cons_zero, List.set_cons_succ])
        refine tq 5 23 ?_
        refine tq 6 29 ?_
        refine tq 7 30 ?_
        refine tq 8 6 ?_
        refine tq 9 7 ?_
        refine wpAnyH_done (by kernel_rfl) ?_ _
        clear hHeld
        have hst : St w [] _ (TP g t (.slice (some ⟨g2, 0, none⟩) xs.length c) (.slice al t.lives.length cl) xs R) := hstF
        clear hstF
        go_wp2_with (first | go_big_skip | go_big_guard | (refine wl_loadE rfl rfl rfl ?_; first | refine ⟨_, Loads.atA (tabC t (.slice (some ⟨g2, 0, none⟩) xs.length c) (.slice al t.lives.length cl)) [] hst rfl rfl, ?_⟩ | refine ⟨_, Loads.at [] hst2 rfl, ?_⟩ | refine ⟨_, tp_loadR0 [] HOK.out hst2 HXJ.out, ?_⟩ | refine ⟨.int .i64 x.2.b, Loads.at [] hst4 rfl, ?_⟩ | refine ⟨_, Loads.old hst H1.out, ?_⟩ | refine ⟨_, Loads.old hst H2.out, ?_⟩ | refine ⟨_, Loads.old hst H3.out, ?_⟩ | refine ⟨_, Loads.old hst2 H1.out, ?_⟩ | refine ⟨_, Loads.old hst2 H2.out, ?_⟩ | refine ⟨_, Loads.old hst2 H3.out, ?_⟩ | refine ⟨_, Loads.old hst4 H1.out, ?_⟩ | refine ⟨_, Loads.old hst4 H2.out, ?_⟩ | refine ⟨_, Loads.old hst4 H3.out, ?_⟩) | (go_at_call 65; refine (room_any g t (some ⟨g2, 0, none⟩) xs.length c _ xs nm hst (HOK.out.own _ _) rfl HOK.out.eq (by omega)).mono ?_; rw [HRM.out]; rintro _ w9 ⟨rfl, h4⟩; have hst2 : St w [] w9 (TP g t (.slice (some ⟨g2, 0, none⟩) xs.length c) (.slice al t.lives.length cl) xs R) := h4; clear h4 hst) | (refine wl_index rfl rfl rfl rfl hlt ?_) | (refine wl_alloc hst2 rfl rfl ?_; intro g9 w3 hst3; clear hst2) | (refine wl_storeA [] hst3 rfl rfl rfl rfl (by exact HLX.out) HON.out rfl ?_; intro w4 hst4; clear hst3))
        have hY := hst4.drew
        clear hst4
        refine wp_region_held_drew (S := (fun w' => (loadVarH 9 ⟨g2n, 0, none⟩).run Tryz.prog w' = .ok (.string ⟨nm.toArray⟩) w' ∧ (loadVarH 3 ⟨gx, 0, none⟩).run Tryz.prog w' = .ok (.int .i64 txg) w' ∧ (loadVarH 3 ⟨g9, 3, none⟩).run Tryz.prog w' = .ok (.int .i64 x.2.size) w' ∧ (loadVarH 32 ⟨g9, 4, none⟩).run Tryz.prog w' = .ok (.agg (List.toArray ((x.2.pv x.1).cells))) w' ∧ (loadVarH 3 ⟨g9, 0, none⟩).run Tryz.prog w' = .ok (.int .i64 x.2.id) w')) (by kernel_rfl) (by exact ⟨ldO hY (H2.out), ldO hY (HTX.out), ldS [] hY rfl, ldA ((x.2.pv x.1).cells) [] hY (H35.out) (cellsR_root HLL.out), ldS [] hY rfl⟩) (fun hHeld => ?_)
        refine tq 0 46 ?_
        refine tq 1 47 ?_
        refine tq 2 48 ?_
        refine tq 4 50 ?_
        refine tq 7 53 ?_
        refine tq 8 54 ?_
        refine tq 3 49 ?_
        refine tq 5 51 ?_
        refine tq 9 55 ?_
        refine wpAnyH_ready (rs := [6]) (by kernel_rfl) (by simp) ?_
        refine (AllReadyH.cons (o := ⟨some 52, _, _, _, _, _⟩) rfl (fun K hK => ?_) AllReadyH.nil)
        rw [if_pos (by rfl)]
        go_simp
        go_at_call 69
        refine (ownP_any (x.2.pv x.1) _ (tp_in [_] HOK.out hY HXJ.out).1 (by show x.2.l.length ≤ 100000; have := HB3.out.1; omega)).mono ?_
        rintro _ w5 ⟨a5, n5, c5, rfl, h4, hl5⟩
        have hst5 := St.call hY h4
        subst hl5
        clear h4
        refine hK.out _ _ ?_ (fun hHeld => ?_)
        · exact ⟨ldO hst5 (H2.out), ldO hst5 (HTX.out), ldS [_] hst5 rfl, ldA ((x.2.pv x.1).cells) [_] hst5 (H35.out) (cellsR_root HLL.out), ldS [_] hst5 rfl⟩
        clear hK K
        (try simp only [Act.put, List.setIfInBounds_toArray, List.set_cons_zero, List.set_cons_succ])
        refine wpAnyH_ready (rs := [10]) (by kernel_rfl) (by simp) ?_
        refine (AllReadyH.cons (o := ⟨some 56, _, _, _, _, _⟩) rfl (fun K hK => ?_) AllReadyH.nil)
        rw [if_pos (by rfl)]
        refine ow_of_wl (ops := #[]) (by rfl) ?_
        refine wl_buildX (cs := cellsR ((.slice a5 (x.2.pv x.1).l.length c5 : Value), cloneR x.2 nm txg)) [(1, .string ⟨nm.toArray⟩), (2, .int .i64 1), (3, .int .i64 x.2.size), (4, .agg (PV.cells ((x.2.pv undef).re (.slice a5 (x.2.pv x.1).l.length c5))).toArray), (5, .int .i64 txg), (7, .int .i64 x.2.id)] rfl rfl (by exact rfl) (bldClone HLL.out _ _ _) ?_
        refine q0_nil ?_
        refine hK.out _ _ ?_ (fun hHeld => ?_)
        · exact ⟨ldO hst5 (H2.out), ldO hst5 (HTX.out), ldS [_] hst5 rfl, ldA ((x.2.pv x.1).cells) [_] hst5 (H35.out) (cellsR_root HLL.out), ldS [_] hst5 rfl⟩
        clear hK K
        (try simp only [Act.put, List.setIfInBounds_toArray, List.set_cons_zero, List.set_cons_succ])
        refine wpAnyH_ready (rs := [11]) (by kernel_rfl) (by simp) ?_
        refine (AllReadyH.cons (o := ⟨some 57, _, _, _, _, _⟩) rfl (fun K hK => ?_) AllReadyH.nil)
        rw [if_pos (by rfl)]
        go_simp
        go_at_call 66
        have hrd := put_ready (E := [.blk g9 53 (cellsR x)]) (g := g) (t := t) (rv := .slice (some ⟨g2, 0, none⟩) xs.length c) (lv := .slice al t.lives.length cl) (xs := xs) (R := R) (x := ((.slice a5 (x.2.pv x.1).l.length c5 : Value), cloneR x.2 nm txg)) hst5
        have hox := ready_own (x := ((.slice a5 (x.2.pv x.1).l.length c5 : Value), cloneR x.2 nm txg)) (c := .row (.slice al t.lives.length cl) 3 1 t.lives.length (numsV t.lives)) (E := [.blk g9 53 (cellsR x)] ++ R) HOK.out ⟨HLL.out, hl⟩
        refine (putRec_any g t (some ⟨g2, 0, none⟩) xs.length c _ xs ((.slice a5 (x.2.pv x.1).l.length c5 : Value), cloneR x.2 nm txg) hrd hox.1 hox.2 rfl (by rw [HOK.out.eq]; exact HS.out) (by omega) hz0).mono ?_
        rintro _ w9 ⟨rv9, xs9, rfl, he9, ho9, hp9, h4⟩
        have HE9 := hid he9
        have HO9 := hid ho9
        have HP9 := hid hp9
        have hst6 := put_front h4
        clear h4 he9 ho9 hp9 hrd hox
        refine hK.out _ _ ?_ (fun hHeld => ?_)
        · exact ⟨ldO hst6 (H2.out), ldO hst6 (HTX.out), ldS [] hst6 rfl, ldA ((x.2.pv x.1).cells) [] hst6 (H35.out) (cellsR_root HLL.out), ldS [] hst6 rfl⟩
        clear hK K
        (try simp only [Act.put, List.setIfInBounds_toArray, List.set_cons_zero, List.set_cons_succ])
        refine tq 12 5 ?_
        refine wpAnyH_done (by kernel_rfl) ?_ _
        clear hHeld
        go_wp2_with (first | go_big_skip | go_big_guard | fail)
        go_ret
        exact put_done (E := []) (g := g) (al := al) (cl := cl) (t := t) (rv := rv9) (xs := xs) (xs' := xs9) (R := R) (x := ((.slice a5 (x.2.pv x.1).l.length c5 : Value), cloneR x.2 nm txg)) HB.out HOK.out HE9.out (fun y hy => (HO9.out y hy).2) HP9.out (St.sub hst6 (.cons _ (List.Sublist.refl _)))
end Go.Proofs.YtifajcblbedcoaaGreat
namespace Go.Proofs.YtifajcblbedcoaaGreat
set_option linter.unusedVariables false
set_option linter.unusedSimpArgs false
open Go.RowKit Hp
attribute [local irreducible] Go.Calls Go.wpList
set_option maxRecDepth 100000
set_option maxHeartbeats 8000000
attribute [local go_sem ↓] heldInt heldInts heldRecs heldRec heldStr heldTab heldPtr
theorem newer_any (x y : Value × RC) (w : World) (hx : L32 x.2.S) (hy : L32 y.2.S) : Calls Tryz.prog 74 #[.agg (cellsR x).toArray, .agg (cellsR y).toArray] w fun e w' => e = .returned (.bool (newerB x.2 y.2)) ∧ St w [] w' [] := by
  have hst0 := St.refl w
  have HLX := hid hx
  have HLY := hid hy
  clear hx hy
  unfold newerB
  cases h1 : decide (y.2.made < x.2.made)
  · have d1 : decide (x.2.made > y.2.made) = false := h1
    cases h2 : (x.2.made == y.2.made)
    · skip
      go_enter Tryz.func74, Tryz.ntmps74
      go_wp2_with (first | go_big_skip | go_big_guard | (refine wl_boxA hst0 rfl rfl rfl ?_; intro gx w1 hst1; clear hst0) | (refine wl_boxA hst1 rfl rfl rfl ?_; intro gy w2 hst; clear hst1) | (refine wl_loadE rfl rfl rfl ?_; first | refine ⟨_, Loads.at [] hst (cellsR_39 HLY.out), ?_⟩ | refine ⟨_, Loads.at [] hst (cellsR_40 HLY.out), ?_⟩ | refine ⟨_, Loads.at [] hst (cellsR_41 HLY.out), ?_⟩ | refine ⟨_, Loads.at [] hst rfl, ?_⟩ | refine ⟨_, Loads.at [_] hst (cellsR_39 HLX.out), ?_⟩ | refine ⟨_, Loads.at [_] hst (cellsR_40 HLX.out), ?_⟩ | refine ⟨_, Loads.at [_] hst (cellsR_41 HLX.out), ?_⟩ | refine ⟨_, Loads.at [_] hst rfl, ?_⟩))
      go_ret
      exact ⟨rfl, hst.nil⟩
    · cases h3 : decide (y.2.id < x.2.id)
      · have d3 : decide (x.2.id > y.2.id) = false := h3
        go_enter Tryz.func74, Tryz.ntmps74
        go_wp2_with (first | go_big_skip | go_big_guard | (refine wl_boxA hst0 rfl rfl rfl ?_; intro gx w1 hst1; clear hst0) | (refine wl_boxA hst1 rfl rfl rfl ?_; intro gy w2 hst; clear hst1) | (refine wl_loadE rfl rfl rfl ?_; first | refine ⟨_, Loads.at [] hst (cellsR_39 HLY.out), ?_⟩ | refine ⟨_, Loads.at [] hst (cellsR_40 HLY.out), ?_⟩ | refine ⟨_, Loads.at [] hst (cellsR_41 HLY.out), ?_⟩ | refine ⟨_, Loads.at [] hst rfl, ?_⟩ | refine ⟨_, Loads.at [_] hst (cellsR_39 HLX.out), ?_⟩ | refine ⟨_, Loads.at [_] hst (cellsR_40 HLX.out), ?_⟩ | refine ⟨_, Loads.at [_] hst (cellsR_41 HLX.out), ?_⟩ | refine ⟨_, Loads.at [_] hst rfl, ?_⟩))
        go_ret
        exact ⟨rfl, hst.nil⟩
      · have d3 : decide (x.2.id > y.2.id) = true := h3
        go_enter Tryz.func74, Tryz.ntmps74
        go_wp2_with (first | go_big_skip | go_big_guard | (refine wl_boxA hst0 rfl rfl rfl ?_; intro gx w1 hst1; clear hst0) | (refine wl_boxA hst1 rfl rfl rfl ?_; intro gy w2 hst; clear hst1) | (refine wl_loadE rfl rfl rfl ?_; first | refine ⟨_, Loads.at [] hst (cellsR_39 HLY.out), ?_⟩ | refine ⟨_, Loads.at [] hst (cellsR_40 HLY.out), ?_⟩ | refine ⟨_, Loads.at [] hst (cellsR_41 HLY.out), ?_⟩ | refine ⟨_, Loads.at [] hst rfl, ?_⟩ | refine ⟨_, Loads.at [_] hst (cellsR_39 HLX.out), ?_⟩ | refine ⟨_, Loads.at [_] hst (cellsR_40 HLX.out), ?_⟩ | refine ⟨_, Loads.at [_] hst (cellsR_41 HLX.out), ?_⟩ | refine ⟨_, Loads.at [_] hst rfl, ?_⟩))
        go_ret
        exact ⟨rfl, hst.nil⟩
  · have d1 : decide (x.2.made > y.2.made) = true := h1
    go_enter Tryz.func74, Tryz.ntmps74
    go_wp2_with (first | go_big_skip | go_big_guard | (refine wl_boxA hst0 rfl rfl rfl ?_; intro gx w1 hst1; clear hst0) | (refine wl_boxA hst1 rfl rfl rfl ?_; intro gy w2 hst; clear hst1) | (refine wl_loadE rfl rfl rfl ?_; first | refine ⟨_, Loads.at [] hst (cellsR_39 HLY.out), ?_⟩ | refine ⟨_, Loads.at [] hst (cellsR_40 HLY.out), ?_⟩ | refine ⟨_, Loads.at [] hst (cellsR_41 HLY.out), ?_⟩ | refine ⟨_, Loads.at [] hst rfl, ?_⟩ | refine ⟨_, Loads.at [_] hst (cellsR_39 HLX.out), ?_⟩ | refine ⟨_, Loads.at [_] hst (cellsR_40 HLX.out), ?_⟩ | refine ⟨_, Loads.at [_] hst (cellsR_41 HLX.out), ?_⟩ | refine ⟨_, Loads.at [_] hst rfl, ?_⟩))
    go_ret
    exact ⟨rfl, hst.nil⟩
theorem rollC_any {w : World} {g : Nat} (x : Value × RC) (hr : w.rangeAt g 0 (cellsR x)) (hx : L32 x.2.S) (y : Value × RC) (hy : RC.In w y) : Calls Tryz.prog 73 #[.agg (cellsR y).toArray, .pointer (some ⟨g, 0, none⟩)] w fun e w' => e = .returned (.bool ((y.2.own == x.2.own) && newerB y.2 x.2)) ∧ St w [] w' [] := by
  have hst0 := St.refl w
  have HLX := hid hx
  have HLY := hid hy.L
  have HL44 := hid (cellsR_len hy.L)
  have HX44 := hid (cellsR_len hx)
  have HRX := hid hr
  have HO6 := hid (show w.cell? ⟨g, 40, none⟩ = some (.int .i64 x.2.own) from by have := hr 40 _ (cellsR_40 hx); rwa [Nat.zero_add] at this)
  clear hr hx hy
  cases h1 : (y.2.own == x.2.own)
  all_goals
    go_enter Tryz.func73, Tryz.ntmps73
    go_wp2_with (first | go_big_skip | go_big_guard | (refine wl_boxA hst0 rfl rfl rfl ?_; intro gy w2 hst; clear hst0) | (refine wl_loadE rfl rfl rfl ?_; first | refine ⟨_, Loads.at [] hst (cellsR_39 HLY.out), ?_⟩ | refine ⟨_, Loads.at [] hst (cellsR_40 HLY.out), ?_⟩ | refine ⟨_, Loads.at [] hst (cellsR_41 HLY.out), ?_⟩ | refine ⟨_, Loads.at [] hst rfl, ?_⟩ | refine ⟨_, Loads.old hst HO6.out, ?_⟩ | refine ⟨_, Loads.atA (cellsR y) [] hst HL44.out (cellsR_all y), ?_⟩ | refine ⟨_, Loads.oldA (cs := cellsR x) hst HX44.out HRX.out, ?_⟩) | (go_at_call 74; refine (newer_any y x _ HLY.out HLX.out).mono ?_; rintro _ w9 ⟨rfl, h4⟩; replace hst := St.call0 hst h4; clear h4))
    go_ret
    exact ⟨rfl, hst.nil⟩
theorem dropC_any {w : World} {g : Nat} {q : Int} (h0 : w.cell? ⟨g, 0, none⟩ = some (.int .i64 q)) (y : Value × RC) (hy : RC.In w y) : Calls Tryz.prog 59 #[.agg (cellsR y).toArray, .pointer (some ⟨g, 0, none⟩)] w fun e w' => e = .returned (.bool ((y.2.own == q) || (y.2.origin == q))) ∧ St w [] w' [] := by
  have hst0 := St.refl w
  have HLY := hid hy.L
  have HQ := hid h0
  clear h0 hy
  cases h1 : (y.2.own == q)
  all_goals
    go_enter Tryz.func59, Tryz.ntmps59
    go_wp2_with (first | go_big_skip | go_big_guard | (refine wl_boxA hst0 rfl rfl rfl ?_; intro gy w2 hst; clear hst0) | (refine wl_loadE rfl rfl rfl ?_; first | refine ⟨_, Loads.at [] hst (cellsR_39 HLY.out), ?_⟩ | refine ⟨_, Loads.at [] hst (cellsR_40 HLY.out), ?_⟩ | refine ⟨_, Loads.at [] hst (cellsR_41 HLY.out), ?_⟩ | refine ⟨_, Loads.at [] hst rfl, ?_⟩ | refine ⟨_, Loads.old hst HQ.out, ?_⟩))
    go_ret
    exact ⟨rfl, hst.nil⟩
theorem set_split {xs : List (Value × RC)} {k : Nat} {v y : Value × RC} (hk : xs[k]? = some v) : xs = xs.take k ++ v :: xs.drop (k + 1) ∧ xs.set k y = xs.take k ++ y :: xs.drop (k + 1) := by
  have hlt := (List.getElem?_eq_some_iff.1 hk).1
  have hv : xs[k] = v := (List.getElem?_eq_some_iff.1 hk).2
  refine ⟨?_, by rw [List.set_eq_take_append_cons_drop, if_pos hlt]⟩
  rw [← hv, ← List.drop_eq_getElem_cons hlt, List.take_append_drop]
theorem set_roots {w w' : World} {A R : List HA} {xs : List (Value × RC)} {k : Nat} {v y : Value × RC} (hk : xs[k]? = some v) (h : St w [] w' (rootH y :: (A ++ (xs.map rootH ++ R)))) : St w [] w' (A ++ ((xs.set k y).map rootH ++ R)) := by
  obtain ⟨e1, e2⟩ := set_split (y := y) hk
  rw [e2]
  rw [e1] at h
  simp only [List.map_append, List.map_cons] at h ⊢
  generalize (xs.take k).map rootH = m1 at h ⊢
  generalize (xs.drop (k + 1)).map rootH = m2 at h ⊢
  have h1 : St w [] w' (rootH y :: (A ++ ((m1 ++ m2) ++ R))) := by
    refine St.sub h (.cons_cons _ ((List.Sublist.refl A).append ?_))
    exact ((List.Sublist.refl m1).append (.cons _ (List.Sublist.refl m2))).append (List.Sublist.refl R)
  refine St.perm h1 ?_
  have h2 : (rootH y :: (A ++ ((m1 ++ m2) ++ R))).Perm ((A ++ m1) ++ (rootH y :: (m2 ++ R))) := by
    have := List.perm_middle (a := rootH y) (l₁ := A ++ m1) (l₂ := m2 ++ R)
    simpa using this.symm
  simpa using h2
section
variable {E : List HA} {g : Nat} {al : Option Addr} {cl k : Nat} {w w' : World} {t : TC} {rv : Value} {xs : List (Value × RC)} {R : List HA} {v y : Value × RC} {r : TR}
theorem set_okx (hok : Okx xs t) (hy : L32 y.2.S ∧ y.2.name.length ≤ 1000000) : Okx (xs.set k y) { t with recs := t.recs.set k y.2 } := by
  refine ⟨?_, fun x hx => ?_⟩
  · show (xs.set k y).map (·.2) = t.recs.set k y.2
    rw [List.map_set, hok.eq]
  · rcases List.mem_or_eq_of_mem_set hx with h | rfl
    · exact hok.ok x h
    · exact hy
/-- An element was turned, its root new. -/
theorem set_done (hr : r = (0, { t with recs := t.recs.set k y.2 })) (hok : Okx xs t) (hk : xs[k]? = some v) (hy : L32 y.2.S ∧ y.2.name.length ≤ 1000000)
    (h : St w [] w' (rootH y :: (E ++ (.blk g 27 (tabC t rv (.slice al t.lives.length cl)) :: .row rv 53 44 xs.length (recsV (xs.set k y)) :: .row (.slice al t.lives.length cl) 3 1 t.lives.length (numsV t.lives) :: (xs.map rootH ++ R))))) : DoesPost g al cl w t r R (.returned (.int .i64 0)) w' := by
  subst hr
  refine ⟨rfl, fun _ => ⟨rv, xs.set k y, set_okx hok hy, ?_, rfl⟩, fun h0 => by cases h0⟩
  have h1 := set_roots (A := E ++ [.blk g 27 (tabC t rv (.slice al t.lives.length cl)), .row rv 53 44 xs.length (recsV (xs.set k y)), .row (.slice al t.lives.length cl) 3 1 t.lives.length (numsV t.lives)]) hk (by rw [List.append_assoc]; exact h)
  rw [List.append_assoc] at h1
  unfold TP
  rw [List.length_set]
  exact St.sub h1 (List.sublist_append_right _ _)
/-- An element was turned, its root as it was. -/
theorem set_done0 (hr : r = (0, { t with recs := t.recs.set k y.2 })) (hok : Okx xs t) (hk : xs[k]? = some v) (hy : L32 y.2.S ∧ y.2.name.length ≤ 1000000) (hv : rootH y = rootH v)
    (h : St w [] w' (E ++ (.blk g 27 (tabC t rv (.slice al t.lives.length cl)) :: .row rv 53 44 xs.length (recsV (xs.set k y)) :: .row (.slice al t.lives.length cl) 3 1 t.lives.length (numsV t.lives) :: (xs.map rootH ++ R)))) : DoesPost g al cl w t r R (.returned (.int .i64 0)) w' := by
  subst hr
  refine ⟨rfl, fun _ => ⟨rv, xs.set k y, set_okx hok hy, ?_, rfl⟩, fun h0 => by cases h0⟩
  have e : (xs.set k y).map rootH = xs.map rootH := by
    obtain ⟨e1, e2⟩ := set_split (y := y) hk
    rw [e2]
    conv => rhs; rw [e1]
    rw [List.map_append, List.map_append, List.map_cons, List.map_cons, hv]
  unfold TP
  rw [List.length_set, e]
  exact St.sub h (List.sublist_append_right _ _)
/-- An element was taken out. -/
theorem del_done (hr : r = (0, { t with recs := t.recs.eraseIdx k })) (hok : Okx xs t) (hk : k < xs.length)
    (h : St w [] w' (E ++ (.blk g 27 (tabC t rv (.slice al t.lives.length cl)) :: .row rv 53 44 (xs.length - 1) (recsV (xs.eraseIdx k)) :: .row (.slice al t.lives.length cl) 3 1 t.lives.length (numsV t.lives) :: (xs.map rootH ++ R)))) : DoesPost g al cl w t r R (.returned (.int .i64 0)) w' := by
  subst hr
  refine ⟨rfl, fun _ => ⟨rv, xs.eraseIdx k, ⟨?_, fun x hx => hok.ok x (List.mem_of_mem_eraseIdx hx)⟩, ?_, rfl⟩, fun h0 => by cases h0⟩
  · show (xs.eraseIdx k).map (·.2) = t.recs.eraseIdx k
    rw [← hok.eq, List.eraseIdx_eq_take_drop_succ, List.eraseIdx_eq_take_drop_succ, List.map_append, List.map_take, List.map_drop]
  · unfold TP
    rw [List.length_eraseIdx_of_lt hk]
    refine St.sub h (List.Sublist.trans ?_ (List.sublist_append_right _ _))
    exact .cons_cons _ (.cons_cons _ (.cons_cons _ (((List.eraseIdx_sublist xs k).map rootH).append (List.Sublist.refl R))))
end
/-- A snapshot's volume is there. -/
theorem snap_vol {t : TC} (h : t.ok = true) {sp : List UInt8} {s : RC} (hs : snapB sp = true) (hr : recAt sp t.recs = some s) : ∃ (k : Nat) (v : RC), t.recs[k]? = some v ∧ recAt (splitL sp).1 t.recs = some v ∧ findN (splitL sp).1 t.recs = (k : Int) ∧ findP (splitL sp).1 t.recs = ((k : Int), true) ∧ v.id = s.own ∧ s.kind = 2 := by
  have hm : s ∈ t.recs := List.mem_of_find?_eq_some hr
  have hn : s.name = sp := by simpa using List.find?_some hr
  obtain ⟨i, hi⟩ := List.getElem?_of_mem hm
  unfold TC.ok at h
  simp only [Bool.and_eq_true] at h
  obtain ⟨⟨_, h4⟩, h5⟩ := h
  have a1 := allAt_at h4 hi
  have a2 := allAt_at h5 hi
  unfold eachB at a1
  have a3 : s.aloneB = true := (Bool.and_eq_true_iff.1 a1).1
  unfold RC.aloneB at a3
  have a4 : s.kindB = true := (Bool.and_eq_true_iff.1 a3).2
  have hk : (s.kind == 2) = true := by
    unfold RC.kindB at a4
    by_cases k1 : (s.kind == 1) = true
    · rw [if_pos k1] at a4
      simp only [Bool.and_eq_true] at a4
      have hp := a4.1.1.1.1
      rw [hn] at hp
      unfold snapB at hs
      obtain ⟨⟨a, b, f⟩, hsp⟩ : ∃ p, splitL sp = p := ⟨_, rfl⟩
      rw [hsp] at hs
      have hf : f = true := hs
      subst hf
      rw [(split_true hsp).1, part_joined] at hp
      cases hp
    · rw [if_neg k1] at a4
      by_cases k2 : (s.kind == 2) = true
      · exact k2
      · rw [if_neg k2] at a4; cases a4
  unfold relB at a2
  have a5 := (Bool.and_eq_true_iff.1 a2).2
  unfold kinB at a5
  rw [if_pos hk] at a5
  unfold volB at a5
  rw [hn] at a5
  obtain ⟨b1, b2⟩ := Bool.and_eq_true_iff.1 a5
  rcases find_split (nm := (splitL sp).1) (l := t.recs) with ⟨_, hf⟩ | ⟨k, v, hv, hra, hfn, hfp, _⟩
  · unfold findP at hf
    rw [decide_eq_true_eq] at b1
    rw [if_neg (by omega)] at hf
    exact absurd (congrArg Prod.snd hf) (by simp)
  · refine ⟨k, v, hv, hra, hfn, hfp, ?_, by simpa using hk⟩
    unfold idAt at b2
    rw [hfn, Int.toNat_natCast, hv] at b2
    simpa using b2
end Go.Proofs.YtifajcblbedcoaaGreat
namespace Go.Proofs.YtifajcblbedcoaaGreat
set_option linter.unusedVariables false
set_option linter.unusedSimpArgs false
open Go.RowKit Hp
attribute [local irreducible] Go.Calls Go.wpList
set_option maxRecDepth 100000
set_option maxHeartbeats 8000000
attribute [local go_sem ↓] heldInt heldInts heldRecs heldRec heldStr heldTab heldPtr
theorem put_size (v : Value × RC) (z : Int) : putAt (cellsR v) 3 [.int .i64 z] = cellsR (v.1, { v.2 with size := z }) := rfl
theorem put_back (v : Value × RC) (s : RC) (sv : Value) (hv : L32 v.2.S) (hs : L32 s.S) : putAt (cellsR (v.1, { v.2 with size := s.size })) 4 (PV.cells ((s.pv undef).re sv)) = cellsR (sv, backR v.2 s) :=
  xC_put4 (p := v.2.pv v.1) (q := (s.pv undef).re sv) hv hs
theorem recsV_erase {xs : List (Value × RC)} (h : LX xs) {k : Nat} (hk : k < xs.length) : (recsV xs).take (k * 44) ++ (recsV xs).drop ((k + 1) * 44) = recsV (xs.eraseIdx k) := by
  rw [(recsV_takeL h (k := k) (by omega)).1, (recsV_takeL h (k := k + 1) (by omega)).2, List.eraseIdx_eq_take_drop_succ, recsV_append]
theorem Okx.LX {xs : List (Value × RC)} {t : TC} (h : Okx xs t) : LX xs := fun x hx => (h.ok x hx).1
theorem roll_does {w : World} {g1 : Nat} (sp : List UInt8) (h1 : w.cell? ⟨g1, 0, none⟩ = some (.string ⟨sp.toArray⟩)) (hl : sp.length ≤ 1000000) (t : TC) (hk : t.ok = true) :
    Does 72 #[.pointer (some ⟨g1, 0, none⟩)] w t (rollT t sp) := by
  intro g ao c al cl xs R w1 hok hst0
  show Calls _ _ #[.pointer (some ⟨g, 0, none⟩), .pointer (some ⟨g1, 0, none⟩)] _ _
  have hst := hst0
  have H1 := hid h1
  have HOK := hid hok
  have HK := hid hk
  have b2 : xs.length ≤ 16 := by rw [hok.len]; exact ok_many hk
  clear hst0 hok hk h1
  obtain ⟨r, hr⟩ : ∃ r, r = rollT t sp := ⟨_, rfl⟩
  rw [← hr]
  obtain ⟨⟨v, u, f⟩, hx⟩ : ∃ p, splitL sp = p := ⟨_, rfl⟩
  have hvl : v.length ≤ 1000000 := by have := (split_in sp hl).1; rwa [hx] at this
  have HX := hid hx
  have HSB := hid (show snapB sp = f by unfold snapB; rw [hx])
  have HV := hid (show r = if f then (match recAt sp t.recs with
    | none => badR 6
    | some s => if t.recs.any (fun x => (x.own == s.own) && newerB x s) then badR 17 else
      (match recAt v t.recs with
      | none => badR 0
      | some q => (0, { t with recs := setN v t.recs (backR q s) }))) else badR 2 by rw [hr]; unfold rollT; rw [HSB.out, hx]; rfl)
  clear hr hx
  cases f
  · have HB := hid (show r = badR 2 from HV.out)
    clear HV
    go_enter Tryz.func72, Tryz.ntmps72
    go_wp2_with (first | go_big_skip | go_big_guard | (refine wl_loadE rfl rfl rfl ?_; first | refine ⟨_, Loads.atA (tabC t (.slice ao xs.length c) (.slice al t.lives.length cl)) [] hst rfl rfl, ?_⟩ | refine ⟨_, Loads.old hst H1.out, ?_⟩) | (go_at_call 68; refine (split_any sp _ (by omega)).mono ?_; rw [HX.out]; rintro _ w9 ⟨rfl, h4⟩; replace hst := St.call0 hst h4; clear h4))
    go_ret
    exact does_bad (L := []) HB.out (by decide) hst
  · rcases find_split (nm := sp) (l := t.recs) with ⟨hra, hf⟩ | ⟨j, y, hy, hra, hfn, hf, hnm⟩
    · have HF := hid hf
      have HB := hid (show r = badR 6 by rw [HV.out, hra]; rfl)
      clear HV hf hra
      go_enter Tryz.func72, Tryz.ntmps72
      go_wp2_with (first | go_big_skip | go_big_guard | (refine wl_loadE rfl rfl rfl ?_; first | refine ⟨_, Loads.atA (tabC t (.slice ao xs.length c) (.slice al t.lives.length cl)) [] hst rfl rfl, ?_⟩ | refine ⟨_, Loads.old hst H1.out, ?_⟩) | (go_at_call 68; refine (split_any sp _ (by omega)).mono ?_; rw [HX.out]; rintro _ w9 ⟨rfl, h4⟩; replace hst := St.call0 hst h4; clear h4))
      have hX := hst.drew
      clear hst
      refine wp_region_held_drew (S := (fun w' => (loadVarH 27 ⟨g, 0, none⟩).run Tryz.prog w' = .ok (.agg (List.toArray ((tabC t (.slice ao xs.length c) (.slice al t.lives.length cl))))) w' ∧ (loadVarH 9 ⟨g1, 0, none⟩).run Tryz.prog w' = .ok (.string ⟨sp.toArray⟩) w')) (by kernel_rfl) (by exact ⟨ldA ((tabC t (.slice ao xs.length c) (.slice al t.lives.length cl))) [] hX (rfl) (rfl), ldO hX (H1.out)⟩) (fun hHeld => ?_)
      refine tq 0 21 ?_
      refine tq 3 24 ?_
      refine tq 1 22 ?_
      refine tq 2 23 ?_
      refine wpAnyH_ready (rs := [4]) (by kernel_rfl) (by simp) ?_
      refine (AllReadyH.cons (o := ⟨some 25, _, _, _, _, _⟩) rfl (fun K hK => ?_) AllReadyH.nil)
      rw [if_pos (by rfl)]
      go_simp
      go_at_call 57
      refine (find_any t _ sp ao xs.length c xs _ (tp_recs [] HOK.out hX) (by omega)).mono ?_
      rw [HOK.out.eq, HF.out]
      rintro _ w5 ⟨rfl, h4⟩
      have hstF := St.call0 hX h4
      clear h4
      refine hK.out _ _ ?_ (fun hHeld => ?_)
      · exact ⟨ldA ((tabC t (.slice ao xs.length c) (.slice al t.lives.length cl))) [] hstF (rfl) (rfl), ldO hstF (H1.out)⟩
      clear hK K
      (try simp only [Act.put, List.setIfInBounds_toArray, List.set_cons_zero, List.set_cons_succ])
      refine tq 5 20 ?_
      refine tq 6 26 ?_
      refine tq 7 27 ?_
      refine tq 8 7 ?_
      refine tq 9 8 ?_
      refine wpAnyH_done (by kernel_rfl) ?_ _
      clear hHeld
      have hst : St w [] _ (TP g t (.slice ao xs.length c) (.slice al t.lives.length cl) xs R) := hstF
      clear hstF
      go_wp2_with (first | go_big_skip | go_big_guard | fail)
      go_ret
      exact does_bad (L := []) HB.out (by decide) hst
    · skip
      obtain ⟨x, hx, hxy⟩ := okx_at HOK.out hy
      subst hxy
      have hlt : j < xs.length := (List.getElem?_eq_some_iff.1 hx).1
      obtain ⟨g2, c2, he⟩ := tp_spot [] hst (by omega)
      cases he
      have HF := hid hf
      have HRA := hid hra
      have HXJ := hid hx
      have HLL := hid ((HOK.out.ok x (List.mem_of_getElem? hx)).1)
      have HLX := hid (cellsR_len (HOK.out.ok x (List.mem_of_getElem? hx)).1)
      have HON := hid (cellsR_ones (tp_in [] HOK.out hst hx))
      have H35 := hid (PV.len (p := x.2.pv x.1) (HOK.out.ok x (List.mem_of_getElem? hx)).1)
      have HB3 := hid (birth_le HK.out (List.mem_of_getElem? hy))
      clear hx hy hf hra hfn hnm
      obtain ⟨a, ha⟩ : ∃ a, t.recs.any (fun q => (q.own == x.2.own) && newerB q x.2) = a := ⟨_, rfl⟩
      have HA := hid ha
      have HV2 := hid (show r = if a then badR 17 else (match recAt v t.recs with
        | none => badR 0
        | some q => (0, { t with recs := setN v t.recs (backR q x.2) })) by rw [HV.out, HRA.out]; show (if t.recs.any (fun q => (q.own == x.2.own) && newerB q x.2) then _ else _) = _; rw [ha])
      clear ha HV
      cases a
      · obtain ⟨k, y', hy, hra, hfn, hfp, _⟩ := snap_vol HK.out HSB.out HRA.out
        rw [HX.out] at hra hfn hfp
        obtain ⟨y, hyk, hyy⟩ := okx_at HOK.out hy
        subst hyy
        have hkl : k < xs.length := (List.getElem?_eq_some_iff.1 hyk).1
        have HYK := hid hyk
        have HYL := hid ((HOK.out.ok y (List.mem_of_getElem? hyk)).1)
        have HYN := hid ((HOK.out.ok y (List.mem_of_getElem? hyk)).2)
        have HF2 := hid hfp
        have HB := hid (show r = (0, { t with recs := t.recs.set k (backR y.2 x.2) }) by rw [HV2.out, hra, if_neg (by decide)]; show ((0 : Int), { t with recs := setN v t.recs (backR y.2 x.2) }) = _; unfold setN; rw [hfn]; rfl)
        clear hy hra hfn hfp hyk HV2
        go_enter Tryz.func72, Tryz.ntmps72
        go_wp2_with (first | go_big_skip | go_big_guard | (refine wl_loadE rfl rfl rfl ?_; first | refine ⟨_, Loads.atA (tabC t (.slice (some ⟨g2, 0, none⟩) xs.length c) (.slice al t.lives.length cl)) [] hst rfl rfl, ?_⟩ | refine ⟨_, Loads.at [] hst rfl, ?_⟩ | refine ⟨_, tp_loadR0 [] HOK.out hst HXJ.out, ?_⟩ | refine ⟨_, Loads.at [_] hst4 rfl, ?_⟩ | refine ⟨_, Loads.atA (tabC t (.slice (some ⟨g2, 0, none⟩) xs.length c) (.slice al t.lives.length cl)) [_] hst4 rfl rfl, ?_⟩ | refine ⟨_, Loads.old hst H1.out, ?_⟩) | (go_at_call 68; refine (split_any sp _ (by omega)).mono ?_; rw [HX.out]; rintro _ w9 ⟨rfl, h4⟩; replace hst := St.call0 hst h4; clear h4))
        have hX := hst.drew
        clear hst
        refine wp_region_held_drew (S := (fun w' => (loadVarH 27 ⟨g, 0, none⟩).run Tryz.prog w' = .ok (.agg (List.toArray ((tabC t (.slice (some ⟨g2, 0, none⟩) xs.length c) (.slice al t.lives.length cl))))) w' ∧ (loadVarH 9 ⟨g1, 0, none⟩).run Tryz.prog w' = .ok (.string ⟨sp.toArray⟩) w')) (by kernel_rfl) (by exact ⟨ldA ((tabC t (.slice (some ⟨g2, 0, none⟩) xs.length c) (.slice al t.lives.length cl))) [] hX (rfl) (rfl), ldO hX (H1.out)⟩) (fun hHeld => ?_)
        refine tq 0 21 ?_
        refine tq 3 24 ?_
        refine tq 1 22 ?_
        refine tq 2 23 ?_
        refine wpAnyH_ready (rs := [4]) (by kernel_rfl) (by simp) ?_
        refine (AllReadyH.cons (o := ⟨some 25, _, _, _, _, _⟩) rfl (fun K hK => ?_) AllReadyH.nil)
        rw [if_pos (by rfl)]
        go_simp
        go_at_call 57
        refine (find_any t _ sp (some ⟨g2, 0, none⟩) xs.length c xs _ (tp_recs [] HOK.out hX) (by omega)).mono ?_
        rw [HOK.out.eq, HF.out]
        rintro _ w5 ⟨rfl, h4⟩
        have hstF := St.call0 hX h4
        clear h4
        refine hK.out _ _ ?_ (fun hHeld => ?_)
        · exact ⟨ldA ((tabC t (.slice (some ⟨g2, 0, none⟩) xs.length c) (.slice al t.lives.length cl))) [] hstF (rfl) (rfl), ldO hstF (H1.out)⟩
        clear hK K
        (try simp only [Act.put, List.setIfInBounds_toArray, List.set_cons_zero, List.set_cons_succ])
        refine tq 5 20 ?_
        refine tq 6 26 ?_
        refine tq 7 27 ?_
        refine tq 8 7 ?_
        refine tq 9 8 ?_
        refine wpAnyH_done (by kernel_rfl) ?_ _
        clear hHeld
        have hst : St w [] _ (TP g t (.slice (some ⟨g2, 0, none⟩) xs.length c) (.slice al t.lives.length cl) xs R) := hstF
        clear hstF
        go_wp2_with (first | go_big_skip | go_big_guard | (refine wl_loadE rfl rfl rfl ?_; first | refine ⟨_, Loads.atA (tabC t (.slice (some ⟨g2, 0, none⟩) xs.length c) (.slice al t.lives.length cl)) [] hst rfl rfl, ?_⟩ | refine ⟨_, Loads.at [] hst rfl, ?_⟩ | refine ⟨_, tp_loadR0 [] HOK.out hst HXJ.out, ?_⟩ | refine ⟨_, Loads.at [_] hst4 rfl, ?_⟩ | refine ⟨_, Loads.atA (tabC t (.slice (some ⟨g2, 0, none⟩) xs.length c) (.slice al t.lives.length cl)) [_] hst4 rfl rfl, ?_⟩ | refine ⟨_, Loads.old hst H1.out, ?_⟩) | (refine wl_index rfl rfl rfl rfl hlt ?_) | (refine wl_alloc hst rfl rfl ?_; intro g9 w3 hst3; clear hst) | (refine wl_storeA [] hst3 rfl rfl rfl rfl (by exact HLX.out) HON.out rfl ?_; intro w4 h4; have hst4 : St w [] w4 ([.blk g9 53 (cellsR x)] ++ TP g t (.slice (some ⟨g2, 0, none⟩) xs.length c) (.slice al t.lives.length cl) xs R) := h4; clear hst3 h4) | (go_at_call 58; refine (containsR_any 73 g9 (fun y => (y.own == x.2.own) && newerB y x.2) _ xs.length c xs _ (fun _ _ => rfl) (fun y w' hy h => rollC_any x (fun j v hv => St.old_cell h (by have := hst4.range (.head _) j v (by rw [List.drop_zero]; exact hv); rwa [Nat.zero_add] at this ⊢) (by simp)) HLL.out y (RC.In.old h ((tp_recs [_] HOK.out hst4).each y hy))) (tp_recs [_] HOK.out hst4) (by omega)).mono ?_; rw [HOK.out.eq, HA.out]; rintro _ w9 ⟨rfl, h4⟩; replace hst4 := St.call0 hst4 h4; clear h4) | (go_at_call 57; refine (find_any t _ v (some ⟨g2, 0, none⟩) xs.length c xs _ (tp_recs [_] HOK.out hst4) (by omega)).mono ?_; rw [HOK.out.eq, HF2.out]; rintro _ w9 ⟨rfl, h4⟩; replace hst4 := St.call0 hst4 h4; clear h4))
        have hY := hst4.drew
        clear hst4
        refine wp_region_held_drew (S := (fun w' => (loadVarH 22 ⟨g, 1, none⟩).run Tryz.prog w' = .ok (.slice (some ⟨g2, 0, none⟩) xs.length c) w' ∧ (loadVarH 3 ⟨g9, 3, none⟩).run Tryz.prog w' = .ok (.int .i64 x.2.size) w' ∧ (loadVarH 32 ⟨g9, 4, none⟩).run Tryz.prog w' = .ok (.agg (List.toArray ((x.2.pv x.1).cells))) w')) (by kernel_rfl) (by exact ⟨ldS [_] hY rfl, ldS [] hY rfl, ldA ((x.2.pv x.1).cells) [] hY (H35.out) (cellsR_root HLL.out)⟩) (fun hHeld => ?_)
        refine tq 0 51 ?_
        refine tq 4 55 ?_
        refine tq 5 56 ?_
        refine tq 9 60 ?_
        refine tq 10 61 ?_
        refine tq 12 63 ?_
        refine tq 1 52 ?_
        refine tq 6 57 ?_
        refine tq 11 62 ?_
        refine tq 13 64 ?_
        refine tq 2 53 ?_
        refine tq 7 58 ?_
        refine tq 3 54 ?_
        refine tq 8 59 ?_
        refine wpAnyH_ready (rs := [14]) (by kernel_rfl) (by simp) ?_
        refine (AllReadyH.cons (o := ⟨some 65, _, _, _, _, _⟩) rfl (fun K hK => ?_) AllReadyH.nil)
        rw [if_pos (by rfl)]
        go_simp
        go_at_call 69
        refine (ownP_any (x.2.pv x.1) _ (tp_in [_] HOK.out hY HXJ.out).1 (by show x.2.l.length ≤ 100000; have := HB3.out.1; omega)).mono ?_
        rintro _ w5 ⟨a5, n5, c5, rfl, h4, hl5⟩
        have h5 := St.call hY h4
        have hst5 : St w [] w5 ([.row (.slice a5 n5 c5) 102 2 n5 (addrsV x.2.l), .blk g9 53 (cellsR x)] ++ TP g t (.slice (some ⟨g2, 0, none⟩) xs.length c) (.slice al t.lives.length cl) xs R) := h5
        subst hl5
        clear h4 h5
        refine hK.out _ _ ?_ (fun hHeld => ?_)
        · exact ⟨ldS [_, _] hst5 rfl, ldS [_] hst5 rfl, ldA ((x.2.pv x.1).cells) [_] hst5 (H35.out) (cellsR_root HLL.out)⟩
        clear hK K
        (try simp only [Act.put, List.setIfInBounds_toArray, List.set_cons_zero, List.set_cons_succ])
        refine tq 15 66 ?_
        refine tq 16 67 ?_
        refine wpAnyH_ready (rs := [17]) (by kernel_rfl) (by simp) ?_
        refine (AllReadyH.cons (o := ⟨none, _, _, _, _, _⟩) rfl (fun K hK => ?_) AllReadyH.nil)
        rw [if_pos (by rfl)]
        refine ow_of_wl (ops := #[]) (by rfl) ?_
        refine wl_storeRow1 [_, _, _] hst5 rfl rfl rfl rfl (v := .int .i64 x.2.size) rfl rfl (by omega) (by omega) ?_
        intro w6 hst6
        rw [recsV_put HOK.out.LX HYK.out (d := 3) (by show 3 + 1 ≤ 44; decide) (put_size y x.2.size)] at hst6
        refine q0_nil ?_
        refine hK.out _ _ ?_ (fun hHeld => ?_)
        · exact ⟨ldS [_, _] hst6 rfl, ldS [_] hst6 rfl, ldA ((x.2.pv x.1).cells) [_] hst6 (H35.out) (cellsR_root HLL.out)⟩
        clear hK K
        (try simp only [Act.put, List.setIfInBounds_toArray, List.set_cons_zero, List.set_cons_succ])
        refine tq 18 68 ?_
        refine tq 19 69 ?_
        refine wpAnyH_ready (rs := [20]) (by kernel_rfl) (by simp) ?_
        refine (AllReadyH.cons (o := ⟨none, _, _, _, _, _⟩) rfl (fun K hK => ?_) AllReadyH.nil)
        rw [if_pos (by rfl)]
        refine ow_of_wl (ops := #[]) (by rfl) ?_
        refine wl_storeRow [_, _, _] hst6 rfl rfl rfl rfl (m := 35) (vs := PV.cells ((x.2.pv undef).re (.slice a5 (x.2.pv x.1).l.length c5))) (PV.len (p := (x.2.pv undef).re (.slice a5 (x.2.pv x.1).l.length c5)) HLL.out) (PV.ones_of (p := (x.2.pv undef).re (.slice a5 (x.2.pv x.1).l.length c5)) rfl) (by omega) (by omega) ?_
        intro w7 hst7
        have hLX2 : LX (xs.set k (y.1, { y.2 with size := x.2.size })) := fun q hq => by
          rcases List.mem_or_eq_of_mem_set hq with h | rfl
          · exact HOK.out.LX q h
          · exact HYL.out
        rw [recsV_put hLX2 (by rw [List.getElem?_set_self (by exact hkl)]) (d := 4) (by rw [PV.len (p := (x.2.pv undef).re (.slice a5 (x.2.pv x.1).l.length c5)) HLL.out]; decide) (put_back y x.2 (.slice a5 (x.2.pv x.1).l.length c5) HYL.out HLL.out), List.set_set] at hst7
        refine q0_nil ?_
        refine hK.out _ _ ?_ (fun hHeld => ?_)
        · exact ⟨ldS [_, _] hst7 rfl, ldS [_] hst7 rfl, ldA ((x.2.pv x.1).cells) [_] hst7 (H35.out) (cellsR_root HLL.out)⟩
        clear hK K
        (try simp only [Act.put, List.setIfInBounds_toArray, List.set_cons_zero, List.set_cons_succ])
        refine wpAnyH_done (by kernel_rfl) ?_ _
        clear hHeld
        go_wp2_with (first | go_big_skip | go_big_guard | fail)
        go_ret
        exact set_done (E := [.blk g9 53 (cellsR x)]) (k := k) (v := y) (y := ((.slice a5 (x.2.pv x.1).l.length c5 : Value), backR y.2 x.2)) HB.out HOK.out HYK.out ⟨HLL.out, HYN.out⟩ hst7
      · have HB := hid (show r = badR 17 from HV2.out)
        clear HV2
        go_enter Tryz.func72, Tryz.ntmps72
        go_wp2_with (first | go_big_skip | go_big_guard | (refine wl_loadE rfl rfl rfl ?_; first | refine ⟨_, Loads.atA (tabC t (.slice (some ⟨g2, 0, none⟩) xs.length c) (.slice al t.lives.length cl)) [] hst rfl rfl, ?_⟩ | refine ⟨_, Loads.at [] hst rfl, ?_⟩ | refine ⟨_, tp_loadR0 [] HOK.out hst HXJ.out, ?_⟩ | refine ⟨_, Loads.at [_] hst4 rfl, ?_⟩ | refine ⟨_, Loads.atA (tabC t (.slice (some ⟨g2, 0, none⟩) xs.length c) (.slice al t.lives.length cl)) [_] hst4 rfl rfl, ?_⟩ | refine ⟨_, Loads.old hst H1.out, ?_⟩) | (go_at_call 68; refine (split_any sp _ (by omega)).mono ?_; rw [HX.out]; rintro _ w9 ⟨rfl, h4⟩; replace hst := St.call0 hst h4; clear h4))
        have hX := hst.drew
        clear hst
        refine wp_region_held_drew (S := (fun w' => (loadVarH 27 ⟨g, 0, none⟩).run Tryz.prog w' = .ok (.agg (List.toArray ((tabC t (.slice (some ⟨g2, 0, none⟩) xs.length c) (.slice al t.lives.length cl))))) w' ∧ (loadVarH 9 ⟨g1, 0, none⟩).run Tryz.prog w' = .ok (.string ⟨sp.toArray⟩) w')) (by kernel_rfl) (by exact ⟨ldA ((tabC t (.slice (some ⟨g2, 0, none⟩) xs.length c) (.slice al t.lives.length cl))) [] hX (rfl) (rfl), ldO hX (H1.out)⟩) (fun hHeld => ?_)
        refine tq 0 21 ?_
        refine tq 3 24 ?_
        refine tq 1 22 ?_
        refine tq 2 23 ?_
        refine wpAnyH_ready (rs := [4]) (by kernel_rfl) (by simp) ?_
        refine (AllReadyH.cons (o := ⟨some 25, _, _, _, _, _⟩) rfl (fun K hK => ?_) AllReadyH.nil)
        rw [if_pos (by rfl)]
        go_simp
        go_at_call 57
        refine (find_any t _ sp (some ⟨g2, 0, none⟩) xs.length c xs _ (tp_recs [] HOK.out hX) (by omega)).mono ?_
        rw [HOK.out.eq, HF.out]
        rintro _ w5 ⟨rfl, h4⟩
        have hstF := St.call0 hX h4
        clear h4
        refine hK.out _ _ ?_ (fun hHeld => ?_)
        · exact ⟨ldA ((tabC t (.slice (some ⟨g2, 0, none⟩) xs.length c) (.slice al t.lives.length cl))) [] hstF (rfl) (rfl), ldO hstF (H1.out)⟩
        clear hK K
        (try simp only [Act.put, List.setIfInBounds_toArray, List.set_cons_zero, List.set_cons_succ])
        refine tq 5 20 ?_
        refine tq 6 26 ?_
        refine tq 7 27 ?_
        refine tq 8 7 ?_
        refine tq 9 8 ?_
        refine wpAnyH_done (by kernel_rfl) ?_ _
        clear hHeld
        have hst : St w [] _ (TP g t (.slice (some ⟨g2, 0, none⟩) xs.length c) (.slice al t.lives.length cl) xs R) := hstF
        clear hstF
        go_wp2_with (first | go_big_skip | go_big_guard | (refine wl_loadE rfl rfl rfl ?_; first | refine ⟨_, Loads.atA (tabC t (.slice (some ⟨g2, 0, none⟩) xs.length c) (.slice al t.lives.length cl)) [] hst rfl rfl, ?_⟩ | refine ⟨_, Loads.at [] hst rfl, ?_⟩ | refine ⟨_, tp_loadR0 [] HOK.out hst HXJ.out, ?_⟩ | refine ⟨_, Loads.at [_] hst4 rfl, ?_⟩ | refine ⟨_, Loads.atA (tabC t (.slice (some ⟨g2, 0, none⟩) xs.length c) (.slice al t.lives.length cl)) [_] hst4 rfl rfl, ?_⟩ | refine ⟨_, Loads.old hst H1.out, ?_⟩) | (refine wl_index rfl rfl rfl rfl hlt ?_) | (refine wl_alloc hst rfl rfl ?_; intro g9 w3 hst3; clear hst) | (refine wl_storeA [] hst3 rfl rfl rfl rfl (by exact HLX.out) HON.out rfl ?_; intro w4 h4; have hst4 : St w [] w4 ([.blk g9 53 (cellsR x)] ++ TP g t (.slice (some ⟨g2, 0, none⟩) xs.length c) (.slice al t.lives.length cl) xs R) := h4; clear hst3 h4) | (go_at_call 58; refine (containsR_any 73 g9 (fun y => (y.own == x.2.own) && newerB y x.2) _ xs.length c xs _ (fun _ _ => rfl) (fun y w' hy h => rollC_any x (fun j v hv => St.old_cell h (by have := hst4.range (.head _) j v (by rw [List.drop_zero]; exact hv); rwa [Nat.zero_add] at this ⊢) (by simp)) HLL.out y (RC.In.old h ((tp_recs [_] HOK.out hst4).each y hy))) (tp_recs [_] HOK.out hst4) (by omega)).mono ?_; rw [HOK.out.eq, HA.out]; rintro _ w9 ⟨rfl, h4⟩; replace hst4 := St.call0 hst4 h4; clear h4))
        go_ret
        exact does_bad (L := [_]) HB.out (by decide) hst4
end Go.Proofs.YtifajcblbedcoaaGreat
namespace Go.Proofs.YtifajcblbedcoaaGreat
set_option linter.unusedVariables false
set_option linter.unusedSimpArgs false
open Go.RowKit Hp
attribute [local irreducible] Go.Calls Go.wpList
set_option maxRecDepth 100000
set_option maxHeartbeats 8000000
attribute [local go_sem ↓] heldInt heldInts heldRecs heldRec heldStr heldTab heldPtr
section
variable {w w1 : World} {g : Nat} {t : TC} {lv : Value} {xs : List (Value × RC)} {R : List HA}
theorem tp_loadI {g2 c j : Nat} {x : Value × RC} (hok : Okx xs t) (hst : St w [] w1 (TP g t (.slice (some ⟨g2, 0, none⟩) xs.length c) lv xs R)) (hx : xs[j]? = some x) : Loads Tryz.prog w1 3 ⟨g2, j * 44, none⟩ (.int .i64 x.2.id) := by
  have h := tp_range [] hok hst hx 0 _ rfl
  rw [Nat.add_zero] at h
  exact Loads.cell (inferInstance : TyS Tryz.prog 3).out h
theorem tp_loadI0 {g2 c j : Nat} {x : Value × RC} (hok : Okx xs t) (hst : St w [] w1 (TP g t (.slice (some ⟨g2, 0, none⟩) xs.length c) lv xs R)) (hx : xs[j]? = some x) : Loads Tryz.prog w1 3 ⟨g2, 0 + j * 44, none⟩ (.int .i64 x.2.id) := by
  rw [Nat.zero_add]
  exact tp_loadI hok hst hx
end
theorem any_okx {xs : List (Value × RC)} {t : TC} (h : Okx xs t) {w0 w : World} {M : List Nat} {L : List HA} (hst : St w0 M w L) (hi : ∀ x ∈ xs, RC.In w x) : (recsV xs).all (·.oneCell') = true := by
  rw [recsV, List.all_flatMap, List.all_eq_true]
  exact fun x hx => cellsR_ones (hi x hx)
theorem drop_does {w : World} {g1 : Nat} (nm : List UInt8) (h1 : w.cell? ⟨g1, 0, none⟩ = some (.string ⟨nm.toArray⟩)) (hl : nm.length ≤ 1000000) (t : TC) (hk : t.ok = true) :
    Does 55 #[.pointer (some ⟨g1, 0, none⟩)] w t (dropT t nm) := by
  intro g ao c al cl xs R w1 hok hst0
  show Calls _ _ #[.pointer (some ⟨g, 0, none⟩), .pointer (some ⟨g1, 0, none⟩)] _ _
  have hst := hst0
  have H1 := hid h1
  have HOK := hid hok
  have HK := hid hk
  have b2 : xs.length ≤ 16 := by rw [hok.len]; exact ok_many hk
  clear hst0 hok hk h1
  obtain ⟨r, hr⟩ : ∃ r, r = dropT t nm := ⟨_, rfl⟩
  rw [← hr]
  obtain ⟨f, hx⟩ : ∃ f, namedB nm = f := ⟨_, rfl⟩
  have HNB := hid hx
  have HV := hid (show r = if f then (match recAt nm t.recs with
    | none => badR 6
    | some q => if t.recs.any (fun x => (x.own == q.id) || (x.origin == q.id)) then badR 17 else (0, { t with recs := t.recs.eraseIdx (findN nm t.recs).toNat })) else badR 2 by rw [hr]; unfold dropT; rw [hx]; rfl)
  clear hr hx
  cases f
  · have HB := hid (show r = badR 2 from HV.out)
    clear HV
    go_enter Tryz.func55, Tryz.ntmps55
    go_wp2_with (first | go_big_skip | go_big_guard | (refine wl_loadE rfl rfl rfl ?_; first | refine ⟨_, Loads.atA (tabC t (.slice ao xs.length c) (.slice al t.lives.length cl)) [] hst rfl rfl, ?_⟩ | refine ⟨_, Loads.old hst H1.out, ?_⟩) | (go_at_call 56; refine (named_any nm _ (by omega)).mono ?_; rw [HNB.out]; rintro _ w9 ⟨rfl, h4⟩; replace hst := St.call0 hst h4; clear h4))
    go_ret
    exact does_bad (L := []) HB.out (by decide) hst
  · rcases find_split (nm := nm) (l := t.recs) with ⟨hra, hf⟩ | ⟨j, y, hy, hra, hfn, hf, hnm⟩
    · have HF := hid hf
      have HB := hid (show r = badR 6 by rw [HV.out, hra]; rfl)
      clear HV hf hra
      go_enter Tryz.func55, Tryz.ntmps55
      go_wp2_with (first | go_big_skip | go_big_guard | (refine wl_loadE rfl rfl rfl ?_; first | refine ⟨_, Loads.atA (tabC t (.slice ao xs.length c) (.slice al t.lives.length cl)) [] hst rfl rfl, ?_⟩ | refine ⟨_, Loads.old hst H1.out, ?_⟩) | (go_at_call 56; refine (named_any nm _ (by omega)).mono ?_; rw [HNB.out]; rintro _ w9 ⟨rfl, h4⟩; replace hst := St.call0 hst h4; clear h4))
      have hX := hst.drew
      clear hst
      refine wp_region_held_drew (S := (fun w' => (loadVarH 27 ⟨g, 0, none⟩).run Tryz.prog w' = .ok (.agg (List.toArray ((tabC t (.slice ao xs.length c) (.slice al t.lives.length cl))))) w' ∧ (loadVarH 9 ⟨g1, 0, none⟩).run Tryz.prog w' = .ok (.string ⟨nm.toArray⟩) w')) (by kernel_rfl) (by exact ⟨ldA ((tabC t (.slice ao xs.length c) (.slice al t.lives.length cl))) [] hX (rfl) (rfl), ldO hX (H1.out)⟩) (fun hHeld => ?_)
      refine tq 0 11 ?_
      refine tq 3 14 ?_
      refine tq 1 12 ?_
      refine tq 2 13 ?_
      refine wpAnyH_ready (rs := [4]) (by kernel_rfl) (by simp) ?_
      refine (AllReadyH.cons (o := ⟨some 15, _, _, _, _, _⟩) rfl (fun K hK => ?_) AllReadyH.nil)
      rw [if_pos (by rfl)]
      go_simp
      go_at_call 57
      refine (find_any t _ nm ao xs.length c xs _ (tp_recs [] HOK.out hX) (by omega)).mono ?_
      rw [HOK.out.eq, HF.out]
      rintro _ w5 ⟨rfl, h4⟩
      have hstF := St.call0 hX h4
      clear h4
      refine hK.out _ _ ?_ (fun hHeld => ?_)
      · exact ⟨ldA ((tabC t (.slice ao xs.length c) (.slice al t.lives.length cl))) [] hstF (rfl) (rfl), ldO hstF (H1.out)⟩
      clear hK K
      (try simp only [Act.put, List.setIfInBounds_toArray, List.set_cons_zero, List.set_cons_succ])
      refine tq 5 10 ?_
      refine tq 6 16 ?_
      refine tq 7 17 ?_
      refine tq 8 4 ?_
      refine tq 9 5 ?_
      refine wpAnyH_done (by kernel_rfl) ?_ _
      clear hHeld
      have hst : St w [] _ (TP g t (.slice ao xs.length c) (.slice al t.lives.length cl) xs R) := hstF
      clear hstF
      go_wp2_with (first | go_big_skip | go_big_guard | fail)
      go_ret
      exact does_bad (L := []) HB.out (by decide) hst
    · have HFN := hid hfn
      obtain ⟨x, hx, hxy⟩ := okx_at HOK.out hy
      subst hxy
      have hlt : j < xs.length := (List.getElem?_eq_some_iff.1 hx).1
      obtain ⟨g2, c2, he⟩ := tp_spot [] hst (by omega)
      cases he
      have HF := hid hf
      have HRA := hid hra
      have HXJ := hid hx
      have HLL := hid ((HOK.out.ok x (List.mem_of_getElem? hx)).1)
      have HLX := hid (cellsR_len (HOK.out.ok x (List.mem_of_getElem? hx)).1)
      have HON := hid (cellsR_ones (tp_in [] HOK.out hst hx))
      have H35 := hid (PV.len (p := x.2.pv x.1) (HOK.out.ok x (List.mem_of_getElem? hx)).1)
      have HB3 := hid (birth_le HK.out (List.mem_of_getElem? hy))
      clear hx hy hf hra hfn hnm
      obtain ⟨a, ha⟩ : ∃ a, t.recs.any (fun q => (q.own == x.2.id) || (q.origin == x.2.id)) = a := ⟨_, rfl⟩
      have HA := hid ha
      have HV2 := hid (show r = if a then badR 17 else (0, { t with recs := t.recs.eraseIdx j }) by rw [HV.out, HRA.out, HFN.out]; show (if t.recs.any (fun q => (q.own == x.2.id) || (q.origin == x.2.id)) then _ else _) = _; rw [ha]; rfl)
      clear ha HV
      have z1 : IntKind.i64.wrap ((j : Int) + 1) = (j : Int) + 1 := IntWalk.i64_in _ (by omega)
      cases a
      · have HB := hid (show r = (0, { t with recs := t.recs.eraseIdx j }) from HV2.out)
        clear HV2
        go_enter Tryz.func55, Tryz.ntmps55
        go_wp2_with (first | go_big_skip | go_big_guard | (refine wl_loadE rfl rfl rfl ?_; first | refine ⟨_, Loads.atA (tabC t (.slice (some ⟨g2, 0, none⟩) xs.length c) (.slice al t.lives.length cl)) [] hst rfl rfl, ?_⟩ | refine ⟨_, Loads.at [] hst rfl, ?_⟩ | refine ⟨.int .i64 x.2.id, tp_loadI HOK.out hst HXJ.out, ?_⟩ | refine ⟨.int .i64 x.2.id, tp_loadI0 HOK.out hst HXJ.out, ?_⟩ | refine ⟨_, Loads.at [_] hst4 rfl, ?_⟩ | refine ⟨_, Loads.old hst H1.out, ?_⟩) | (go_at_call 56; refine (named_any nm _ (by omega)).mono ?_; rw [HNB.out]; rintro _ w9 ⟨rfl, h4⟩; replace hst := St.call0 hst h4; clear h4))
        have hX := hst.drew
        clear hst
        refine wp_region_held_drew (S := (fun w' => (loadVarH 27 ⟨g, 0, none⟩).run Tryz.prog w' = .ok (.agg (List.toArray ((tabC t (.slice (some ⟨g2, 0, none⟩) xs.length c) (.slice al t.lives.length cl))))) w' ∧ (loadVarH 9 ⟨g1, 0, none⟩).run Tryz.prog w' = .ok (.string ⟨nm.toArray⟩) w')) (by kernel_rfl) (by exact ⟨ldA ((tabC t (.slice (some ⟨g2, 0, none⟩) xs.length c) (.slice al t.lives.length cl))) [] hX (rfl) (rfl), ldO hX (H1.out)⟩) (fun hHeld => ?_)
        refine tq 0 11 ?_
        refine tq 3 14 ?_
        refine tq 1 12 ?_
        refine tq 2 13 ?_
        refine wpAnyH_ready (rs := [4]) (by kernel_rfl) (by simp) ?_
        refine (AllReadyH.cons (o := ⟨some 15, _, _, _, _, _⟩) rfl (fun K hK => ?_) AllReadyH.nil)
        rw [if_pos (by rfl)]
        go_simp
        go_at_call 57
        refine (find_any t _ nm (some ⟨g2, 0, none⟩) xs.length c xs _ (tp_recs [] HOK.out hX) (by omega)).mono ?_
        rw [HOK.out.eq, HF.out]
        rintro _ w5 ⟨rfl, h4⟩
        have hstF := St.call0 hX h4
        clear h4
        refine hK.out _ _ ?_ (fun hHeld => ?_)
        · exact ⟨ldA ((tabC t (.slice (some ⟨g2, 0, none⟩) xs.length c) (.slice al t.lives.length cl))) [] hstF (rfl) (rfl), ldO hstF (H1.out)⟩
        clear hK K
        (try simp only [Act.put, List.setIfInBounds_toArray, List.set_cons_zero, List.set_cons_succ])
        refine tq 5 10 ?_
        refine tq 6 16 ?_
        refine tq 7 17 ?_
        refine tq 8 4 ?_
        refine tq 9 5 ?_
        refine wpAnyH_done (by kernel_rfl) ?_ _
        clear hHeld
        have hst : St w [] _ (TP g t (.slice (some ⟨g2, 0, none⟩) xs.length c) (.slice al t.lives.length cl) xs R) := hstF
        clear hstF
        go_wp2_with (first | go_big_skip | go_big_guard | (refine wl_loadE rfl rfl rfl ?_; first | refine ⟨_, Loads.atA (tabC t (.slice (some ⟨g2, 0, none⟩) xs.length c) (.slice al t.lives.length cl)) [] hst rfl rfl, ?_⟩ | refine ⟨_, Loads.at [] hst rfl, ?_⟩ | refine ⟨.int .i64 x.2.id, tp_loadI HOK.out hst HXJ.out, ?_⟩ | refine ⟨.int .i64 x.2.id, tp_loadI0 HOK.out hst HXJ.out, ?_⟩ | refine ⟨_, Loads.at [_] hst4 rfl, ?_⟩ | refine ⟨_, Loads.old hst H1.out, ?_⟩) | (refine wl_index rfl rfl rfl rfl hlt ?_) | (refine wl_alloc hst rfl rfl ?_; intro g6 w3 hst3; clear hst) | (refine wl_store [] hst3 rfl rfl rfl (off := 0) (v := .int .i64 x.2.id) rfl rfl rfl (by show (0 : Nat) + 1 ≤ 1; decide) ?_; intro w4 h4; have hst4 : St w [] w4 ([.blk g6 3 [.int .i64 x.2.id]] ++ TP g t (.slice (some ⟨g2, 0, none⟩) xs.length c) (.slice al t.lives.length cl) xs R) := h4; clear hst3 h4) | (go_at_call 58; refine (containsR_any 59 g6 (fun y => (y.own == x.2.id) || (y.origin == x.2.id)) _ xs.length c xs _ (fun _ _ => rfl) (fun y w' hy h => dropC_any (St.old_cell h (hst4.cell (g := g6) (off := 0) (.head _) rfl) (by simp)) y (RC.In.old h ((tp_recs [_] HOK.out hst4).each y hy))) (tp_recs [_] HOK.out hst4) (by omega)).mono ?_; rw [HOK.out.eq, HA.out]; rintro _ w9 ⟨rfl, h4⟩; replace hst4 := St.call0 hst4 h4; clear h4) | (go_at_call 60; refine (delete_any g2 xs.length c j (recsV xs) (St.front (L1 := [_, _]) hst4) (recsV_lenL HOK.out.LX) (any_okx HOK.out hst4 (fun x hx => (tp_recs [_] HOK.out hst4).each x hx)) hlt (by omega)).mono ?_; rintro _ w9 ⟨rfl, h4⟩; have hst5 : St w [] w9 (.row (.slice (some ⟨g2, 0, none⟩) (xs.length - 1) c) 53 44 (xs.length - 1) (recsV (xs.eraseIdx j)) :: .blk g6 3 [.int .i64 x.2.id] :: .blk g 27 (tabC t (.slice (some ⟨g2, 0, none⟩) xs.length c) (.slice al t.lives.length cl)) :: .row (.slice al t.lives.length cl) 3 1 t.lives.length (numsV t.lives) :: (xs.map rootH ++ R)) := (by rw [← recsV_erase HOK.out.LX hlt]; exact h4); clear h4 hst4) | (refine wl_store [_, _] hst5 rfl rfl rfl (off := 1) (v := .slice (some ⟨g2, 0, none⟩) (xs.length - 1) c) rfl rfl rfl (by show (1 : Nat) + 1 ≤ 7; decide) ?_; intro w7 hst6; clear hst5))
        go_ret
        exact del_done (E := [.blk g6 3 [.int .i64 x.2.id]]) HB.out HOK.out hlt (St.perm hst6 ((List.Perm.swap _ _ _).trans (.cons _ (.swap _ _ _))))
      · have HB := hid (show r = badR 17 from HV2.out)
        clear HV2
        go_enter Tryz.func55, Tryz.ntmps55
        go_wp2_with (first | go_big_skip | go_big_guard | (refine wl_loadE rfl rfl rfl ?_; first | refine ⟨_, Loads.atA (tabC t (.slice (some ⟨g2, 0, none⟩) xs.length c) (.slice al t.lives.length cl)) [] hst rfl rfl, ?_⟩ | refine ⟨_, Loads.at [] hst rfl, ?_⟩ | refine ⟨.int .i64 x.2.id, tp_loadI HOK.out hst HXJ.out, ?_⟩ | refine ⟨.int .i64 x.2.id, tp_loadI0 HOK.out hst HXJ.out, ?_⟩ | refine ⟨_, Loads.at [_] hst4 rfl, ?_⟩ | refine ⟨_, Loads.old hst H1.out, ?_⟩) | (go_at_call 56; refine (named_any nm _ (by omega)).mono ?_; rw [HNB.out]; rintro _ w9 ⟨rfl, h4⟩; replace hst := St.call0 hst h4; clear h4))
        have hX := hst.drew
        clear hst
        refine wp_region_held_drew (S := (fun w' => (loadVarH 27 ⟨g, 0, none⟩).run Tryz.prog w' = .ok (.agg (List.toArray ((tabC t (.slice (some ⟨g2, 0, none⟩) xs.length c) (.slice al t.lives.length cl))))) w' ∧ (loadVarH 9 ⟨g1, 0, none⟩).run Tryz.prog w' = .ok (.string ⟨nm.toArray⟩) w')) (by kernel_rfl) (by exact ⟨ldA ((tabC t (.slice (some ⟨g2, 0, none⟩) xs.length c) (.slice al t.lives.length cl))) [] hX (rfl) (rfl), ldO hX (H1.out)⟩) (fun hHeld => ?_)
        refine tq 0 11 ?_
        refine tq 3 14 ?_
        refine tq 1 12 ?_
        refine tq 2 13 ?_
        refine wpAnyH_ready (rs := [4]) (by kernel_rfl) (by simp) ?_
        refine (AllReadyH.cons (o := ⟨some 15, _, _, _, _, _⟩) rfl (fun K hK => ?_) AllReadyH.nil)
        rw [if_pos (by rfl)]
        go_simp
        go_at_call 57
        refine (find_any t _ nm (some ⟨g2, 0, none⟩) xs.length c xs _ (tp_recs [] HOK.out hX) (by omega)).mono ?_
        rw [HOK.out.eq, HF.out]
        rintro _ w5 ⟨rfl, h4⟩
        have hstF := St.call0 hX h4
        clear h4
        refine hK.out _ _ ?_ (fun hHeld => ?_)
        · exact ⟨ldA ((tabC t (.slice (some ⟨g2, 0, none⟩) xs.length c) (.slice al t.lives.length cl))) [] hstF (rfl) (rfl), ldO hstF (H1.out)⟩
        clear hK K
        (try simp only [Act.put, List.setIfInBounds_toArray, List.set_cons_zero, List.set_cons_succ])
        refine tq 5 10 ?_
        refine tq 6 16 ?_
        refine tq 7 17 ?_
        refine tq 8 4 ?_
        refine tq 9 5 ?_
        refine wpAnyH_done (by kernel_rfl) ?_ _
        clear hHeld
        have hst : St w [] _ (TP g t (.slice (some ⟨g2, 0, none⟩) xs.length c) (.slice al t.lives.length cl) xs R) := hstF
        clear hstF
        go_wp2_with (first | go_big_skip | go_big_guard | (refine wl_loadE rfl rfl rfl ?_; first | refine ⟨_, Loads.atA (tabC t (.slice (some ⟨g2, 0, none⟩) xs.length c) (.slice al t.lives.length cl)) [] hst rfl rfl, ?_⟩ | refine ⟨_, Loads.at [] hst rfl, ?_⟩ | refine ⟨.int .i64 x.2.id, tp_loadI HOK.out hst HXJ.out, ?_⟩ | refine ⟨.int .i64 x.2.id, tp_loadI0 HOK.out hst HXJ.out, ?_⟩ | refine ⟨_, Loads.at [_] hst4 rfl, ?_⟩ | refine ⟨_, Loads.old hst H1.out, ?_⟩) | (refine wl_index rfl rfl rfl rfl hlt ?_) | (refine wl_alloc hst rfl rfl ?_; intro g6 w3 hst3; clear hst) | (refine wl_store [] hst3 rfl rfl rfl (off := 0) (v := .int .i64 x.2.id) rfl rfl rfl (by show (0 : Nat) + 1 ≤ 1; decide) ?_; intro w4 h4; have hst4 : St w [] w4 ([.blk g6 3 [.int .i64 x.2.id]] ++ TP g t (.slice (some ⟨g2, 0, none⟩) xs.length c) (.slice al t.lives.length cl) xs R) := h4; clear hst3 h4) | (go_at_call 58; refine (containsR_any 59 g6 (fun y => (y.own == x.2.id) || (y.origin == x.2.id)) _ xs.length c xs _ (fun _ _ => rfl) (fun y w' hy h => dropC_any (St.old_cell h (hst4.cell (g := g6) (off := 0) (.head _) rfl) (by simp)) y (RC.In.old h ((tp_recs [_] HOK.out hst4).each y hy))) (tp_recs [_] HOK.out hst4) (by omega)).mono ?_; rw [HOK.out.eq, HA.out]; rintro _ w9 ⟨rfl, h4⟩; replace hst4 := St.call0 hst4 h4; clear h4))
        go_ret
        exact does_bad (L := [_]) HB.out (by decide) hst4
end Go.Proofs.YtifajcblbedcoaaGreat
namespace Go.Proofs.YtifajcblbedcoaaGreat
set_option linter.unusedVariables false
set_option linter.unusedSimpArgs false
open Go.RowKit Hp
attribute [local irreducible] Go.Calls Go.wpList
set_option maxRecDepth 100000
set_option maxHeartbeats 8000000
theorem heldFn (A : Addr) : loadVar 92 A = loadVarH 92 A := rfl
attribute [local go_sem ↓] heldInt heldInts heldRecs heldRec heldStr heldTab heldPtr heldFn
instance fnS : TyS Tryz.prog 92 := ⟨by kernel_rfl⟩
section
variable {w w1 : World} {g : Nat} {t : TC} {lv : Value} {xs : List (Value × RC)} {R : List HA}
theorem tp_loadK {g2 c j : Nat} {x : Value × RC} (hok : Okx xs t) (hst : St w [] w1 (TP g t (.slice (some ⟨g2, 0, none⟩) xs.length c) lv xs R)) (hx : xs[j]? = some x) : Loads Tryz.prog w1 3 ⟨g2, j * 44 + 2, none⟩ (.int .i64 x.2.kind) :=
  Loads.cell (inferInstance : TyS Tryz.prog 3).out (tp_range [] hok hst hx 2 _ rfl)
theorem tp_loadK0 {g2 c j : Nat} {x : Value × RC} (hok : Okx xs t) (hst : St w [] w1 (TP g t (.slice (some ⟨g2, 0, none⟩) xs.length c) lv xs R)) (hx : xs[j]? = some x) : Loads Tryz.prog w1 3 ⟨g2, 0 + j * 44 + 2, none⟩ (.int .i64 x.2.kind) := by
  rw [Nat.zero_add]
  exact tp_loadK hok hst hx
end
/-- What a function value does to an element. -/
def DoesVPost (g2 c k : Nat) (xs : List (Value × RC)) (x : Value × RC) (R : List HA) (w : World) (f : RC → RC) (e : Ending) (w' : World) : Prop :=
  e = .returned (.tuple #[]) ∧ ∃ y : Value × RC, y.2 = f x.2 ∧ (L32 y.2.S ∧ y.2.name.length ≤ 1000000) ∧ ((rootH y = rootH x ∧ St w [] w' (.row (.slice (some ⟨g2, 0, none⟩) xs.length c) 53 44 xs.length (recsV (xs.set k y)) :: R)) ∨ St w [] w' (rootH y :: .row (.slice (some ⟨g2, 0, none⟩) xs.length c) 53 44 xs.length (recsV (xs.set k y)) :: R))
def DoesV (F : FuncId) (caps : Array Value) (w : World) (f : RC → RC) : Prop :=
  ∀ (g2 c k : Nat) (xs : List (Value × RC)) (x : Value × RC) (R : List HA) (w1 : World), LX xs → xs[k]? = some x → xs.length ≤ 1000 → x.2.name.length ≤ 1000000 → St w [] w1 (.row (.slice (some ⟨g2, 0, none⟩) xs.length c) 53 44 xs.length (recsV xs) :: R) →
    Calls Tryz.prog F (#[.pointer (some ⟨g2, k * 44, none⟩)] ++ caps) w1 (DoesVPost g2 c k xs x R w f)
theorem change_does {w : World} {gf gn gd : Nat} (nm : List UInt8) (fine : Bool) (F : FuncId) (caps : Array Value) (f : RC → RC) (hF : ∀ (a : Array Value) (w : World), (callFunc F a).run Tryz.prog w = .ok (.enter F a) w) (hdv : DoesV F caps w f) (h1 : w.cell? ⟨gf, 0, none⟩ = some (.bool fine)) (h2 : w.cell? ⟨gn, 0, none⟩ = some (.string ⟨nm.toArray⟩)) (h3 : w.cell? ⟨gd, 0, none⟩ = some (.func (.func F) #[] caps)) (hl : nm.length ≤ 1000000) (t : TC) (hk : t.ok = true) :
    Does 119 #[.pointer (some ⟨gf, 0, none⟩), .pointer (some ⟨gn, 0, none⟩), .pointer (some ⟨gd, 0, none⟩)] w t (changeT t nm fine f) := by
  intro g ao c al cl xs R w1 hok hst0
  show Calls _ _ #[.pointer (some ⟨g, 0, none⟩), .pointer (some ⟨gf, 0, none⟩), .pointer (some ⟨gn, 0, none⟩), .pointer (some ⟨gd, 0, none⟩)] _ _
  have hst := hst0
  have H1 := hid h1
  have H2 := hid h2
  have H3 := hid h3
  have HOK := hid hok
  have HK := hid hk
  have b2 : xs.length ≤ 16 := by rw [hok.len]; exact ok_many hk
  clear hst0 hok hk h1 h2 h3
  obtain ⟨r, hr⟩ : ∃ r, r = changeT t nm fine f := ⟨_, rfl⟩
  rw [← hr]
  have HDV := hid hdv
  clear hdv
  obtain ⟨e, hx⟩ : ∃ e, namedB nm = e := ⟨_, rfl⟩
  have HNB := hid hx
  have HV := hid (show r = if fine && e then (match recAt nm t.recs with
    | none => badR 6
    | some q => if q.kind == 2 then badR 18 else (0, { t with recs := setN nm t.recs (f q) })) else badR 2 by rw [hr]; unfold changeT; rw [hx]; rfl)
  clear hr hx
  cases hc : (fine && e)
  · have HB := hid (show r = badR 2 by rw [HV.out, hc]; rfl)
    clear HV
    cases fine <;> cases e <;> first | (cases hc; done) | skip
    all_goals
      clear hc
      go_enter Tryz.func119, Tryz.ntmps119
      go_wp2_with (first | go_big_skip | go_big_guard | (refine wl_loadE rfl rfl rfl ?_; first | refine ⟨_, Loads.atA (tabC t (.slice ao xs.length c) (.slice al t.lives.length cl)) [] hst rfl rfl, ?_⟩ | refine ⟨_, Loads.old hst H1.out, ?_⟩ | refine ⟨_, Loads.old hst H2.out, ?_⟩ | refine ⟨_, Loads.old hst H3.out, ?_⟩) | (go_at_call 56; refine (named_any nm _ (by omega)).mono ?_; rw [HNB.out]; rintro _ w9 ⟨rfl, h4⟩; replace hst := St.call0 hst h4; clear h4))
      go_ret
      exact does_bad (L := []) HB.out (by decide) hst
  · have h3 : fine = true ∧ e = true := by revert hc; cases fine <;> cases e <;> decide
    obtain ⟨rfl, rfl⟩ := h3
    rcases find_split (nm := nm) (l := t.recs) with ⟨hra, hf⟩ | ⟨j, y, hy, hra, hfn, hf, hnm⟩
    · have HF := hid hf
      have HB := hid (show r = badR 6 by rw [HV.out, hra]; rfl)
      clear HV hf hra hc
      go_enter Tryz.func119, Tryz.ntmps119
      go_wp2_with (first | go_big_skip | go_big_guard | (refine wl_loadE rfl rfl rfl ?_; first | refine ⟨_, Loads.atA (tabC t (.slice ao xs.length c) (.slice al t.lives.length cl)) [] hst rfl rfl, ?_⟩ | refine ⟨_, Loads.old hst H1.out, ?_⟩ | refine ⟨_, Loads.old hst H2.out, ?_⟩ | refine ⟨_, Loads.old hst H3.out, ?_⟩) | (go_at_call 56; refine (named_any nm _ (by omega)).mono ?_; rw [HNB.out]; rintro _ w9 ⟨rfl, h4⟩; replace hst := St.call0 hst h4; clear h4))
      have hX := hst.drew
      clear hst
      refine wp_region_held_drew (S := (fun w' => (loadVarH 27 ⟨g, 0, none⟩).run Tryz.prog w' = .ok (.agg (List.toArray ((tabC t (.slice ao xs.length c) (.slice al t.lives.length cl))))) w' ∧ (loadVarH 9 ⟨gn, 0, none⟩).run Tryz.prog w' = .ok (.string ⟨nm.toArray⟩) w')) (by kernel_rfl) (by exact ⟨ldA ((tabC t (.slice ao xs.length c) (.slice al t.lives.length cl))) [] hX (rfl) (rfl), ldO hX (H2.out)⟩) (fun hHeld => ?_)
      refine tq 0 16 ?_
      refine tq 3 19 ?_
      refine tq 1 17 ?_
      refine tq 2 18 ?_
      refine wpAnyH_ready (rs := [4]) (by kernel_rfl) (by simp) ?_
      refine (AllReadyH.cons (o := ⟨some 20, _, _, _, _, _⟩) rfl (fun K hK => ?_) AllReadyH.nil)
      rw [if_pos (by rfl)]
      go_simp
      go_at_call 57
      refine (find_any t _ nm ao xs.length c xs _ (tp_recs [] HOK.out hX) (by omega)).mono ?_
      rw [HOK.out.eq, HF.out]
      rintro _ w5 ⟨rfl, h4⟩
      have hstF := St.call0 hX h4
      clear h4
      refine hK.out _ _ ?_ (fun hHeld => ?_)
      · exact ⟨ldA ((tabC t (.slice ao xs.length c) (.slice al t.lives.length cl))) [] hstF (rfl) (rfl), ldO hstF (H2.out)⟩
      clear hK K
      (try simp only [Act.put, List.setIfInBounds_toArray, List.set_cons_zero, List.set_cons_succ])
      refine tq 5 15 ?_
      refine tq 6 21 ?_
      refine tq 7 22 ?_
      refine tq 8 6 ?_
      refine tq 9 7 ?_
      refine wpAnyH_done (by kernel_rfl) ?_ _
      clear hHeld
      have hst : St w [] _ (TP g t (.slice ao xs.length c) (.slice al t.lives.length cl) xs R) := hstF
      clear hstF
      go_wp2_with (first | go_big_skip | go_big_guard | fail)
      go_ret
      exact does_bad (L := []) HB.out (by decide) hst
    · have HFN := hid hfn
      obtain ⟨x, hx, hxy⟩ := okx_at HOK.out hy
      subst hxy
      have hlt : j < xs.length := (List.getElem?_eq_some_iff.1 hx).1
      obtain ⟨g2, c2, he⟩ := tp_spot [] hst (by omega)
      cases he
      have HF := hid hf
      have HRA := hid hra
      have HXJ := hid hx
      have HLL := hid ((HOK.out.ok x (List.mem_of_getElem? hx)).1)
      have HLX := hid (cellsR_len (HOK.out.ok x (List.mem_of_getElem? hx)).1)
      have HON := hid (cellsR_ones (tp_in [] HOK.out hst hx))
      have H35 := hid (PV.len (p := x.2.pv x.1) (HOK.out.ok x (List.mem_of_getElem? hx)).1)
      have HB3 := hid (birth_le HK.out (List.mem_of_getElem? hy))
      clear hx hy hf hra hfn hnm
      cases hkk : (x.2.kind == 2)
      · have HB := hid (show r = (0, { t with recs := t.recs.set j (f x.2) }) by rw [HV.out, HRA.out, hc]; show (if x.2.kind == 2 then badR 18 else ((0 : Int), { t with recs := setN nm t.recs (f x.2) })) = _; rw [hkk]; unfold setN; rw [HFN.out]; rfl)
        clear HV hc
        go_enter Tryz.func119, Tryz.ntmps119
        go_wp2_with (first | go_big_skip | go_big_guard | (refine wl_loadE rfl rfl rfl ?_; first | refine ⟨_, Loads.atA (tabC t (.slice (some ⟨g2, 0, none⟩) xs.length c) (.slice al t.lives.length cl)) [] hst rfl rfl, ?_⟩ | refine ⟨_, Loads.at [] hst rfl, ?_⟩ | refine ⟨_, tp_loadK HOK.out hst HXJ.out, ?_⟩ | refine ⟨_, tp_loadK0 HOK.out hst HXJ.out, ?_⟩ | refine ⟨_, Loads.old hst H1.out, ?_⟩ | refine ⟨_, Loads.old hst H2.out, ?_⟩ | refine ⟨_, Loads.old hst H3.out, ?_⟩) | (refine wl_index rfl rfl rfl rfl hlt ?_) | (go_at_call 56; refine (named_any nm _ (by omega)).mono ?_; rw [HNB.out]; rintro _ w9 ⟨rfl, h4⟩; replace hst := St.call0 hst h4; clear h4))
        have hX := hst.drew
        clear hst
        refine wp_region_held_drew (S := (fun w' => (loadVarH 27 ⟨g, 0, none⟩).run Tryz.prog w' = .ok (.agg (List.toArray ((tabC t (.slice (some ⟨g2, 0, none⟩) xs.length c) (.slice al t.lives.length cl))))) w' ∧ (loadVarH 9 ⟨gn, 0, none⟩).run Tryz.prog w' = .ok (.string ⟨nm.toArray⟩) w')) (by kernel_rfl) (by exact ⟨ldA ((tabC t (.slice (some ⟨g2, 0, none⟩) xs.length c) (.slice al t.lives.length cl))) [] hX (rfl) (rfl), ldO hX (H2.out)⟩) (fun hHeld => ?_)
        refine tq 0 16 ?_
        refine tq 3 19 ?_
        refine tq 1 17 ?_
        refine tq 2 18 ?_
        refine wpAnyH_ready (rs := [4]) (by kernel_rfl) (by simp) ?_
        refine (AllReadyH.cons (o := ⟨some 20, _, _, _, _, _⟩) rfl (fun K hK => ?_) AllReadyH.nil)
        rw [if_pos (by rfl)]
        go_simp
        go_at_call 57
        refine (find_any t _ nm (some ⟨g2, 0, none⟩) xs.length c xs _ (tp_recs [] HOK.out hX) (by omega)).mono ?_
        rw [HOK.out.eq, HF.out]
        rintro _ w5 ⟨rfl, h4⟩
        have hstF := St.call0 hX h4
        clear h4
        refine hK.out _ _ ?_ (fun hHeld => ?_)
        · exact ⟨ldA ((tabC t (.slice (some ⟨g2, 0, none⟩) xs.length c) (.slice al t.lives.length cl))) [] hstF (rfl) (rfl), ldO hstF (H2.out)⟩
        clear hK K
        (try simp only [Act.put, List.setIfInBounds_toArray, List.set_cons_zero, List.set_cons_succ])
        refine tq 5 15 ?_
        refine tq 6 21 ?_
        refine tq 7 22 ?_
        refine tq 8 6 ?_
        refine tq 9 7 ?_
        refine wpAnyH_done (by kernel_rfl) ?_ _
        clear hHeld
        have hst : St w [] _ (TP g t (.slice (some ⟨g2, 0, none⟩) xs.length c) (.slice al t.lives.length cl) xs R) := hstF
        clear hstF
        go_wp2_with (first | go_big_skip | go_big_guard | (refine wl_loadE rfl rfl rfl ?_; first | refine ⟨_, Loads.atA (tabC t (.slice (some ⟨g2, 0, none⟩) xs.length c) (.slice al t.lives.length cl)) [] hst rfl rfl, ?_⟩ | refine ⟨_, Loads.at [] hst rfl, ?_⟩ | refine ⟨_, tp_loadK HOK.out hst HXJ.out, ?_⟩ | refine ⟨_, tp_loadK0 HOK.out hst HXJ.out, ?_⟩ | refine ⟨_, Loads.old hst H1.out, ?_⟩ | refine ⟨_, Loads.old hst H2.out, ?_⟩ | refine ⟨_, Loads.old hst H3.out, ?_⟩) | (refine wl_index rfl rfl rfl rfl hlt ?_))
        have hY := hst.drew
        clear hst
        refine wp_region_held_drew (S := (fun w' => (loadVarH 92 ⟨gd, 0, none⟩).run Tryz.prog w' = .ok (.func (.func F) #[] caps) w' ∧ (loadVarH 22 ⟨g, 1, none⟩).run Tryz.prog w' = .ok (.slice (some ⟨g2, 0, none⟩) xs.length c) w')) (by kernel_rfl) (by exact ⟨ldO hY (H3.out), ldS [] hY rfl⟩) (fun hHeld => ?_)
        refine tq 0 36 ?_
        refine tq 1 37 ?_
        refine tq 5 41 ?_
        refine tq 2 38 ?_
        refine tq 3 39 ?_
        refine tq 4 40 ?_
        refine tq 6 42 ?_
        refine wpAnyH_ready (rs := [7]) (by kernel_rfl) (by simp) ?_
        refine (AllReadyH.cons (o := ⟨some 43, _, _, _, _, _⟩) rfl (fun K hK => ?_) AllReadyH.nil)
        rw [if_pos (by rfl)]
        go_simp
        refine (HDV.out g2 c j xs x _ _ HOK.out.LX HXJ.out (by omega) (HOK.out.ok x (List.mem_of_getElem? HXJ.out)).2 (St.front (L1 := [_]) hY)).mono ?_
        rintro _ w5 ⟨rfl, y, hyf, hyl, hys⟩
        have hst5 : St w [] w5 [] := by
          rcases hys with ⟨_, h⟩ | h
          · exact h.nil
          · exact h.nil
        have hg9 : Loads Tryz.prog w5 22 ⟨g, 1, none⟩ (.slice (some ⟨g2, 0, none⟩) xs.length c) := by
          rcases hys with ⟨_, h⟩ | h
          · exact Loads.at [_] h rfl
          · exact Loads.at [_, _] h rfl
        have HYF := hid hyf
        have HYL := hid hyl
        have HYS := hid hys
        clear hyf hyl hys
        refine hK.out _ _ ?_ (fun hHeld => ?_)
        · exact ⟨ldO hst5 (H3.out), hg9⟩
        clear hK K
        (try simp only [Act.put, List.setIfInBounds_toArray, List.set_cons_zero, List.set_cons_succ])
        refine wpAnyH_done (by kernel_rfl) ?_ _
        clear hHeld
        go_wp2_with (first | go_big_skip | go_big_guard | fail)
        go_ret
        have hB2 : r = (0, { t with recs := t.recs.set j y.2 }) := by rw [HB.out, HYF.out]
        rcases HYS.out with ⟨hv, h⟩ | h
        · exact set_done0 (E := []) hB2 HOK.out HXJ.out HYL.out hv (St.perm h (.swap _ _ _))
        · exact set_done (E := []) hB2 HOK.out HXJ.out HYL.out (St.perm h (.cons _ (.swap _ _ _)))
      · have HB := hid (show r = badR 18 by rw [HV.out, HRA.out, hc]; show (if x.2.kind == 2 then badR 18 else ((0 : Int), { t with recs := setN nm t.recs (f x.2) })) = _; rw [hkk]; rfl)
        clear HV hc
        go_enter Tryz.func119, Tryz.ntmps119
        go_wp2_with (first | go_big_skip | go_big_guard | (refine wl_loadE rfl rfl rfl ?_; first | refine ⟨_, Loads.atA (tabC t (.slice (some ⟨g2, 0, none⟩) xs.length c) (.slice al t.lives.length cl)) [] hst rfl rfl, ?_⟩ | refine ⟨_, Loads.at [] hst rfl, ?_⟩ | refine ⟨_, tp_loadK HOK.out hst HXJ.out, ?_⟩ | refine ⟨_, tp_loadK0 HOK.out hst HXJ.out, ?_⟩ | refine ⟨_, Loads.old hst H1.out, ?_⟩ | refine ⟨_, Loads.old hst H2.out, ?_⟩ | refine ⟨_, Loads.old hst H3.out, ?_⟩) | (refine wl_index rfl rfl rfl rfl hlt ?_) | (go_at_call 56; refine (named_any nm _ (by omega)).mono ?_; rw [HNB.out]; rintro _ w9 ⟨rfl, h4⟩; replace hst := St.call0 hst h4; clear h4))
        have hX := hst.drew
        clear hst
        refine wp_region_held_drew (S := (fun w' => (loadVarH 27 ⟨g, 0, none⟩).run Tryz.prog w' = .ok (.agg (List.toArray ((tabC t (.slice (some ⟨g2, 0, none⟩) xs.length c) (.slice al t.lives.length cl))))) w' ∧ (loadVarH 9 ⟨gn, 0, none⟩).run Tryz.prog w' = .ok (.string ⟨nm.toArray⟩) w')) (by kernel_rfl) (by exact ⟨ldA ((tabC t (.slice (some ⟨g2, 0, none⟩) xs.length c) (.slice al t.lives.length cl))) [] hX (rfl) (rfl), ldO hX (H2.out)⟩) (fun hHeld => ?_)
        refine tq 0 16 ?_
        refine tq 3 19 ?_
        refine tq 1 17 ?_
        refine tq 2 18 ?_
        refine wpAnyH_ready (rs := [4]) (by kernel_rfl) (by simp) ?_
        refine (AllReadyH.cons (o := ⟨some 20, _, _, _, _, _⟩) rfl (fun K hK => ?_) AllReadyH.nil)
        rw [if_pos (by rfl)]
        go_simp
        go_at_call 57
        refine (find_any t _ nm (some ⟨g2, 0, none⟩) xs.length c xs _ (tp_recs [] HOK.out hX) (by omega)).mono ?_
        rw [HOK.out.eq, HF.out]
        rintro _ w5 ⟨rfl, h4⟩
        have hstF := St.call0 hX h4
        clear h4
        refine hK.out _ _ ?_ (fun hHeld => ?_)
        · exact ⟨ldA ((tabC t (.slice (some ⟨g2, 0, none⟩) xs.length c) (.slice al t.lives.length cl))) [] hstF (rfl) (rfl), ldO hstF (H2.out)⟩
        clear hK K
        (try simp only [Act.put, List.setIfInBounds_toArray, List.set_cons_zero, List.set_cons_succ])
        refine tq 5 15 ?_
        refine tq 6 21 ?_
        refine tq 7 22 ?_
        refine tq 8 6 ?_
        refine tq 9 7 ?_
        refine wpAnyH_done (by kernel_rfl) ?_ _
        clear hHeld
        have hst : St w [] _ (TP g t (.slice (some ⟨g2, 0, none⟩) xs.length c) (.slice al t.lives.length cl) xs R) := hstF
        clear hstF
        go_wp2_with (first | go_big_skip | go_big_guard | (refine wl_loadE rfl rfl rfl ?_; first | refine ⟨_, Loads.atA (tabC t (.slice (some ⟨g2, 0, none⟩) xs.length c) (.slice al t.lives.length cl)) [] hst rfl rfl, ?_⟩ | refine ⟨_, Loads.at [] hst rfl, ?_⟩ | refine ⟨_, tp_loadK HOK.out hst HXJ.out, ?_⟩ | refine ⟨_, tp_loadK0 HOK.out hst HXJ.out, ?_⟩ | refine ⟨_, Loads.old hst H1.out, ?_⟩ | refine ⟨_, Loads.old hst H2.out, ?_⟩ | refine ⟨_, Loads.old hst H3.out, ?_⟩) | (refine wl_index rfl rfl rfl rfl hlt ?_))
        go_ret
        exact does_bad (L := []) HB.out (by decide) hst
end Go.Proofs.YtifajcblbedcoaaGreat
namespace Go.Proofs.YtifajcblbedcoaaGreat
set_option linter.unusedVariables false
set_option linter.unusedSimpArgs false
open Go.RowKit Hp
attribute [local irreducible] Go.Calls Go.wpList
set_option maxRecDepth 100000
set_option maxHeartbeats 8000000
attribute [local go_sem ↓] heldInt heldInts heldRecs heldRec heldStr heldTab heldPtr heldFn
theorem put_q (v : Value × RC) (z : Int) (h : L32 v.2.S) : putAt (cellsR v) 42 [.int .i64 z] = cellsR (v.1, { v.2 with quota := z }) := xC_put42 (p := v.2.pv v.1) h z
theorem put_r (v : Value × RC) (z : Int) (h : L32 v.2.S) : putAt (cellsR v) 43 [.int .i64 z] = cellsR (v.1, { v.2 with reserve := z }) := xC_put43 (p := v.2.pv v.1) h z
def rootOf (p : PV) (v : RC) : RC := { v with l := p.l, b := p.b, v := p.v, S := p.S }
theorem put_p (v : Value × RC) (p : PV) (sv : Value) (h : L32 v.2.S) (hp : L32 p.S) : putAt (cellsR v) 4 (PV.cells (p.re sv)) = cellsR (sv, rootOf p v.2) := xC_put4 (p := v.2.pv v.1) (q := p.re sv) h hp
theorem resizeV {w : World} {gs : Nat} (z : Int) (h1 : w.cell? ⟨gs, 0, none⟩ = some (.int .i64 z)) : DoesV 80 #[.pointer (some ⟨gs, 0, none⟩)] w (fun v => { v with size := z }) := by
  intro g2 c k xs x R w1 hlx hx hn hnm hst0
  show Calls _ _ #[.pointer (some ⟨g2, k * 44, none⟩), .pointer (some ⟨gs, 0, none⟩)] _ _
  have HLX := hid hlx
  have HX := hid hx
  have HNM := hid hnm
  have HS := hid (hlx x (List.mem_of_getElem? hx))
  have hk : k < xs.length := (List.getElem?_eq_some_iff.1 hx).1
  have H1 := hid h1
  clear hlx hx hnm h1
  go_enter Tryz.func80, Tryz.ntmps80
  go_wp2_with (first | go_big_skip | go_big_guard | (refine wl_loadE rfl rfl rfl ?_; refine ⟨_, Loads.old hst0 H1.out, ?_⟩) | (refine wl_storeRow1 [] hst0 rfl rfl rfl rfl (v := .int .i64 z) rfl rfl (by omega) (by omega) ?_; intro w6 hst6; clear hst0; rw [recsV_put HLX.out HX.out (d := 3) (by show 3 + 1 ≤ 44; decide) (put_size x z)] at hst6))
  go_end0
  exact ⟨rfl, (x.1, { x.2 with size := z }), rfl, ⟨HS.out, HNM.out⟩, .inl ⟨rfl, hst6⟩⟩
theorem limitV {w : World} {gq gr : Nat} (q z : Int) (h1 : w.cell? ⟨gq, 0, none⟩ = some (.int .i64 q)) (h2 : w.cell? ⟨gr, 0, none⟩ = some (.int .i64 z)) : DoesV 82 #[.pointer (some ⟨gq, 0, none⟩), .pointer (some ⟨gr, 0, none⟩)] w (fun v => { v with quota := q, reserve := z }) := by
  intro g2 c k xs x R w1 hlx hx hn hnm hst0
  show Calls _ _ #[.pointer (some ⟨g2, k * 44, none⟩), .pointer (some ⟨gq, 0, none⟩), .pointer (some ⟨gr, 0, none⟩)] _ _
  have HLX := hid hlx
  have HX := hid hx
  have HNM := hid hnm
  have HS := hid (hlx x (List.mem_of_getElem? hx))
  have hk : k < xs.length := (List.getElem?_eq_some_iff.1 hx).1
  have H1 := hid h1
  have H2 := hid h2
  clear hlx hx hnm h1 h2
  go_enter Tryz.func82, Tryz.ntmps82
  have hX := hst0.drew
  clear hst0
  refine wp_region_held_drew (S := (fun w' => (loadVarH 3 ⟨gq, 0, none⟩).run Tryz.prog w' = .ok (.int .i64 q) w' ∧ (loadVarH 3 ⟨gr, 0, none⟩).run Tryz.prog w' = .ok (.int .i64 z) w')) (by kernel_rfl) (by exact ⟨ldO hX (H1.out), ldO hX (H2.out)⟩) (fun hHeld => ?_)
  refine tq 0 4 ?_
  refine tq 1 5 ?_
  refine tq 2 6 ?_
  refine tq 3 7 ?_
  refine tq 4 8 ?_
  refine tq 5 9 ?_
  refine wpAnyH_ready (rs := [6]) (by kernel_rfl) (by simp) ?_
  refine (AllReadyH.cons (o := ⟨none, _, _, _, _, _⟩) rfl (fun K hK => ?_) AllReadyH.nil)
  rw [if_pos (by rfl)]
  refine ow_of_wl (ops := #[]) (by rfl) ?_
  refine wl_storeRow1 [] hX rfl rfl rfl rfl (v := .int .i64 q) rfl rfl (by omega) (by omega) ?_
  intro w6 hst6
  rw [recsV_put HLX.out HX.out (d := 42) (by show 42 + 1 ≤ 44; decide) (put_q x q HS.out)] at hst6
  refine q0_nil ?_
  refine hK.out _ _ ?_ (fun hHeld => ?_)
  · exact ⟨ldO hst6 (H1.out), ldO hst6 (H2.out)⟩
  clear hK K
  (try simp only [Act.put, List.setIfInBounds_toArray, List.set_cons_zero, List.set_cons_succ])
  refine tq 7 10 ?_
  refine tq 8 11 ?_
  refine wpAnyH_ready (rs := [9]) (by kernel_rfl) (by simp) ?_
  refine (AllReadyH.cons (o := ⟨none, _, _, _, _, _⟩) rfl (fun K hK => ?_) AllReadyH.nil)
  rw [if_pos (by rfl)]
  refine ow_of_wl (ops := #[]) (by rfl) ?_
  refine wl_storeRow1 [] hst6 rfl rfl rfl rfl (v := .int .i64 z) rfl rfl (by omega) (by omega) ?_
  intro w7 hst7
  have hLX2 : LX (xs.set k (x.1, { x.2 with quota := q })) := fun u hu => by
    rcases List.mem_or_eq_of_mem_set hu with h | rfl
    · exact HLX.out u h
    · exact HS.out
  rw [recsV_put hLX2 (by rw [List.getElem?_set_self (by exact hk)]) (d := 43) (by show 43 + 1 ≤ 44; decide) (put_r (x.1, { x.2 with quota := q }) z HS.out), List.set_set] at hst7
  refine q0_nil ?_
  refine hK.out _ _ ?_ (fun hHeld => ?_)
  · exact ⟨ldO hst7 (H1.out), ldO hst7 (H2.out)⟩
  clear hK K
  (try simp only [Act.put, List.setIfInBounds_toArray, List.set_cons_zero, List.set_cons_succ])
  refine wpAnyH_done (by kernel_rfl) ?_ _
  clear hHeld
  go_wp2_with (first | go_big_skip | go_big_guard | fail)
  go_end0
  exact ⟨rfl, (x.1, { x.2 with quota := q, reserve := z }), rfl, ⟨HS.out, HNM.out⟩, .inl ⟨rfl, hst7⟩⟩
theorem rootV {w : World} {gp : Nat} (p : PV) (h1 : w.rangeAt gp 0 p.cells) (h2 : p.In w) (h3 : p.l.length ≤ 100000) : DoesV 85 #[.pointer (some ⟨gp, 0, none⟩)] w (rootOf p) := by
  intro g2 c k xs x R w1 hlx hx hn hnm hst0
  show Calls _ _ #[.pointer (some ⟨g2, k * 44, none⟩), .pointer (some ⟨gp, 0, none⟩)] _ _
  have HLX := hid hlx
  have HX := hid hx
  have HNM := hid hnm
  have HS := hid (hlx x (List.mem_of_getElem? hx))
  have hk : k < xs.length := (List.getElem?_eq_some_iff.1 hx).1
  have H1 := hid h1
  have H2 := hid h2
  have H3 := hid h3
  clear hlx hx hnm h1 h2 h3
  go_enter Tryz.func85, Tryz.ntmps85
  go_wp2_with (first | go_big_skip | go_big_guard | (refine wl_loadE rfl rfl rfl ?_; refine ⟨_, Loads.oldA (cs := p.cells) hst0 (PV.len H2.out.1) H1.out, ?_⟩) | (go_at_call 69; refine (ownP_any p _ (PV.In.old hst0.nil H2.out) H3.out).mono ?_; rintro _ w5 ⟨a5, n5, c5, rfl, h4, hl5⟩; have hst5 := St.call hst0 h4; subst hl5; clear h4 hst0) | (refine wl_storeRow [_] hst5 rfl rfl rfl rfl (m := 35) (vs := PV.cells (p.re (.slice a5 p.l.length c5))) (PV.len (p := p.re (.slice a5 p.l.length c5)) H2.out.1) (PV.ones_of (p := p.re (.slice a5 p.l.length c5)) rfl) (by omega) (by omega) ?_; intro w6 hst6; clear hst5; rw [recsV_put HLX.out HX.out (d := 4) (by rw [PV.len (p := p.re (.slice a5 p.l.length c5)) H2.out.1]; decide) (put_p x p (.slice a5 p.l.length c5) HS.out H2.out.1)] at hst6))
  go_end0
  exact ⟨rfl, ((.slice a5 p.l.length c5 : Value), rootOf p x.2), rfl, ⟨H2.out.1, HNM.out⟩, .inr hst6⟩
end Go.Proofs.YtifajcblbedcoaaGreat
namespace Go.Proofs.YtifajcblbedcoaaGreat
set_option linter.unusedVariables false
set_option linter.unusedSimpArgs false
open Go.RowKit Hp
attribute [local irreducible] Go.Calls Go.wpList
set_option maxRecDepth 100000
set_option maxHeartbeats 8000000
attribute [local go_sem ↓] heldInt heldInts heldRecs heldRec heldStr heldTab heldPtr heldFn
theorem wl_mkFunc {P : Program} {ops : Array Oper} {rest : List Oper} {o : Oper} {a : Act} {w : World} {Q : Exit → Act → World → Prop} {f : Fn} {ts xs : Array Operand} (hop : o.op = .makeFunc f ts xs) (hw : Region.wanted o (yielded ops a.tmps) = true)
    (h : wpList P ops Q rest (a.put o.dst (.func f (ts.map a.eval) (xs.map a.eval))) w) : wpList P ops Q (o :: rest) a w := by
  refine wl_run hw ?_ h
  unfold execOp
  simp only [hop]
  rfl
theorem opR_badR (t : TC) (z : Int) (hz : (z == 0) = false) (h : t.ok = true) : opR t (badR z) = badR z := by
  unfold opR
  rw [h]
  show (if (z == 0) then badR z else badR z) = _
  rw [hz]
  rfl
theorem make13_any (t : TC) (ar al : Option Addr) (nr cr nl cl : Nat) (xs : List (Value × RC)) (w : World) (ht : TabIn w t ar nr cr al nl cl xs) (nm : List UInt8) (size : Int) (txg : Int) (hnm : nm.length ≤ 1000000) :
    Calls Tryz.prog 25 #[.agg (tabC t (.slice ar nr cr) (.slice al nl cl)).toArray, .string ⟨nm.toArray⟩, .int .i64 size, .int .i64 txg] w (TabRet (opR t (makeR t nm size txg)) w) := by
  have hst0 := St.refl w
  have HT := hid ht
  clear ht
  obtain ⟨r, hr⟩ : ∃ r, r = opR t (makeR t nm size txg) := ⟨_, rfl⟩
  rw [← hr]
  have HR := hid hr
  clear hr
  go_enter Tryz.func25, Tryz.ntmps25
  go_wp2_with (first | go_big_skip | go_big_guard | (refine wl_boxA hst0 rfl rfl rfl ?_; intro g4 w1 hA0; clear hst0) | (refine wl_box hA0 rfl rfl rfl ?_; intro g5 _ hA1; clear hA0) | (refine wl_box hA1 rfl rfl rfl ?_; intro g6 _ hA2; clear hA1) | (refine wl_box hA2 rfl rfl rfl ?_; intro g7 _ hA3; clear hA2) | (refine wl_alloc hA3 rfl rfl ?_; intro gz _ hst; clear hA3) | (refine wl_loadE rfl rfl rfl ?_; refine ⟨_, Loads.atA (tabC t (.slice ar nr cr) (.slice al nl cl)) [_, _, _, _] hst rfl rfl, ?_⟩) | (go_at_call 54; refine (owned_any 61 #[.pointer (some ⟨g5, 0, none⟩), .pointer (some ⟨g6, 0, none⟩), .pointer (some ⟨g7, 0, none⟩)] (fun _ _ => rfl) t ar al nr cr nl cl xs _ (HT.out.old hst.nil) (makeR t nm size txg) (fun hk => make_does nm size txg (hst.cell (g := g5) (off := 0) (.tail _ (.tail _ (.tail _ (.head _)))) rfl) (hst.cell (g := g6) (off := 0) (.tail _ (.tail _ (.head _))) rfl) (hst.cell (g := g7) (off := 0) (.tail _ (.head _)) rfl) hnm t hk)).mono ?_; rw [← HR.out]; rintro _ w9 ⟨rv9, lv9, xs9, rfl, hok9, h4⟩; have hst2 := St.call hst h4; clear h4 hst; obtain ⟨a9, c9, rfl, _, _⟩ := rowS [] hst2; obtain ⟨a8, c8, rfl, _, _⟩ := rowS [_] hst2; have HOK := hid hok9; clear hok9) | (refine wl_storeA (_ :: _ :: List.map rootH xs9) hst2 rfl rfl rfl rfl (vs := tabC r.2 (.slice a9 xs9.length c9) (.slice a8 r.2.lives.length c8)) rfl rfl rfl ?_; intro w7 hst3; clear hst2))
  have hl := Loads.atA (P := Tryz.prog) (off := 0) (T := 27) (tabC r.2 (.slice a9 xs9.length c9) (.slice a8 r.2.lives.length c8)) (_ :: _ :: List.map rootH xs9) hst3 rfl rfl
  refine bodyPost_ret (results_cellR rfl rfl rfl hl) rfl ?_
  exact ⟨_, _, xs9, rfl, HOK.out, St.sub hst3 (.cons_cons _ (.cons_cons _ (List.sublist_append_left _ _)))⟩
theorem snap13_any (t : TC) (ar al : Option Addr) (nr cr nl cl : Nat) (xs : List (Value × RC)) (w : World) (ht : TabIn w t ar nr cr al nl cl xs) (nm : List UInt8) (txg : Int) (hnm : nm.length ≤ 1000000) :
    Calls Tryz.prog 26 #[.agg (tabC t (.slice ar nr cr) (.slice al nl cl)).toArray, .string ⟨nm.toArray⟩, .int .i64 txg] w (TabRet (opR t (snapT t nm txg)) w) := by
  have hst0 := St.refl w
  have HT := hid ht
  clear ht
  obtain ⟨r, hr⟩ : ∃ r, r = opR t (snapT t nm txg) := ⟨_, rfl⟩
  rw [← hr]
  have HR := hid hr
  clear hr
  go_enter Tryz.func26, Tryz.ntmps26
  go_wp2_with (first | go_big_skip | go_big_guard | (refine wl_boxA hst0 rfl rfl rfl ?_; intro g4 w1 hA0; clear hst0) | (refine wl_box hA0 rfl rfl rfl ?_; intro g5 _ hA1; clear hA0) | (refine wl_box hA1 rfl rfl rfl ?_; intro g6 _ hA2; clear hA1) | (refine wl_alloc hA2 rfl rfl ?_; intro gz _ hst; clear hA2) | (refine wl_loadE rfl rfl rfl ?_; refine ⟨_, Loads.atA (tabC t (.slice ar nr cr) (.slice al nl cl)) [_, _, _] hst rfl rfl, ?_⟩) | (go_at_call 54; refine (owned_any 67 #[.pointer (some ⟨g5, 0, none⟩), .pointer (some ⟨g6, 0, none⟩)] (fun _ _ => rfl) t ar al nr cr nl cl xs _ (HT.out.old hst.nil) (snapT t nm txg) (fun hk => snap_does nm txg (hst.cell (g := g5) (off := 0) (.tail _ (.tail _ (.head _))) rfl) (hst.cell (g := g6) (off := 0) (.tail _ (.head _)) rfl) hnm t hk)).mono ?_; rw [← HR.out]; rintro _ w9 ⟨rv9, lv9, xs9, rfl, hok9, h4⟩; have hst2 := St.call hst h4; clear h4 hst; obtain ⟨a9, c9, rfl, _, _⟩ := rowS [] hst2; obtain ⟨a8, c8, rfl, _, _⟩ := rowS [_] hst2; have HOK := hid hok9; clear hok9) | (refine wl_storeA (_ :: _ :: List.map rootH xs9) hst2 rfl rfl rfl rfl (vs := tabC r.2 (.slice a9 xs9.length c9) (.slice a8 r.2.lives.length c8)) rfl rfl rfl ?_; intro w7 hst3; clear hst2))
  have hl := Loads.atA (P := Tryz.prog) (off := 0) (T := 27) (tabC r.2 (.slice a9 xs9.length c9) (.slice a8 r.2.lives.length c8)) (_ :: _ :: List.map rootH xs9) hst3 rfl rfl
  refine bodyPost_ret (results_cellR rfl rfl rfl hl) rfl ?_
  exact ⟨_, _, xs9, rfl, HOK.out, St.sub hst3 (.cons_cons _ (.cons_cons _ (List.sublist_append_left _ _)))⟩
theorem clone13_any (t : TC) (ar al : Option Addr) (nr cr nl cl : Nat) (xs : List (Value × RC)) (w : World) (ht : TabIn w t ar nr cr al nl cl xs) (sp : List UInt8) (nm : List UInt8) (txg : Int) (hsp : sp.length ≤ 1000000) (hnm : nm.length ≤ 1000000) :
    Calls Tryz.prog 27 #[.agg (tabC t (.slice ar nr cr) (.slice al nl cl)).toArray, .string ⟨sp.toArray⟩, .string ⟨nm.toArray⟩, .int .i64 txg] w (TabRet (opR t (cloneT t sp nm txg)) w) := by
  have hst0 := St.refl w
  have HT := hid ht
  clear ht
  obtain ⟨r, hr⟩ : ∃ r, r = opR t (cloneT t sp nm txg) := ⟨_, rfl⟩
  rw [← hr]
  have HR := hid hr
  clear hr
  go_enter Tryz.func27, Tryz.ntmps27
  go_wp2_with (first | go_big_skip | go_big_guard | (refine wl_boxA hst0 rfl rfl rfl ?_; intro g4 w1 hA0; clear hst0) | (refine wl_box hA0 rfl rfl rfl ?_; intro g5 _ hA1; clear hA0) | (refine wl_box hA1 rfl rfl rfl ?_; intro g6 _ hA2; clear hA1) | (refine wl_box hA2 rfl rfl rfl ?_; intro g7 _ hA3; clear hA2) | (refine wl_alloc hA3 rfl rfl ?_; intro gz _ hst; clear hA3) | (refine wl_loadE rfl rfl rfl ?_; refine ⟨_, Loads.atA (tabC t (.slice ar nr cr) (.slice al nl cl)) [_, _, _, _] hst rfl rfl, ?_⟩) | (go_at_call 54; refine (owned_any 70 #[.pointer (some ⟨g5, 0, none⟩), .pointer (some ⟨g6, 0, none⟩), .pointer (some ⟨g7, 0, none⟩)] (fun _ _ => rfl) t ar al nr cr nl cl xs _ (HT.out.old hst.nil) (cloneT t sp nm txg) (fun hk => clone_does sp nm txg (hst.cell (g := g5) (off := 0) (.tail _ (.tail _ (.tail _ (.head _)))) rfl) (hst.cell (g := g6) (off := 0) (.tail _ (.tail _ (.head _))) rfl) (hst.cell (g := g7) (off := 0) (.tail _ (.head _)) rfl) hsp hnm t hk)).mono ?_; rw [← HR.out]; rintro _ w9 ⟨rv9, lv9, xs9, rfl, hok9, h4⟩; have hst2 := St.call hst h4; clear h4 hst; obtain ⟨a9, c9, rfl, _, _⟩ := rowS [] hst2; obtain ⟨a8, c8, rfl, _, _⟩ := rowS [_] hst2; have HOK := hid hok9; clear hok9) | (refine wl_storeA (_ :: _ :: List.map rootH xs9) hst2 rfl rfl rfl rfl (vs := tabC r.2 (.slice a9 xs9.length c9) (.slice a8 r.2.lives.length c8)) rfl rfl rfl ?_; intro w7 hst3; clear hst2))
  have hl := Loads.atA (P := Tryz.prog) (off := 0) (T := 27) (tabC r.2 (.slice a9 xs9.length c9) (.slice a8 r.2.lives.length c8)) (_ :: _ :: List.map rootH xs9) hst3 rfl rfl
  refine bodyPost_ret (results_cellR rfl rfl rfl hl) rfl ?_
  exact ⟨_, _, xs9, rfl, HOK.out, St.sub hst3 (.cons_cons _ (.cons_cons _ (List.sublist_append_left _ _)))⟩
theorem roll13_any (t : TC) (ar al : Option Addr) (nr cr nl cl : Nat) (xs : List (Value × RC)) (w : World) (ht : TabIn w t ar nr cr al nl cl xs) (sp : List UInt8) (hsp : sp.length ≤ 1000000) :
    Calls Tryz.prog 28 #[.agg (tabC t (.slice ar nr cr) (.slice al nl cl)).toArray, .string ⟨sp.toArray⟩] w (TabRet (opR t (rollT t sp)) w) := by
  have hst0 := St.refl w
  have HT := hid ht
  clear ht
  obtain ⟨r, hr⟩ : ∃ r, r = opR t (rollT t sp) := ⟨_, rfl⟩
  rw [← hr]
  have HR := hid hr
  clear hr
  go_enter Tryz.func28, Tryz.ntmps28
  go_wp2_with (first | go_big_skip | go_big_guard | (refine wl_boxA hst0 rfl rfl rfl ?_; intro g4 w1 hA0; clear hst0) | (refine wl_box hA0 rfl rfl rfl ?_; intro g5 _ hA1; clear hA0) | (refine wl_alloc hA1 rfl rfl ?_; intro gz _ hst; clear hA1) | (refine wl_loadE rfl rfl rfl ?_; refine ⟨_, Loads.atA (tabC t (.slice ar nr cr) (.slice al nl cl)) [_, _] hst rfl rfl, ?_⟩) | (go_at_call 54; refine (owned_any 72 #[.pointer (some ⟨g5, 0, none⟩)] (fun _ _ => rfl) t ar al nr cr nl cl xs _ (HT.out.old hst.nil) (rollT t sp) (fun hk => roll_does sp (hst.cell (g := g5) (off := 0) (.tail _ (.head _)) rfl) hsp t hk)).mono ?_; rw [← HR.out]; rintro _ w9 ⟨rv9, lv9, xs9, rfl, hok9, h4⟩; have hst2 := St.call hst h4; clear h4 hst; obtain ⟨a9, c9, rfl, _, _⟩ := rowS [] hst2; obtain ⟨a8, c8, rfl, _, _⟩ := rowS [_] hst2; have HOK := hid hok9; clear hok9) | (refine wl_storeA (_ :: _ :: List.map rootH xs9) hst2 rfl rfl rfl rfl (vs := tabC r.2 (.slice a9 xs9.length c9) (.slice a8 r.2.lives.length c8)) rfl rfl rfl ?_; intro w7 hst3; clear hst2))
  have hl := Loads.atA (P := Tryz.prog) (off := 0) (T := 27) (tabC r.2 (.slice a9 xs9.length c9) (.slice a8 r.2.lives.length c8)) (_ :: _ :: List.map rootH xs9) hst3 rfl rfl
  refine bodyPost_ret (results_cellR rfl rfl rfl hl) rfl ?_
  exact ⟨_, _, xs9, rfl, HOK.out, St.sub hst3 (.cons_cons _ (.cons_cons _ (List.sublist_append_left _ _)))⟩
theorem drop13_any (t : TC) (ar al : Option Addr) (nr cr nl cl : Nat) (xs : List (Value × RC)) (w : World) (ht : TabIn w t ar nr cr al nl cl xs) (nm : List UInt8) (hnm : nm.length ≤ 1000000) :
    Calls Tryz.prog 23 #[.agg (tabC t (.slice ar nr cr) (.slice al nl cl)).toArray, .string ⟨nm.toArray⟩] w (TabRet (opR t (dropT t nm)) w) := by
  have hst0 := St.refl w
  have HT := hid ht
  clear ht
  obtain ⟨r, hr⟩ : ∃ r, r = opR t (dropT t nm) := ⟨_, rfl⟩
  rw [← hr]
  have HR := hid hr
  clear hr
  go_enter Tryz.func23, Tryz.ntmps23
  go_wp2_with (first | go_big_skip | go_big_guard | (refine wl_boxA hst0 rfl rfl rfl ?_; intro g4 w1 hA0; clear hst0) | (refine wl_box hA0 rfl rfl rfl ?_; intro g5 _ hA1; clear hA0) | (refine wl_alloc hA1 rfl rfl ?_; intro gz _ hst; clear hA1) | (refine wl_loadE rfl rfl rfl ?_; refine ⟨_, Loads.atA (tabC t (.slice ar nr cr) (.slice al nl cl)) [_, _] hst rfl rfl, ?_⟩) | (go_at_call 54; refine (owned_any 55 #[.pointer (some ⟨g5, 0, none⟩)] (fun _ _ => rfl) t ar al nr cr nl cl xs _ (HT.out.old hst.nil) (dropT t nm) (fun hk => drop_does nm (hst.cell (g := g5) (off := 0) (.tail _ (.head _)) rfl) hnm t hk)).mono ?_; rw [← HR.out]; rintro _ w9 ⟨rv9, lv9, xs9, rfl, hok9, h4⟩; have hst2 := St.call hst h4; clear h4 hst; obtain ⟨a9, c9, rfl, _, _⟩ := rowS [] hst2; obtain ⟨a8, c8, rfl, _, _⟩ := rowS [_] hst2; have HOK := hid hok9; clear hok9) | (refine wl_storeA (_ :: _ :: List.map rootH xs9) hst2 rfl rfl rfl rfl (vs := tabC r.2 (.slice a9 xs9.length c9) (.slice a8 r.2.lives.length c8)) rfl rfl rfl ?_; intro w7 hst3; clear hst2))
  have hl := Loads.atA (P := Tryz.prog) (off := 0) (T := 27) (tabC r.2 (.slice a9 xs9.length c9) (.slice a8 r.2.lives.length c8)) (_ :: _ :: List.map rootH xs9) hst3 rfl rfl
  refine bodyPost_ret (results_cellR rfl rfl rfl hl) rfl ?_
  exact ⟨_, _, xs9, rfl, HOK.out, St.sub hst3 (.cons_cons _ (.cons_cons _ (List.sublist_append_left _ _)))⟩
theorem DoesV.old {w w1 : World} {L : List HA} {F : FuncId} {caps : Array Value} {f : RC → RC} (hst : St w [] w1 L) (h : ∀ (w2 : World), St w [] w2 [] → DoesV F caps w2 f) : DoesV F caps w1 f := h w1 hst.nil
theorem change13_any (t : TC) (ar al : Option Addr) (nr cr nl cl : Nat) (xs : List (Value × RC)) (w : World) (ht : TabIn w t ar nr cr al nl cl xs) (nm : List UInt8) (fine : Bool) (F : FuncId) (caps : Array Value) (f : RC → RC) (hF : ∀ (a : Array Value) (w : World), (callFunc F a).run Tryz.prog w = .ok (.enter F a) w) (hdv : ∀ (w2 : World), St w [] w2 [] → DoesV F caps w2 f) (hnm : nm.length ≤ 1000000) :
    Calls Tryz.prog 79 #[.agg (tabC t (.slice ar nr cr) (.slice al nl cl)).toArray, .string ⟨nm.toArray⟩, .bool fine, .func (.func F) #[] caps] w (TabRet (opR t (changeT t nm fine f)) w) := by
  have hst0 := St.refl w
  have HT := hid ht
  have HDV := hid hdv
  clear ht hdv
  obtain ⟨r, hr⟩ : ∃ r, r = opR t (changeT t nm fine f) := ⟨_, rfl⟩
  rw [← hr]
  have HR := hid hr
  clear hr
  go_enter Tryz.func79, Tryz.ntmps79
  go_wp2_with (first | go_big_skip | go_big_guard | (refine wl_boxA hst0 rfl rfl rfl ?_; intro g4 w1 hA0; clear hst0) | (refine wl_box hA0 rfl rfl rfl ?_; intro g5 _ hA1; clear hA0) | (refine wl_box hA1 rfl rfl rfl ?_; intro g6 _ hA2; clear hA1) | (refine wl_box hA2 rfl rfl rfl ?_; intro g7 _ hA3; clear hA2) | (refine wl_alloc hA3 rfl rfl ?_; intro gz _ hst; clear hA3) | (refine wl_loadE rfl rfl rfl ?_; refine ⟨_, Loads.atA (tabC t (.slice ar nr cr) (.slice al nl cl)) [_, _, _, _] hst rfl rfl, ?_⟩) | (go_at_call 54; refine (owned_any 119 #[.pointer (some ⟨g6, 0, none⟩), .pointer (some ⟨g5, 0, none⟩), .pointer (some ⟨g7, 0, none⟩)] (fun _ _ => rfl) t ar al nr cr nl cl xs _ (HT.out.old hst.nil) (changeT t nm fine f) (fun hk => change_does nm fine F caps f hF (DoesV.old hst.nil HDV.out) (hst.cell (g := g6) (off := 0) (.tail _ (.tail _ (.head _))) rfl) (hst.cell (g := g5) (off := 0) (.tail _ (.tail _ (.tail _ (.head _)))) rfl) (hst.cell (g := g7) (off := 0) (.tail _ (.head _)) rfl) hnm t hk)).mono ?_; rw [← HR.out]; rintro _ w9 ⟨rv9, lv9, xs9, rfl, hok9, h4⟩; have hst2 := St.call hst h4; clear h4 hst; obtain ⟨a9, c9, rfl, _, _⟩ := rowS [] hst2; obtain ⟨a8, c8, rfl, _, _⟩ := rowS [_] hst2; have HOK := hid hok9; clear hok9) | (refine wl_storeA (_ :: _ :: List.map rootH xs9) hst2 rfl rfl rfl rfl (vs := tabC r.2 (.slice a9 xs9.length c9) (.slice a8 r.2.lives.length c8)) rfl rfl rfl ?_; intro w7 hst3; clear hst2))
  have hl := Loads.atA (P := Tryz.prog) (off := 0) (T := 27) (tabC r.2 (.slice a9 xs9.length c9) (.slice a8 r.2.lives.length c8)) (_ :: _ :: List.map rootH xs9) hst3 rfl rfl
  refine bodyPost_ret (results_cellR rfl rfl rfl hl) rfl ?_
  exact ⟨_, _, xs9, rfl, HOK.out, St.sub hst3 (.cons_cons _ (.cons_cons _ (List.sublist_append_left _ _)))⟩
end Go.Proofs.YtifajcblbedcoaaGreat
namespace Go.Proofs.YtifajcblbedcoaaGreat
set_option linter.unusedVariables false
set_option linter.unusedSimpArgs false
open Go.RowKit Hp
attribute [local irreducible] Go.Calls Go.wpList
set_option maxRecDepth 100000
set_option maxHeartbeats 8000000
attribute [local go_sem ↓] heldInt heldInts heldRecs heldRec heldStr heldTab heldPtr heldFn
theorem bldNew (ao : Option Addr) (n c : Nat) : Tryz.prog.built 27 [(0, .int .i64 1), (3, .slice ao n c)] = some #[.int .i64 1, .slice none 0 0, .int .i64 0, .int .i64 0, .int .i64 0, .int .i64 0, .slice ao n c] := by kernel_rfl
theorem resize13_any (t : TC) (ar al : Option Addr) (nr cr nl cl : Nat) (xs : List (Value × RC)) (w : World) (ht : TabIn w t ar nr cr al nl cl xs) (nm : List UInt8) (size : Int) (hnm : nm.length ≤ 1000000) : Calls Tryz.prog 30 #[.agg (tabC t (.slice ar nr cr) (.slice al nl cl)).toArray, .string ⟨nm.toArray⟩, .int .i64 size] w (TabRet (opR t (resizeT t nm size)) w) := by
  have hst0 := St.refl w
  have HT := hid ht
  clear ht
  obtain ⟨r, hr⟩ : ∃ r, r = opR t (resizeT t nm size) := ⟨_, rfl⟩
  rw [← hr]
  have HR := hid (show r = opR t (changeT t nm (inB size 1 64) fun v => { v with size := size }) from hr)
  clear hr
  go_enter Tryz.func30, Tryz.ntmps30
  go_wp2_with (first | go_big_skip | go_big_guard | (refine wl_boxA hst0 rfl rfl rfl ?_; intro g3 w1 hA0; clear hst0) | (refine wl_box hA0 rfl rfl rfl ?_; intro g5 _ hA1; clear hA0) | (refine wl_alloc hA1 rfl rfl ?_; intro g6 _ hst; clear hA1))
  have hX := hst.drew
  clear hst
  refine wp_region_held_drew (S := (fun w' => (loadVarH 27 ⟨g3, 0, none⟩).run Tryz.prog w' = .ok (.agg (List.toArray ((tabC t (.slice ar nr cr) (.slice al nl cl))))) w' ∧ (loadVarH 3 ⟨g5, 0, none⟩).run Tryz.prog w' = .ok (.int .i64 size) w')) (by kernel_rfl) (by exact ⟨ldA ((tabC t (.slice ar nr cr) (.slice al nl cl))) [_, _] hX (rfl) (rfl), ldS [_] hX rfl⟩) (fun hHeld => ?_)
  refine tq 0 8 ?_
  refine tq 1 9 ?_
  refine tq 2 10 ?_
  refine wpAnyH_ready (rs := [3, 4]) (by kernel_rfl) (by simp) ?_
  refine (AllReadyH.cons (o := ⟨some 11, _, _, _, _, _⟩) rfl (fun K hK => ?_) (AllReadyH.cons (o := ⟨some 12, _, _, _, _, _⟩) rfl (fun K hK => ?_) AllReadyH.nil))
  · rw [if_pos (by rfl)]
    go_simp
    go_at_call 63
    refine (sized_any size _).mono ?_
    rintro _ w5 ⟨rfl, h4⟩
    have hC1 := St.call0 hX h4
    clear h4
    refine hK.out _ _ ?_ (fun hHeld => ?_)
    · exact ⟨ldA ((tabC t (.slice ar nr cr) (.slice al nl cl))) [_, _] hC1 (rfl) (rfl), ldS [_] hC1 rfl⟩
    clear hK K
    (try simp only [Act.put, List.setIfInBounds_toArray, List.set_cons_zero, List.set_cons_succ])
    refine wpAnyH_ready (rs := [4]) (by kernel_rfl) (by simp) ?_
    refine (AllReadyH.cons (o := ⟨some 12, _, _, _, _, _⟩) rfl (fun K hK => ?_) AllReadyH.nil)
    rw [if_pos (by rfl)]
    refine ow_of_wl (ops := #[]) (by rfl) ?_
    refine wl_mkFunc rfl rfl ?_
    refine q0_nil ?_
    refine hK.out _ _ ?_ (fun hHeld => ?_)
    · exact ⟨ldA ((tabC t (.slice ar nr cr) (.slice al nl cl))) [_, _] hC1 (rfl) (rfl), ldS [_] hC1 rfl⟩
    clear hK K
    (try simp only [Act.put, List.setIfInBounds_toArray, List.set_cons_zero, List.set_cons_succ])
    refine wpAnyH_ready (rs := [5]) (by kernel_rfl) (by simp) ?_
    refine (AllReadyH.cons (o := ⟨some 13, _, _, _, _, _⟩) rfl (fun K hK => ?_) AllReadyH.nil)
    rw [if_pos (by rfl)]
    go_simp
    go_at_call 79
    refine (change13_any t ar al nr cr nl cl xs _ (HT.out.old hC1.nil) nm (inB size 1 64) 80 #[.pointer (some ⟨g5, 0, none⟩)] (fun v => { v with size := size }) (fun _ _ => rfl) (fun w2 h => resizeV size (St.old_cell h (hC1.cell (g := g5) (off := 0) (.tail _ (.head _)) rfl) (by simp))) hnm).mono ?_
    rw [← HR.out]
    rintro _ w9 ⟨rv9, lv9, xs9, rfl, hok9, h4⟩
    have h5 := St.call hC1 h4
    obtain ⟨a9, c9, rfl, _, _⟩ := rowS [] h5
    obtain ⟨a8, c8, rfl, _, _⟩ := rowS [_] h5
    have hD2 := St.perm h5 List.perm_append_comm
    have HOK := hid hok9
    clear hok9 h4 h5
    refine hK.out _ _ ?_ (fun hHeld => ?_)
    · exact ⟨ldA ((tabC t (.slice ar nr cr) (.slice al nl cl))) [_, _] hD2 (rfl) (rfl), ldS [_] hD2 rfl⟩
    clear hK K
    (try simp only [Act.put, List.setIfInBounds_toArray, List.set_cons_zero, List.set_cons_succ])
    refine tq 6 14 ?_
    refine tq 7 15 ?_
    refine wpAnyH_ready (rs := [8]) (by kernel_rfl) (by simp) ?_
    refine (AllReadyH.cons (o := ⟨none, _, _, _, _, _⟩) rfl (fun K hK => ?_) AllReadyH.nil)
    rw [if_pos (by rfl)]
    refine ow_of_wl (ops := #[]) (by rfl) ?_
    refine wl_storeA [] hD2 rfl rfl rfl rfl (vs := tabC r.2 (.slice a9 xs9.length c9) (.slice a8 r.2.lives.length c8)) rfl rfl rfl ?_
    intro w7 hst3
    refine q0_nil ?_
    refine hK.out _ _ ?_ (fun hHeld => ?_)
    · exact ⟨ldA ((tabC t (.slice ar nr cr) (.slice al nl cl))) [_, _] hst3 (rfl) (rfl), ldS [_] hst3 rfl⟩
    clear hK K
    (try simp only [Act.put, List.setIfInBounds_toArray, List.set_cons_zero, List.set_cons_succ])
    refine tq 9 7 ?_
    refine wpAnyH_done (by kernel_rfl) ?_ _
    clear hHeld
    go_wp2_with (first | go_big_skip | go_big_guard | fail)
    have hl := Loads.atA (P := Tryz.prog) (off := 0) (T := 27) (tabC r.2 (.slice a9 xs9.length c9) (.slice a8 r.2.lives.length c8)) [] hst3 rfl rfl
    refine bodyPost_ret (results_cellR rfl rfl rfl hl) rfl ?_
    exact ⟨_, _, xs9, rfl, HOK.out, St.sub hst3 (List.sublist_append_right [_, _, _] _)⟩
  · rw [if_pos (by rfl)]
    refine ow_of_wl (ops := #[]) (by rfl) ?_
    refine wl_mkFunc rfl rfl ?_
    refine q0_nil ?_
    refine hK.out _ _ ?_ (fun hHeld => ?_)
    · exact ⟨ldA ((tabC t (.slice ar nr cr) (.slice al nl cl))) [_, _] hX (rfl) (rfl), ldS [_] hX rfl⟩
    clear hK K
    (try simp only [Act.put, List.setIfInBounds_toArray, List.set_cons_zero, List.set_cons_succ])
    refine wpAnyH_ready (rs := [3]) (by kernel_rfl) (by simp) ?_
    refine (AllReadyH.cons (o := ⟨some 11, _, _, _, _, _⟩) rfl (fun K hK => ?_) AllReadyH.nil)
    rw [if_pos (by rfl)]
    go_simp
    go_at_call 63
    refine (sized_any size _).mono ?_
    rintro _ w5 ⟨rfl, h4⟩
    have hC3 := St.call0 hX h4
    clear h4
    refine hK.out _ _ ?_ (fun hHeld => ?_)
    · exact ⟨ldA ((tabC t (.slice ar nr cr) (.slice al nl cl))) [_, _] hC3 (rfl) (rfl), ldS [_] hC3 rfl⟩
    clear hK K
    (try simp only [Act.put, List.setIfInBounds_toArray, List.set_cons_zero, List.set_cons_succ])
    refine wpAnyH_ready (rs := [5]) (by kernel_rfl) (by simp) ?_
    refine (AllReadyH.cons (o := ⟨some 13, _, _, _, _, _⟩) rfl (fun K hK => ?_) AllReadyH.nil)
    rw [if_pos (by rfl)]
    go_simp
    go_at_call 79
    refine (change13_any t ar al nr cr nl cl xs _ (HT.out.old hC3.nil) nm (inB size 1 64) 80 #[.pointer (some ⟨g5, 0, none⟩)] (fun v => { v with size := size }) (fun _ _ => rfl) (fun w2 h => resizeV size (St.old_cell h (hC3.cell (g := g5) (off := 0) (.tail _ (.head _)) rfl) (by simp))) hnm).mono ?_
    rw [← HR.out]
    rintro _ w9 ⟨rv9, lv9, xs9, rfl, hok9, h4⟩
    have h5 := St.call hC3 h4
    obtain ⟨a9, c9, rfl, _, _⟩ := rowS [] h5
    obtain ⟨a8, c8, rfl, _, _⟩ := rowS [_] h5
    have hD4 := St.perm h5 List.perm_append_comm
    have HOK := hid hok9
    clear hok9 h4 h5
    refine hK.out _ _ ?_ (fun hHeld => ?_)
    · exact ⟨ldA ((tabC t (.slice ar nr cr) (.slice al nl cl))) [_, _] hD4 (rfl) (rfl), ldS [_] hD4 rfl⟩
    clear hK K
    (try simp only [Act.put, List.setIfInBounds_toArray, List.set_cons_zero, List.set_cons_succ])
    refine tq 6 14 ?_
    refine tq 7 15 ?_
    refine wpAnyH_ready (rs := [8]) (by kernel_rfl) (by simp) ?_
    refine (AllReadyH.cons (o := ⟨none, _, _, _, _, _⟩) rfl (fun K hK => ?_) AllReadyH.nil)
    rw [if_pos (by rfl)]
    refine ow_of_wl (ops := #[]) (by rfl) ?_
    refine wl_storeA [] hD4 rfl rfl rfl rfl (vs := tabC r.2 (.slice a9 xs9.length c9) (.slice a8 r.2.lives.length c8)) rfl rfl rfl ?_
    intro w7 hst3
    refine q0_nil ?_
    refine hK.out _ _ ?_ (fun hHeld => ?_)
    · exact ⟨ldA ((tabC t (.slice ar nr cr) (.slice al nl cl))) [_, _] hst3 (rfl) (rfl), ldS [_] hst3 rfl⟩
    clear hK K
    (try simp only [Act.put, List.setIfInBounds_toArray, List.set_cons_zero, List.set_cons_succ])
    refine tq 9 7 ?_
    refine wpAnyH_done (by kernel_rfl) ?_ _
    clear hHeld
    go_wp2_with (first | go_big_skip | go_big_guard | fail)
    have hl := Loads.atA (P := Tryz.prog) (off := 0) (T := 27) (tabC r.2 (.slice a9 xs9.length c9) (.slice a8 r.2.lives.length c8)) [] hst3 rfl rfl
    refine bodyPost_ret (results_cellR rfl rfl rfl hl) rfl ?_
    exact ⟨_, _, xs9, rfl, HOK.out, St.sub hst3 (List.sublist_append_right [_, _, _] _)⟩
theorem limits13_any (t : TC) (ar al : Option Addr) (nr cr nl cl : Nat) (xs : List (Value × RC)) (w : World) (ht : TabIn w t ar nr cr al nl cl xs) (nm : List UInt8) (q z : Int) (hnm : nm.length ≤ 1000000) : Calls Tryz.prog 31 #[.agg (tabC t (.slice ar nr cr) (.slice al nl cl)).toArray, .string ⟨nm.toArray⟩, .int .i64 q, .int .i64 z] w (TabRet (opR t (limitT t nm q z)) w) := by
  have hst0 := St.refl w
  have HT := hid ht
  clear ht
  obtain ⟨r, hr⟩ : ∃ r, r = opR t (limitT t nm q z) := ⟨_, rfl⟩
  rw [← hr]
  cases hq : limB q
  · have HL := hid hq
    have HR := hid (show r = opR t (changeT t nm false fun v => { v with quota := q, reserve := z }) by rw [hr]; unfold limitT; rw [hq]; rfl)
    clear hr hq
    go_enter Tryz.func31, Tryz.ntmps31
    go_wp2_with (first | go_big_skip | go_big_guard | (refine wl_boxA hst0 rfl rfl rfl ?_; intro g4 w1 hA0; clear hst0) | (refine wl_box hA0 rfl rfl rfl ?_; intro g6 _ hA1; clear hA0) | (refine wl_box hA1 rfl rfl rfl ?_; intro g7 _ hA2; clear hA1) | (refine wl_alloc hA2 rfl rfl ?_; intro g8 _ hst; clear hA2))
    have hX := hst.drew
    clear hst
    refine wp_region_held_drew (S := (fun w' => (loadVarH 27 ⟨g4, 0, none⟩).run Tryz.prog w' = .ok (.agg (List.toArray ((tabC t (.slice ar nr cr) (.slice al nl cl))))) w' ∧ (loadVarH 3 ⟨g6, 0, none⟩).run Tryz.prog w' = .ok (.int .i64 q) w' ∧ (loadVarH 3 ⟨g7, 0, none⟩).run Tryz.prog w' = .ok (.int .i64 z) w')) (by kernel_rfl) (by exact ⟨ldA ((tabC t (.slice ar nr cr) (.slice al nl cl))) [_, _, _] hX (rfl) (rfl), ldS [_, _] hX rfl, ldS [_] hX rfl⟩) (fun hHeld => ?_)
    refine tq 0 10 ?_
    refine tq 1 11 ?_
    refine tq 2 12 ?_
    refine wpAnyH_ready (rs := [3, 8]) (by kernel_rfl) (by simp) ?_
    refine (AllReadyH.cons (o := ⟨some 13, _, _, _, _, _⟩) rfl (fun K hK => ?_) (AllReadyH.cons (o := ⟨some 18, _, _, _, _, _⟩) rfl (fun K hK => ?_) AllReadyH.nil))
    · rw [if_pos (by rfl)]
      go_simp
      go_at_call 81
      refine (limit13_any q _).mono ?_
      rw [HL.out]
      rintro _ w5 ⟨rfl, h4⟩
      have hC5 := St.call0 hX h4
      clear h4
      refine hK.out _ _ ?_ (fun hHeld => ?_)
      · exact ⟨ldA ((tabC t (.slice ar nr cr) (.slice al nl cl))) [_, _, _] hC5 (rfl) (rfl), ldS [_, _] hC5 rfl, ldS [_] hC5 rfl⟩
      clear hK K
      (try simp only [Act.put, List.setIfInBounds_toArray, List.set_cons_zero, List.set_cons_succ])
      refine tq 4 14 ?_
      refine tu 5 15 ?_
      refine wpAnyH_ready (rs := [6, 8]) (by kernel_rfl) (by simp) ?_
      refine (AllReadyH.cons (o := ⟨some 16, _, _, _, _, _⟩) rfl (fun K hK => ?_) (AllReadyH.cons (o := ⟨some 18, _, _, _, _, _⟩) rfl (fun K hK => ?_) AllReadyH.nil))
      · rw [if_neg (by rw [show Region.wanted _ _ = false from rfl]; exact Bool.false_ne_true)]
        refine hK.out _ _ ?_ (fun hHeld => ?_)
        · exact ⟨ldA ((tabC t (.slice ar nr cr) (.slice al nl cl))) [_, _, _] hC5 (rfl) (rfl), ldS [_, _] hC5 rfl, ldS [_] hC5 rfl⟩
        clear hK K
        (try simp only [Act.put, List.setIfInBounds_toArray, List.set_cons_zero, List.set_cons_succ])
        refine tq 7 17 ?_
        refine wpAnyH_ready (rs := [8]) (by kernel_rfl) (by simp) ?_
        refine (AllReadyH.cons (o := ⟨some 18, _, _, _, _, _⟩) rfl (fun K hK => ?_) AllReadyH.nil)
        rw [if_pos (by rfl)]
        refine ow_of_wl (ops := #[]) (by rfl) ?_
        refine wl_mkFunc rfl rfl ?_
        refine q0_nil ?_
        refine hK.out _ _ ?_ (fun hHeld => ?_)
        · exact ⟨ldA ((tabC t (.slice ar nr cr) (.slice al nl cl))) [_, _, _] hC5 (rfl) (rfl), ldS [_, _] hC5 rfl, ldS [_] hC5 rfl⟩
        clear hK K
        (try simp only [Act.put, List.setIfInBounds_toArray, List.set_cons_zero, List.set_cons_succ])
        refine wpAnyH_ready (rs := [9]) (by kernel_rfl) (by simp) ?_
        refine (AllReadyH.cons (o := ⟨some 19, _, _, _, _, _⟩) rfl (fun K hK => ?_) AllReadyH.nil)
        rw [if_pos (by rfl)]
        go_simp
        go_at_call 79
        refine (change13_any t ar al nr cr nl cl xs _ (HT.out.old hC5.nil) nm (false) 82 #[.pointer (some ⟨g6, 0, none⟩), .pointer (some ⟨g7, 0, none⟩)] (fun v => { v with quota := q, reserve := z }) (fun _ _ => rfl) (fun w2 h => limitV q z (St.old_cell h (hC5.cell (g := g6) (off := 0) (.tail _ (.tail _ (.head _))) rfl) (by simp)) (St.old_cell h (hC5.cell (g := g7) (off := 0) (.tail _ (.head _)) rfl) (by simp))) hnm).mono ?_
        rw [← HR.out]
        rintro _ w9 ⟨rv9, lv9, xs9, rfl, hok9, h4⟩
        have h5 := St.call hC5 h4
        obtain ⟨a9, c9, rfl, _, _⟩ := rowS [] h5
        obtain ⟨a8, c8, rfl, _, _⟩ := rowS [_] h5
        have hD6 := St.perm h5 List.perm_append_comm
        have HOK := hid hok9
        clear hok9 h4 h5
        refine hK.out _ _ ?_ (fun hHeld => ?_)
        · exact ⟨ldA ((tabC t (.slice ar nr cr) (.slice al nl cl))) [_, _, _] hD6 (rfl) (rfl), ldS [_, _] hD6 rfl, ldS [_] hD6 rfl⟩
        clear hK K
        (try simp only [Act.put, List.setIfInBounds_toArray, List.set_cons_zero, List.set_cons_succ])
        refine tq 10 20 ?_
        refine tq 11 21 ?_
        refine wpAnyH_ready (rs := [12]) (by kernel_rfl) (by simp) ?_
        refine (AllReadyH.cons (o := ⟨none, _, _, _, _, _⟩) rfl (fun K hK => ?_) AllReadyH.nil)
        rw [if_pos (by rfl)]
        refine ow_of_wl (ops := #[]) (by rfl) ?_
        refine wl_storeA [] hD6 rfl rfl rfl rfl (vs := tabC r.2 (.slice a9 xs9.length c9) (.slice a8 r.2.lives.length c8)) rfl rfl rfl ?_
        intro w7 hst3
        refine q0_nil ?_
        refine hK.out _ _ ?_ (fun hHeld => ?_)
        · exact ⟨ldA ((tabC t (.slice ar nr cr) (.slice al nl cl))) [_, _, _] hst3 (rfl) (rfl), ldS [_, _] hst3 rfl, ldS [_] hst3 rfl⟩
        clear hK K
        (try simp only [Act.put, List.setIfInBounds_toArray, List.set_cons_zero, List.set_cons_succ])
        refine tq 13 9 ?_
        refine wpAnyH_done (by kernel_rfl) ?_ _
        clear hHeld
        go_wp2_with (first | go_big_skip | go_big_guard | fail)
        have hl := Loads.atA (P := Tryz.prog) (off := 0) (T := 27) (tabC r.2 (.slice a9 xs9.length c9) (.slice a8 r.2.lives.length c8)) [] hst3 rfl rfl
        refine bodyPost_ret (results_cellR rfl rfl rfl hl) rfl ?_
        exact ⟨_, _, xs9, rfl, HOK.out, St.sub hst3 (List.sublist_append_right [_, _, _, _] _)⟩
      · rw [if_pos (by rfl)]
        refine ow_of_wl (ops := #[]) (by rfl) ?_
        refine wl_mkFunc rfl rfl ?_
        refine q0_nil ?_
        refine hK.out _ _ ?_ (fun hHeld => ?_)
        · exact ⟨ldA ((tabC t (.slice ar nr cr) (.slice al nl cl))) [_, _, _] hC5 (rfl) (rfl), ldS [_, _] hC5 rfl, ldS [_] hC5 rfl⟩
        clear hK K
        (try simp only [Act.put, List.setIfInBounds_toArray, List.set_cons_zero, List.set_cons_succ])
        refine wpAnyH_ready (rs := [6]) (by kernel_rfl) (by simp) ?_
        refine (AllReadyH.cons (o := ⟨some 16, _, _, _, _, _⟩) rfl (fun K hK => ?_) AllReadyH.nil)
        rw [if_neg (by rw [show Region.wanted _ _ = false from rfl]; exact Bool.false_ne_true)]
        refine hK.out _ _ ?_ (fun hHeld => ?_)
        · exact ⟨ldA ((tabC t (.slice ar nr cr) (.slice al nl cl))) [_, _, _] hC5 (rfl) (rfl), ldS [_, _] hC5 rfl, ldS [_] hC5 rfl⟩
        clear hK K
        (try simp only [Act.put, List.setIfInBounds_toArray, List.set_cons_zero, List.set_cons_succ])
        refine tq 7 17 ?_
        refine wpAnyH_ready (rs := [9]) (by kernel_rfl) (by simp) ?_
        refine (AllReadyH.cons (o := ⟨some 19, _, _, _, _, _⟩) rfl (fun K hK => ?_) AllReadyH.nil)
        rw [if_pos (by rfl)]
        go_simp
        go_at_call 79
        refine (change13_any t ar al nr cr nl cl xs _ (HT.out.old hC5.nil) nm (false) 82 #[.pointer (some ⟨g6, 0, none⟩), .pointer (some ⟨g7, 0, none⟩)] (fun v => { v with quota := q, reserve := z }) (fun _ _ => rfl) (fun w2 h => limitV q z (St.old_cell h (hC5.cell (g := g6) (off := 0) (.tail _ (.tail _ (.head _))) rfl) (by simp)) (St.old_cell h (hC5.cell (g := g7) (off := 0) (.tail _ (.head _)) rfl) (by simp))) hnm).mono ?_
        rw [← HR.out]
        rintro _ w9 ⟨rv9, lv9, xs9, rfl, hok9, h4⟩
        have h5 := St.call hC5 h4
        obtain ⟨a9, c9, rfl, _, _⟩ := rowS [] h5
        obtain ⟨a8, c8, rfl, _, _⟩ := rowS [_] h5
        have hD7 := St.perm h5 List.perm_append_comm
        have HOK := hid hok9
        clear hok9 h4 h5
        refine hK.out _ _ ?_ (fun hHeld => ?_)
        · exact ⟨ldA ((tabC t (.slice ar nr cr) (.slice al nl cl))) [_, _, _] hD7 (rfl) (rfl), ldS [_, _] hD7 rfl, ldS [_] hD7 rfl⟩
        clear hK K
        (try simp only [Act.put, List.setIfInBounds_toArray, List.set_cons_zero, List.set_cons_succ])
        refine tq 10 20 ?_
        refine tq 11 21 ?_
        refine wpAnyH_ready (rs := [12]) (by kernel_rfl) (by simp) ?_
        refine (AllReadyH.cons (o := ⟨none, _, _, _, _, _⟩) rfl (fun K hK => ?_) AllReadyH.nil)
        rw [if_pos (by rfl)]
        refine ow_of_wl (ops := #[]) (by rfl) ?_
        refine wl_storeA [] hD7 rfl rfl rfl rfl (vs := tabC r.2 (.slice a9 xs9.length c9) (.slice a8 r.2.lives.length c8)) rfl rfl rfl ?_
        intro w7 hst3
        refine q0_nil ?_
        refine hK.out _ _ ?_ (fun hHeld => ?_)
        · exact ⟨ldA ((tabC t (.slice ar nr cr) (.slice al nl cl))) [_, _, _] hst3 (rfl) (rfl), ldS [_, _] hst3 rfl, ldS [_] hst3 rfl⟩
        clear hK K
        (try simp only [Act.put, List.setIfInBounds_toArray, List.set_cons_zero, List.set_cons_succ])
        refine tq 13 9 ?_
        refine wpAnyH_done (by kernel_rfl) ?_ _
        clear hHeld
        go_wp2_with (first | go_big_skip | go_big_guard | fail)
        have hl := Loads.atA (P := Tryz.prog) (off := 0) (T := 27) (tabC r.2 (.slice a9 xs9.length c9) (.slice a8 r.2.lives.length c8)) [] hst3 rfl rfl
        refine bodyPost_ret (results_cellR rfl rfl rfl hl) rfl ?_
        exact ⟨_, _, xs9, rfl, HOK.out, St.sub hst3 (List.sublist_append_right [_, _, _, _] _)⟩
    · rw [if_pos (by rfl)]
      refine ow_of_wl (ops := #[]) (by rfl) ?_
      refine wl_mkFunc rfl rfl ?_
      refine q0_nil ?_
      refine hK.out _ _ ?_ (fun hHeld => ?_)
      · exact ⟨ldA ((tabC t (.slice ar nr cr) (.slice al nl cl))) [_, _, _] hX (rfl) (rfl), ldS [_, _] hX rfl, ldS [_] hX rfl⟩
      clear hK K
      (try simp only [Act.put, List.setIfInBounds_toArray, List.set_cons_zero, List.set_cons_succ])
      refine wpAnyH_ready (rs := [3]) (by kernel_rfl) (by simp) ?_
      refine (AllReadyH.cons (o := ⟨some 13, _, _, _, _, _⟩) rfl (fun K hK => ?_) AllReadyH.nil)
      rw [if_pos (by rfl)]
      go_simp
      go_at_call 81
      refine (limit13_any q _).mono ?_
      rw [HL.out]
      rintro _ w5 ⟨rfl, h4⟩
      have hC8 := St.call0 hX h4
      clear h4
      refine hK.out _ _ ?_ (fun hHeld => ?_)
      · exact ⟨ldA ((tabC t (.slice ar nr cr) (.slice al nl cl))) [_, _, _] hC8 (rfl) (rfl), ldS [_, _] hC8 rfl, ldS [_] hC8 rfl⟩
      clear hK K
      (try simp only [Act.put, List.setIfInBounds_toArray, List.set_cons_zero, List.set_cons_succ])
      refine tq 4 14 ?_
      refine tu 5 15 ?_
      refine wpAnyH_ready (rs := [6]) (by kernel_rfl) (by simp) ?_
      refine (AllReadyH.cons (o := ⟨some 16, _, _, _, _, _⟩) rfl (fun K hK => ?_) AllReadyH.nil)
      rw [if_neg (by rw [show Region.wanted _ _ = false from rfl]; exact Bool.false_ne_true)]
      refine hK.out _ _ ?_ (fun hHeld => ?_)
      · exact ⟨ldA ((tabC t (.slice ar nr cr) (.slice al nl cl))) [_, _, _] hC8 (rfl) (rfl), ldS [_, _] hC8 rfl, ldS [_] hC8 rfl⟩
      clear hK K
      (try simp only [Act.put, List.setIfInBounds_toArray, List.set_cons_zero, List.set_cons_succ])
      refine tq 7 17 ?_
      refine wpAnyH_ready (rs := [9]) (by kernel_rfl) (by simp) ?_
      refine (AllReadyH.cons (o := ⟨some 19, _, _, _, _, _⟩) rfl (fun K hK => ?_) AllReadyH.nil)
      rw [if_pos (by rfl)]
      go_simp
      go_at_call 79
      refine (change13_any t ar al nr cr nl cl xs _ (HT.out.old hC8.nil) nm (false) 82 #[.pointer (some ⟨g6, 0, none⟩), .pointer (some ⟨g7, 0, none⟩)] (fun v => { v with quota := q, reserve := z }) (fun _ _ => rfl) (fun w2 h => limitV q z (St.old_cell h (hC8.cell (g := g6) (off := 0) (.tail _ (.tail _ (.head _))) rfl) (by simp)) (St.old_cell h (hC8.cell (g := g7) (off := 0) (.tail _ (.head _)) rfl) (by simp))) hnm).mono ?_
      rw [← HR.out]
      rintro _ w9 ⟨rv9, lv9, xs9, rfl, hok9, h4⟩
      have h5 := St.call hC8 h4
      obtain ⟨a9, c9, rfl, _, _⟩ := rowS [] h5
      obtain ⟨a8, c8, rfl, _, _⟩ := rowS [_] h5
      have hD9 := St.perm h5 List.perm_append_comm
      have HOK := hid hok9
      clear hok9 h4 h5
      refine hK.out _ _ ?_ (fun hHeld => ?_)
      · exact ⟨ldA ((tabC t (.slice ar nr cr) (.slice al nl cl))) [_, _, _] hD9 (rfl) (rfl), ldS [_, _] hD9 rfl, ldS [_] hD9 rfl⟩
      clear hK K
      (try simp only [Act.put, List.setIfInBounds_toArray, List.set_cons_zero, List.set_cons_succ])
      refine tq 10 20 ?_
      refine tq 11 21 ?_
      refine wpAnyH_ready (rs := [12]) (by kernel_rfl) (by simp) ?_
      refine (AllReadyH.cons (o := ⟨none, _, _, _, _, _⟩) rfl (fun K hK => ?_) AllReadyH.nil)
      rw [if_pos (by rfl)]
      refine ow_of_wl (ops := #[]) (by rfl) ?_
      refine wl_storeA [] hD9 rfl rfl rfl rfl (vs := tabC r.2 (.slice a9 xs9.length c9) (.slice a8 r.2.lives.length c8)) rfl rfl rfl ?_
      intro w7 hst3
      refine q0_nil ?_
      refine hK.out _ _ ?_ (fun hHeld => ?_)
      · exact ⟨ldA ((tabC t (.slice ar nr cr) (.slice al nl cl))) [_, _, _] hst3 (rfl) (rfl), ldS [_, _] hst3 rfl, ldS [_] hst3 rfl⟩
      clear hK K
      (try simp only [Act.put, List.setIfInBounds_toArray, List.set_cons_zero, List.set_cons_succ])
      refine tq 13 9 ?_
      refine wpAnyH_done (by kernel_rfl) ?_ _
      clear hHeld
      go_wp2_with (first | go_big_skip | go_big_guard | fail)
      have hl := Loads.atA (P := Tryz.prog) (off := 0) (T := 27) (tabC r.2 (.slice a9 xs9.length c9) (.slice a8 r.2.lives.length c8)) [] hst3 rfl rfl
      refine bodyPost_ret (results_cellR rfl rfl rfl hl) rfl ?_
      exact ⟨_, _, xs9, rfl, HOK.out, St.sub hst3 (List.sublist_append_right [_, _, _, _] _)⟩
  · have HL := hid hq
    have HR := hid (show r = opR t (changeT t nm (limB z) fun v => { v with quota := q, reserve := z }) by rw [hr]; unfold limitT; rw [hq]; rfl)
    clear hr hq
    go_enter Tryz.func31, Tryz.ntmps31
    go_wp2_with (first | go_big_skip | go_big_guard | (refine wl_boxA hst0 rfl rfl rfl ?_; intro g4 w1 hA0; clear hst0) | (refine wl_box hA0 rfl rfl rfl ?_; intro g6 _ hA1; clear hA0) | (refine wl_box hA1 rfl rfl rfl ?_; intro g7 _ hA2; clear hA1) | (refine wl_alloc hA2 rfl rfl ?_; intro g8 _ hst; clear hA2))
    have hX := hst.drew
    clear hst
    refine wp_region_held_drew (S := (fun w' => (loadVarH 27 ⟨g4, 0, none⟩).run Tryz.prog w' = .ok (.agg (List.toArray ((tabC t (.slice ar nr cr) (.slice al nl cl))))) w' ∧ (loadVarH 3 ⟨g6, 0, none⟩).run Tryz.prog w' = .ok (.int .i64 q) w' ∧ (loadVarH 3 ⟨g7, 0, none⟩).run Tryz.prog w' = .ok (.int .i64 z) w')) (by kernel_rfl) (by exact ⟨ldA ((tabC t (.slice ar nr cr) (.slice al nl cl))) [_, _, _] hX (rfl) (rfl), ldS [_, _] hX rfl, ldS [_] hX rfl⟩) (fun hHeld => ?_)
    refine tq 0 10 ?_
    refine tq 1 11 ?_
    refine tq 2 12 ?_
    refine wpAnyH_ready (rs := [3, 8]) (by kernel_rfl) (by simp) ?_
    refine (AllReadyH.cons (o := ⟨some 13, _, _, _, _, _⟩) rfl (fun K hK => ?_) (AllReadyH.cons (o := ⟨some 18, _, _, _, _, _⟩) rfl (fun K hK => ?_) AllReadyH.nil))
    · rw [if_pos (by rfl)]
      go_simp
      go_at_call 81
      refine (limit13_any q _).mono ?_
      rw [HL.out]
      rintro _ w5 ⟨rfl, h4⟩
      have hC10 := St.call0 hX h4
      clear h4
      refine hK.out _ _ ?_ (fun hHeld => ?_)
      · exact ⟨ldA ((tabC t (.slice ar nr cr) (.slice al nl cl))) [_, _, _] hC10 (rfl) (rfl), ldS [_, _] hC10 rfl, ldS [_] hC10 rfl⟩
      clear hK K
      (try simp only [Act.put, List.setIfInBounds_toArray, List.set_cons_zero, List.set_cons_succ])
      refine tq 4 14 ?_
      refine tq 5 15 ?_
      refine wpAnyH_ready (rs := [6, 8]) (by kernel_rfl) (by simp) ?_
      refine (AllReadyH.cons (o := ⟨some 16, _, _, _, _, _⟩) rfl (fun K hK => ?_) (AllReadyH.cons (o := ⟨some 18, _, _, _, _, _⟩) rfl (fun K hK => ?_) AllReadyH.nil))
      · rw [if_pos (by rfl)]
        go_simp
        go_at_call 81
        refine (limit13_any z _).mono ?_
        rintro _ w5 ⟨rfl, h4⟩
        have hC11 := St.call0 hC10 h4
        clear h4
        refine hK.out _ _ ?_ (fun hHeld => ?_)
        · exact ⟨ldA ((tabC t (.slice ar nr cr) (.slice al nl cl))) [_, _, _] hC11 (rfl) (rfl), ldS [_, _] hC11 rfl, ldS [_] hC11 rfl⟩
        clear hK K
        (try simp only [Act.put, List.setIfInBounds_toArray, List.set_cons_zero, List.set_cons_succ])
        refine tq 7 17 ?_
        refine wpAnyH_ready (rs := [8]) (by kernel_rfl) (by simp) ?_
        refine (AllReadyH.cons (o := ⟨some 18, _, _, _, _, _⟩) rfl (fun K hK => ?_) AllReadyH.nil)
        rw [if_pos (by rfl)]
        refine ow_of_wl (ops := #[]) (by rfl) ?_
        refine wl_mkFunc rfl rfl ?_
        refine q0_nil ?_
        refine hK.out _ _ ?_ (fun hHeld => ?_)
        · exact ⟨ldA ((tabC t (.slice ar nr cr) (.slice al nl cl))) [_, _, _] hC11 (rfl) (rfl), ldS [_, _] hC11 rfl, ldS [_] hC11 rfl⟩
        clear hK K
        (try simp only [Act.put, List.setIfInBounds_toArray, List.set_cons_zero, List.set_cons_succ])
        refine wpAnyH_ready (rs := [9]) (by kernel_rfl) (by simp) ?_
        refine (AllReadyH.cons (o := ⟨some 19, _, _, _, _, _⟩) rfl (fun K hK => ?_) AllReadyH.nil)
        rw [if_pos (by rfl)]
        go_simp
        go_at_call 79
        refine (change13_any t ar al nr cr nl cl xs _ (HT.out.old hC11.nil) nm (limB z) 82 #[.pointer (some ⟨g6, 0, none⟩), .pointer (some ⟨g7, 0, none⟩)] (fun v => { v with quota := q, reserve := z }) (fun _ _ => rfl) (fun w2 h => limitV q z (St.old_cell h (hC11.cell (g := g6) (off := 0) (.tail _ (.tail _ (.head _))) rfl) (by simp)) (St.old_cell h (hC11.cell (g := g7) (off := 0) (.tail _ (.head _)) rfl) (by simp))) hnm).mono ?_
        rw [← HR.out]
        rintro _ w9 ⟨rv9, lv9, xs9, rfl, hok9, h4⟩
        have h5 := St.call hC11 h4
        obtain ⟨a9, c9, rfl, _, _⟩ := rowS [] h5
        obtain ⟨a8, c8, rfl, _, _⟩ := rowS [_] h5
        have hD12 := St.perm h5 List.perm_append_comm
        have HOK := hid hok9
        clear hok9 h4 h5
        refine hK.out _ _ ?_ (fun hHeld => ?_)
        · exact ⟨ldA ((tabC t (.slice ar nr cr) (.slice al nl cl))) [_, _, _] hD12 (rfl) (rfl), ldS [_, _] hD12 rfl, ldS [_] hD12 rfl⟩
        clear hK K
        (try simp only [Act.put, List.setIfInBounds_toArray, List.set_cons_zero, List.set_cons_succ])
        refine tq 10 20 ?_
        refine tq 11 21 ?_
        refine wpAnyH_ready (rs := [12]) (by kernel_rfl) (by simp) ?_
        refine (AllReadyH.cons (o := ⟨none, _, _, _, _, _⟩) rfl (fun K hK => ?_) AllReadyH.nil)
        rw [if_pos (by rfl)]
        refine ow_of_wl (ops := #[]) (by rfl) ?_
        refine wl_storeA [] hD12 rfl rfl rfl rfl (vs := tabC r.2 (.slice a9 xs9.length c9) (.slice a8 r.2.lives.length c8)) rfl rfl rfl ?_
        intro w7 hst3
        refine q0_nil ?_
        refine hK.out _ _ ?_ (fun hHeld => ?_)
        · exact ⟨ldA ((tabC t (.slice ar nr cr) (.slice al nl cl))) [_, _, _] hst3 (rfl) (rfl), ldS [_, _] hst3 rfl, ldS [_] hst3 rfl⟩
        clear hK K
        (try simp only [Act.put, List.setIfInBounds_toArray, List.set_cons_zero, List.set_cons_succ])
        refine tq 13 9 ?_
        refine wpAnyH_done (by kernel_rfl) ?_ _
        clear hHeld
        go_wp2_with (first | go_big_skip | go_big_guard | fail)
        have hl := Loads.atA (P := Tryz.prog) (off := 0) (T := 27) (tabC r.2 (.slice a9 xs9.length c9) (.slice a8 r.2.lives.length c8)) [] hst3 rfl rfl
        refine bodyPost_ret (results_cellR rfl rfl rfl hl) rfl ?_
        exact ⟨_, _, xs9, rfl, HOK.out, St.sub hst3 (List.sublist_append_right [_, _, _, _] _)⟩
      · rw [if_pos (by rfl)]
        refine ow_of_wl (ops := #[]) (by rfl) ?_
        refine wl_mkFunc rfl rfl ?_
        refine q0_nil ?_
        refine hK.out _ _ ?_ (fun hHeld => ?_)
        · exact ⟨ldA ((tabC t (.slice ar nr cr) (.slice al nl cl))) [_, _, _] hC10 (rfl) (rfl), ldS [_, _] hC10 rfl, ldS [_] hC10 rfl⟩
        clear hK K
        (try simp only [Act.put, List.setIfInBounds_toArray, List.set_cons_zero, List.set_cons_succ])
        refine wpAnyH_ready (rs := [6]) (by kernel_rfl) (by simp) ?_
        refine (AllReadyH.cons (o := ⟨some 16, _, _, _, _, _⟩) rfl (fun K hK => ?_) AllReadyH.nil)
        rw [if_pos (by rfl)]
        go_simp
        go_at_call 81
        refine (limit13_any z _).mono ?_
        rintro _ w5 ⟨rfl, h4⟩
        have hC13 := St.call0 hC10 h4
        clear h4
        refine hK.out _ _ ?_ (fun hHeld => ?_)
        · exact ⟨ldA ((tabC t (.slice ar nr cr) (.slice al nl cl))) [_, _, _] hC13 (rfl) (rfl), ldS [_, _] hC13 rfl, ldS [_] hC13 rfl⟩
        clear hK K
        (try simp only [Act.put, List.setIfInBounds_toArray, List.set_cons_zero, List.set_cons_succ])
        refine tq 7 17 ?_
        refine wpAnyH_ready (rs := [9]) (by kernel_rfl) (by simp) ?_
        refine (AllReadyH.cons (o := ⟨some 19, _, _, _, _, _⟩) rfl (fun K hK => ?_) AllReadyH.nil)
        rw [if_pos (by rfl)]
        go_simp
        go_at_call 79
        refine (change13_any t ar al nr cr nl cl xs _ (HT.out.old hC13.nil) nm (limB z) 82 #[.pointer (some ⟨g6, 0, none⟩), .pointer (some ⟨g7, 0, none⟩)] (fun v => { v with quota := q, reserve := z }) (fun _ _ => rfl) (fun w2 h => limitV q z (St.old_cell h (hC13.cell (g := g6) (off := 0) (.tail _ (.tail _ (.head _))) rfl) (by simp)) (St.old_cell h (hC13.cell (g := g7) (off := 0) (.tail _ (.head _)) rfl) (by simp))) hnm).mono ?_
        rw [← HR.out]
        rintro _ w9 ⟨rv9, lv9, xs9, rfl, hok9, h4⟩
        have h5 := St.call hC13 h4
        obtain ⟨a9, c9, rfl, _, _⟩ := rowS [] h5
        obtain ⟨a8, c8, rfl, _, _⟩ := rowS [_] h5
        have hD14 := St.perm h5 List.perm_append_comm
        have HOK := hid hok9
        clear hok9 h4 h5
        refine hK.out _ _ ?_ (fun hHeld => ?_)
        · exact ⟨ldA ((tabC t (.slice ar nr cr) (.slice al nl cl))) [_, _, _] hD14 (rfl) (rfl), ldS [_, _] hD14 rfl, ldS [_] hD14 rfl⟩
        clear hK K
        (try simp only [Act.put, List.setIfInBounds_toArray, List.set_cons_zero, List.set_cons_succ])
        refine tq 10 20 ?_
        refine tq 11 21 ?_
        refine wpAnyH_ready (rs := [12]) (by kernel_rfl) (by simp) ?_
        refine (AllReadyH.cons (o := ⟨none, _, _, _, _, _⟩) rfl (fun K hK => ?_) AllReadyH.nil)
        rw [if_pos (by rfl)]
        refine ow_of_wl (ops := #[]) (by rfl) ?_
        refine wl_storeA [] hD14 rfl rfl rfl rfl (vs := tabC r.2 (.slice a9 xs9.length c9) (.slice a8 r.2.lives.length c8)) rfl rfl rfl ?_
        intro w7 hst3
        refine q0_nil ?_
        refine hK.out _ _ ?_ (fun hHeld => ?_)
        · exact ⟨ldA ((tabC t (.slice ar nr cr) (.slice al nl cl))) [_, _, _] hst3 (rfl) (rfl), ldS [_, _] hst3 rfl, ldS [_] hst3 rfl⟩
        clear hK K
        (try simp only [Act.put, List.setIfInBounds_toArray, List.set_cons_zero, List.set_cons_succ])
        refine tq 13 9 ?_
        refine wpAnyH_done (by kernel_rfl) ?_ _
        clear hHeld
        go_wp2_with (first | go_big_skip | go_big_guard | fail)
        have hl := Loads.atA (P := Tryz.prog) (off := 0) (T := 27) (tabC r.2 (.slice a9 xs9.length c9) (.slice a8 r.2.lives.length c8)) [] hst3 rfl rfl
        refine bodyPost_ret (results_cellR rfl rfl rfl hl) rfl ?_
        exact ⟨_, _, xs9, rfl, HOK.out, St.sub hst3 (List.sublist_append_right [_, _, _, _] _)⟩
    · rw [if_pos (by rfl)]
      refine ow_of_wl (ops := #[]) (by rfl) ?_
      refine wl_mkFunc rfl rfl ?_
      refine q0_nil ?_
      refine hK.out _ _ ?_ (fun hHeld => ?_)
      · exact ⟨ldA ((tabC t (.slice ar nr cr) (.slice al nl cl))) [_, _, _] hX (rfl) (rfl), ldS [_, _] hX rfl, ldS [_] hX rfl⟩
      clear hK K
      (try simp only [Act.put, List.setIfInBounds_toArray, List.set_cons_zero, List.set_cons_succ])
      refine wpAnyH_ready (rs := [3]) (by kernel_rfl) (by simp) ?_
      refine (AllReadyH.cons (o := ⟨some 13, _, _, _, _, _⟩) rfl (fun K hK => ?_) AllReadyH.nil)
      rw [if_pos (by rfl)]
      go_simp
      go_at_call 81
      refine (limit13_any q _).mono ?_
      rw [HL.out]
      rintro _ w5 ⟨rfl, h4⟩
      have hC15 := St.call0 hX h4
      clear h4
      refine hK.out _ _ ?_ (fun hHeld => ?_)
      · exact ⟨ldA ((tabC t (.slice ar nr cr) (.slice al nl cl))) [_, _, _] hC15 (rfl) (rfl), ldS [_, _] hC15 rfl, ldS [_] hC15 rfl⟩
      clear hK K
      (try simp only [Act.put, List.setIfInBounds_toArray, List.set_cons_zero, List.set_cons_succ])
      refine tq 4 14 ?_
      refine tq 5 15 ?_
      refine wpAnyH_ready (rs := [6]) (by kernel_rfl) (by simp) ?_
      refine (AllReadyH.cons (o := ⟨some 16, _, _, _, _, _⟩) rfl (fun K hK => ?_) AllReadyH.nil)
      rw [if_pos (by rfl)]
      go_simp
      go_at_call 81
      refine (limit13_any z _).mono ?_
      rintro _ w5 ⟨rfl, h4⟩
      have hC16 := St.call0 hC15 h4
      clear h4
      refine hK.out _ _ ?_ (fun hHeld => ?_)
      · exact ⟨ldA ((tabC t (.slice ar nr cr) (.slice al nl cl))) [_, _, _] hC16 (rfl) (rfl), ldS [_, _] hC16 rfl, ldS [_] hC16 rfl⟩
      clear hK K
      (try simp only [Act.put, List.setIfInBounds_toArray, List.set_cons_zero, List.set_cons_succ])
      refine tq 7 17 ?_
      refine wpAnyH_ready (rs := [9]) (by kernel_rfl) (by simp) ?_
      refine (AllReadyH.cons (o := ⟨some 19, _, _, _, _, _⟩) rfl (fun K hK => ?_) AllReadyH.nil)
      rw [if_pos (by rfl)]
      go_simp
      go_at_call 79
      refine (change13_any t ar al nr cr nl cl xs _ (HT.out.old hC16.nil) nm (limB z) 82 #[.pointer (some ⟨g6, 0, none⟩), .pointer (some ⟨g7, 0, none⟩)] (fun v => { v with quota := q, reserve := z }) (fun _ _ => rfl) (fun w2 h => limitV q z (St.old_cell h (hC16.cell (g := g6) (off := 0) (.tail _ (.tail _ (.head _))) rfl) (by simp)) (St.old_cell h (hC16.cell (g := g7) (off := 0) (.tail _ (.head _)) rfl) (by simp))) hnm).mono ?_
      rw [← HR.out]
      rintro _ w9 ⟨rv9, lv9, xs9, rfl, hok9, h4⟩
      have h5 := St.call hC16 h4
      obtain ⟨a9, c9, rfl, _, _⟩ := rowS [] h5
      obtain ⟨a8, c8, rfl, _, _⟩ := rowS [_] h5
      have hD17 := St.perm h5 List.perm_append_comm
      have HOK := hid hok9
      clear hok9 h4 h5
      refine hK.out _ _ ?_ (fun hHeld => ?_)
      · exact ⟨ldA ((tabC t (.slice ar nr cr) (.slice al nl cl))) [_, _, _] hD17 (rfl) (rfl), ldS [_, _] hD17 rfl, ldS [_] hD17 rfl⟩
      clear hK K
      (try simp only [Act.put, List.setIfInBounds_toArray, List.set_cons_zero, List.set_cons_succ])
      refine tq 10 20 ?_
      refine tq 11 21 ?_
      refine wpAnyH_ready (rs := [12]) (by kernel_rfl) (by simp) ?_
      refine (AllReadyH.cons (o := ⟨none, _, _, _, _, _⟩) rfl (fun K hK => ?_) AllReadyH.nil)
      rw [if_pos (by rfl)]
      refine ow_of_wl (ops := #[]) (by rfl) ?_
      refine wl_storeA [] hD17 rfl rfl rfl rfl (vs := tabC r.2 (.slice a9 xs9.length c9) (.slice a8 r.2.lives.length c8)) rfl rfl rfl ?_
      intro w7 hst3
      refine q0_nil ?_
      refine hK.out _ _ ?_ (fun hHeld => ?_)
      · exact ⟨ldA ((tabC t (.slice ar nr cr) (.slice al nl cl))) [_, _, _] hst3 (rfl) (rfl), ldS [_, _] hst3 rfl, ldS [_] hst3 rfl⟩
      clear hK K
      (try simp only [Act.put, List.setIfInBounds_toArray, List.set_cons_zero, List.set_cons_succ])
      refine tq 13 9 ?_
      refine wpAnyH_done (by kernel_rfl) ?_ _
      clear hHeld
      go_wp2_with (first | go_big_skip | go_big_guard | fail)
      have hl := Loads.atA (P := Tryz.prog) (off := 0) (T := 27) (tabC r.2 (.slice a9 xs9.length c9) (.slice a8 r.2.lives.length c8)) [] hst3 rfl rfl
      refine bodyPost_ret (results_cellR rfl rfl rfl hl) rfl ?_
      exact ⟨_, _, xs9, rfl, HOK.out, St.sub hst3 (List.sublist_append_right [_, _, _, _] _)⟩
theorem root13_any (t : TC) (ar al : Option Addr) (nr cr nl cl : Nat) (xs : List (Value × RC)) (w : World) (ht : TabIn w t ar nr cr al nl cl xs) (nm : List UInt8) (p : PV) (hp : p.In w) (hpl : p.l.length ≤ 100000) (hnm : nm.length ≤ 1000000) : Calls Tryz.prog 32 #[.agg (tabC t (.slice ar nr cr) (.slice al nl cl)).toArray, .string ⟨nm.toArray⟩, .agg p.cells.toArray] w (TabRet (opR t (rootT t nm p)) w) := by
  have HP := hid hp
  have H35 := hid (PV.len hp.1)
  clear hp
  have hst0 := St.refl w
  have HT := hid ht
  clear ht
  obtain ⟨r, hr⟩ : ∃ r, r = opR t (rootT t nm p) := ⟨_, rfl⟩
  rw [← hr]
  cases hh : p.hole <;> cases hk : p.ok
  · have H1 := hid hh
    have H2 := hid hk
    have HR := hid (show r = opR t (changeT t nm false (rootOf p)) by rw [hr]; unfold rootT rootB; rw [hh, hk]; rfl)
    clear hr hh hk
    go_enter Tryz.func32, Tryz.ntmps32
    go_wp2_with (first | go_big_skip | go_big_guard | (refine wl_boxA hst0 rfl rfl rfl ?_; intro g3 w1 hA0; clear hst0) | (refine wl_boxA hA0 rfl rfl rfl ?_; intro g5 _ hA1; clear hA0) | (refine wl_alloc hA1 rfl rfl ?_; intro g6 _ hst; clear hA1) | (refine wl_loadE rfl rfl rfl ?_; first | refine ⟨_, Loads.atA p.cells [_] hst H35.out (by simp), ?_⟩ | refine ⟨_, Loads.atA (tabC t (.slice ar nr cr) (.slice al nl cl)) [_, _] hst rfl rfl, ?_⟩ | refine ⟨_, Loads.at [_] hst rfl, ?_⟩) | (go_at_call 83; refine (hole_pv p _ (PV.In.old hst.nil HP.out)).mono ?_; rw [H1.out]; rintro _ w9 ⟨rfl, h4⟩; replace hst := St.call0 hst h4; clear h4) | (go_at_call 84; refine (check_pv p _ (PV.In.old hst.nil HP.out)).mono ?_; rw [H2.out]; rintro _ w9 ⟨rfl, h4⟩; replace hst := St.call0 hst h4; clear h4) | (go_at_call 79; refine (change13_any t ar al nr cr nl cl xs _ (HT.out.old hst.nil) nm (false) 85 #[.pointer (some ⟨g5, 0, none⟩)] (rootOf p) (fun _ _ => rfl) (fun w2 h => rootV p (fun j v hv => St.old_cell h (by have := hst.range (g := g5) (.tail _ (.head _)) j v (by rw [List.drop_zero]; exact hv); rwa [Nat.zero_add] at this ⊢) (by simp)) (PV.In.old h (PV.In.old hst.nil HP.out)) hpl) hnm).mono ?_; rw [← HR.out]; rintro _ w9 ⟨rv9, lv9, xs9, rfl, hok9, h4⟩; have h5 := St.call hst h4; obtain ⟨a9, c9, rfl, _, _⟩ := rowS [] h5; obtain ⟨a8, c8, rfl, _, _⟩ := rowS [_] h5; have hD2 := St.perm h5 List.perm_append_comm; have HOK := hid hok9; clear hok9 h4 h5 hst) | (refine wl_storeA [] hD2 rfl rfl rfl rfl (vs := tabC r.2 (.slice a9 xs9.length c9) (.slice a8 r.2.lives.length c8)) rfl rfl rfl ?_; intro w7 hst3; clear hD2))
    have hl := Loads.atA (P := Tryz.prog) (off := 0) (T := 27) (tabC r.2 (.slice a9 xs9.length c9) (.slice a8 r.2.lives.length c8)) [] hst3 rfl rfl
    refine bodyPost_ret (results_cellR rfl rfl rfl hl) rfl ?_
    exact ⟨_, _, xs9, rfl, HOK.out, St.sub hst3 (List.sublist_append_right [_, _, _] _)⟩
  · have H1 := hid hh
    have H2 := hid hk
    have HR := hid (show r = opR t (changeT t nm (p.v == 3) (rootOf p)) by rw [hr]; unfold rootT rootB; rw [hh, hk]; rfl)
    clear hr hh hk
    go_enter Tryz.func32, Tryz.ntmps32
    go_wp2_with (first | go_big_skip | go_big_guard | (refine wl_boxA hst0 rfl rfl rfl ?_; intro g3 w1 hA0; clear hst0) | (refine wl_boxA hA0 rfl rfl rfl ?_; intro g5 _ hA1; clear hA0) | (refine wl_alloc hA1 rfl rfl ?_; intro g6 _ hst; clear hA1) | (refine wl_loadE rfl rfl rfl ?_; first | refine ⟨_, Loads.atA p.cells [_] hst H35.out (by simp), ?_⟩ | refine ⟨_, Loads.atA (tabC t (.slice ar nr cr) (.slice al nl cl)) [_, _] hst rfl rfl, ?_⟩ | refine ⟨_, Loads.at [_] hst rfl, ?_⟩) | (go_at_call 83; refine (hole_pv p _ (PV.In.old hst.nil HP.out)).mono ?_; rw [H1.out]; rintro _ w9 ⟨rfl, h4⟩; replace hst := St.call0 hst h4; clear h4) | (go_at_call 84; refine (check_pv p _ (PV.In.old hst.nil HP.out)).mono ?_; rw [H2.out]; rintro _ w9 ⟨rfl, h4⟩; replace hst := St.call0 hst h4; clear h4) | (go_at_call 79; refine (change13_any t ar al nr cr nl cl xs _ (HT.out.old hst.nil) nm ((p.v == 3)) 85 #[.pointer (some ⟨g5, 0, none⟩)] (rootOf p) (fun _ _ => rfl) (fun w2 h => rootV p (fun j v hv => St.old_cell h (by have := hst.range (g := g5) (.tail _ (.head _)) j v (by rw [List.drop_zero]; exact hv); rwa [Nat.zero_add] at this ⊢) (by simp)) (PV.In.old h (PV.In.old hst.nil HP.out)) hpl) hnm).mono ?_; rw [← HR.out]; rintro _ w9 ⟨rv9, lv9, xs9, rfl, hok9, h4⟩; have h5 := St.call hst h4; obtain ⟨a9, c9, rfl, _, _⟩ := rowS [] h5; obtain ⟨a8, c8, rfl, _, _⟩ := rowS [_] h5; have hD2 := St.perm h5 List.perm_append_comm; have HOK := hid hok9; clear hok9 h4 h5 hst) | (refine wl_storeA [] hD2 rfl rfl rfl rfl (vs := tabC r.2 (.slice a9 xs9.length c9) (.slice a8 r.2.lives.length c8)) rfl rfl rfl ?_; intro w7 hst3; clear hD2))
    have hl := Loads.atA (P := Tryz.prog) (off := 0) (T := 27) (tabC r.2 (.slice a9 xs9.length c9) (.slice a8 r.2.lives.length c8)) [] hst3 rfl rfl
    refine bodyPost_ret (results_cellR rfl rfl rfl hl) rfl ?_
    exact ⟨_, _, xs9, rfl, HOK.out, St.sub hst3 (List.sublist_append_right [_, _, _] _)⟩
  · have H1 := hid hh
    have H2 := hid hk
    have HR := hid (show r = opR t (changeT t nm true (rootOf p)) by rw [hr]; unfold rootT rootB; rw [hh, hk]; rfl)
    clear hr hh hk
    go_enter Tryz.func32, Tryz.ntmps32
    go_wp2_with (first | go_big_skip | go_big_guard | (refine wl_boxA hst0 rfl rfl rfl ?_; intro g3 w1 hA0; clear hst0) | (refine wl_boxA hA0 rfl rfl rfl ?_; intro g5 _ hA1; clear hA0) | (refine wl_alloc hA1 rfl rfl ?_; intro g6 _ hst; clear hA1) | (refine wl_loadE rfl rfl rfl ?_; first | refine ⟨_, Loads.atA p.cells [_] hst H35.out (by simp), ?_⟩ | refine ⟨_, Loads.atA (tabC t (.slice ar nr cr) (.slice al nl cl)) [_, _] hst rfl rfl, ?_⟩ | refine ⟨_, Loads.at [_] hst rfl, ?_⟩) | (go_at_call 83; refine (hole_pv p _ (PV.In.old hst.nil HP.out)).mono ?_; rw [H1.out]; rintro _ w9 ⟨rfl, h4⟩; replace hst := St.call0 hst h4; clear h4) | (go_at_call 84; refine (check_pv p _ (PV.In.old hst.nil HP.out)).mono ?_; rw [H2.out]; rintro _ w9 ⟨rfl, h4⟩; replace hst := St.call0 hst h4; clear h4) | (go_at_call 79; refine (change13_any t ar al nr cr nl cl xs _ (HT.out.old hst.nil) nm (true) 85 #[.pointer (some ⟨g5, 0, none⟩)] (rootOf p) (fun _ _ => rfl) (fun w2 h => rootV p (fun j v hv => St.old_cell h (by have := hst.range (g := g5) (.tail _ (.head _)) j v (by rw [List.drop_zero]; exact hv); rwa [Nat.zero_add] at this ⊢) (by simp)) (PV.In.old h (PV.In.old hst.nil HP.out)) hpl) hnm).mono ?_; rw [← HR.out]; rintro _ w9 ⟨rv9, lv9, xs9, rfl, hok9, h4⟩; have h5 := St.call hst h4; obtain ⟨a9, c9, rfl, _, _⟩ := rowS [] h5; obtain ⟨a8, c8, rfl, _, _⟩ := rowS [_] h5; have hD2 := St.perm h5 List.perm_append_comm; have HOK := hid hok9; clear hok9 h4 h5 hst) | (refine wl_storeA [] hD2 rfl rfl rfl rfl (vs := tabC r.2 (.slice a9 xs9.length c9) (.slice a8 r.2.lives.length c8)) rfl rfl rfl ?_; intro w7 hst3; clear hD2))
    have hl := Loads.atA (P := Tryz.prog) (off := 0) (T := 27) (tabC r.2 (.slice a9 xs9.length c9) (.slice a8 r.2.lives.length c8)) [] hst3 rfl rfl
    refine bodyPost_ret (results_cellR rfl rfl rfl hl) rfl ?_
    exact ⟨_, _, xs9, rfl, HOK.out, St.sub hst3 (List.sublist_append_right [_, _, _] _)⟩
  · have H1 := hid hh
    have H2 := hid hk
    have HR := hid (show r = opR t (changeT t nm true (rootOf p)) by rw [hr]; unfold rootT rootB; rw [hh, hk]; rfl)
    clear hr hh hk
    go_enter Tryz.func32, Tryz.ntmps32
    go_wp2_with (first | go_big_skip | go_big_guard | (refine wl_boxA hst0 rfl rfl rfl ?_; intro g3 w1 hA0; clear hst0) | (refine wl_boxA hA0 rfl rfl rfl ?_; intro g5 _ hA1; clear hA0) | (refine wl_alloc hA1 rfl rfl ?_; intro g6 _ hst; clear hA1) | (refine wl_loadE rfl rfl rfl ?_; first | refine ⟨_, Loads.atA p.cells [_] hst H35.out (by simp), ?_⟩ | refine ⟨_, Loads.atA (tabC t (.slice ar nr cr) (.slice al nl cl)) [_, _] hst rfl rfl, ?_⟩ | refine ⟨_, Loads.at [_] hst rfl, ?_⟩) | (go_at_call 83; refine (hole_pv p _ (PV.In.old hst.nil HP.out)).mono ?_; rw [H1.out]; rintro _ w9 ⟨rfl, h4⟩; replace hst := St.call0 hst h4; clear h4) | (go_at_call 84; refine (check_pv p _ (PV.In.old hst.nil HP.out)).mono ?_; rw [H2.out]; rintro _ w9 ⟨rfl, h4⟩; replace hst := St.call0 hst h4; clear h4) | (go_at_call 79; refine (change13_any t ar al nr cr nl cl xs _ (HT.out.old hst.nil) nm (true) 85 #[.pointer (some ⟨g5, 0, none⟩)] (rootOf p) (fun _ _ => rfl) (fun w2 h => rootV p (fun j v hv => St.old_cell h (by have := hst.range (g := g5) (.tail _ (.head _)) j v (by rw [List.drop_zero]; exact hv); rwa [Nat.zero_add] at this ⊢) (by simp)) (PV.In.old h (PV.In.old hst.nil HP.out)) hpl) hnm).mono ?_; rw [← HR.out]; rintro _ w9 ⟨rv9, lv9, xs9, rfl, hok9, h4⟩; have h5 := St.call hst h4; obtain ⟨a9, c9, rfl, _, _⟩ := rowS [] h5; obtain ⟨a8, c8, rfl, _, _⟩ := rowS [_] h5; have hD2 := St.perm h5 List.perm_append_comm; have HOK := hid hok9; clear hok9 h4 h5 hst) | (refine wl_storeA [] hD2 rfl rfl rfl rfl (vs := tabC r.2 (.slice a9 xs9.length c9) (.slice a8 r.2.lives.length c8)) rfl rfl rfl ?_; intro w7 hst3; clear hD2))
    have hl := Loads.atA (P := Tryz.prog) (off := 0) (T := 27) (tabC r.2 (.slice a9 xs9.length c9) (.slice a8 r.2.lives.length c8)) [] hst3 rfl rfl
    refine bodyPost_ret (results_cellR rfl rfl rfl hl) rfl ?_
    exact ⟨_, _, xs9, rfl, HOK.out, St.sub hst3 (List.sublist_append_right [_, _, _] _)⟩
theorem new13_any (devs : Int) (w : World) : Calls Tryz.prog 13 #[.int .i64 devs] w (TabRet (newR devs) w) := by
  have hst0 := St.refl w
  obtain ⟨r, hr⟩ : ∃ r, r = newR devs := ⟨_, rfl⟩
  rw [← hr]
  by_cases h1 : devs < 2
  · have d1 : decide (devs < 2) = true := decide_eq_true h1
    have HB := hid (show r = badR 2 by rw [hr]; unfold newR inB; rw [decide_eq_false (by omega : ¬ (2 ≤ devs))]; rfl)
    clear h1 hr
    go_enter Tryz.func13, Tryz.ntmps13
    go_wp2_with (first | go_big_skip | go_big_guard | (refine wl_alloc hst0 rfl rfl ?_; intro g2 w1 hst; clear hst0) | (refine wl_build0 rfl rfl ?_) | (refine wl_storeA [] hst rfl rfl rfl rfl rfl rfl rfl ?_; intro w7 hst2; clear hst))
    have hl := Loads.atA (P := Tryz.prog) (off := 0) (T := 27) tab0 [] hst2 rfl rfl
    refine bodyPost_ret (results_cellR rfl rfl rfl hl) rfl ?_
    rw [HB.out]
    exact tabRet_bad hst2 2
  · have d1 : decide (devs < 2) = false := decide_eq_false h1
    by_cases h2 : devs > 8
    · have d2 : decide (devs > 8) = true := decide_eq_true h2
      have d3 : decide (8 < devs) = true := d2
      have HB := hid (show r = badR 2 by rw [hr]; unfold newR inB; rw [decide_eq_false (by omega : ¬ (devs ≤ 8)), Bool.and_false]; rfl)
      clear h1 h2 hr
      go_enter Tryz.func13, Tryz.ntmps13
      go_wp2_with (first | go_big_skip | go_big_guard | (refine wl_alloc hst0 rfl rfl ?_; intro g2 w1 hst; clear hst0) | (refine wl_build0 rfl rfl ?_) | (refine wl_storeA [] hst rfl rfl rfl rfl rfl rfl rfl ?_; intro w7 hst2; clear hst))
      have hl := Loads.atA (P := Tryz.prog) (off := 0) (T := 27) tab0 [] hst2 rfl rfl
      refine bodyPost_ret (results_cellR rfl rfl rfl hl) rfl ?_
      rw [HB.out]
      exact tabRet_bad hst2 2
    · have d2 : decide (devs > 8) = false := decide_eq_false h2
      have d3 : decide (8 < devs) = false := d2
      obtain ⟨n, rfl⟩ : ∃ n : Nat, devs = (n : Int) := ⟨devs.toNat, by omega⟩
      have HB := hid (show r = (0, ⟨1, [], 0, 0, 0, 0, List.replicate n 0⟩) by rw [hr]; unfold newR inB; rw [decide_eq_true (by omega : (2 : Int) ≤ (n : Int)), decide_eq_true (by omega : (n : Int) ≤ 8)]; rfl)
      have hn8 : n ≤ 8 := by omega
      clear h1 h2 hr
      go_enter Tryz.func13, Tryz.ntmps13
      go_wp2_with (first | go_big_skip | go_big_guard | (refine wl_alloc hst0 rfl rfl ?_; intro g2 w1 hst; clear hst0) | (apply wl_make n n hst; rfl; rfl; exact rfl; exact rfl; infer_instance; infer_instance; infer_instance; rfl; rfl; exact Nat.le_refl _; exact ⟨by omega, by omega⟩; intro g3 w2 hst2; clear hst) | (refine wl_buildX (cs := [.int .i64 1, .slice none 0 0, .int .i64 0, .int .i64 0, .int .i64 0, .int .i64 0, .slice (some ⟨g3, 0, none⟩) n n]) [(0, .int .i64 1), (3, .slice (some ⟨g3, 0, none⟩) n n)] rfl rfl (by exact rfl) (bldNew _ _ _) ?_) | (refine wl_storeA [_] hst2 rfl rfl rfl rfl rfl rfl rfl ?_; intro w7 hst3; clear hst2))
      have hl := Loads.atA (P := Tryz.prog) (off := 0) (T := 27) [.int .i64 1, .slice none 0 0, .int .i64 0, .int .i64 0, .int .i64 0, .int .i64 0, .slice (some ⟨g3, 0, none⟩) n n] [_] hst3 rfl rfl
      refine bodyPost_ret (results_cellR rfl rfl rfl hl) rfl ?_
      rw [HB.out]
      refine ⟨.slice none 0 0, .slice (some ⟨g3, 0, none⟩) n n, [], rfl, ⟨rfl, fun _ h => by cases h⟩, ?_⟩
      have h5 := St.toRow (n := n) (cap := n) (sz := 1) hst3 (by rw [List.length_replicate, Nat.mul_one]) (Nat.le_refl _) (by omega)
      rw [Nat.mul_one, List.take_of_length_le (by rw [List.length_replicate]; exact Nat.le_refl _)] at h5
      have e1 : numsV (List.replicate n 0) = List.replicate n (.int .i64 0) := by unfold numsV; rw [List.map_replicate]
      have h6 := St.nilR 53 44 (St.sub h5 (.cons_cons _ (List.nil_sublist _)))
      show St w [] _ [.row _ _ 44 0 _, .row _ _ 1 (List.replicate n (0 : Int)).length (numsV (List.replicate n 0))]
      rw [List.length_replicate, e1]
      exact h6
end Go.Proofs.YtifajcblbedcoaaGreat
namespace Go.Proofs.YtifajcblbedcoaaGreat
set_option linter.unusedVariables false
set_option linter.unusedSimpArgs false
open Go.RowKit Hp
def NameLt (x y : RC) : Prop := lessL x.name y.name = true
theorem sorted_iff {l : List RC} : Sorted l ↔ l.Pairwise NameLt := by
  rw [List.pairwise_iff_getElem]
  constructor
  · intro h i j hi hj hij
    exact h i j _ _ hij (List.getElem?_eq_getElem hi) (List.getElem?_eq_getElem hj)
  · intro h i j x y hij hx hy
    obtain ⟨hi, hx⟩ := List.getElem?_eq_some_iff.1 hx
    obtain ⟨hj, hy⟩ := List.getElem?_eq_some_iff.1 hy
    subst hx hy
    exact h i j hi hj hij
theorem NameLt.trans {x y z : RC} (h : NameLt x y) (h' : NameLt y z) : NameLt x z := less_trans h h'
theorem NameLt.ne {x y : RC} (h : NameLt x y) : x.name ≠ y.name := by
  intro e
  unfold NameLt at h
  rw [e, less_self] at h
  cases h
theorem name_other {x y : RC} (h : lessL y.name x.name = false) (hn : y.name ≠ x.name) : NameLt x y := by
  rcases less_tri y.name x.name with ⟨h1, _, _⟩ | ⟨_, h2, _⟩ | ⟨h3, _, _⟩
  · rw [h1] at h; cases h
  · exact h2
  · exact absurd h3 hn
theorem layL_perm (x : RC) (l : List RC) : (layL x l).Perm (x :: l) := by
  unfold layL
  have := List.perm_middle (a := x) (l₁ := l.takeWhile fun y => lessL y.name x.name) (l₂ := l.dropWhile fun y => lessL y.name x.name)
  rwa [List.takeWhile_append_dropWhile] at this
theorem dropWhile_all {x : RC} : ∀ {l : List RC}, l.Pairwise NameLt → ∀ y ∈ l.dropWhile (fun y => lessL y.name x.name), lessL y.name x.name = false
  | [], _, y, hy => by simp at hy
  | z :: l, h, y, hy => by
    rw [List.pairwise_cons] at h
    rw [List.dropWhile_cons] at hy
    split at hy
    · exact dropWhile_all h.2 y hy
    · rename_i hz
      have hz' : lessL z.name x.name = false := by simpa using hz
      rcases List.mem_cons.1 hy with rfl | hy
      · exact hz'
      · cases hq : lessL y.name x.name with
        | false => rfl
        | true =>
          have := less_trans (h.1 y hy) hq
          rw [hz'] at this
          cases this
theorem layL_sorted {x : RC} {l : List RC} (h : l.Pairwise NameLt) (hx : ∀ y ∈ l, y.name ≠ x.name) : (layL x l).Pairwise NameLt := by
  unfold layL
  have hs := h
  rw [← List.takeWhile_append_dropWhile (p := fun y : RC => lessL y.name x.name) (l := l), List.pairwise_append] at hs
  obtain ⟨h1, h2, h3⟩ := hs
  have hA : ∀ y ∈ l.takeWhile (fun y : RC => lessL y.name x.name), NameLt y x := fun y hy => List.all_eq_true.1 (List.all_takeWhile (p := fun y : RC => lessL y.name x.name) (l := l)) y hy
  have hB : ∀ y ∈ l.dropWhile (fun y : RC => lessL y.name x.name), NameLt x y := fun y hy => name_other (dropWhile_all h y hy) (hx y ((List.dropWhile_sublist _).subset hy))
  rw [List.pairwise_append, List.pairwise_cons]
  refine ⟨h1, ⟨hB, h2⟩, fun a ha b hb => ?_⟩
  rcases List.mem_cons.1 hb with rfl | hb
  · exact hA a ha
  · exact h3 a ha b hb
theorem sortL_snoc (l : List RC) (x : RC) : sortL (l ++ [x]) = layL x (sortL l) := by
  unfold sortL
  rw [List.foldl_append]
  rfl
theorem snoc_ind {p : List RC → Prop} (h0 : p []) (h1 : ∀ l x, p l → p (l ++ [x])) (l : List RC) : p l := by
  have : ∀ k : List RC, p k.reverse := by
    intro k
    induction k with
    | nil => exact h0
    | cons x k ih => rw [List.reverse_cons]; exact h1 _ _ ih
  have h := this l.reverse
  rwa [List.reverse_reverse] at h
theorem sortL_perm (l : List RC) : (sortL l).Perm l := by
  refine snoc_ind (p := fun l => (sortL l).Perm l) (List.Perm.refl _) (fun l x ih => ?_) l
  rw [sortL_snoc]
  exact (layL_perm x _).trans ((List.Perm.cons x ih).trans (List.perm_append_singleton x l).symm)
def Distinct (l : List RC) : Prop := l.Pairwise fun x y => x.name ≠ y.name
theorem sortL_sorted {l : List RC} (h : Distinct l) : (sortL l).Pairwise NameLt := by
  revert h
  refine snoc_ind (p := fun l => Distinct l → (sortL l).Pairwise NameLt) (fun _ => List.Pairwise.nil) (fun l x ih h => ?_) l
  unfold Distinct at h
  rw [List.pairwise_append] at h
  rw [sortL_snoc]
  exact layL_sorted (ih h.1) fun y hy => h.2.2 y ((sortL_perm l).subset hy) x (by simp)
theorem layL_last {x : RC} {l : List RC} (h : ∀ y ∈ l, NameLt y x) : layL x l = l ++ [x] := by
  have e : nLess x l = l.length := nLess_of (Nat.le_refl _) (fun i y _ hy => h y (List.mem_of_getElem? hy)) (fun y hy => by
    have := (List.getElem?_eq_some_iff.1 hy).1
    omega)
  rw [layL_at, e, List.take_length, List.drop_length]
/-- A list that is in order stays. -/
theorem sortL_id {l : List RC} (h : l.Pairwise NameLt) : sortL l = l := by
  revert h
  refine snoc_ind (p := fun l => l.Pairwise NameLt → sortL l = l) (fun _ => rfl) (fun l x ih h => ?_) l
  rw [List.pairwise_append] at h
  rw [sortL_snoc, ih h.1, layL_last fun y hy => h.2.2 y hy x (by simp)]
theorem ok_lt {t : TC} (h : t.ok = true) : t.recs.Pairwise NameLt := sorted_iff.1 (ok_sorted h)
theorem ok_distinct {t : TC} (h : t.ok = true) : Distinct t.recs := (ok_lt h).imp NameLt.ne
/-! ### Names changed -/
theorem isAt_no {nm : List UInt8} {l : List RC} (h : isAt nm l = false) : ∀ x ∈ l, x.name ≠ nm := fun x hx e => by
  unfold isAt recAt at h
  have h2 : l.find? (fun x => x.name == nm) = none := by
    cases hf : l.find? (fun x => x.name == nm) with
    | none => rfl
    | some y => rw [hf] at h; cases h
  rw [List.find?_eq_none] at h2
  have := h2 x hx
  simp [e] at this
theorem isAt_yes {nm : List UInt8} {l : List RC} {x : RC} (hx : x ∈ l) (h : x.name = nm) : isAt nm l = true := by
  cases hq : isAt nm l with
  | true => rfl
  | false => exact absurd h (isAt_no hq x hx)
/-- A record that may be: a snapshot's name is a snapshot's. -/
theorem alone_kind {r : RC} (h : r.aloneB = true) : (r.kind = 1 ∧ partB r.name = true) ∨ (r.kind = 2 ∧ snapB r.name = true) := by
  unfold RC.aloneB at h
  have h4 : r.kindB = true := (Bool.and_eq_true_iff.1 h).2
  unfold RC.kindB at h4
  by_cases k1 : (r.kind == 1) = true
  · rw [if_pos k1] at h4
    simp only [Bool.and_eq_true] at h4
    exact .inl ⟨by simpa using k1, h4.1.1.1.1⟩
  · rw [if_neg k1] at h4
    by_cases k2 : (r.kind == 2) = true
    · rw [if_pos k2] at h4
      simp only [Bool.and_eq_true] at h4
      exact .inr ⟨by simpa using k2, h4.1.1.1.1.1⟩
    · rw [if_neg k2] at h4; cases h4
theorem snap_form {s : List UInt8} (h : snapB s = true) : ∃ a b, splitL s = (a, b, true) ∧ s = a ++ 64 :: b ∧ partB a = true ∧ partB b = true := by
  unfold snapB at h
  obtain ⟨⟨a, b, f⟩, hs⟩ : ∃ p, splitL s = p := ⟨_, rfl⟩
  rw [hs] at h
  have hf : f = true := h
  subst hf
  exact ⟨a, b, hs, split_true hs⟩
theorem part_split {s : List UInt8} (h : partB s = true) : splitL s = ([], [], false) := by
  have hc : cutL s = (s, [], false) := cutL_none (part_no h)
  unfold splitL
  rw [hc]
  rfl
theorem ok_alone {t : TC} (h : t.ok = true) {x : RC} (hx : x ∈ t.recs) : x.aloneB = true := by
  obtain ⟨i, hi⟩ := List.getElem?_of_mem hx
  unfold TC.ok at h
  simp only [Bool.and_eq_true] at h
  have a1 := allAt_at h.1.2 hi
  unfold eachB at a1
  exact (Bool.and_eq_true_iff.1 a1).1
theorem ok_rel_at {t : TC} (h : t.ok = true) {x : RC} {i : Nat} (hi : t.recs[i]? = some x) : relB t.next t.recs i x = true := by
  unfold TC.ok at h
  simp only [Bool.and_eq_true] at h
  exact allAt_at h.2 hi
/-- A snapshot of a volume: that one is there. -/
theorem snap_has {t : TC} (h : t.ok = true) {x : RC} (hx : x ∈ t.recs) {a b : List UInt8} (hn : x.name = a ++ 64 :: b) (ha : partB a = true) (hb : partB b = true) : isAt a t.recs = true := by
  have hsp := split_joined ha hb
  have hk : snapB x.name = true := by unfold snapB; rw [hn, hsp]
  have hra : recAt x.name t.recs = some x ∨ ∃ y, recAt x.name t.recs = some y := by
    have := isAt_yes hx rfl
    unfold isAt at this
    cases hq : recAt x.name t.recs with
    | none => rw [hq] at this; cases this
    | some y => exact .inr ⟨y, rfl⟩
  obtain ⟨y, hy⟩ : ∃ y, recAt x.name t.recs = some y := by
    rcases hra with h | h
    · exact ⟨x, h⟩
    · exact h
  obtain ⟨k, v, hv, hr, _⟩ := snap_vol h hk hy
  rw [hn, hsp] at hr
  unfold isAt
  rw [hr]
  rfl
theorem join_len (a b : List UInt8) : (joinL a b).1.length ≤ 41 := by
  unfold joinL
  split
  · rename_i h
    obtain ⟨h1, h2⟩ := Bool.and_eq_true_iff.1 h
    have := (part_bd h1).2
    have := (part_bd h2).2
    simp
    omega
  · simp
/-- How a name is changed. -/
theorem ren_ways {t : TC} (h : t.ok = true) {nm tn : List UInt8} (ha : alikeB nm tn = true) {x : RC} (hx : x ∈ t.recs) :
    (x.name = nm ∧ renR nm tn x = { x with name := tn }) ∨ (x.name ≠ nm ∧ ∃ p, partB nm = true ∧ partB tn = true ∧ partB p = true ∧ x.name = nm ++ 64 :: p ∧ renR nm tn x = { x with name := tn ++ 64 :: p }) ∨ (x.name ≠ nm ∧ renR nm tn x = x ∧ ¬ ((splitL x.name).2.2 = true ∧ (splitL x.name).1 = nm)) := by
  by_cases h1 : x.name = nm
  · left
    refine ⟨h1, ?_⟩
    unfold renR
    rw [if_pos (by simpa using h1)]
  right
  have h1' : ¬ ((x.name == nm) = true) := by simpa using h1
  by_cases h2 : (splitL x.name).2.2 = true ∧ (splitL x.name).1 = nm
  · left
    refine ⟨h1, ?_⟩
    obtain ⟨a, b, hs, he, hpa, hpb⟩ := snap_form (s := x.name) h2.1
    rw [hs] at h2
    obtain rfl : a = nm := h2.2
    have hto : partB tn = true := by
      unfold alikeB at ha
      rcases Bool.or_eq_true_iff.1 ha with h3 | h3
      · exact (Bool.and_eq_true_iff.1 h3).2
      · rw [part_split hpa] at h3
        simp at h3
    refine ⟨b, hpa, hto, hpb, he, ?_⟩
    unfold renR
    rw [if_neg h1', hs, if_pos (by simp), join_of hto hpb]
  · right
    refine ⟨h1, ?_, h2⟩
    unfold renR
    rw [if_neg h1', if_neg (by simpa using h2)]
theorem at_no {a b p : List UInt8} (h : partB a = true) : a ≠ b ++ 64 :: p := by
  intro e
  have := part_no h
  rw [e] at this
  simp at this
theorem ren_distinct {t : TC} (h : t.ok = true) {nm tn : List UInt8} (ha : alikeB nm tn = true) (hto : isAt tn t.recs = false) : Distinct (t.recs.map (renR nm tn)) := by
  unfold Distinct
  rw [List.pairwise_map]
  have hd := ok_distinct h
  refine List.Pairwise.imp_of_mem (fun {x y} hx hy hxy => ?_) hd
  have nt := isAt_no hto
  have key : ∀ u ∈ t.recs, ∀ p, partB tn = true → partB p = true → u.name ≠ tn ++ 64 :: p := fun u hu p h1 h2 e => by
    have := snap_has h hu e h1 h2
    rw [hto] at this
    cases this
  rcases ren_ways h ha hx with ⟨e1, r1⟩ | ⟨e1, p, a1, a2, a3, a4, r1⟩ | ⟨e1, r1, _⟩ <;> rcases ren_ways h ha hy with ⟨e2, r2⟩ | ⟨e2, q, b1, b2, b3, b4, r2⟩ | ⟨e2, r2, _⟩ <;> rw [r1, r2]
  · exact absurd (e1.trans e2.symm) hxy
  · exact at_no b2
  · exact fun e => nt y hy e.symm
  · exact fun e => at_no a2 e.symm
  · intro e
    have e' : tn ++ 64 :: p = tn ++ 64 :: q := e
    have : p = q := by simpa using e'
    subst this
    exact hxy (a4.trans b4.symm)
  · exact fun e => key y hy p a2 a3 e.symm
  · exact fun e => nt x hx e
  · exact fun e => key x hx q b2 b3 e
  · exact hxy
end Go.Proofs.YtifajcblbedcoaaGreat
namespace Go.Proofs.YtifajcblbedcoaaGreat
set_option linter.unusedVariables false
set_option linter.unusedSimpArgs false
open Go.RowKit Hp
attribute [local irreducible] Go.Calls Go.wpList
set_option maxRecDepth 100000
set_option maxHeartbeats 8000000
attribute [local go_sem ↓] heldInt heldInts heldRecs heldRec heldStr heldTab heldPtr heldFn
theorem put_name (v : Value × RC) (z : List UInt8) : putAt (cellsR v) 1 [.string ⟨z.toArray⟩] = cellsR (v.1, { v.2 with name := z }) := rfl
def nameX (x : Value × RC) (z : List UInt8) : Value × RC := (x.1, { x.2 with name := z })
def renX (nm tn : List UInt8) (x : Value × RC) : Value × RC := (x.1, renR nm tn x.2)
theorem renR_root (nm tn : List UInt8) (x : RC) : (renR nm tn x).S = x.S ∧ (renR nm tn x).l = x.l := by
  unfold renR
  split
  · exact ⟨rfl, rfl⟩
  · split <;> exact ⟨rfl, rfl⟩
theorem renX_root (nm tn : List UInt8) (x : Value × RC) : rootH (renX nm tn x) = rootH x := by
  unfold rootH renX
  rw [(renR_root nm tn x.2).2]
theorem renR_len {nm tn : List UInt8} (h : tn.length ≤ 1000000) {x : RC} (hx : x.name.length ≤ 1000000) : (renR nm tn x).name.length ≤ 1000000 := by
  unfold renR
  split
  · exact h
  · split
    · have := join_len tn (splitL x.name).2.1
      show (joinL tn (splitL x.name).2.1).1.length ≤ 1000000
      omega
    · exact hx
theorem rowLoad {w0 w : World} {M : List Nat} {L : List HA} {g2 n c j : Nat} {xs : List (Value × RC)} {x : Value × RC} (hst : St w0 M w L) (hm : HA.row (.slice (some ⟨g2, 0, none⟩) n c) 53 44 n (recsV xs) ∈ L) (hn : xs.length = n) (hl : LX xs) (hx : xs[j]? = some x) : Loads Tryz.prog w 53 ⟨g2, 0 + j * 44, none⟩ (.agg (cellsR x).toArray) := by
  have hr := (Rd.row hst hm).range
  have h2 := range_flat (f := cellsR) (sz := 44) (fun d hd => cellsR_len (hl d hd)) hx hr
  exact Loads.range (by rw [cellsR_len (hl x (List.mem_of_getElem? hx))]; exact (inferInstance : TyA Tryz.prog 53 44).out) h2
/-- Where the loop stands: so many records are laid anew. -/
structure RenS (w w1 : World) (g : Nat) (t : TC) (rv lv : Value) (g2 c : Nat) (xs ys : List (Value × RC)) (j : Nat) (nm tn : List UInt8) (R : List HA) : Prop where
  st : St w [] w1 (.blk g 27 (tabC t rv lv) :: .row rv 53 44 j (recsV ys) :: .row (.slice (some ⟨g2, 0, none⟩) xs.length c) 53 44 xs.length (recsV xs) :: .row lv 3 1 t.lives.length (numsV t.lives) :: (xs.map rootH ++ R))
  len : ys.length = j
  eq : ys.map (·.2) = sortL ((t.recs.take j).map (renR nm tn))
  roots : (ys.map rootH).Perm ((xs.take j).map rootH)
  ok : ∀ y ∈ ys, L32 y.2.S ∧ y.2.name.length ≤ 1000000
theorem RenS.own {w w1 : World} {g : Nat} {t : TC} {rv lv : Value} {g2 c : Nat} {xs ys : List (Value × RC)} {j : Nat} {nm tn : List UInt8} {R : List HA} (h : RenS w w1 g t rv lv g2 c xs ys j nm tn R) (a b : HA) : OwnX (a :: b :: (xs.map rootH ++ R)) ys := fun y hy => by
  refine ⟨.tail _ (.tail _ (List.mem_append_left _ ?_)), h.ok y hy⟩
  have h1 : rootH y ∈ ys.map rootH := List.mem_map_of_mem hy
  have h2 := h.roots.subset h1
  rw [List.map_take] at h2
  exact List.mem_of_mem_take h2
theorem RenS.sorted {w w1 : World} {g : Nat} {t : TC} {rv lv : Value} {g2 c : Nat} {xs ys : List (Value × RC)} {j : Nat} {nm tn : List UInt8} {R : List HA} (h : RenS w w1 g t rv lv g2 c xs ys j nm tn R) (hk : t.ok = true) (ha : alikeB nm tn = true) (ht : isAt tn t.recs = false) : Sorted (ys.map (·.2)) := by
  rw [h.eq, sorted_iff]
  refine sortL_sorted ?_
  have := ren_distinct hk ha ht
  unfold Distinct at this ⊢
  rw [List.map_take]
  exact this.sublist (List.take_sublist _ _)
theorem RenS.next {w w1 : World} {g : Nat} {t : TC} {rv lv : Value} {g2 c : Nat} {xs ys : List (Value × RC)} {j : Nat} {nm tn : List UInt8} {R : List HA} {x : Value × RC} (h : RenS w w1 g t rv lv g2 c xs ys j nm tn R) (hok : Okx xs t) (hx : xs[j]? = some x) (htn : tn.length ≤ 1000000) {w2 : World} {rv' : Value}
    (hst : St w [] w2 (.blk g 27 (tabC t rv' lv) :: .row rv' 53 44 (j + 1) (recsV (ys.take (nLess (renX nm tn x).2 (ys.map (·.2))) ++ renX nm tn x :: ys.drop (nLess (renX nm tn x).2 (ys.map (·.2))))) :: .row (.slice (some ⟨g2, 0, none⟩) xs.length c) 53 44 xs.length (recsV xs) :: .row lv 3 1 t.lives.length (numsV t.lives) :: (xs.map rootH ++ R))) :
    RenS w w2 g t rv' lv g2 c xs (ys.take (nLess (renX nm tn x).2 (ys.map (·.2))) ++ renX nm tn x :: ys.drop (nLess (renX nm tn x).2 (ys.map (·.2)))) (j + 1) nm tn R := by
  have hxr : t.recs[j]? = some x.2 := by rw [← hok.eq, List.getElem?_map, hx]; rfl
  refine ⟨hst, ?_, ?_, ?_, ?_⟩
  · have hle := nLess_le (renX nm tn x).2 (ys.map (·.2))
    rw [List.length_map] at hle
    rw [List.length_append, List.length_cons, List.length_take, List.length_drop, ← h.len]
    omega
  · rw [lay_map, h.eq, List.take_add_one, hxr, List.map_append]
    exact (sortL_snoc _ _).symm
  · refine (lay_roots rootH (renX nm tn x) ys _).trans ?_
    rw [renX_root, List.take_add_one, hx, List.map_append]
    exact (List.Perm.cons _ h.roots).trans (List.perm_append_singleton _ _).symm
  · intro y hy
    rcases List.mem_append.1 hy with hy | hy
    · exact h.ok y (List.mem_of_mem_take hy)
    · rcases List.mem_cons.1 hy with rfl | hy
      · have := hok.ok x (List.mem_of_getElem? hx)
        exact ⟨by show L32 (renR nm tn x.2).S; rw [(renR_root nm tn x.2).1]; exact this.1, renR_len htn this.2⟩
      · exact h.ok y (List.mem_of_mem_drop hy)
theorem ren_done {w w1 : World} {g : Nat} {al : Option Addr} {cl : Nat} {t : TC} {rv : Value} {g2 c : Nat} {xs ys : List (Value × RC)} {nm tn : List UInt8} {R : List HA} {r : TR} (h : RenS w w1 g t rv (.slice al t.lives.length cl) g2 c xs ys xs.length nm tn R) (hok : Okx xs t) (hr : r = (0, { t with recs := sortL (t.recs.map (renR nm tn)) })) : DoesPost g al cl w t r R (.returned (.int .i64 0)) w1 := by
  subst hr
  have e : t.recs.take xs.length = t.recs := List.take_of_length_le (by rw [hok.len]; exact Nat.le_refl _)
  refine ⟨rfl, fun _ => ⟨rv, ys, ⟨?_, h.ok⟩, ?_, rfl⟩, fun h0 => by cases h0⟩
  · have := h.eq
    rwa [e] at this
  · have hp := h.roots
    rw [List.take_length] at hp
    unfold TP
    rw [h.len]
    exact St.perm (St.sub h.st (.cons_cons _ (.cons_cons _ (.cons _ (.cons_cons _ (List.Sublist.refl _)))))) (.cons _ (.cons _ (.cons _ (hp.symm.append_right R))))
theorem rename_does {w : World} {g1 gt : Nat} (nm tn : List UInt8) (h1 : w.cell? ⟨g1, 0, none⟩ = some (.string ⟨nm.toArray⟩)) (h2 : w.cell? ⟨gt, 0, none⟩ = some (.string ⟨tn.toArray⟩)) (hl : nm.length ≤ 1000000) (hln : tn.length ≤ 1000000) (t : TC) (hk : t.ok = true) :
    Does 75 #[.pointer (some ⟨g1, 0, none⟩), .pointer (some ⟨gt, 0, none⟩)] w t (renameT t nm tn) := by
  intro g ao c al cl xs R w1 hok hst0
  show Calls _ _ #[.pointer (some ⟨g, 0, none⟩), .pointer (some ⟨g1, 0, none⟩), .pointer (some ⟨gt, 0, none⟩)] _ _
  have hst := hst0
  have H1 := hid h1
  have H2 := hid h2
  have HOK := hid hok
  have HK := hid hk
  have b2 : xs.length ≤ 16 := by rw [hok.len]; exact ok_many hk
  clear hst0 hok hk h1 h2
  obtain ⟨r, hr⟩ : ∃ r, r = renameT t nm tn := ⟨_, rfl⟩
  rw [← hr]
  obtain ⟨e, hal⟩ : ∃ e, alikeB nm tn = e := ⟨_, rfl⟩
  have HAL := hid hal
  have HV := hid (show r = if e then (if isAt nm t.recs then (if isAt tn t.recs then badR 7 else (0, { t with recs := sortL (t.recs.map (renR nm tn)) })) else badR 6) else badR 2 by rw [hr]; unfold renameT; rw [hal])
  clear hr hal
  cases e
  · have HB := hid (show r = badR 2 from HV.out)
    clear HV
    go_enter Tryz.func75, Tryz.ntmps75
    go_wp2_with (first | go_big_skip | go_big_guard | (refine wl_loadE rfl rfl rfl ?_; first | refine ⟨_, Loads.old hst H1.out, ?_⟩ | refine ⟨_, Loads.old hst H2.out, ?_⟩) | (go_at_call 76; refine (alike13_any nm tn _ (by omega) (by omega)).mono ?_; rw [HAL.out]; rintro _ w9 ⟨rfl, h4⟩; replace hst := St.call0 hst h4; clear h4))
    go_ret
    exact does_bad (L := []) HB.out (by decide) hst
  · have HALB : Hid (alikeB nm tn = true) := HAL
    rcases find_split (nm := nm) (l := t.recs) with ⟨hra, hf⟩ | ⟨j, y, hy, hra, hfn, hf, hnm⟩
    · have HF := hid hf
      have hi : isAt nm t.recs = false := by unfold isAt; rw [hra]; rfl
      have HB := hid (show r = badR 6 by rw [HV.out, hi]; rfl)
      clear HV hf hra hi
      go_enter Tryz.func75, Tryz.ntmps75
      go_wp2_with (first | go_big_skip | go_big_guard | (refine wl_loadE rfl rfl rfl ?_; first | refine ⟨_, Loads.old hst H1.out, ?_⟩ | refine ⟨_, Loads.old hst H2.out, ?_⟩) | (go_at_call 76; refine (alike13_any nm tn _ (by omega) (by omega)).mono ?_; rw [HAL.out]; rintro _ w9 ⟨rfl, h4⟩; replace hst := St.call0 hst h4; clear h4))
      have hX := hst.drew
      clear hst
      refine wp_region_held_drew (S := (fun w' => (loadVarH 27 ⟨g, 0, none⟩).run Tryz.prog w' = .ok (.agg (List.toArray ((tabC t (.slice ao xs.length c) (.slice al t.lives.length cl))))) w' ∧ (loadVarH 9 ⟨g1, 0, none⟩).run Tryz.prog w' = .ok (.string ⟨nm.toArray⟩) w')) (by kernel_rfl) (by exact ⟨ldA ((tabC t (.slice ao xs.length c) (.slice al t.lives.length cl))) [] hX (rfl) (rfl), ldO hX (H1.out)⟩) (fun hHeld => ?_)
      refine tq 0 20 ?_
      refine tq 3 23 ?_
      refine tq 1 21 ?_
      refine tq 2 22 ?_
      refine wpAnyH_ready (rs := [4]) (by kernel_rfl) (by simp) ?_
      refine (AllReadyH.cons (o := ⟨some 24, _, _, _, _, _⟩) rfl (fun K hK => ?_) AllReadyH.nil)
      rw [if_pos (by rfl)]
      go_simp
      go_at_call 57
      refine (find_any t _ nm ao xs.length c xs _ (tp_recs [] HOK.out hX) (by omega)).mono ?_
      rw [HOK.out.eq, HF.out]
      rintro _ w5 ⟨rfl, h4⟩
      have hstF := St.call0 hX h4
      clear h4
      refine hK.out _ _ ?_ (fun hHeld => ?_)
      · exact ⟨ldA ((tabC t (.slice ao xs.length c) (.slice al t.lives.length cl))) [] hstF (rfl) (rfl), ldO hstF (H1.out)⟩
      clear hK K
      (try simp only [Act.put, List.setIfInBounds_toArray, List.set_cons_zero, List.set_cons_succ])
      refine tq 5 19 ?_
      refine tq 6 25 ?_
      refine tq 7 26 ?_
      refine tq 8 5 ?_
      refine tq 9 6 ?_
      refine wpAnyH_done (by kernel_rfl) ?_ _
      clear hHeld
      have hst : St w [] _ (TP g t (.slice ao xs.length c) (.slice al t.lives.length cl) xs R) := hstF
      clear hstF
      go_wp2_with (first | go_big_skip | go_big_guard | fail)
      go_ret
      exact does_bad (L := []) HB.out (by decide) hst
    · have HF := hid hf
      have hi : isAt nm t.recs = true := by unfold isAt; rw [hra]; rfl
      have hn0 : 0 < xs.length := by rw [HOK.out.len]; have := (List.getElem?_eq_some_iff.1 hy).1; omega
      obtain ⟨g2, c2, he⟩ := tp_spot [] hst hn0
      cases he
      rcases find_split (nm := tn) (l := t.recs) with ⟨hra2, hf2⟩ | ⟨j2, y2, hy2, hra2, hfn2, hf2, hnm2⟩
      · have HF2 := hid hf2
        have hi2 : isAt tn t.recs = false := by unfold isAt; rw [hra2]; rfl
        have HTN := hid hi2
        have HB := hid (show r = (0, { t with recs := sortL (t.recs.map (renR nm tn)) }) by rw [HV.out, hi, hi2]; rfl)
        clear HV hf hra hi hy hfn hnm hf2 hra2 hi2
        go_enter Tryz.func75, Tryz.ntmps75
        go_wp2_with (first | go_big_skip | go_big_guard | (refine wl_loadE rfl rfl rfl ?_; first | refine ⟨_, Loads.old hst H1.out, ?_⟩ | refine ⟨_, Loads.old hst H2.out, ?_⟩) | (go_at_call 76; refine (alike13_any nm tn _ (by omega) (by omega)).mono ?_; rw [HAL.out]; rintro _ w9 ⟨rfl, h4⟩; replace hst := St.call0 hst h4; clear h4))
        have hX := hst.drew
        clear hst
        refine wp_region_held_drew (S := (fun w' => (loadVarH 27 ⟨g, 0, none⟩).run Tryz.prog w' = .ok (.agg (List.toArray ((tabC t (.slice (some ⟨g2, 0, none⟩) xs.length c) (.slice al t.lives.length cl))))) w' ∧ (loadVarH 9 ⟨g1, 0, none⟩).run Tryz.prog w' = .ok (.string ⟨nm.toArray⟩) w')) (by kernel_rfl) (by exact ⟨ldA ((tabC t (.slice (some ⟨g2, 0, none⟩) xs.length c) (.slice al t.lives.length cl))) [] hX (rfl) (rfl), ldO hX (H1.out)⟩) (fun hHeld => ?_)
        refine tq 0 20 ?_
        refine tq 3 23 ?_
        refine tq 1 21 ?_
        refine tq 2 22 ?_
        refine wpAnyH_ready (rs := [4]) (by kernel_rfl) (by simp) ?_
        refine (AllReadyH.cons (o := ⟨some 24, _, _, _, _, _⟩) rfl (fun K hK => ?_) AllReadyH.nil)
        rw [if_pos (by rfl)]
        go_simp
        go_at_call 57
        refine (find_any t _ nm (some ⟨g2, 0, none⟩) xs.length c xs _ (tp_recs [] HOK.out hX) (by omega)).mono ?_
        rw [HOK.out.eq, HF.out]
        rintro _ w5 ⟨rfl, h4⟩
        have hstF := St.call0 hX h4
        clear h4
        refine hK.out _ _ ?_ (fun hHeld => ?_)
        · exact ⟨ldA ((tabC t (.slice (some ⟨g2, 0, none⟩) xs.length c) (.slice al t.lives.length cl))) [] hstF (rfl) (rfl), ldO hstF (H1.out)⟩
        clear hK K
        (try simp only [Act.put, List.setIfInBounds_toArray, List.set_cons_zero, List.set_cons_succ])
        refine tq 5 19 ?_
        refine tq 6 25 ?_
        refine tq 7 26 ?_
        refine tq 8 5 ?_
        refine tq 9 6 ?_
        refine wpAnyH_done (by kernel_rfl) ?_ _
        clear hHeld
        have hst : St w [] _ (TP g t (.slice (some ⟨g2, 0, none⟩) xs.length c) (.slice al t.lives.length cl) xs R) := hstF
        clear hstF
        go_wp2_with (first | go_big_skip | go_big_guard | fail)
        have hZ := hst.drew
        clear hst
        refine wp_region_held_drew (S := (fun w' => (loadVarH 27 ⟨g, 0, none⟩).run Tryz.prog w' = .ok (.agg (List.toArray ((tabC t (.slice (some ⟨g2, 0, none⟩) xs.length c) (.slice al t.lives.length cl))))) w' ∧ (loadVarH 9 ⟨gt, 0, none⟩).run Tryz.prog w' = .ok (.string ⟨tn.toArray⟩) w')) (by kernel_rfl) (by exact ⟨ldA ((tabC t (.slice (some ⟨g2, 0, none⟩) xs.length c) (.slice al t.lives.length cl))) [] hZ (rfl) (rfl), ldO hZ (H2.out)⟩) (fun hHeld => ?_)
        refine tq 0 30 ?_
        refine tq 3 33 ?_
        refine tq 1 31 ?_
        refine tq 2 32 ?_
        refine wpAnyH_ready (rs := [4]) (by kernel_rfl) (by simp) ?_
        refine (AllReadyH.cons (o := ⟨some 34, _, _, _, _, _⟩) rfl (fun K hK => ?_) AllReadyH.nil)
        rw [if_pos (by rfl)]
        go_simp
        go_at_call 57
        refine (find_any t _ tn (some ⟨g2, 0, none⟩) xs.length c xs _ (tp_recs [] HOK.out hZ) (by omega)).mono ?_
        rw [HOK.out.eq, HF2.out]
        rintro _ w5 ⟨rfl, h4⟩
        have hstG := St.call0 hZ h4
        clear h4
        refine hK.out _ _ ?_ (fun hHeld => ?_)
        · exact ⟨ldA ((tabC t (.slice (some ⟨g2, 0, none⟩) xs.length c) (.slice al t.lives.length cl))) [] hstG (rfl) (rfl), ldO hstG (H2.out)⟩
        clear hK K
        (try simp only [Act.put, List.setIfInBounds_toArray, List.set_cons_zero, List.set_cons_succ])
        refine tq 5 29 ?_
        refine tq 6 35 ?_
        refine tq 7 36 ?_
        refine tq 8 7 ?_
        refine tq 9 8 ?_
        refine wpAnyH_done (by kernel_rfl) ?_ _
        clear hHeld
        have hst : St w [] _ (TP g t (.slice (some ⟨g2, 0, none⟩) xs.length c) (.slice al t.lives.length cl) xs R) := hstG
        clear hstG
        go_wp2_with (first | go_big_skip | go_big_guard | (refine wl_loadE rfl rfl rfl ?_; first | refine ⟨_, Loads.at [] hst rfl, ?_⟩) | (refine wl_store [] hst rfl rfl rfl (off := 1) (v := .slice none 0 0) rfl rfl rfl (by show (1 : Nat) + 1 ≤ 7; decide) ?_; intro w7 h4; have h5 := St.nilR 53 44 h4; have hstS : St w [] w7 (.blk g 27 (tabC t (.slice none 0 0) (.slice al t.lives.length cl)) :: .row (.slice none 0 0) 53 44 0 (recsV []) :: .row (.slice (some ⟨g2, 0, none⟩) xs.length c) 53 44 xs.length (recsV xs) :: .row (.slice al t.lives.length cl) 3 1 t.lives.length (numsV t.lives) :: (xs.map rootH ++ R)) := St.perm h5 (.swap _ _ _); clear h4 h5 hst))
        go_loopw [47] (fun i wr => ∃ (j : Nat) (rv : Value) (ys : List (Value × RC)), j ≤ xs.length ∧ i = .int .i64 (j : Int) ∧ RenS w wr g t rv (.slice al t.lives.length cl) g2 c xs ys j nm tn R) (fun i _ => xs.length - (intOf i).toNat)
        case atStart =>
          refine ⟨0, .slice none 0 0, [], Nat.zero_le _, rfl, ⟨?_, rfl, rfl, List.Perm.refl _, fun _ h => by cases h⟩⟩
          exact hstS
        case round =>
          clear hstS
          obtain ⟨j, rv, ys, hj, rfl, hS⟩ := hrel
          obtain ⟨ar, cr, rfl, _, _⟩ := rowS [_] hS.st
          have HS := hid hS
          clear hS
          by_cases hlt : j < xs.length
          · have e1 : decide ((j : Int) < (xs.length : Int)) = true := decide_eq_true (by omega)
            have z1 : IntKind.i64.wrap ((j : Int) + 1) = (j : Int) + 1 := IntWalk.i64_in _ (by omega)
            obtain ⟨x, hx⟩ : ∃ x, xs[j]? = some x := ⟨_, List.getElem?_eq_getElem hlt⟩
            have hxm := List.mem_of_getElem? hx
            have hxt : x.2 ∈ t.recs := by rw [← HOK.out.eq]; exact List.mem_map_of_mem hxm
            have HX := hid hx
            have HLX := hid (cellsR_len (HOK.out.ok x hxm).1)
            have HON := hid (cellsR_ones (OwnR.In (L := xs.map rootH ++ R) ⟨List.mem_append_left _ (List.mem_map_of_mem hxm), HOK.out.ok x hxm⟩ (St.sub HS.out.st (.cons _ (.cons _ (.cons _ (.cons _ (List.Sublist.refl _))))))))
            have hnl : x.2.name.length ≤ 1000000 := (HOK.out.ok x hxm).2
            have HNL := hid (show x.2.name.length ≤ 9223372036854775807 by omega)
            have HOR : Hid (OwnR (.row (.slice (some ⟨g2, 0, none⟩) xs.length c) 53 44 xs.length (recsV xs) :: .row (.slice al t.lives.length cl) 3 1 t.lives.length (numsV t.lives) :: (xs.map rootH ++ R)) (renX nm tn x)) := hid ⟨.tail _ (.tail _ (List.mem_append_left _ (by rw [renX_root]; exact List.mem_map_of_mem hxm))), by show L32 (renR nm tn x.2).S; rw [(renR_root nm tn x.2).1]; exact (HOK.out.ok x hxm).1, renR_len hln hnl⟩
            have HLY := hid (HOR.out.L)
            obtain ⟨⟨v, u, f⟩, hsp⟩ : ∃ p, splitL x.2.name = p := ⟨_, rfl⟩
            have HSP := hid hsp
            have HUL := hid (show u.length ≤ 9223372036854775807 by have := (split_in x.2.name hnl).2; rw [hsp] at this; have h2 : u.length ≤ 1000000 := this; omega)
            cases d1 : (x.2.name == nm)
            · cases d2 : (f && (v == nm))
              · have HRN := hid (show renX nm tn x = x by unfold renX renR; rw [if_neg (by rw [d1]; decide), hsp, if_neg (by rw [d2]; decide)])
                cases f
                · clear hx hxm hxt hsp d2 hnl
                  
                  go_wp2_with (first | go_big_skip | go_big_guard | (refine wl_index rfl rfl rfl rfl hlt ?_) | (refine wl_loadE rfl rfl rfl ?_; first | refine ⟨_, rowLoad HS.out.st (.tail _ (.tail _ (.head _))) rfl HOK.out.LX HX.out, ?_⟩ | refine ⟨.string ⟨x.2.name.toArray⟩, Loads.at [] hst3 rfl, ?_⟩ | refine ⟨_, Loads.old hst3 H1.out, ?_⟩ | refine ⟨_, Loads.old hst3 H2.out, ?_⟩ | refine ⟨_, (show Loads _ _ _ _ (.agg (cellsR (renX nm tn x)).toArray) from by rw [HRN.out]; exact Loads.atA (cellsR x) [] hst3 HLX.out (cellsR_all x)), ?_⟩) | (refine wl_alloc HS.out.st rfl rfl ?_; intro g9 w3 hst2) | (refine wl_storeA [] hst2 rfl rfl rfl rfl (by exact HLX.out) HON.out rfl ?_; intro w4 hst3; clear hst2) | (go_at_call 68; refine (split_any x.2.name _ HNL.out).mono ?_; rw [HSP.out]; rintro _ w9 ⟨rfl, h4⟩; replace hst3 := St.call0 hst3 h4; clear h4) | (go_at_call 77; refine (join_any tn u _ (by omega) HUL.out).mono ?_; rintro _ w9 ⟨rfl, h4⟩; replace hst3 := St.call0 hst3 h4; clear h4) | (go_at_call 78; refine (lay_any g t ar j cr (.slice al t.lives.length cl) ys (renX nm tn x) (St.sub hst3 (.cons _ (List.Sublist.refl _))) (HS.out.own _ _) HOR.out HS.out.len (HS.out.sorted HK.out HALB.out HTN.out) (by omega)).mono ?_; rintro _ w9 ⟨rv9, rfl, h4⟩; have hst5 := HS.out.next HOK.out HX.out hln h4; clear h4 hst3))
                  go_roundw
                  case rel => exact ⟨j + 1, rv9, _, by omega, rfl, hst5⟩
                  case measure => simp [intOf]; omega
                · have d3 : (v == nm) = false := by simpa using d2
                  clear hx hxm hxt hsp d2 hnl
                  
                  go_wp2_with (first | go_big_skip | go_big_guard | (refine wl_index rfl rfl rfl rfl hlt ?_) | (refine wl_loadE rfl rfl rfl ?_; first | refine ⟨_, rowLoad HS.out.st (.tail _ (.tail _ (.head _))) rfl HOK.out.LX HX.out, ?_⟩ | refine ⟨.string ⟨x.2.name.toArray⟩, Loads.at [] hst3 rfl, ?_⟩ | refine ⟨_, Loads.old hst3 H1.out, ?_⟩ | refine ⟨_, Loads.old hst3 H2.out, ?_⟩ | refine ⟨_, (show Loads _ _ _ _ (.agg (cellsR (renX nm tn x)).toArray) from by rw [HRN.out]; exact Loads.atA (cellsR x) [] hst3 HLX.out (cellsR_all x)), ?_⟩) | (refine wl_alloc HS.out.st rfl rfl ?_; intro g9 w3 hst2) | (refine wl_storeA [] hst2 rfl rfl rfl rfl (by exact HLX.out) HON.out rfl ?_; intro w4 hst3; clear hst2) | (go_at_call 68; refine (split_any x.2.name _ HNL.out).mono ?_; rw [HSP.out]; rintro _ w9 ⟨rfl, h4⟩; replace hst3 := St.call0 hst3 h4; clear h4) | (go_at_call 77; refine (join_any tn u _ (by omega) HUL.out).mono ?_; rintro _ w9 ⟨rfl, h4⟩; replace hst3 := St.call0 hst3 h4; clear h4) | (go_at_call 78; refine (lay_any g t ar j cr (.slice al t.lives.length cl) ys (renX nm tn x) (St.sub hst3 (.cons _ (List.Sublist.refl _))) (HS.out.own _ _) HOR.out HS.out.len (HS.out.sorted HK.out HALB.out HTN.out) (by omega)).mono ?_; rintro _ w9 ⟨rv9, rfl, h4⟩; have hst5 := HS.out.next HOK.out HX.out hln h4; clear h4 hst3))
                  go_roundw
                  case rel => exact ⟨j + 1, rv9, _, by omega, rfl, hst5⟩
                  case measure => simp [intOf]; omega
              · have h3 : f = true ∧ (v == nm) = true := by revert d2; cases f <;> cases (v == nm) <;> decide
                obtain ⟨rfl, d3⟩ := h3
                have HRN := hid (show renX nm tn x = nameX x (joinL tn u).1 by unfold renX renR; rw [if_neg (by rw [d1]; decide), hsp, if_pos (by rw [d3]; rfl)]; rfl)
                clear hx hxm hxt hsp d2 hnl
                
                go_wp2_with (first | go_big_skip | go_big_guard | (refine wl_index rfl rfl rfl rfl hlt ?_) | (refine wl_loadE rfl rfl rfl ?_; first | refine ⟨_, rowLoad HS.out.st (.tail _ (.tail _ (.head _))) rfl HOK.out.LX HX.out, ?_⟩ | refine ⟨.string ⟨x.2.name.toArray⟩, Loads.at [] hst3 rfl, ?_⟩ | refine ⟨_, Loads.old hst3 H1.out, ?_⟩ | refine ⟨_, Loads.old hst3 H2.out, ?_⟩ | refine ⟨_, Loads.atA (cellsR (renX nm tn x)) [] hst4 HLY.out (cellsR_all _), ?_⟩) | (refine wl_alloc HS.out.st rfl rfl ?_; intro g9 w3 hst2) | (refine wl_storeA [] hst2 rfl rfl rfl rfl (by exact HLX.out) HON.out rfl ?_; intro w4 hst3; clear hst2) | (go_at_call 68; refine (split_any x.2.name _ HNL.out).mono ?_; rw [HSP.out]; rintro _ w9 ⟨rfl, h4⟩; replace hst3 := St.call0 hst3 h4; clear h4) | (go_at_call 77; refine (join_any tn u _ (by omega) HUL.out).mono ?_; rintro _ w9 ⟨rfl, h4⟩; replace hst3 := St.call0 hst3 h4; clear h4) | (refine wl_store [] hst3 rfl rfl rfl (off := 1) (v := .string ⟨(joinL tn u).1.toArray⟩) rfl rfl rfl (by rw [HLX.out]; show (1 : Nat) + 1 ≤ 44; decide) ?_; intro w7 h4; have hst4 : St w [] w7 (.blk g9 53 (cellsR (renX nm tn x)) :: .blk g 27 (tabC t (.slice ar j cr) (.slice al t.lives.length cl)) :: .row (.slice ar j cr) 53 44 j (recsV ys) :: .row (.slice (some ⟨g2, 0, none⟩) xs.length c) 53 44 xs.length (recsV xs) :: .row (.slice al t.lives.length cl) 3 1 t.lives.length (numsV t.lives) :: (xs.map rootH ++ R)) := (by have e : cellsR (renX nm tn x) = cellsR (nameX x (joinL tn u).1) := (by rw [HRN.out]); rw [e]; exact h4); clear h4 hst3) | (go_at_call 78; refine (lay_any g t ar j cr (.slice al t.lives.length cl) ys (renX nm tn x) (St.sub hst4 (.cons _ (List.Sublist.refl _))) (HS.out.own _ _) HOR.out HS.out.len (HS.out.sorted HK.out HALB.out HTN.out) (by omega)).mono ?_; rintro _ w9 ⟨rv9, rfl, h4⟩; have hst5 := HS.out.next HOK.out HX.out hln h4; clear h4 hst4))
                go_roundw
                case rel => exact ⟨j + 1, rv9, _, by omega, rfl, hst5⟩
                case measure => simp [intOf]; omega
            · have HRN := hid (show renX nm tn x = nameX x tn by unfold renX renR; rw [if_pos d1]; rfl)
              clear hx hxm hxt hsp hnl
              
              go_wp2_with (first | go_big_skip | go_big_guard | (refine wl_index rfl rfl rfl rfl hlt ?_) | (refine wl_loadE rfl rfl rfl ?_; first | refine ⟨_, rowLoad HS.out.st (.tail _ (.tail _ (.head _))) rfl HOK.out.LX HX.out, ?_⟩ | refine ⟨.string ⟨x.2.name.toArray⟩, Loads.at [] hst3 rfl, ?_⟩ | refine ⟨_, Loads.old hst3 H1.out, ?_⟩ | refine ⟨_, Loads.old hst3 H2.out, ?_⟩ | refine ⟨_, Loads.atA (cellsR (renX nm tn x)) [] hst4 HLY.out (cellsR_all _), ?_⟩) | (refine wl_alloc HS.out.st rfl rfl ?_; intro g9 w3 hst2) | (refine wl_storeA [] hst2 rfl rfl rfl rfl (by exact HLX.out) HON.out rfl ?_; intro w4 hst3; clear hst2) | (go_at_call 68; refine (split_any x.2.name _ HNL.out).mono ?_; rw [HSP.out]; rintro _ w9 ⟨rfl, h4⟩; replace hst3 := St.call0 hst3 h4; clear h4) | (go_at_call 77; refine (join_any tn u _ (by omega) HUL.out).mono ?_; rintro _ w9 ⟨rfl, h4⟩; replace hst3 := St.call0 hst3 h4; clear h4) | (refine wl_store [] hst3 rfl rfl rfl (off := 1) (v := .string ⟨tn.toArray⟩) rfl rfl rfl (by rw [HLX.out]; show (1 : Nat) + 1 ≤ 44; decide) ?_; intro w7 h4; have hst4 : St w [] w7 (.blk g9 53 (cellsR (renX nm tn x)) :: .blk g 27 (tabC t (.slice ar j cr) (.slice al t.lives.length cl)) :: .row (.slice ar j cr) 53 44 j (recsV ys) :: .row (.slice (some ⟨g2, 0, none⟩) xs.length c) 53 44 xs.length (recsV xs) :: .row (.slice al t.lives.length cl) 3 1 t.lives.length (numsV t.lives) :: (xs.map rootH ++ R)) := (by have e : cellsR (renX nm tn x) = cellsR (nameX x tn) := (by rw [HRN.out]); rw [e]; exact h4); clear h4 hst3) | (go_at_call 78; refine (lay_any g t ar j cr (.slice al t.lives.length cl) ys (renX nm tn x) (St.sub hst4 (.cons _ (List.Sublist.refl _))) (HS.out.own _ _) HOR.out HS.out.len (HS.out.sorted HK.out HALB.out HTN.out) (by omega)).mono ?_; rintro _ w9 ⟨rv9, rfl, h4⟩; have hst5 := HS.out.next HOK.out HX.out hln h4; clear h4 hst4))
              go_roundw
              case rel => exact ⟨j + 1, rv9, _, by omega, rfl, hst5⟩
              case measure => simp [intOf]; omega
          · have e1 : decide ((j : Int) < (xs.length : Int)) = false := decide_eq_false (by omega)
            obtain rfl : j = xs.length := by omega
            go_wp2_with (first | go_big_skip | go_big_guard | fail)
            go_ret
            exact ren_done HS.out HOK.out HB.out
      · have HF2 := hid hf2
        have hi2 : isAt tn t.recs = true := by unfold isAt; rw [hra2]; rfl
        have HB := hid (show r = badR 7 by rw [HV.out, hi, hi2]; rfl)
        clear HV hf hra hi hy hfn hnm hf2 hra2 hi2 hy2 hfn2 hnm2
        go_enter Tryz.func75, Tryz.ntmps75
        go_wp2_with (first | go_big_skip | go_big_guard | (refine wl_loadE rfl rfl rfl ?_; first | refine ⟨_, Loads.old hst H1.out, ?_⟩ | refine ⟨_, Loads.old hst H2.out, ?_⟩) | (go_at_call 76; refine (alike13_any nm tn _ (by omega) (by omega)).mono ?_; rw [HAL.out]; rintro _ w9 ⟨rfl, h4⟩; replace hst := St.call0 hst h4; clear h4))
        have hX := hst.drew
        clear hst
        refine wp_region_held_drew (S := (fun w' => (loadVarH 27 ⟨g, 0, none⟩).run Tryz.prog w' = .ok (.agg (List.toArray ((tabC t (.slice (some ⟨g2, 0, none⟩) xs.length c) (.slice al t.lives.length cl))))) w' ∧ (loadVarH 9 ⟨g1, 0, none⟩).run Tryz.prog w' = .ok (.string ⟨nm.toArray⟩) w')) (by kernel_rfl) (by exact ⟨ldA ((tabC t (.slice (some ⟨g2, 0, none⟩) xs.length c) (.slice al t.lives.length cl))) [] hX (rfl) (rfl), ldO hX (H1.out)⟩) (fun hHeld => ?_)
        refine tq 0 20 ?_
        refine tq 3 23 ?_
        refine tq 1 21 ?_
        refine tq 2 22 ?_
        refine wpAnyH_ready (rs := [4]) (by kernel_rfl) (by simp) ?_
        refine (AllReadyH.cons (o := ⟨some 24, _, _, _, _, _⟩) rfl (fun K hK => ?_) AllReadyH.nil)
        rw [if_pos (by rfl)]
        go_simp
        go_at_call 57
        refine (find_any t _ nm (some ⟨g2, 0, none⟩) xs.length c xs _ (tp_recs [] HOK.out hX) (by omega)).mono ?_
        rw [HOK.out.eq, HF.out]
        rintro _ w5 ⟨rfl, h4⟩
        have hstF := St.call0 hX h4
        clear h4
        refine hK.out _ _ ?_ (fun hHeld => ?_)
        · exact ⟨ldA ((tabC t (.slice (some ⟨g2, 0, none⟩) xs.length c) (.slice al t.lives.length cl))) [] hstF (rfl) (rfl), ldO hstF (H1.out)⟩
        clear hK K
        (try simp only [Act.put, List.setIfInBounds_toArray, List.set_cons_zero, List.set_cons_succ])
        refine tq 5 19 ?_
        refine tq 6 25 ?_
        refine tq 7 26 ?_
        refine tq 8 5 ?_
        refine tq 9 6 ?_
        refine wpAnyH_done (by kernel_rfl) ?_ _
        clear hHeld
        have hst : St w [] _ (TP g t (.slice (some ⟨g2, 0, none⟩) xs.length c) (.slice al t.lives.length cl) xs R) := hstF
        clear hstF
        go_wp2_with (first | go_big_skip | go_big_guard | fail)
        have hZ := hst.drew
        clear hst
        refine wp_region_held_drew (S := (fun w' => (loadVarH 27 ⟨g, 0, none⟩).run Tryz.prog w' = .ok (.agg (List.toArray ((tabC t (.slice (some ⟨g2, 0, none⟩) xs.length c) (.slice al t.lives.length cl))))) w' ∧ (loadVarH 9 ⟨gt, 0, none⟩).run Tryz.prog w' = .ok (.string ⟨tn.toArray⟩) w')) (by kernel_rfl) (by exact ⟨ldA ((tabC t (.slice (some ⟨g2, 0, none⟩) xs.length c) (.slice al t.lives.length cl))) [] hZ (rfl) (rfl), ldO hZ (H2.out)⟩) (fun hHeld => ?_)
        refine tq 0 30 ?_
        refine tq 3 33 ?_
        refine tq 1 31 ?_
        refine tq 2 32 ?_
        refine wpAnyH_ready (rs := [4]) (by kernel_rfl) (by simp) ?_
        refine (AllReadyH.cons (o := ⟨some 34, _, _, _, _, _⟩) rfl (fun K hK => ?_) AllReadyH.nil)
        rw [if_pos (by rfl)]
        go_simp
        go_at_call 57
        refine (find_any t _ tn (some ⟨g2, 0, none⟩) xs.length c xs _ (tp_recs [] HOK.out hZ) (by omega)).mono ?_
        rw [HOK.out.eq, HF2.out]
        rintro _ w5 ⟨rfl, h4⟩
        have hstG := St.call0 hZ h4
        clear h4
        refine hK.out _ _ ?_ (fun hHeld => ?_)
        · exact ⟨ldA ((tabC t (.slice (some ⟨g2, 0, none⟩) xs.length c) (.slice al t.lives.length cl))) [] hstG (rfl) (rfl), ldO hstG (H2.out)⟩
        clear hK K
        (try simp only [Act.put, List.setIfInBounds_toArray, List.set_cons_zero, List.set_cons_succ])
        refine tq 5 29 ?_
        refine tq 6 35 ?_
        refine tq 7 36 ?_
        refine tq 8 7 ?_
        refine tq 9 8 ?_
        refine wpAnyH_done (by kernel_rfl) ?_ _
        clear hHeld
        have hst : St w [] _ (TP g t (.slice (some ⟨g2, 0, none⟩) xs.length c) (.slice al t.lives.length cl) xs R) := hstG
        clear hstG
        go_wp2_with (first | go_big_skip | go_big_guard | fail)
        go_ret
        exact does_bad (L := []) HB.out (by decide) hst
end Go.Proofs.YtifajcblbedcoaaGreat
namespace Go.Proofs.YtifajcblbedcoaaGreat
set_option linter.unusedVariables false
set_option linter.unusedSimpArgs false
open Go.RowKit Hp
attribute [local irreducible] Go.Calls Go.wpList
set_option maxRecDepth 100000
set_option maxHeartbeats 8000000
attribute [local go_sem ↓] heldInt heldInts heldRecs heldRec heldStr heldTab heldPtr heldFn
theorem rename13_any (t : TC) (ar al : Option Addr) (nr cr nl cl : Nat) (xs : List (Value × RC)) (w : World) (ht : TabIn w t ar nr cr al nl cl xs) (nm : List UInt8) (tn : List UInt8) (hnm : nm.length ≤ 1000000) (htn : tn.length ≤ 1000000) :
    Calls Tryz.prog 29 #[.agg (tabC t (.slice ar nr cr) (.slice al nl cl)).toArray, .string ⟨nm.toArray⟩, .string ⟨tn.toArray⟩] w (TabRet (opR t (renameT t nm tn)) w) := by
  have hst0 := St.refl w
  have HT := hid ht
  clear ht
  obtain ⟨r, hr⟩ : ∃ r, r = opR t (renameT t nm tn) := ⟨_, rfl⟩
  rw [← hr]
  have HR := hid hr
  clear hr
  go_enter Tryz.func29, Tryz.ntmps29
  go_wp2_with (first | go_big_skip | go_big_guard | (refine wl_boxA hst0 rfl rfl rfl ?_; intro g4 w1 hA0; clear hst0) | (refine wl_box hA0 rfl rfl rfl ?_; intro g5 _ hA1; clear hA0) | (refine wl_box hA1 rfl rfl rfl ?_; intro g6 _ hA2; clear hA1) | (refine wl_alloc hA2 rfl rfl ?_; intro gz _ hst; clear hA2) | (refine wl_loadE rfl rfl rfl ?_; refine ⟨_, Loads.atA (tabC t (.slice ar nr cr) (.slice al nl cl)) [_, _, _] hst rfl rfl, ?_⟩) | (go_at_call 54; refine (owned_any 75 #[.pointer (some ⟨g5, 0, none⟩), .pointer (some ⟨g6, 0, none⟩)] (fun _ _ => rfl) t ar al nr cr nl cl xs _ (HT.out.old hst.nil) (renameT t nm tn) (fun hk => rename_does nm tn (hst.cell (g := g5) (off := 0) (.tail _ (.tail _ (.head _))) rfl) (hst.cell (g := g6) (off := 0) (.tail _ (.head _)) rfl) hnm htn t hk)).mono ?_; rw [← HR.out]; rintro _ w9 ⟨rv9, lv9, xs9, rfl, hok9, h4⟩; have hst2 := St.call hst h4; clear h4 hst; obtain ⟨a9, c9, rfl, _, _⟩ := rowS [] hst2; obtain ⟨a8, c8, rfl, _, _⟩ := rowS [_] hst2; have HOK := hid hok9; clear hok9) | (refine wl_storeA (_ :: _ :: List.map rootH xs9) hst2 rfl rfl rfl rfl (vs := tabC r.2 (.slice a9 xs9.length c9) (.slice a8 r.2.lives.length c8)) rfl rfl rfl ?_; intro w7 hst3; clear hst2))
  have hl := Loads.atA (P := Tryz.prog) (off := 0) (T := 27) (tabC r.2 (.slice a9 xs9.length c9) (.slice a8 r.2.lives.length c8)) (_ :: _ :: List.map rootH xs9) hst3 rfl rfl
  refine bodyPost_ret (results_cellR rfl rfl rfl hl) rfl ?_
  exact ⟨_, _, xs9, rfl, HOK.out, St.sub hst3 (.cons_cons _ (.cons_cons _ (List.sublist_append_left _ _)))⟩
end Go.Proofs.YtifajcblbedcoaaGreat
