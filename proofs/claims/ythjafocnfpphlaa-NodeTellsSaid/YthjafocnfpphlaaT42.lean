import Derived.Test.YthjafocnfpphlaaT41
namespace Go.Proofs.Ythjafocnfpphlaa
open Go.RowKit Hp
attribute [local irreducible] Go.Calls
set_option maxHeartbeats 4000000
set_option maxRecDepth 100000
/-- The rows of a node's pointers: each owned. -/
def rowsIn (y : NV) (E : TypeId) (R : List HA) : Prop := ∀ j, j < 4 → ∃ ao n c xs, (y.get j).sv = .slice ao n c ∧ HA.row (.slice ao n c) E 2 n xs ∈ R
theorem NV.isO.rows {E : TypeId} {y x : NV} {R : List HA} (h : y.isO E x R 4) : rowsIn y E R := fun j hj => by
  obtain ⟨_, ao, n, c, h2, h3, _⟩ := h j hj
  exact ⟨ao, n, c, _, h2, h3⟩
theorem Hp.St.self {w0 w : World} {M : List Nat} {R : List HA} (h : St w0 M w R) : St w (R.filterMap HA.foot) w R :=
  ⟨rfl, rfl, rfl, Nat.le_refl _, fun _ _ _ => rfl, h.all, fun x hx k hk => .inr (List.mem_filterMap.2 ⟨x, hx, hk⟩), h.apart⟩
theorem overNode_any (y : NV) (R : List HA) (w w0 : World) (M : List Nat) (hy : y.Ln) (hR : rowsIn y 42 R) (hst0 : St w0 M w R) :
    Calls Try.prog 48 #[.agg y.cells.toArray] w fun e w' => e = .returned (.tuple #[]) ∧ St w (R.filterMap HA.foot) w' [] := by
  have hst := hst0.self
  clear hst0
  have HR := hid hR
  clear hR
  go_enter Try.func48, Try.ntmps48
  go_wp2_with (first | go_big_skip | go_big_guard | (refine wl_boxA hst rfl rfl rfl ?_; intro g w1 hst1; clear hst))
  go_loopw [2] (fun i wr => ∃ k : Nat, k ≤ 4 ∧ i = .int .i64 k ∧ ∃ R' : List HA, Hid (rowsIn y 42 R') ∧ St w (R.filterMap HA.foot) wr (.blk g 51 y.cells :: R')) (fun i _ => 4 - (intOf i).toNat)
  case atStart => exact ⟨0, by omega, rfl, R, HR, hst1⟩
  case round =>
    clear hst1
    obtain ⟨k, hk, rfl, R', hR', hst⟩ := hrel
    by_cases hk4 : k < 4
    · obtain ⟨ao, n, c, xs, e1, e2⟩ := hR'.out k hk4
      obtain ⟨A, B, e3⟩ := List.append_of_mem e2
      have hat := hid (show y.cells[1 + k * 35]? = some (.slice ao n c) by rw [NV.at_sv hy hk4, e1])
      have hst2 : St w (R.filterMap HA.foot) wr (.row (.slice ao n c) 42 2 n xs :: .blk g 51 y.cells :: (A ++ B)) := by
        have h1 := hst
        rw [e3] at h1
        exact St.front (L1 := .blk g 51 y.cells :: A) h1
      have hnew : ∀ ys, rowsIn y 42 (.row (.slice ao n c) 42 2 n ys :: (A ++ B)) := by
        intro ys j hj
        obtain ⟨ao2, n2, c2, xs2, f1, f2⟩ := hR'.out j hj
        rw [e3] at f2
        simp only [List.mem_append, List.mem_cons] at f2
        rcases f2 with f2 | f2 | f2
        · exact ⟨ao2, n2, c2, xs2, f1, by simp [f2]⟩
        · cases f2
          exact ⟨ao, n, c, ys, f1, by simp⟩
        · exact ⟨ao2, n2, c2, xs2, f1, by simp [f2]⟩
      have Hnew := hid hnew
      clear hst e1 e2 e3 hnew
      go_wp2_with (first | go_big_skip | go_big_guard | (refine wl_loadE rfl rfl rfl ?_; refine ⟨_, Loads.at (off := 1 + k * 35) [_] hst2 hat.out, ?_⟩) | (go_at_call 62; refine (over_addrs ao n c xs _ (hst2.owns (.head _))).mono ?_; rintro _ _ ⟨ys, rfl, h4⟩; have hst9 := St.callRow hst2 h4; clear h4 hst2))
      have hst10 : St w (R.filterMap HA.foot) _ (.blk g 51 y.cells :: .row (.slice ao n c) 42 2 n ys :: (A ++ B)) := hst9.perm (List.Perm.swap _ _ _)
      have Hn2 := hid (Hnew.out ys)
      clear hst9
      go_roundw
      case rel => exact ⟨k + 1, by omega, by go_num, _, Hn2, hst10⟩
      case measure => simp [intOf]; omega
    · go_wp2_with (first | go_big_skip | go_big_guard | fail)
      go_end0
      exact ⟨rfl, hst.nil⟩
theorem set_neg (x : NV) (p : PV) (i : Int) (w : World) (hx : x.In w) (hc : x.ok = true) (hi : i < 0) : Calls Try.prog 46 #[.agg x.cells.toArray, .int .i64 i, .agg p.cells.toArray] w fun e w' => e = .returned (.tuple #[.agg (zN 0).cells.toArray, .int .i64 2]) ∧ St w [] w' [] := by
  have hst := St.refl w
  have hL := hx.ln
  have hq := hid (NV.err_ok hc)
  have d0 : decide (i < 0) = true := by simpa using hi
  clear hc hi
  go_enter Try.func46, Try.ntmps46
  go_wp2_with (first | go_big_skip | go_big_guard | (refine wl_loadE rfl rfl rfl ?_; first | refine ⟨_, Loads.atA (x.cells) [_, _] hst3 (NV.len hL) (NV.all x), ?_⟩) | (refine wl_boxA hst rfl rfl rfl ?_; intro g w1 hst1; clear hst) | (refine wl_boxA hst1 rfl rfl rfl ?_; intro g2 w2 hst2; clear hst1) | (refine wl_alloc hst2 rfl rfl ?_; intro g3 w3 hst3; clear hst2) | (go_at_call 42; refine (ncheck_any x _ (NV.In.old hst3 hx)).mono ?_; rw [hq.out]; rintro _ _ ⟨rfl, h4⟩; replace hst3 := St.call0 hst3 h4; clear h4) | (refine wl_build0 rfl rfl ?_) | (refine wl_storeA [] hst3 rfl rfl rfl rfl (NV.len (zN_ln 0)) (zN_ones 0) (NV.len (zN_ln 0)) ?_; intro w4 hst4; clear hst3))
  go_goals
  have hl := Loads.atA (P := Try.prog) (off := 0) (T := 51) (zN 0).cells [] hst4 (NV.len (zN_ln 0)) (NV.all _)
  refine bodyPost_ret (results_cellTmp rfl rfl hl) rfl ⟨rfl, hst4.nil⟩
theorem refSet_not (x : NV) (p : PV) (i : Int) (w : World) (hx : x.In w) (hc : x.ok = false) : Calls Try.prog 47 #[.agg x.cells.toArray, .int .i64 i, .agg p.cells.toArray] w fun e w' => e = .returned (.tuple #[.agg (zN 0).cells.toArray, .int .i64 2]) ∧ St w [] w' [] := by
  have hst := St.refl w
  have hL := hx.ln
  have hq := hid (NV.err_no hc)
  clear hc
  go_enter Try.func47, Try.ntmps47
  go_wp2_with (first | go_big_skip | go_big_guard | (refine wl_loadE rfl rfl rfl ?_; first | refine ⟨_, Loads.atA (x.cells) [_, _] hst3 (NV.len hL) (NV.all x), ?_⟩) | (refine wl_boxA hst rfl rfl rfl ?_; intro g w1 hst1; clear hst) | (refine wl_boxA hst1 rfl rfl rfl ?_; intro g2 w2 hst2; clear hst1) | (refine wl_alloc hst2 rfl rfl ?_; intro g3 w3 hst3; clear hst2) | (go_at_call 43; refine (refNcheck_any x _ (NV.In.old hst3 hx)).mono ?_; rw [hq.out]; rintro _ _ ⟨rfl, h4⟩; replace hst3 := St.call0 hst3 h4; clear h4) | (refine wl_build0 rfl rfl ?_) | (refine wl_storeA [] hst3 rfl rfl rfl rfl (NV.len (zN_ln 0)) (zN_ones 0) (NV.len (zN_ln 0)) ?_; intro w4 hst4; clear hst3))
  go_goals
  all_goals
    have hl := Loads.atA (P := Try.prog) (off := 0) (T := 51) (zN 0).cells [] hst4 (NV.len (zN_ln 0)) (NV.all _)
    refine bodyPost_ret (results_cellTmp rfl rfl hl) rfl ⟨rfl, hst4.nil⟩
theorem refSet_neg (x : NV) (p : PV) (i : Int) (w : World) (hx : x.In w) (hc : x.ok = true) (hi : i < 0) : Calls Try.prog 47 #[.agg x.cells.toArray, .int .i64 i, .agg p.cells.toArray] w fun e w' => e = .returned (.tuple #[.agg (zN 0).cells.toArray, .int .i64 2]) ∧ St w [] w' [] := by
  have hst := St.refl w
  have hL := hx.ln
  have hq := hid (NV.err_ok hc)
  have d0 : decide (i < 0) = true := by simpa using hi
  clear hc hi
  go_enter Try.func47, Try.ntmps47
  go_wp2_with (first | go_big_skip | go_big_guard | (refine wl_loadE rfl rfl rfl ?_; first | refine ⟨_, Loads.atA (x.cells) [_, _] hst3 (NV.len hL) (NV.all x), ?_⟩) | (refine wl_boxA hst rfl rfl rfl ?_; intro g w1 hst1; clear hst) | (refine wl_boxA hst1 rfl rfl rfl ?_; intro g2 w2 hst2; clear hst1) | (refine wl_alloc hst2 rfl rfl ?_; intro g3 w3 hst3; clear hst2) | (go_at_call 43; refine (refNcheck_any x _ (NV.In.old hst3 hx)).mono ?_; rw [hq.out]; rintro _ _ ⟨rfl, h4⟩; replace hst3 := St.call0 hst3 h4; clear h4) | (refine wl_build0 rfl rfl ?_) | (refine wl_storeA [] hst3 rfl rfl rfl rfl (NV.len (zN_ln 0)) (zN_ones 0) (NV.len (zN_ln 0)) ?_; intro w4 hst4; clear hst3))
  go_goals
  all_goals
    have hl := Loads.atA (P := Try.prog) (off := 0) (T := 51) (zN 0).cells [] hst4 (NV.len (zN_ln 0)) (NV.all _)
    refine bodyPost_ret (results_cellTmp rfl rfl hl) rfl ⟨rfl, hst4.nil⟩
theorem refSet_big (x : NV) (p : PV) (i : Int) (w : World) (hx : x.In w) (hc : x.ok = true) (hi : 4 ≤ i) : Calls Try.prog 47 #[.agg x.cells.toArray, .int .i64 i, .agg p.cells.toArray] w fun e w' => e = .returned (.tuple #[.agg (zN 0).cells.toArray, .int .i64 2]) ∧ St w [] w' [] := by
  have hst := St.refl w
  have hL := hx.ln
  have hq := hid (NV.err_ok hc)
  have d0 : decide (i < 0) = false := by simp; omega
  have d4 : decide (4 ≤ i) = true := by simpa using hi
  clear hc hi
  go_enter Try.func47, Try.ntmps47
  go_wp2_with (first | go_big_skip | go_big_guard | (refine wl_loadE rfl rfl rfl ?_; first | refine ⟨_, Loads.atA (x.cells) [_, _] hst3 (NV.len hL) (NV.all x), ?_⟩) | (refine wl_boxA hst rfl rfl rfl ?_; intro g w1 hst1; clear hst) | (refine wl_boxA hst1 rfl rfl rfl ?_; intro g2 w2 hst2; clear hst1) | (refine wl_alloc hst2 rfl rfl ?_; intro g3 w3 hst3; clear hst2) | (go_at_call 43; refine (refNcheck_any x _ (NV.In.old hst3 hx)).mono ?_; rw [hq.out]; rintro _ _ ⟨rfl, h4⟩; replace hst3 := St.call0 hst3 h4; clear h4) | (refine wl_build0 rfl rfl ?_) | (refine wl_storeA [] hst3 rfl rfl rfl rfl (NV.len (zN_ln 0)) (zN_ones 0) (NV.len (zN_ln 0)) ?_; intro w4 hst4; clear hst3))
  go_goals
  all_goals
    have hl := Loads.atA (P := Try.prog) (off := 0) (T := 51) (zN 0).cells [] hst4 (NV.len (zN_ln 0)) (NV.all _)
    refine bodyPost_ret (results_cellTmp rfl rfl hl) rfl ⟨rfl, hst4.nil⟩
theorem setP_st0 {x : NV} {p : PV} {k : Nat} {w0 w : World} {T : TypeId} {g : Nat} {L : List HA} (hL : x.Ln) (hp : L32 p.S) (hk : k < 4) (h : St w0 [] w ([] ++ .blk g T (putAt x.cells (1 + k * 35) (Value.agg p.cells.toArray).cells.toList) :: L)) : St w0 [] w (.blk g T (x.set k p).cells :: L) := by
  rw [← put_node hL hk hp]
  exact h
theorem refSet_off (x : NV) (p : PV) (k : Nat) (w : World) (hx : x.In w) (hp : p.In w) (hc : x.ok = true) (hk : k < 4) (hc2 : (x.set k p).ok = false) : Calls Try.prog 47 #[.agg x.cells.toArray, .int .i64 k, .agg p.cells.toArray] w fun e w' => e = .returned (.tuple #[.agg (zN 0).cells.toArray, .int .i64 2]) ∧ St w [] w' [] := by
  have hst := St.refl w
  have hL := hx.ln
  have hq := hid (NV.err_ok hc)
  have hq2 := hid (NV.err_no hc2)
  have hI := hid (NV.In.set hx hk hp)
  have d0 : decide ((k : Int) < 0) = false := by simp
  have d4 : decide (4 ≤ (k : Int)) = false := by simp; omega
  clear hc hc2
  go_enter Try.func47, Try.ntmps47
  go_wp2_with (first | go_big_skip | go_big_guard | (refine wl_loadE rfl rfl rfl ?_; first | refine ⟨_, Loads.atA (x.cells) [_, _] hst3 (NV.len hL) (NV.all x), ?_⟩ | refine ⟨_, Loads.atA (p.cells) [_, _] hst5 (PV.len hp.1) (by simp), ?_⟩ | refine ⟨_, Loads.atA ((x.set k p).cells) [] hst6 (NV.len hI.out.ln) (NV.all _), ?_⟩) | (refine wl_boxA hst rfl rfl rfl ?_; intro g w1 hst1; clear hst) | (refine wl_boxA hst1 rfl rfl rfl ?_; intro g2 w2 hst2; clear hst1) | (refine wl_alloc hst2 rfl rfl ?_; intro g3 w3 hst3; clear hst2) | (go_at_call 43; refine (refNcheck_any x _ (NV.In.old hst3 hx)).mono ?_; rw [hq.out]; rintro _ _ ⟨rfl, h4⟩; replace hst3 := St.call0 hst3 h4; clear h4) | (refine wl_alloc hst3 rfl rfl ?_; intro g5 w4 hst4; clear hst3) | (refine wl_storeA [] hst4 rfl rfl rfl rfl (NV.len hL) (NV.ones hx) (NV.len (zN_ln 0)) ?_; intro w5 hst5; clear hst4) | (refine wl_store [] hst5 rfl rfl rfl (v := .agg p.cells.toArray) (off := 1 + k * 35) (n := 35) rfl (PV.len hp.1) (PV.ones hp) (fit_p hL hp.1 hk) ?_; intro w6 hst6; clear hst5; replace hst6 := setP_st0 hL hp.1 hk hst6) | (go_at_call 43; refine (refNcheck_any (x.set k p) _ (NV.In.old hst6 hI.out)).mono ?_; rw [hq2.out]; rintro _ _ ⟨rfl, h4⟩; replace hst6 := St.call0 hst6 h4; clear h4) | (refine wl_build0 rfl rfl ?_) | (refine wl_storeA [_] hst6 rfl rfl rfl rfl (NV.len (zN_ln 0)) (zN_ones 0) (NV.len (zN_ln 0)) ?_; intro w7 hst7; clear hst6))
  go_goals
  all_goals
    have hl := Loads.atA (P := Try.prog) (off := 0) (T := 51) (zN 0).cells [_] hst7 (NV.len (zN_ln 0)) (NV.all _)
    refine bodyPost_ret (results_cellTmp rfl rfl hl) rfl ⟨rfl, hst7.nil⟩
theorem refSet_yes (x : NV) (p : PV) (k : Nat) (w : World) (hx : x.In w) (hp : p.In w) (hc : x.ok = true) (hk : k < 4) (hc2 : (x.set k p).ok = true) : Calls Try.prog 47 #[.agg x.cells.toArray, .int .i64 k, .agg p.cells.toArray] w fun e w' =>
    ∃ (y : NV) (R : List HA), e = .returned (.tuple #[.agg y.cells.toArray, .int .i64 0]) ∧ St w [] w' R ∧ y.lv = x.lv ∧ y.isO 42 (x.set k p) R 4 := by
  have hst := St.refl w
  have hL := hx.ln
  have hq := hid (NV.err_ok hc)
  have hq2 := hid (NV.err_ok hc2)
  have hI := hid (NV.In.set hx hk hp)
  have d0 : decide ((k : Int) < 0) = false := by simp
  have d4 : decide (4 ≤ (k : Int)) = false := by simp; omega
  have hlen := hid (show ∀ j, j < 4 → ((x.set k p).get j).l.length ≤ 3 from fun j hj => (check_bd ((NV.ok_parts hc2).2.2 j hj)).1)
  clear hc hc2
  go_enter Try.func47, Try.ntmps47
  go_wp2_with (first | go_big_skip | go_big_guard | (refine wl_loadE rfl rfl rfl ?_; first | refine ⟨_, Loads.atA (x.cells) [_, _] hst3 (NV.len hL) (NV.all x), ?_⟩ | refine ⟨_, Loads.atA (p.cells) [_, _] hst5 (PV.len hp.1) (by simp), ?_⟩ | refine ⟨_, Loads.atA ((x.set k p).cells) [] hst6 (NV.len hI.out.ln) (NV.all _), ?_⟩) | (refine wl_boxA hst rfl rfl rfl ?_; intro g w1 hst1; clear hst) | (refine wl_boxA hst1 rfl rfl rfl ?_; intro g2 w2 hst2; clear hst1) | (refine wl_alloc hst2 rfl rfl ?_; intro g3 w3 hst3; clear hst2) | (go_at_call 43; refine (refNcheck_any x _ (NV.In.old hst3 hx)).mono ?_; rw [hq.out]; rintro _ _ ⟨rfl, h4⟩; replace hst3 := St.call0 hst3 h4; clear h4) | (refine wl_alloc hst3 rfl rfl ?_; intro g5 w4 hst4; clear hst3) | (refine wl_storeA [] hst4 rfl rfl rfl rfl (NV.len hL) (NV.ones hx) (NV.len (zN_ln 0)) ?_; intro w5 hst5; clear hst4) | (refine wl_store [] hst5 rfl rfl rfl (v := .agg p.cells.toArray) (off := 1 + k * 35) (n := 35) rfl (PV.len hp.1) (PV.ones hp) (fit_p hL hp.1 hk) ?_; intro w6 hst6; clear hst5; replace hst6 := setP_st0 hL hp.1 hk hst6) | (go_at_call 43; refine (refNcheck_any (x.set k p) _ (NV.In.old hst6 hI.out)).mono ?_; rw [hq2.out]; rintro _ _ ⟨rfl, h4⟩; replace hst6 := St.call0 hst6 h4; clear h4) | (go_at_call 61; refine (refOwn_any (x.set k p) _ (NV.In.old hst6 hI.out) hlen.out).mono ?_; rintro _ _ ⟨y, R, rfl, h4, hl, hO⟩; have hLv := hid hl; have HO := hid hO; have hst8 := (St.call hst6 h4).perm List.perm_append_comm; clear h4 hl hO hst6) | (refine wl_storeA [_] hst8 rfl rfl rfl rfl (NV.len (NV.isO.ln HO.out hI.out.ln)) (NV.isO.ones HO.out hLv.out) (NV.len (zN_ln 0)) ?_; intro w9 hst9; clear hst8))
  go_goals
  have hl := Loads.atA (P := Try.prog) (off := 0) (T := 51) y.cells [_] hst9 (NV.len (NV.isO.ln HO.out hI.out.ln)) (NV.all _)
  refine bodyPost_ret (results_cellTmp rfl rfl hl) rfl ⟨y, R, rfl, hst9.sub (.cons _ (.cons _ (.cons _ (.cons _ (List.Sublist.refl _))))), hLv.out.trans (NV.lv_set _ _ _), HO.out⟩
end Go.Proofs.Ythjafocnfpphlaa
