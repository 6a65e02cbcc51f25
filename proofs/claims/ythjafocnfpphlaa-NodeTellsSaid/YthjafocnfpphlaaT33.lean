import Derived.Test.YthjafocnfpphlaaT32
import Derived.Test.YthjafocnfpphlaaT26
namespace Go.Proofs.Ythjafocnfpphlaa
open Go.RowKit Hp
attribute [local irreducible] Go.Calls
set_option maxHeartbeats 4000000
set_option maxRecDepth 100000
theorem NV.In.set {w : World} {x : NV} (h : x.In w) {k : Nat} (hk : k < 4) {p : PV} (hp : p.In w) : (x.set k p).In w := by
  have main : ∀ j, j < 4 → ((x.set k p).get j).In w := by
    intro j hj
    by_cases e : j = k
    · subst e; rw [NV.get_set_same x hk]; exact hp
    · rw [NV.get_set_other x hk hj e]; exact h j
  intro j
  match j with
  | 0 => exact main 0 (by omega)
  | 1 => exact main 1 (by omega)
  | 2 => exact main 2 (by omega)
  | _ + 3 => exact main 3 (by omega)
theorem NV.isO.ln {E : TypeId} {y x : NV} {R : List HA} (h : y.isO E x R 4) (hx : x.Ln) : y.Ln := by
  have main : ∀ j, j < 4 → L32 (y.get j).S := fun j hj => by rw [(h j hj).1.2.2.2]; exact hx j
  intro j
  match j with
  | 0 => exact main 0 (by omega)
  | 1 => exact main 1 (by omega)
  | 2 => exact main 2 (by omega)
  | _ + 3 => exact main 3 (by omega)
theorem fit_p {x : NV} {p : PV} {k : Nat} (hL : x.Ln) (hp : L32 p.S) (hk : k < 4) : 1 + k * 35 + (Value.agg p.cells.toArray).cells.size ≤ x.cells.length := by
  have h1 : (Value.agg p.cells.toArray).cells.size = 35 := PV.len hp
  rw [h1, NV.len hL]
  omega
theorem setP_st {x : NV} {p : PV} {k : Nat} {w0 w : World} {T : TypeId} {a b : HA} {g : Nat} {L : List HA} (hL : x.Ln) (hp : L32 p.S) (hk : k < 4) (h : St w0 [] w ([a, b] ++ .blk g T (putAt x.cells (1 + k * 35) (Value.agg p.cells.toArray).cells.toList) :: L)) : St w0 [] w (a :: b :: .blk g T (x.set k p).cells :: L) := by
  rw [← put_node hL hk hp]
  exact h
theorem set_not (x : NV) (p : PV) (i : Int) (w : World) (hx : x.In w) (hc : x.ok = false) : Calls Try.prog 46 #[.agg x.cells.toArray, .int .i64 i, .agg p.cells.toArray] w fun e w' => e = .returned (.tuple #[.agg (zN 0).cells.toArray, .int .i64 2]) ∧ St w [] w' [] := by
  have hst := St.refl w
  have hL := hx.ln
  have hq := hid (NV.err_no hc)
  clear hc
  go_enter Try.func46, Try.ntmps46
  go_wp2_with (first | go_big_skip | go_big_guard | (refine wl_loadE rfl rfl rfl ?_; first | refine ⟨_, Loads.atA (x.cells) [_, _] hst3 (NV.len hL) (NV.all x), ?_⟩) | (refine wl_boxA hst rfl rfl rfl ?_; intro g w1 hst1; clear hst) | (refine wl_boxA hst1 rfl rfl rfl ?_; intro g2 w2 hst2; clear hst1) | (refine wl_alloc hst2 rfl rfl ?_; intro g3 w3 hst3; clear hst2) | (go_at_call 42; refine (ncheck_any x _ (NV.In.old hst3 hx)).mono ?_; rw [hq.out]; rintro _ _ ⟨rfl, h4⟩; replace hst3 := St.call0 hst3 h4; clear h4) | (refine wl_build0 rfl rfl ?_) | (refine wl_storeA [] hst3 rfl rfl rfl rfl (NV.len (zN_ln 0)) (zN_ones 0) (NV.len (zN_ln 0)) ?_; intro w4 hst4; clear hst3))
  go_goals
  have hl := Loads.atA (P := Try.prog) (off := 0) (T := 51) (zN 0).cells [] hst4 (NV.len (zN_ln 0)) (NV.all _)
  refine bodyPost_ret (results_cellTmp rfl rfl hl) rfl ⟨rfl, hst4.nil⟩
theorem set_off (x : NV) (p : PV) (k : Nat) (w : World) (hx : x.In w) (hp : p.In w) (hc : x.ok = true) (hk : k < 4) (hc2 : (x.set k p).ok = false) : Calls Try.prog 46 #[.agg x.cells.toArray, .int .i64 k, .agg p.cells.toArray] w fun e w' => e = .returned (.tuple #[.agg (zN 0).cells.toArray, .int .i64 2]) ∧ St w [] w' [] := by
  have hst := St.refl w
  have hL := hx.ln
  have hq := hid (NV.err_ok hc)
  have hq2 := hid (NV.err_no hc2)
  have hI := hid (NV.In.set hx hk hp)
  have hput := hid (put_node hL hk hp.1)
  have d0 : decide ((k : Int) < 0) = false := by simp
  have d4 : decide (4 ≤ (k : Int)) = false := by simp; omega
  clear hc hc2
  go_enter Try.func46, Try.ntmps46
  go_wp2_with (first | go_big_skip | go_big_guard | (refine wl_loadE rfl rfl rfl ?_; first | refine ⟨_, Loads.atA (x.cells) [_, _] hst3 (NV.len hL) (NV.all x), ?_⟩ | refine ⟨_, Loads.atA (p.cells) [_] hst3 (PV.len hp.1) (by simp), ?_⟩ | refine ⟨_, Loads.atA ((x.set k p).cells) [_, _] hst4 (NV.len hI.out.ln) (NV.all _), ?_⟩) | (refine wl_boxA hst rfl rfl rfl ?_; intro g w1 hst1; clear hst) | (refine wl_boxA hst1 rfl rfl rfl ?_; intro g2 w2 hst2; clear hst1) | (refine wl_alloc hst2 rfl rfl ?_; intro g3 w3 hst3; clear hst2) | (go_at_call 42; refine (ncheck_any x _ (NV.In.old hst3 hx)).mono ?_; rw [hq.out]; rintro _ _ ⟨rfl, h4⟩; replace hst3 := St.call0 hst3 h4; clear h4) | (refine wl_store [_, _] hst3 rfl rfl rfl (v := .agg p.cells.toArray) (off := 1 + k * 35) (n := 35) rfl (PV.len hp.1) (PV.ones hp) (fit_p hL hp.1 hk) ?_; intro w4 hst4; clear hst3; replace hst4 := setP_st hL hp.1 hk hst4) | (go_at_call 42; refine (ncheck_any (x.set k p) _ (NV.In.old hst4 hI.out)).mono ?_; rw [hq2.out]; rintro _ _ ⟨rfl, h4⟩; replace hst4 := St.call0 hst4 h4; clear h4) | (refine wl_build0 rfl rfl ?_) | (refine wl_storeA [] hst4 rfl rfl rfl rfl (NV.len (zN_ln 0)) (zN_ones 0) (NV.len (zN_ln 0)) ?_; intro w5 hst5; clear hst4))
  go_goals
  have hl := Loads.atA (P := Try.prog) (off := 0) (T := 51) (zN 0).cells [] hst5 (NV.len (zN_ln 0)) (NV.all _)
  refine bodyPost_ret (results_cellTmp rfl rfl hl) rfl ⟨rfl, hst5.nil⟩
theorem set_yes (x : NV) (p : PV) (k : Nat) (w : World) (hx : x.In w) (hp : p.In w) (hc : x.ok = true) (hk : k < 4) (hc2 : (x.set k p).ok = true) : Calls Try.prog 46 #[.agg x.cells.toArray, .int .i64 k, .agg p.cells.toArray] w fun e w' =>
    ∃ (y : NV) (R : List HA), e = .returned (.tuple #[.agg y.cells.toArray, .int .i64 0]) ∧ St w [] w' R ∧ y.lv = x.lv ∧ y.isO 42 (x.set k p) R 4 := by
  have hst := St.refl w
  have hL := hx.ln
  have hq := hid (NV.err_ok hc)
  have hq2 := hid (NV.err_ok hc2)
  have hI := hid (NV.In.set hx hk hp)
  have hput := hid (put_node hL hk hp.1)
  have d0 : decide ((k : Int) < 0) = false := by simp
  have d4 : decide (4 ≤ (k : Int)) = false := by simp; omega
  have hlen := hid (show ∀ j, j < 4 → ((x.set k p).get j).l.length ≤ 3 from fun j hj => (check_bd ((NV.ok_parts hc2).2.2 j hj)).1)
  clear hc hc2
  go_enter Try.func46, Try.ntmps46
  go_wp2_with (first | go_big_skip | go_big_guard | (refine wl_loadE rfl rfl rfl ?_; first | refine ⟨_, Loads.atA (x.cells) [_, _] hst3 (NV.len hL) (NV.all x), ?_⟩ | refine ⟨_, Loads.atA (p.cells) [_] hst3 (PV.len hp.1) (by simp), ?_⟩ | refine ⟨_, Loads.atA ((x.set k p).cells) [_, _] hst4 (NV.len hI.out.ln) (NV.all _), ?_⟩) | (refine wl_boxA hst rfl rfl rfl ?_; intro g w1 hst1; clear hst) | (refine wl_boxA hst1 rfl rfl rfl ?_; intro g2 w2 hst2; clear hst1) | (refine wl_alloc hst2 rfl rfl ?_; intro g3 w3 hst3; clear hst2) | (go_at_call 42; refine (ncheck_any x _ (NV.In.old hst3 hx)).mono ?_; rw [hq.out]; rintro _ _ ⟨rfl, h4⟩; replace hst3 := St.call0 hst3 h4; clear h4) | (refine wl_store [_, _] hst3 rfl rfl rfl (v := .agg p.cells.toArray) (off := 1 + k * 35) (n := 35) rfl (PV.len hp.1) (PV.ones hp) (fit_p hL hp.1 hk) ?_; intro w4 hst4; clear hst3; replace hst4 := setP_st hL hp.1 hk hst4) | (go_at_call 42; refine (ncheck_any (x.set k p) _ (NV.In.old hst4 hI.out)).mono ?_; rw [hq2.out]; rintro _ _ ⟨rfl, h4⟩; replace hst4 := St.call0 hst4 h4; clear h4) | (go_at_call 60; refine (own_any (x.set k p) _ (NV.In.old hst4 hI.out) hlen.out).mono ?_; rintro _ _ ⟨y, R, rfl, h4, hl, hO⟩; have hLv := hid hl; have HO := hid hO; have hst6 := (St.call hst4 h4).perm List.perm_append_comm; clear h4 hl hO hst4) | (refine wl_storeA [] hst6 rfl rfl rfl rfl (NV.len (NV.isO.ln HO.out hI.out.ln)) (NV.isO.ones HO.out hLv.out) (NV.len (zN_ln 0)) ?_; intro w7 hst7; clear hst6))
  go_goals
  have hl := Loads.atA (P := Try.prog) (off := 0) (T := 51) y.cells [] hst7 (NV.len (NV.isO.ln HO.out hI.out.ln)) (NV.all _)
  refine bodyPost_ret (results_cellTmp rfl rfl hl) rfl ⟨y, R, rfl, hst7.sub (.cons _ (.cons _ (.cons _ (List.Sublist.refl _)))), hLv.out.trans (NV.lv_set _ _ _), HO.out⟩
end Go.Proofs.Ythjafocnfpphlaa
