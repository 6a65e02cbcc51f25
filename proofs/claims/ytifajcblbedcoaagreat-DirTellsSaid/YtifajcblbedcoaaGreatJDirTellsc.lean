import Derived.Test.YtifajcblbedcoaaGreatD1
import Derived.Test.YtifajcblbedcoaaGreatJDirTellsa
import Derived.Test.YtifajcblbedcoaaGreatJDirTellsb
import Derived.Test.YtifajcblbedcoaaGreatDW
import Derived.Test.YtifajcblbedcoaaGreatSepY
import Derived.Deep.RegionHeld3
import Derived.Test.YtifajcblbedcoaaGreatOpenB
import Derived.Test.YtifajcblbedcoaaGreatOpenP
import Derived.Deep.Slices
namespace Go.Proofs.YtifajcblbedcoaaGreat
set_option linter.unusedVariables false
set_option linter.unusedSimpArgs false
open Go.RowKit Hp
attribute [local irreducible] Go.Calls Go.wpList Hp.gvV Hp.gB Hp.gA Hp.bOr Hp.bAnd Hp.bNot
set_option maxRecDepth 100000
set_option maxHeartbeats 4000000
theorem PV.lv (p : PV) (h : L32 p.S) : p.cells[2]? = some (.int .i64 p.v) := rfl
theorem alone_eq (x : Value × RC) : x.2.aloneB = ((((inB x.2.id 1 2147483647 && inB x.2.size 1 64) && inB x.2.made 1 2147483648) && rootB (x.2.pv x.1)) && x.2.kindB) := rfl
theorem rooted_any (p : PV) (w : World) (hp : p.In w) : Calls Tryz.prog 102 #[.agg p.cells.toArray] w fun e w' => e = .returned (.bool (rootB p)) ∧ St w [] w' [] := by
 have hst0 := St.refl w
 have HP := hid hp
 have H35 := hid (PV.len hp.1)
 clear hp
 unfold rootB
 obtain ⟨h, hh⟩ : ∃ h, h = p.hole := ⟨_, rfl⟩
 obtain ⟨k, hk⟩ : ∃ k, k = p.ok := ⟨_, rfl⟩
 rw [← hh, ← hk]
 have H1 := hid hh
 have H2 := hid hk
 clear hh hk
 cases h <;> cases k
 all_goals
  go_enter Tryz.func102, Tryz.ntmps102
  go_wp2_with (first | go_big_skip | go_big_guard | (refine wl_boxA hst0 rfl rfl rfl ?_; intro g4 w1 hst1; clear hst0) | (refine wl_loadE rfl rfl rfl ?_; first | refine ⟨_, Loads.atA p.cells [] hst1 H35.out (by simp), ?_⟩ | refine ⟨_, Loads.at [] hst1 rfl, ?_⟩) | (go_at_call 83; refine (hole_pv p _ (PV.In.old hst1 HP.out)).mono ?_; rw [← H1.out]; rintro _ w9 ⟨rfl, h4⟩; replace hst1 := St.call0 hst1 h4; clear h4) | (go_at_call 84; refine (check_pv p _ (PV.In.old hst1 HP.out)).mono ?_; rw [← H2.out]; rintro _ w9 ⟨rfl, h4⟩; replace hst1 := St.call0 hst1 h4; clear h4))
  go_ret
  exact ⟨rfl, hst1.nil⟩
end Go.Proofs.YtifajcblbedcoaaGreat
namespace Go.Proofs.YtifajcblbedcoaaGreat
set_option linter.unusedVariables false
set_option linter.unusedSimpArgs false
open Go.RowKit Hp
attribute [local irreducible] Go.Calls Go.wpList Hp.gvV Hp.gB Hp.gA Hp.bOr Hp.bAnd Hp.bNot inB rootB partB snapB
set_option maxRecDepth 100000
set_option maxHeartbeats 4000000
theorem alone_any (x : Value × RC) (w : World) (hx : RC.In w x) : Calls Tryz.prog 51 #[.agg (cellsR x).toArray] w fun e w' => e = .returned (.bool x.2.aloneB) ∧ St w [] w' [] := by
 have hst0 := St.refl w
 have HX := hid hx
 have HL := hid hx.L
 have H35 := hid (PV.len (p := x.2.pv x.1) hx.L)
 clear hx
 go_enter Tryz.func51, Tryz.ntmps51
 go_wp2_with (first | go_big_skip | (refine wl_boxA hst0 rfl rfl rfl ?_; intro g4 w1 hst; clear hst0) | (show wpList _ _ _ (Oper.mk _ (.fieldAddr 53 _ _) _ _ _ (some _) :: _) _ _; refine wl_gfldR rfl (by first | exact wanted_b rfl rfl | exact wanted_g rfl rfl) (by first | exact (fun hg => gvV_on hg) | exact (fun hg => gvV_gA hg) | exact (fun _ => rfl)) rfl ?_; (try simp only [Act.put, List.setIfInBounds_toArray, List.set_cons_zero, List.set_cons_succ])) | (show wpList _ _ _ (Oper.mk _ (.fieldAddr 32 _ 1) _ _ _ (some _) :: _) _ _; refine wl_gfld (d := 1) rfl (by first | exact wanted_b rfl rfl | exact wanted_g rfl rfl) (by first | exact (fun hg => gvV_on hg) | exact (fun hg => gvV_gA hg) | exact (fun _ => rfl)) (by kernel_rfl) ?_; (try simp only [Act.put, List.setIfInBounds_toArray, List.set_cons_zero, List.set_cons_succ])) | (show wpList _ _ _ (Oper.mk _ (.load _ _) _ _ _ (some _) :: _) _ _; refine wl_gloadE rfl (by first | exact wanted_b rfl rfl | exact wanted_g rfl rfl) (by first | exact (fun hg => gvV_on hg) | exact (fun hg => gvV_gA hg) | exact (fun _ => rfl)) ?_; (first | refine ⟨_, Loads.atA ((x.2.pv x.1).cells) [] hst H35.out (cellsR_root HL.out), ?_⟩ | refine ⟨_, Loads.at [] hst (cellsR_39 HL.out), ?_⟩ | refine ⟨_, Loads.at [] hst (cellsR_40 HL.out), ?_⟩ | refine ⟨_, Loads.at [] hst (cellsR_41 HL.out), ?_⟩ | refine ⟨_, Loads.at [] hst (cellsR_42 HL.out), ?_⟩ | refine ⟨_, Loads.at [] hst (cellsR_43 HL.out), ?_⟩ | refine ⟨_, Loads.at [] hst rfl, ?_⟩); (try simp only [Act.put, List.setIfInBounds_toArray, List.set_cons_zero, List.set_cons_succ]); (repeat ((first | (show wpList _ _ _ (Oper.mk _ (.move _) _ _ _ none :: _) _ _; refine wl_mv rfl rfl rfl ?_) | (show wpList _ _ _ (Oper.mk _ (.pick _ _ _) _ _ _ none :: _) _ _; (first | (refine wl_pickOr rfl rfl rfl rfl rfl ?_; intro q hq) | (refine wl_pickAnd rfl rfl rfl rfl rfl ?_; intro q hq))) | (show wpList _ _ _ (Oper.mk _ (.pick _ _ _) _ _ _ (some _) :: _) _ _; (first | (refine wl_gpickOr rfl (by first | exact wanted_b rfl rfl | exact wanted_g rfl rfl) rfl rfl rfl ?_; intro q hq) | (refine wl_gpickAnd rfl (by first | exact wanted_b rfl rfl | exact wanted_g rfl rfl) rfl rfl rfl ?_; intro q hq))) | (show wpList _ _ _ (Oper.mk _ (.move _) _ _ _ (some _) :: _) _ _; refine wl_gmove rfl (by first | exact wanted_b rfl rfl | exact wanted_g rfl rfl) (by first | exact (fun hg => gvV_on hg) | exact (fun hg => gvV_gA hg) | exact (fun _ => rfl)) ?_)); (try simp only [Act.put, List.setIfInBounds_toArray, List.set_cons_zero, List.set_cons_succ])))) | (show wpList _ _ _ (Oper.mk _ (.binOp _ 3 _ _ _) _ _ _ (some _) :: _) _ _; refine wl_gcmp rfl (by first | exact wanted_b rfl rfl | exact wanted_g rfl rfl) (by first | exact (fun hg => gvV_on hg) | exact (fun hg => gvV_gA hg) | exact (fun _ => rfl)) (by first | exact (fun hg => gvV_on hg) | exact (fun hg => gvV_gA hg) | exact (fun _ => rfl)) rfl ?_; (try simp only [Act.put, List.setIfInBounds_toArray, List.set_cons_zero, List.set_cons_succ]); (repeat ((first | (show wpList _ _ _ (Oper.mk _ (.move _) _ _ _ none :: _) _ _; refine wl_mv rfl rfl rfl ?_) | (show wpList _ _ _ (Oper.mk _ (.pick _ _ _) _ _ _ none :: _) _ _; (first | (refine wl_pickOr rfl rfl rfl rfl rfl ?_; intro q hq) | (refine wl_pickAnd rfl rfl rfl rfl rfl ?_; intro q hq))) | (show wpList _ _ _ (Oper.mk _ (.pick _ _ _) _ _ _ (some _) :: _) _ _; (first | (refine wl_gpickOr rfl (by first | exact wanted_b rfl rfl | exact wanted_g rfl rfl) rfl rfl rfl ?_; intro q hq) | (refine wl_gpickAnd rfl (by first | exact wanted_b rfl rfl | exact wanted_g rfl rfl) rfl rfl rfl ?_; intro q hq))) | (show wpList _ _ _ (Oper.mk _ (.move _) _ _ _ (some _) :: _) _ _; refine wl_gmove rfl (by first | exact wanted_b rfl rfl | exact wanted_g rfl rfl) (by first | exact (fun hg => gvV_on hg) | exact (fun hg => gvV_gA hg) | exact (fun _ => rfl)) ?_)); (try simp only [Act.put, List.setIfInBounds_toArray, List.set_cons_zero, List.set_cons_succ])))) | (show wpList _ _ _ (Oper.mk _ (.unOp .not _ _) _ _ _ (some _) :: _) _ _; refine wl_gnot rfl (by first | exact wanted_b rfl rfl | exact wanted_g rfl rfl) (by first | exact (fun hg => gvV_on hg) | exact (fun hg => gvV_gA hg) | exact (fun _ => rfl)) ?_; (try simp only [Act.put, List.setIfInBounds_toArray, List.set_cons_zero, List.set_cons_succ]); (repeat ((first | (show wpList _ _ _ (Oper.mk _ (.move _) _ _ _ none :: _) _ _; refine wl_mv rfl rfl rfl ?_) | (show wpList _ _ _ (Oper.mk _ (.pick _ _ _) _ _ _ none :: _) _ _; (first | (refine wl_pickOr rfl rfl rfl rfl rfl ?_; intro q hq) | (refine wl_pickAnd rfl rfl rfl rfl rfl ?_; intro q hq))) | (show wpList _ _ _ (Oper.mk _ (.pick _ _ _) _ _ _ (some _) :: _) _ _; (first | (refine wl_gpickOr rfl (by first | exact wanted_b rfl rfl | exact wanted_g rfl rfl) rfl rfl rfl ?_; intro q hq) | (refine wl_gpickAnd rfl (by first | exact wanted_b rfl rfl | exact wanted_g rfl rfl) rfl rfl rfl ?_; intro q hq))) | (show wpList _ _ _ (Oper.mk _ (.move _) _ _ _ (some _) :: _) _ _; refine wl_gmove rfl (by first | exact wanted_b rfl rfl | exact wanted_g rfl rfl) (by first | exact (fun hg => gvV_on hg) | exact (fun hg => gvV_gA hg) | exact (fun _ => rfl)) ?_)); (try simp only [Act.put, List.setIfInBounds_toArray, List.set_cons_zero, List.set_cons_succ])))) | (refine wl_loadE rfl rfl rfl ?_; first | refine ⟨_, Loads.atA ((x.2.pv x.1).cells) [] hst H35.out (cellsR_root HL.out), ?_⟩ | refine ⟨_, Loads.at [] hst (cellsR_39 HL.out), ?_⟩ | refine ⟨_, Loads.at [] hst (cellsR_40 HL.out), ?_⟩ | refine ⟨_, Loads.at [] hst (cellsR_41 HL.out), ?_⟩ | refine ⟨_, Loads.at [] hst (cellsR_42 HL.out), ?_⟩ | refine ⟨_, Loads.at [] hst (cellsR_43 HL.out), ?_⟩ | refine ⟨_, Loads.at [] hst rfl, ?_⟩) | (show wpList _ _ _ (Oper.mk _ (.call (Call.mk (.value (.func 47)) _ _)) _ _ _ (some _) :: _) _ _; refine wl_gcall (v := .bool (inB x.2.size 1 64)) hst (by first | exact wanted_b rfl rfl | exact wanted_g rfl rfl) ?_ ?_; (intro hg K hK; have Hg := hid hg; clear hg; go_simp; go_at_call 47; (try (conv => (arg 3; simp only [gvV_on Hg.out]))); refine (within_any x.2.size 1 64 _).mono ?_; rintro _ w9 ⟨rfl, h4⟩; have hk := hK _ (St.call0 hst h4); simp only [Act.put, List.setIfInBounds_toArray, List.set_cons_zero, List.set_cons_succ] at hk; dsimp only; exact hk); (intro w5 hst5; replace hst := hst5; clear hst5; (try simp only [Act.put, List.setIfInBounds_toArray, List.set_cons_zero, List.set_cons_succ]); (repeat ((first | (show wpList _ _ _ (Oper.mk _ (.move _) _ _ _ none :: _) _ _; refine wl_mv rfl rfl rfl ?_) | (show wpList _ _ _ (Oper.mk _ (.pick _ _ _) _ _ _ none :: _) _ _; (first | (refine wl_pickOr rfl rfl rfl rfl rfl ?_; intro q hq) | (refine wl_pickAnd rfl rfl rfl rfl rfl ?_; intro q hq))) | (show wpList _ _ _ (Oper.mk _ (.pick _ _ _) _ _ _ (some _) :: _) _ _; (first | (refine wl_gpickOr rfl (by first | exact wanted_b rfl rfl | exact wanted_g rfl rfl) rfl rfl rfl ?_; intro q hq) | (refine wl_gpickAnd rfl (by first | exact wanted_b rfl rfl | exact wanted_g rfl rfl) rfl rfl rfl ?_; intro q hq))) | (show wpList _ _ _ (Oper.mk _ (.move _) _ _ _ (some _) :: _) _ _; refine wl_gmove rfl (by first | exact wanted_b rfl rfl | exact wanted_g rfl rfl) (by first | exact (fun hg => gvV_on hg) | exact (fun hg => gvV_gA hg) | exact (fun _ => rfl)) ?_)); (try simp only [Act.put, List.setIfInBounds_toArray, List.set_cons_zero, List.set_cons_succ]))))) | (show wpList _ _ _ (Oper.mk _ (.call (Call.mk (.value (.func 47)) _ _)) _ _ _ (some _) :: _) _ _; refine wl_gcall (v := .bool (inB x.2.made 1 2147483648)) hst (by first | exact wanted_b rfl rfl | exact wanted_g rfl rfl) ?_ ?_; (intro hg K hK; have Hg := hid hg; clear hg; go_simp; go_at_call 47; (try (conv => (arg 3; simp only [gvV_on Hg.out]))); refine (within_any x.2.made 1 2147483648 _).mono ?_; rintro _ w9 ⟨rfl, h4⟩; have hk := hK _ (St.call0 hst h4); simp only [Act.put, List.setIfInBounds_toArray, List.set_cons_zero, List.set_cons_succ] at hk; dsimp only; exact hk); (intro w5 hst5; replace hst := hst5; clear hst5; (try simp only [Act.put, List.setIfInBounds_toArray, List.set_cons_zero, List.set_cons_succ]); (repeat ((first | (show wpList _ _ _ (Oper.mk _ (.move _) _ _ _ none :: _) _ _; refine wl_mv rfl rfl rfl ?_) | (show wpList _ _ _ (Oper.mk _ (.pick _ _ _) _ _ _ none :: _) _ _; (first | (refine wl_pickOr rfl rfl rfl rfl rfl ?_; intro q hq) | (refine wl_pickAnd rfl rfl rfl rfl rfl ?_; intro q hq))) | (show wpList _ _ _ (Oper.mk _ (.pick _ _ _) _ _ _ (some _) :: _) _ _; (first | (refine wl_gpickOr rfl (by first | exact wanted_b rfl rfl | exact wanted_g rfl rfl) rfl rfl rfl ?_; intro q hq) | (refine wl_gpickAnd rfl (by first | exact wanted_b rfl rfl | exact wanted_g rfl rfl) rfl rfl rfl ?_; intro q hq))) | (show wpList _ _ _ (Oper.mk _ (.move _) _ _ _ (some _) :: _) _ _; refine wl_gmove rfl (by first | exact wanted_b rfl rfl | exact wanted_g rfl rfl) (by first | exact (fun hg => gvV_on hg) | exact (fun hg => gvV_gA hg) | exact (fun _ => rfl)) ?_)); (try simp only [Act.put, List.setIfInBounds_toArray, List.set_cons_zero, List.set_cons_succ]))))) | (show wpList _ _ _ (Oper.mk _ (.call (Call.mk (.value (.func 47)) _ _)) _ _ _ (some _) :: _) _ _; refine wl_gcall (v := .bool (inB x.2.origin 0 2147483647)) hst (by first | exact wanted_b rfl rfl | exact wanted_g rfl rfl) ?_ ?_; (intro hg K hK; have Hg := hid hg; clear hg; go_simp; go_at_call 47; (try (conv => (arg 3; simp only [gvV_on Hg.out]))); refine (within_any x.2.origin 0 2147483647 _).mono ?_; rintro _ w9 ⟨rfl, h4⟩; have hk := hK _ (St.call0 hst h4); simp only [Act.put, List.setIfInBounds_toArray, List.set_cons_zero, List.set_cons_succ] at hk; dsimp only; exact hk); (intro w5 hst5; replace hst := hst5; clear hst5; (try simp only [Act.put, List.setIfInBounds_toArray, List.set_cons_zero, List.set_cons_succ]); (repeat ((first | (show wpList _ _ _ (Oper.mk _ (.move _) _ _ _ none :: _) _ _; refine wl_mv rfl rfl rfl ?_) | (show wpList _ _ _ (Oper.mk _ (.pick _ _ _) _ _ _ none :: _) _ _; (first | (refine wl_pickOr rfl rfl rfl rfl rfl ?_; intro q hq) | (refine wl_pickAnd rfl rfl rfl rfl rfl ?_; intro q hq))) | (show wpList _ _ _ (Oper.mk _ (.pick _ _ _) _ _ _ (some _) :: _) _ _; (first | (refine wl_gpickOr rfl (by first | exact wanted_b rfl rfl | exact wanted_g rfl rfl) rfl rfl rfl ?_; intro q hq) | (refine wl_gpickAnd rfl (by first | exact wanted_b rfl rfl | exact wanted_g rfl rfl) rfl rfl rfl ?_; intro q hq))) | (show wpList _ _ _ (Oper.mk _ (.move _) _ _ _ (some _) :: _) _ _; refine wl_gmove rfl (by first | exact wanted_b rfl rfl | exact wanted_g rfl rfl) (by first | exact (fun hg => gvV_on hg) | exact (fun hg => gvV_gA hg) | exact (fun _ => rfl)) ?_)); (try simp only [Act.put, List.setIfInBounds_toArray, List.set_cons_zero, List.set_cons_succ]))))) | (show wpList _ _ _ (Oper.mk _ (.call (Call.mk (.value (.func 47)) _ _)) _ _ _ (some _) :: _) _ _; refine wl_gcall (v := .bool (inB x.2.quota 0 64)) hst (by first | exact wanted_b rfl rfl | exact wanted_g rfl rfl) ?_ ?_; (intro hg K hK; have Hg := hid hg; clear hg; go_simp; go_at_call 47; (try (conv => (arg 3; simp only [gvV_on Hg.out]))); refine (within_any x.2.quota 0 64 _).mono ?_; rintro _ w9 ⟨rfl, h4⟩; have hk := hK _ (St.call0 hst h4); simp only [Act.put, List.setIfInBounds_toArray, List.set_cons_zero, List.set_cons_succ] at hk; dsimp only; exact hk); (intro w5 hst5; replace hst := hst5; clear hst5; (try simp only [Act.put, List.setIfInBounds_toArray, List.set_cons_zero, List.set_cons_succ]); (repeat ((first | (show wpList _ _ _ (Oper.mk _ (.move _) _ _ _ none :: _) _ _; refine wl_mv rfl rfl rfl ?_) | (show wpList _ _ _ (Oper.mk _ (.pick _ _ _) _ _ _ none :: _) _ _; (first | (refine wl_pickOr rfl rfl rfl rfl rfl ?_; intro q hq) | (refine wl_pickAnd rfl rfl rfl rfl rfl ?_; intro q hq))) | (show wpList _ _ _ (Oper.mk _ (.pick _ _ _) _ _ _ (some _) :: _) _ _; (first | (refine wl_gpickOr rfl (by first | exact wanted_b rfl rfl | exact wanted_g rfl rfl) rfl rfl rfl ?_; intro q hq) | (refine wl_gpickAnd rfl (by first | exact wanted_b rfl rfl | exact wanted_g rfl rfl) rfl rfl rfl ?_; intro q hq))) | (show wpList _ _ _ (Oper.mk _ (.move _) _ _ _ (some _) :: _) _ _; refine wl_gmove rfl (by first | exact wanted_b rfl rfl | exact wanted_g rfl rfl) (by first | exact (fun hg => gvV_on hg) | exact (fun hg => gvV_gA hg) | exact (fun _ => rfl)) ?_)); (try simp only [Act.put, List.setIfInBounds_toArray, List.set_cons_zero, List.set_cons_succ]))))) | (show wpList _ _ _ (Oper.mk _ (.call (Call.mk (.value (.func 47)) _ _)) _ _ _ (some _) :: _) _ _; refine wl_gcall (v := .bool (inB x.2.reserve 0 64)) hst (by first | exact wanted_b rfl rfl | exact wanted_g rfl rfl) ?_ ?_; (intro hg K hK; have Hg := hid hg; clear hg; go_simp; go_at_call 47; (try (conv => (arg 3; simp only [gvV_on Hg.out]))); refine (within_any x.2.reserve 0 64 _).mono ?_; rintro _ w9 ⟨rfl, h4⟩; have hk := hK _ (St.call0 hst h4); simp only [Act.put, List.setIfInBounds_toArray, List.set_cons_zero, List.set_cons_succ] at hk; dsimp only; exact hk); (intro w5 hst5; replace hst := hst5; clear hst5; (try simp only [Act.put, List.setIfInBounds_toArray, List.set_cons_zero, List.set_cons_succ]); (repeat ((first | (show wpList _ _ _ (Oper.mk _ (.move _) _ _ _ none :: _) _ _; refine wl_mv rfl rfl rfl ?_) | (show wpList _ _ _ (Oper.mk _ (.pick _ _ _) _ _ _ none :: _) _ _; (first | (refine wl_pickOr rfl rfl rfl rfl rfl ?_; intro q hq) | (refine wl_pickAnd rfl rfl rfl rfl rfl ?_; intro q hq))) | (show wpList _ _ _ (Oper.mk _ (.pick _ _ _) _ _ _ (some _) :: _) _ _; (first | (refine wl_gpickOr rfl (by first | exact wanted_b rfl rfl | exact wanted_g rfl rfl) rfl rfl rfl ?_; intro q hq) | (refine wl_gpickAnd rfl (by first | exact wanted_b rfl rfl | exact wanted_g rfl rfl) rfl rfl rfl ?_; intro q hq))) | (show wpList _ _ _ (Oper.mk _ (.move _) _ _ _ (some _) :: _) _ _; refine wl_gmove rfl (by first | exact wanted_b rfl rfl | exact wanted_g rfl rfl) (by first | exact (fun hg => gvV_on hg) | exact (fun hg => gvV_gA hg) | exact (fun _ => rfl)) ?_)); (try simp only [Act.put, List.setIfInBounds_toArray, List.set_cons_zero, List.set_cons_succ]))))) | (show wpList _ _ _ (Oper.mk _ (.call (Call.mk (.value (.func 47)) _ _)) _ _ _ (some _) :: _) _ _; refine wl_gcall (v := .bool (inB x.2.own 1 2147483647)) hst (by first | exact wanted_b rfl rfl | exact wanted_g rfl rfl) ?_ ?_; (intro hg K hK; have Hg := hid hg; clear hg; go_simp; go_at_call 47; (try (conv => (arg 3; simp only [gvV_on Hg.out]))); refine (within_any x.2.own 1 2147483647 _).mono ?_; rintro _ w9 ⟨rfl, h4⟩; have hk := hK _ (St.call0 hst h4); simp only [Act.put, List.setIfInBounds_toArray, List.set_cons_zero, List.set_cons_succ] at hk; dsimp only; exact hk); (intro w5 hst5; replace hst := hst5; clear hst5; (try simp only [Act.put, List.setIfInBounds_toArray, List.set_cons_zero, List.set_cons_succ]); (repeat ((first | (show wpList _ _ _ (Oper.mk _ (.move _) _ _ _ none :: _) _ _; refine wl_mv rfl rfl rfl ?_) | (show wpList _ _ _ (Oper.mk _ (.pick _ _ _) _ _ _ none :: _) _ _; (first | (refine wl_pickOr rfl rfl rfl rfl rfl ?_; intro q hq) | (refine wl_pickAnd rfl rfl rfl rfl rfl ?_; intro q hq))) | (show wpList _ _ _ (Oper.mk _ (.pick _ _ _) _ _ _ (some _) :: _) _ _; (first | (refine wl_gpickOr rfl (by first | exact wanted_b rfl rfl | exact wanted_g rfl rfl) rfl rfl rfl ?_; intro q hq) | (refine wl_gpickAnd rfl (by first | exact wanted_b rfl rfl | exact wanted_g rfl rfl) rfl rfl rfl ?_; intro q hq))) | (show wpList _ _ _ (Oper.mk _ (.move _) _ _ _ (some _) :: _) _ _; refine wl_gmove rfl (by first | exact wanted_b rfl rfl | exact wanted_g rfl rfl) (by first | exact (fun hg => gvV_on hg) | exact (fun hg => gvV_gA hg) | exact (fun _ => rfl)) ?_)); (try simp only [Act.put, List.setIfInBounds_toArray, List.set_cons_zero, List.set_cons_succ]))))) | (show wpList _ _ _ (Oper.mk _ (.call (Call.mk (.value (.func 102)) _ _)) _ _ _ (some _) :: _) _ _; refine wl_gcall (v := .bool (rootB (x.2.pv x.1))) hst (by first | exact wanted_b rfl rfl | exact wanted_g rfl rfl) ?_ ?_; (intro hg K hK; have Hg := hid hg; clear hg; go_simp; go_at_call 102; (try (conv => (arg 3; simp only [gvV_on Hg.out]))); refine (rooted_any (x.2.pv x.1) _ (PV.In.old hst HX.out.1)).mono ?_; rintro _ w9 ⟨rfl, h4⟩; have hk := hK _ (St.call0 hst h4); simp only [Act.put, List.setIfInBounds_toArray, List.set_cons_zero, List.set_cons_succ] at hk; dsimp only; exact hk); (intro w5 hst5; replace hst := hst5; clear hst5; (try simp only [Act.put, List.setIfInBounds_toArray, List.set_cons_zero, List.set_cons_succ]); (repeat ((first | (show wpList _ _ _ (Oper.mk _ (.move _) _ _ _ none :: _) _ _; refine wl_mv rfl rfl rfl ?_) | (show wpList _ _ _ (Oper.mk _ (.pick _ _ _) _ _ _ none :: _) _ _; (first | (refine wl_pickOr rfl rfl rfl rfl rfl ?_; intro q hq) | (refine wl_pickAnd rfl rfl rfl rfl rfl ?_; intro q hq))) | (show wpList _ _ _ (Oper.mk _ (.pick _ _ _) _ _ _ (some _) :: _) _ _; (first | (refine wl_gpickOr rfl (by first | exact wanted_b rfl rfl | exact wanted_g rfl rfl) rfl rfl rfl ?_; intro q hq) | (refine wl_gpickAnd rfl (by first | exact wanted_b rfl rfl | exact wanted_g rfl rfl) rfl rfl rfl ?_; intro q hq))) | (show wpList _ _ _ (Oper.mk _ (.move _) _ _ _ (some _) :: _) _ _; refine wl_gmove rfl (by first | exact wanted_b rfl rfl | exact wanted_g rfl rfl) (by first | exact (fun hg => gvV_on hg) | exact (fun hg => gvV_gA hg) | exact (fun _ => rfl)) ?_)); (try simp only [Act.put, List.setIfInBounds_toArray, List.set_cons_zero, List.set_cons_succ]))))) | (go_at_call 47; refine (within_any x.2.id _ _ _).mono ?_; rintro _ w9 ⟨rfl, h4⟩; replace hst := St.call0 hst h4; clear h4; (try simp only [Act.put, List.setIfInBounds_toArray, List.set_cons_zero, List.set_cons_succ]); (repeat ((first | (show wpList _ _ _ (Oper.mk _ (.move _) _ _ _ none :: _) _ _; refine wl_mv rfl rfl rfl ?_) | (show wpList _ _ _ (Oper.mk _ (.pick _ _ _) _ _ _ none :: _) _ _; (first | (refine wl_pickOr rfl rfl rfl rfl rfl ?_; intro q hq) | (refine wl_pickAnd rfl rfl rfl rfl rfl ?_; intro q hq))) | (show wpList _ _ _ (Oper.mk _ (.pick _ _ _) _ _ _ (some _) :: _) _ _; (first | (refine wl_gpickOr rfl (by first | exact wanted_b rfl rfl | exact wanted_g rfl rfl) rfl rfl rfl ?_; intro q hq) | (refine wl_gpickAnd rfl (by first | exact wanted_b rfl rfl | exact wanted_g rfl rfl) rfl rfl rfl ?_; intro q hq))) | (show wpList _ _ _ (Oper.mk _ (.move _) _ _ _ (some _) :: _) _ _; refine wl_gmove rfl (by first | exact wanted_b rfl rfl | exact wanted_g rfl rfl) (by first | exact (fun hg => gvV_on hg) | exact (fun hg => gvV_gA hg) | exact (fun _ => rfl)) ?_)); (try simp only [Act.put, List.setIfInBounds_toArray, List.set_cons_zero, List.set_cons_succ])))) | (go_at_call 62; refine (volume_any x.2.name _ HX.out.2).mono ?_; rintro _ w9 ⟨rfl, h4⟩; replace hst := St.call0 hst h4; clear h4; (try simp only [Act.put, List.setIfInBounds_toArray, List.set_cons_zero, List.set_cons_succ]); (repeat ((first | (show wpList _ _ _ (Oper.mk _ (.move _) _ _ _ none :: _) _ _; refine wl_mv rfl rfl rfl ?_) | (show wpList _ _ _ (Oper.mk _ (.pick _ _ _) _ _ _ none :: _) _ _; (first | (refine wl_pickOr rfl rfl rfl rfl rfl ?_; intro q hq) | (refine wl_pickAnd rfl rfl rfl rfl rfl ?_; intro q hq))) | (show wpList _ _ _ (Oper.mk _ (.pick _ _ _) _ _ _ (some _) :: _) _ _; (first | (refine wl_gpickOr rfl (by first | exact wanted_b rfl rfl | exact wanted_g rfl rfl) rfl rfl rfl ?_; intro q hq) | (refine wl_gpickAnd rfl (by first | exact wanted_b rfl rfl | exact wanted_g rfl rfl) rfl rfl rfl ?_; intro q hq))) | (show wpList _ _ _ (Oper.mk _ (.move _) _ _ _ (some _) :: _) _ _; refine wl_gmove rfl (by first | exact wanted_b rfl rfl | exact wanted_g rfl rfl) (by first | exact (fun hg => gvV_on hg) | exact (fun hg => gvV_gA hg) | exact (fun _ => rfl)) ?_)); (try simp only [Act.put, List.setIfInBounds_toArray, List.set_cons_zero, List.set_cons_succ])))) | (go_at_call 71; refine (snap_any x.2.name _ HX.out.2).mono ?_; rintro _ w9 ⟨rfl, h4⟩; replace hst := St.call0 hst h4; clear h4; (try simp only [Act.put, List.setIfInBounds_toArray, List.set_cons_zero, List.set_cons_succ]); (repeat ((first | (show wpList _ _ _ (Oper.mk _ (.move _) _ _ _ none :: _) _ _; refine wl_mv rfl rfl rfl ?_) | (show wpList _ _ _ (Oper.mk _ (.pick _ _ _) _ _ _ none :: _) _ _; (first | (refine wl_pickOr rfl rfl rfl rfl rfl ?_; intro q hq) | (refine wl_pickAnd rfl rfl rfl rfl rfl ?_; intro q hq))) | (show wpList _ _ _ (Oper.mk _ (.pick _ _ _) _ _ _ (some _) :: _) _ _; (first | (refine wl_gpickOr rfl (by first | exact wanted_b rfl rfl | exact wanted_g rfl rfl) rfl rfl rfl ?_; intro q hq) | (refine wl_gpickAnd rfl (by first | exact wanted_b rfl rfl | exact wanted_g rfl rfl) rfl rfl rfl ?_; intro q hq))) | (show wpList _ _ _ (Oper.mk _ (.move _) _ _ _ (some _) :: _) _ _; refine wl_gmove rfl (by first | exact wanted_b rfl rfl | exact wanted_g rfl rfl) (by first | exact (fun hg => gvV_on hg) | exact (fun hg => gvV_gA hg) | exact (fun _ => rfl)) ?_)); (try simp only [Act.put, List.setIfInBounds_toArray, List.set_cons_zero, List.set_cons_succ])))))
 all_goals go_ret
 all_goals refine ⟨congrArg (fun z => Ending.returned (Value.bool z)) (?_ : (_ : Bool) = x.2.aloneB), hst.nil⟩
 all_goals
  have e := alone_eq x
  clear HX HL H35 hst
  rw [e, RC.kindB]
  clear e
  simp only [hid_iff, bNot_eq] at *
  (simp_all only [← Bool.not_and, ← Bool.not_or, bne, Bool.not_eq_true', Bool.not_eq_false', Bool.false_or, Bool.true_or, Bool.or_false, Bool.or_true, Bool.not_true, Bool.not_false, Bool.and_true, Bool.and_false, Bool.true_and, Bool.false_and, if_true, if_false, Bool.false_eq_true]) <;> rfl
end Go.Proofs.YtifajcblbedcoaaGreat
namespace Go.Proofs.YtifajcblbedcoaaGreat
set_option linter.unusedVariables false
set_option linter.unusedSimpArgs false
open Go.RowKit Hp
attribute [local irreducible] Go.Calls Go.wpList Hp.gvV Hp.gB Hp.gA Hp.bOr Hp.bAnd Hp.bNot PV.same
set_option maxRecDepth 100000
set_option maxHeartbeats 8000000
section
variable {p q : PV} {w : World} (hp : p.In w) (hq : q.In w)
include hp hq
end
theorem kitRec_any (x y : Value × RC) (w : World) (hx : RC.In w x) (hy : RC.In w y) : Calls Tryz.prog 44 #[.agg (cellsR x).toArray, .agg (cellsR y).toArray] w fun e w' => e = .returned (.bool (x.2.sameB y.2)) ∧ St w [] w' [] := by
 have hst0 := St.refl w
 have HX := hid hx
 have HY := hid hy
 have HLX := hid hx.L
 have HLY := hid hy.L
 have H35x := hid (PV.len (p := x.2.pv x.1) hx.L)
 have H35y := hid (PV.len (p := y.2.pv y.1) hy.L)
 clear hx hy
 go_enter Tryz.func44, Tryz.ntmps44
 (try simp only [List.append])
 go_wp2_with (first | go_big_skip | (refine wl_boxA hst0 rfl rfl rfl ?_; intro gx w1 hst1; clear hst0) | (refine wl_boxA hst1 rfl rfl rfl ?_; intro gy w1 hst; clear hst1) | (show wpList _ _ _ (Oper.mk _ (.fieldAddr 53 _ _) _ _ _ (some _) :: _) _ _; refine wl_gfldR rfl (by first | exact wanted_b rfl rfl | exact wanted_g rfl rfl) (by first | exact (fun hg => gvV_on hg) | exact (fun hg => gvV_gA hg) | exact (fun _ => rfl)) rfl ?_; (try simp only [Act.put, List.setIfInBounds_toArray, List.set_cons_zero, List.set_cons_succ])) | (show wpList _ _ _ (Oper.mk _ (.load _ _) _ _ _ (some _) :: _) _ _; refine wl_gloadE rfl (by first | exact wanted_b rfl rfl | exact wanted_g rfl rfl) (by first | exact (fun hg => gvV_on hg) | exact (fun hg => gvV_gA hg) | exact (fun _ => rfl)) ?_; (first | refine ⟨_, Loads.atA ((y.2.pv y.1).cells) [] hst H35y.out (cellsR_root HLY.out), ?_⟩ | refine ⟨_, Loads.at [] hst (cellsR_39 HLY.out), ?_⟩ | refine ⟨_, Loads.at [] hst (cellsR_40 HLY.out), ?_⟩ | refine ⟨_, Loads.at [] hst (cellsR_41 HLY.out), ?_⟩ | refine ⟨_, Loads.at [] hst (cellsR_42 HLY.out), ?_⟩ | refine ⟨_, Loads.at [] hst (cellsR_43 HLY.out), ?_⟩ | refine ⟨_, Loads.at [] hst rfl, ?_⟩ | refine ⟨_, Loads.atA ((x.2.pv x.1).cells) [_] hst H35x.out (cellsR_root HLX.out), ?_⟩ | refine ⟨_, Loads.at [_] hst (cellsR_39 HLX.out), ?_⟩ | refine ⟨_, Loads.at [_] hst (cellsR_40 HLX.out), ?_⟩ | refine ⟨_, Loads.at [_] hst (cellsR_41 HLX.out), ?_⟩ | refine ⟨_, Loads.at [_] hst (cellsR_42 HLX.out), ?_⟩ | refine ⟨_, Loads.at [_] hst (cellsR_43 HLX.out), ?_⟩ | refine ⟨_, Loads.at [_] hst rfl, ?_⟩); (try simp only [Act.put, List.setIfInBounds_toArray, List.set_cons_zero, List.set_cons_succ]); (repeat ((first | (show wpList _ _ _ (Oper.mk _ (.move _) _ _ _ none :: _) _ _; refine wl_mv rfl rfl rfl ?_) | (show wpList _ _ _ (Oper.mk _ (.pick _ _ _) _ _ _ none :: _) _ _; (first | (refine wl_pickOr rfl rfl rfl rfl rfl ?_; intro q hq) | (refine wl_pickAnd rfl rfl rfl rfl rfl ?_; intro q hq))) | (show wpList _ _ _ (Oper.mk _ (.pick _ _ _) _ _ _ (some _) :: _) _ _; (first | (refine wl_gpickOr rfl (by first | exact wanted_b rfl rfl | exact wanted_g rfl rfl) rfl rfl rfl ?_; intro q hq) | (refine wl_gpickAnd rfl (by first | exact wanted_b rfl rfl | exact wanted_g rfl rfl) rfl rfl rfl ?_; intro q hq))) | (show wpList _ _ _ (Oper.mk _ (.move _) _ _ _ (some _) :: _) _ _; refine wl_gmove rfl (by first | exact wanted_b rfl rfl | exact wanted_g rfl rfl) (by first | exact (fun hg => gvV_on hg) | exact (fun hg => gvV_gA hg) | exact (fun _ => rfl)) ?_)); (try simp only [Act.put, List.setIfInBounds_toArray, List.set_cons_zero, List.set_cons_succ])))) | (show wpList _ _ _ (Oper.mk _ (.binOp _ 3 _ _ _) _ _ _ (some _) :: _) _ _; refine wl_gcmp rfl (by first | exact wanted_b rfl rfl | exact wanted_g rfl rfl) (by first | exact (fun hg => gvV_on hg) | exact (fun hg => gvV_gA hg) | exact (fun _ => rfl)) (by first | exact (fun hg => gvV_on hg) | exact (fun hg => gvV_gA hg) | exact (fun _ => rfl)) rfl ?_; (try simp only [Act.put, List.setIfInBounds_toArray, List.set_cons_zero, List.set_cons_succ]); (repeat ((first | (show wpList _ _ _ (Oper.mk _ (.move _) _ _ _ none :: _) _ _; refine wl_mv rfl rfl rfl ?_) | (show wpList _ _ _ (Oper.mk _ (.pick _ _ _) _ _ _ none :: _) _ _; (first | (refine wl_pickOr rfl rfl rfl rfl rfl ?_; intro q hq) | (refine wl_pickAnd rfl rfl rfl rfl rfl ?_; intro q hq))) | (show wpList _ _ _ (Oper.mk _ (.pick _ _ _) _ _ _ (some _) :: _) _ _; (first | (refine wl_gpickOr rfl (by first | exact wanted_b rfl rfl | exact wanted_g rfl rfl) rfl rfl rfl ?_; intro q hq) | (refine wl_gpickAnd rfl (by first | exact wanted_b rfl rfl | exact wanted_g rfl rfl) rfl rfl rfl ?_; intro q hq))) | (show wpList _ _ _ (Oper.mk _ (.move _) _ _ _ (some _) :: _) _ _; refine wl_gmove rfl (by first | exact wanted_b rfl rfl | exact wanted_g rfl rfl) (by first | exact (fun hg => gvV_on hg) | exact (fun hg => gvV_gA hg) | exact (fun _ => rfl)) ?_)); (try simp only [Act.put, List.setIfInBounds_toArray, List.set_cons_zero, List.set_cons_succ])))) | (show wpList _ _ _ (Oper.mk _ (.binOp .neq 9 _ _ _) _ _ _ (some _) :: _) _ _; refine wl_gneqS rfl (by first | exact wanted_b rfl rfl | exact wanted_g rfl rfl) (by first | exact (fun hg => gvV_on hg) | exact (fun hg => gvV_gA hg) | exact (fun _ => rfl)) (by first | exact (fun hg => gvV_on hg) | exact (fun hg => gvV_gA hg) | exact (fun _ => rfl)) ?_; (try simp only [Act.put, List.setIfInBounds_toArray, List.set_cons_zero, List.set_cons_succ]); (repeat ((first | (show wpList _ _ _ (Oper.mk _ (.move _) _ _ _ none :: _) _ _; refine wl_mv rfl rfl rfl ?_) | (show wpList _ _ _ (Oper.mk _ (.pick _ _ _) _ _ _ none :: _) _ _; (first | (refine wl_pickOr rfl rfl rfl rfl rfl ?_; intro q hq) | (refine wl_pickAnd rfl rfl rfl rfl rfl ?_; intro q hq))) | (show wpList _ _ _ (Oper.mk _ (.pick _ _ _) _ _ _ (some _) :: _) _ _; (first | (refine wl_gpickOr rfl (by first | exact wanted_b rfl rfl | exact wanted_g rfl rfl) rfl rfl rfl ?_; intro q hq) | (refine wl_gpickAnd rfl (by first | exact wanted_b rfl rfl | exact wanted_g rfl rfl) rfl rfl rfl ?_; intro q hq))) | (show wpList _ _ _ (Oper.mk _ (.move _) _ _ _ (some _) :: _) _ _; refine wl_gmove rfl (by first | exact wanted_b rfl rfl | exact wanted_g rfl rfl) (by first | exact (fun hg => gvV_on hg) | exact (fun hg => gvV_gA hg) | exact (fun _ => rfl)) ?_)); (try simp only [Act.put, List.setIfInBounds_toArray, List.set_cons_zero, List.set_cons_succ])))) | (show wpList _ _ _ (Oper.mk _ (.binOp .eql 9 _ _ _) _ _ _ (some _) :: _) _ _; refine wl_geqS rfl (by first | exact wanted_b rfl rfl | exact wanted_g rfl rfl) (by first | exact (fun hg => gvV_on hg) | exact (fun hg => gvV_gA hg) | exact (fun _ => rfl)) (by first | exact (fun hg => gvV_on hg) | exact (fun hg => gvV_gA hg) | exact (fun _ => rfl)) ?_; (try simp only [Act.put, List.setIfInBounds_toArray, List.set_cons_zero, List.set_cons_succ]); (repeat ((first | (show wpList _ _ _ (Oper.mk _ (.move _) _ _ _ none :: _) _ _; refine wl_mv rfl rfl rfl ?_) | (show wpList _ _ _ (Oper.mk _ (.pick _ _ _) _ _ _ none :: _) _ _; (first | (refine wl_pickOr rfl rfl rfl rfl rfl ?_; intro q hq) | (refine wl_pickAnd rfl rfl rfl rfl rfl ?_; intro q hq))) | (show wpList _ _ _ (Oper.mk _ (.pick _ _ _) _ _ _ (some _) :: _) _ _; (first | (refine wl_gpickOr rfl (by first | exact wanted_b rfl rfl | exact wanted_g rfl rfl) rfl rfl rfl ?_; intro q hq) | (refine wl_gpickAnd rfl (by first | exact wanted_b rfl rfl | exact wanted_g rfl rfl) rfl rfl rfl ?_; intro q hq))) | (show wpList _ _ _ (Oper.mk _ (.move _) _ _ _ (some _) :: _) _ _; refine wl_gmove rfl (by first | exact wanted_b rfl rfl | exact wanted_g rfl rfl) (by first | exact (fun hg => gvV_on hg) | exact (fun hg => gvV_gA hg) | exact (fun _ => rfl)) ?_)); (try simp only [Act.put, List.setIfInBounds_toArray, List.set_cons_zero, List.set_cons_succ])))) | (show wpList _ _ _ (Oper.mk _ (.binOp .neq 9 _ _ _) _ _ _ none :: _) _ _; refine wl_neqS rfl rfl rfl rfl ?_; (try simp only [Act.put, List.setIfInBounds_toArray, List.set_cons_zero, List.set_cons_succ]); (repeat ((first | (show wpList _ _ _ (Oper.mk _ (.move _) _ _ _ none :: _) _ _; refine wl_mv rfl rfl rfl ?_) | (show wpList _ _ _ (Oper.mk _ (.pick _ _ _) _ _ _ none :: _) _ _; (first | (refine wl_pickOr rfl rfl rfl rfl rfl ?_; intro q hq) | (refine wl_pickAnd rfl rfl rfl rfl rfl ?_; intro q hq))) | (show wpList _ _ _ (Oper.mk _ (.pick _ _ _) _ _ _ (some _) :: _) _ _; (first | (refine wl_gpickOr rfl (by first | exact wanted_b rfl rfl | exact wanted_g rfl rfl) rfl rfl rfl ?_; intro q hq) | (refine wl_gpickAnd rfl (by first | exact wanted_b rfl rfl | exact wanted_g rfl rfl) rfl rfl rfl ?_; intro q hq))) | (show wpList _ _ _ (Oper.mk _ (.move _) _ _ _ (some _) :: _) _ _; refine wl_gmove rfl (by first | exact wanted_b rfl rfl | exact wanted_g rfl rfl) (by first | exact (fun hg => gvV_on hg) | exact (fun hg => gvV_gA hg) | exact (fun _ => rfl)) ?_)); (try simp only [Act.put, List.setIfInBounds_toArray, List.set_cons_zero, List.set_cons_succ])))) | (show wpList _ _ _ (Oper.mk _ (.binOp .eql 9 _ _ _) _ _ _ none :: _) _ _; refine wl_eqS rfl rfl rfl rfl ?_; (try simp only [Act.put, List.setIfInBounds_toArray, List.set_cons_zero, List.set_cons_succ]); (repeat ((first | (show wpList _ _ _ (Oper.mk _ (.move _) _ _ _ none :: _) _ _; refine wl_mv rfl rfl rfl ?_) | (show wpList _ _ _ (Oper.mk _ (.pick _ _ _) _ _ _ none :: _) _ _; (first | (refine wl_pickOr rfl rfl rfl rfl rfl ?_; intro q hq) | (refine wl_pickAnd rfl rfl rfl rfl rfl ?_; intro q hq))) | (show wpList _ _ _ (Oper.mk _ (.pick _ _ _) _ _ _ (some _) :: _) _ _; (first | (refine wl_gpickOr rfl (by first | exact wanted_b rfl rfl | exact wanted_g rfl rfl) rfl rfl rfl ?_; intro q hq) | (refine wl_gpickAnd rfl (by first | exact wanted_b rfl rfl | exact wanted_g rfl rfl) rfl rfl rfl ?_; intro q hq))) | (show wpList _ _ _ (Oper.mk _ (.move _) _ _ _ (some _) :: _) _ _; refine wl_gmove rfl (by first | exact wanted_b rfl rfl | exact wanted_g rfl rfl) (by first | exact (fun hg => gvV_on hg) | exact (fun hg => gvV_gA hg) | exact (fun _ => rfl)) ?_)); (try simp only [Act.put, List.setIfInBounds_toArray, List.set_cons_zero, List.set_cons_succ])))) | (show wpList _ _ _ (Oper.mk _ (.call (Call.mk (.builtin .len) _ #[9])) _ _ _ (some _) :: _) _ _; refine wl_glenS rfl (by first | exact wanted_b rfl rfl | exact wanted_g rfl rfl) (by first | exact (fun hg => gvV_on hg) | exact (fun hg => gvV_gA hg) | exact (fun _ => rfl)) ?_; (try simp only [Act.put, List.setIfInBounds_toArray, List.set_cons_zero, List.set_cons_succ])) | (show wpList _ _ _ (Oper.mk _ (.unOp .not _ _) _ _ _ (some _) :: _) _ _; refine wl_gnot rfl (by first | exact wanted_b rfl rfl | exact wanted_g rfl rfl) (by first | exact (fun hg => gvV_on hg) | exact (fun hg => gvV_gA hg) | exact (fun _ => rfl)) ?_; (try simp only [Act.put, List.setIfInBounds_toArray, List.set_cons_zero, List.set_cons_succ]); (repeat ((first | (show wpList _ _ _ (Oper.mk _ (.move _) _ _ _ none :: _) _ _; refine wl_mv rfl rfl rfl ?_) | (show wpList _ _ _ (Oper.mk _ (.pick _ _ _) _ _ _ none :: _) _ _; (first | (refine wl_pickOr rfl rfl rfl rfl rfl ?_; intro q hq) | (refine wl_pickAnd rfl rfl rfl rfl rfl ?_; intro q hq))) | (show wpList _ _ _ (Oper.mk _ (.pick _ _ _) _ _ _ (some _) :: _) _ _; (first | (refine wl_gpickOr rfl (by first | exact wanted_b rfl rfl | exact wanted_g rfl rfl) rfl rfl rfl ?_; intro q hq) | (refine wl_gpickAnd rfl (by first | exact wanted_b rfl rfl | exact wanted_g rfl rfl) rfl rfl rfl ?_; intro q hq))) | (show wpList _ _ _ (Oper.mk _ (.move _) _ _ _ (some _) :: _) _ _; refine wl_gmove rfl (by first | exact wanted_b rfl rfl | exact wanted_g rfl rfl) (by first | exact (fun hg => gvV_on hg) | exact (fun hg => gvV_gA hg) | exact (fun _ => rfl)) ?_)); (try simp only [Act.put, List.setIfInBounds_toArray, List.set_cons_zero, List.set_cons_succ])))) | (refine wl_loadE rfl rfl rfl ?_; first | refine ⟨_, Loads.atA ((y.2.pv y.1).cells) [] hst H35y.out (cellsR_root HLY.out), ?_⟩ | refine ⟨_, Loads.at [] hst (cellsR_39 HLY.out), ?_⟩ | refine ⟨_, Loads.at [] hst (cellsR_40 HLY.out), ?_⟩ | refine ⟨_, Loads.at [] hst (cellsR_41 HLY.out), ?_⟩ | refine ⟨_, Loads.at [] hst (cellsR_42 HLY.out), ?_⟩ | refine ⟨_, Loads.at [] hst (cellsR_43 HLY.out), ?_⟩ | refine ⟨_, Loads.at [] hst rfl, ?_⟩ | refine ⟨_, Loads.atA ((x.2.pv x.1).cells) [_] hst H35x.out (cellsR_root HLX.out), ?_⟩ | refine ⟨_, Loads.at [_] hst (cellsR_39 HLX.out), ?_⟩ | refine ⟨_, Loads.at [_] hst (cellsR_40 HLX.out), ?_⟩ | refine ⟨_, Loads.at [_] hst (cellsR_41 HLX.out), ?_⟩ | refine ⟨_, Loads.at [_] hst (cellsR_42 HLX.out), ?_⟩ | refine ⟨_, Loads.at [_] hst (cellsR_43 HLX.out), ?_⟩ | refine ⟨_, Loads.at [_] hst rfl, ?_⟩) | (show wpList _ _ _ (Oper.mk _ (.call (Call.mk (.value (.func 17)) _ _)) _ _ _ (some _) :: _) _ _; refine wl_gcall (v := .bool ((x.2.pv x.1).same (y.2.pv y.1))) hst (by first | exact wanted_b rfl rfl | exact wanted_g rfl rfl) ?_ ?_; (intro hg K hK; have Hg := hid hg; clear hg; go_simp; go_at_call 17; (try (conv => (arg 3; simp only [gvV_on Hg.out]))); refine (same_pv (x.2.pv x.1) (y.2.pv y.1) _ (PV.In.old hst HX.out.1) (PV.In.old hst HY.out.1)).mono ?_; rintro _ w9 ⟨rfl, h4⟩; have hk := hK _ (St.call0 hst h4); simp only [Act.put, List.setIfInBounds_toArray, List.set_cons_zero, List.set_cons_succ] at hk; dsimp only; exact hk); (intro w5 hst5; replace hst := hst5; clear hst5; (try simp only [Act.put, List.setIfInBounds_toArray, List.set_cons_zero, List.set_cons_succ]); (repeat ((first | (show wpList _ _ _ (Oper.mk _ (.move _) _ _ _ none :: _) _ _; refine wl_mv rfl rfl rfl ?_) | (show wpList _ _ _ (Oper.mk _ (.pick _ _ _) _ _ _ none :: _) _ _; (first | (refine wl_pickOr rfl rfl rfl rfl rfl ?_; intro q hq) | (refine wl_pickAnd rfl rfl rfl rfl rfl ?_; intro q hq))) | (show wpList _ _ _ (Oper.mk _ (.pick _ _ _) _ _ _ (some _) :: _) _ _; (first | (refine wl_gpickOr rfl (by first | exact wanted_b rfl rfl | exact wanted_g rfl rfl) rfl rfl rfl ?_; intro q hq) | (refine wl_gpickAnd rfl (by first | exact wanted_b rfl rfl | exact wanted_g rfl rfl) rfl rfl rfl ?_; intro q hq))) | (show wpList _ _ _ (Oper.mk _ (.move _) _ _ _ (some _) :: _) _ _; refine wl_gmove rfl (by first | exact wanted_b rfl rfl | exact wanted_g rfl rfl) (by first | exact (fun hg => gvV_on hg) | exact (fun hg => gvV_gA hg) | exact (fun _ => rfl)) ?_)); (try simp only [Act.put, List.setIfInBounds_toArray, List.set_cons_zero, List.set_cons_succ]))))))
 all_goals go_ret
 all_goals refine ⟨congrArg (fun z => Ending.returned (Value.bool z)) (?_ : (_ : Bool) = x.2.sameB y.2), hst.nil⟩
 all_goals
  have e := RC.sameB_pv x.2 y.2 x.1 y.1
  clear HX HY HLX HLY H35x H35y hst
  rw [e]
  clear e
  simp only [hid_iff, bNot_eq, bAnd_eq] at *
  subst_vars
  ac_rfl
end Go.Proofs.YtifajcblbedcoaaGreat
namespace Go.Proofs.YtifajcblbedcoaaGreat
set_option linter.unusedVariables false
set_option linter.unusedSimpArgs false
open Go.RowKit Hp
attribute [local irreducible] Go.Calls
set_option maxRecDepth 100000
set_option maxHeartbeats 4000000
theorem idxI_map {α β : Type} (f : α → β) (p : β → Bool) (l : List α) : idxI p (l.map f) = idxI (fun x => p (f x)) l := by
 induction l with
 | nil => rfl
 | cons x l ih => simp [idxI, ih]
theorem twinC_any {w : World} {g : Nat} {q : Int} (h0 : w.cell? ⟨g, 0, none⟩ = some (.int .i64 q)) (x : Value × RC) (hx : RC.In w x) : Calls Tryz.prog 108 #[.agg (cellsR x).toArray, .pointer (some ⟨g, 0, none⟩)] w fun e w' => e = .returned (.bool (x.2.id == q)) ∧ St w [] w' [] := by
 have hst0 := St.refl w
 have H0 := hid h0
 clear h0
 go_enter Tryz.func108, Tryz.ntmps108
 go_wp2_with (first | go_big_skip | go_big_guard | (refine wl_boxA hst0 rfl rfl rfl ?_; intro g4 w1 hst1; clear hst0) | (refine wl_loadE rfl rfl rfl ?_; first | refine ⟨_, Loads.at [] hst1 rfl, ?_⟩ | refine ⟨_, Loads.old hst1 H0.out, ?_⟩))
 go_ret
 exact ⟨rfl, hst1.nil⟩
theorem originC_any {w : World} {g : Nat} {q : Int} (h0 : w.cell? ⟨g, 41, none⟩ = some (.int .i64 q)) (x : Value × RC) (hx : RC.In w x) : Calls Tryz.prog 109 #[.agg (cellsR x).toArray, .pointer (some ⟨g, 0, none⟩)] w fun e w' => e = .returned (.bool ((x.2.id == q) && (x.2.kind == 2))) ∧ St w [] w' [] := by
 have hst0 := St.refl w
 have H0 := hid h0
 clear h0
 obtain ⟨k, hk⟩ : ∃ k, k = (x.2.id == q) := ⟨_, rfl⟩
 rw [← hk]
 have d1 : (x.2.id == q) = k := hk.symm
 clear hk
 cases k
 ·go_enter Tryz.func109, Tryz.ntmps109
  go_wp2_with (first | go_big_skip | go_big_guard | (refine wl_boxA hst0 rfl rfl rfl ?_; intro g4 w1 hst1; clear hst0) | (refine wl_loadE rfl rfl rfl ?_; first | refine ⟨_, Loads.at [] hst1 rfl, ?_⟩ | refine ⟨_, Loads.old hst1 H0.out, ?_⟩))
  go_ret
  exact ⟨rfl, hst1.nil⟩
 ·go_enter Tryz.func109, Tryz.ntmps109
  go_wp2_with (first | go_big_skip | go_big_guard | (refine wl_boxA hst0 rfl rfl rfl ?_; intro g4 w1 hst1; clear hst0) | (refine wl_loadE rfl rfl rfl ?_; first | refine ⟨_, Loads.at [] hst1 rfl, ?_⟩ | refine ⟨_, Loads.old hst1 H0.out, ?_⟩))
  go_ret
  exact ⟨rfl, hst1.nil⟩
theorem livesC_any (n : Int) (w : World) : Calls Tryz.prog 50 #[.int .i64 n] w fun e w' => e = .returned (.bool (!(inB n 0 2147483647))) ∧ St w [] w' [] := by
 have hst0 := St.refl w
 go_enter Tryz.func50, Tryz.ntmps50
 go_wp2_with (first | go_big_skip | go_big_guard | (go_at_call 47; refine (within_any _ _ _ _).mono ?_; rintro _ w9 ⟨rfl, h4⟩; have hst := St.call0 hst0 h4; clear h4))
 go_ret
 exact ⟨rfl, hst⟩
theorem indexR_any (fn g : Nat) (p : RC → Bool) (ao : Option Addr) (n c : Nat) (xs : List (Value × RC)) (w : World) (hfn : ∀ (a : Array Value) (w : World), (callFunc fn a).run Tryz.prog w = .ok (.enter fn a) w)
  (hcl : ∀ (x : Value × RC) (w' : World), x ∈ xs → St w [] w' [] → Calls Tryz.prog fn #[.agg (cellsR x).toArray, .pointer (some ⟨g, 0, none⟩)] w' fun e w2 => e = .returned (.bool (p x.2)) ∧ St w' [] w2 []) (hl : RecsIn w (.slice ao n c) n xs) (hb : n ≤ 1000000) :
  Calls Tryz.prog 107 #[.slice ao n c, capV fn g] w fun e w' => e = .returned (.int .i64 (idxI p (xs.map (·.2)))) ∧ St w [] w' [] := by
 have hst := St.refl w
 have HR := hid hl
 unfold capV
 rw [idxI_map]
 clear hl
 go_enter Tryz.func107, Tryz.ntmps107
 go_wp2_with (first | go_big_skip | go_big_guard | fail)
 go_loopw [8] (fun i wr => ∃ j : Nat, j ≤ n ∧ i = .int .i64 (j : Int) ∧ St w [] wr [] ∧ Hid (∀ x ∈ xs.take j, p x.2 = false)) (fun i _ => n - (intOf i).toNat)
 case atStart => exact ⟨0, Nat.zero_le _, rfl, hst, hid (by simp)⟩
 case round =>
  clear hst
  obtain ⟨j, hj, rfl, hst, HP⟩ := hrel
  by_cases hlt : j < n
  ·have d1 : decide ((j : Int) < (n : Int)) = true := decide_eq_true (by omega)
   have z1 : IntKind.i64.wrap ((j : Int) + 1) = (j : Int) + 1 := IntWalk.i64_in _ (by omega)
   obtain ⟨x, b, off, hx, rfl, hin, hr⟩ := RecsIn.at HR.out hlt
   have HX := hid hx
   have HL := hid (cellsR_len hin.L)
   have hm := hid (List.mem_of_getElem? hx)
   have HWR := hid hr
   obtain ⟨q, hq⟩ : ∃ q, q = p x.2 := ⟨_, rfl⟩
   have HQ := hid hq
   clear hx hq hr hin
   cases q
   ·go_wp2_with (first | go_big_skip | go_big_guard | (refine wl_index rfl rfl rfl rfl hlt ?_) | (refine wl_loadE rfl rfl rfl ?_; refine ⟨_, Loads.oldA (cs := cellsR x) hst HL.out HWR.out, ?_⟩) | (refine (hcl x _ hm.out hst).mono ?_; rw [← HQ.out]; rintro _ w9 ⟨rfl, h4⟩; have hst1 := St.call0 hst h4; clear h4 hst))
    go_roundw
    case rel =>
     refine ⟨j + 1, by omega, rfl, hst1, hid (fun y hy => ?_)⟩
     rw [List.take_add_one, HX.out] at hy
     rcases List.mem_append.1 hy with hy | hy
     ·exact HP.out y hy
     ·simp at hy
      rw [hy, ← HQ.out]
    case measure => simp [intOf]; omega
   ·go_wp2_with (first | go_big_skip | go_big_guard | (refine wl_index rfl rfl rfl rfl hlt ?_) | (refine wl_loadE rfl rfl rfl ?_; refine ⟨_, Loads.oldA (cs := cellsR x) hst HL.out HWR.out, ?_⟩) | (refine (hcl x _ hm.out hst).mono ?_; rw [← HQ.out]; rintro _ w9 ⟨rfl, h4⟩; have hst1 := St.call0 hst h4; clear h4 hst))
    go_ret
    refine ⟨?_, hst1⟩
    have hjl : j < xs.length := by rw [HR.out.len]; exact hlt
    have e1 : xs[j] = x := by
     have := HX.out
     rw [List.getElem?_eq_getElem hjl] at this
     exact Option.some.inj this
    have e2 : idxI (fun x : Value × RC => p x.2) xs = j := idxI_first hjl (by show p xs[j].2 = true; rw [e1, ← HQ.out]) (fun i hi => HP.out _ (by
     rw [List.mem_take_iff_getElem]
     exact ⟨i, by omega, rfl⟩))
    rw [e2]
    rfl
  ·have d1 : decide ((j : Int) < (n : Int)) = false := decide_eq_false (by omega)
   go_wp2_with (first | go_big_skip | go_big_guard | fail)
   go_ret
   refine ⟨?_, hst⟩
   have e2 : idxI (fun x : Value × RC => p x.2) xs = -1 := idxI_none (fun y hy => HP.out y (by rw [List.take_of_length_le (by rw [HR.out.len]; omega)]; exact hy))
   rw [e2]
   rfl
theorem indexI_any {w0 : World} {M : List Nat} {L : List HA} (fn : Nat) (p : Int → Bool) (ao : Option Addr) (n c : Nat) (l : List (Int)) (w : World) (hfn : ∀ (a : Array Value) (w : World), (callFunc fn a).run Tryz.prog w = .ok (.enter fn a) w)
  (hcl : ∀ (x : Int) (w : World), x ∈ l → Calls Tryz.prog fn #[(fun x => Value.int .i64 x) x] w fun e w' => e = .returned (.bool (p x)) ∧ St w [] w' []) (hl : Rd w (.slice ao n c) 1 n (numsV l)) (hn : l.length = n) (hb : n ≤ 1000000) :
  Calls Tryz.prog 101 #[.slice ao n c, .func (.func fn) #[] #[]] w fun e w' => e = .returned (.int .i64 (idxI p l)) ∧ St w [] w' [] := by
 have hst := St.refl w
 have HN := hid hn
 clear hn
 go_enter Tryz.func101, Tryz.ntmps101
 go_wp2_with (first | go_big_skip | go_big_guard | fail)
 go_loopw [8] (fun i wr => ∃ j : Nat, j ≤ n ∧ i = .int .i64 (j : Int) ∧ St w [] wr [] ∧ Hid (∀ x ∈ l.take j, p x = false)) (fun i _ => n - (intOf i).toNat)
 case atStart => exact ⟨0, Nat.zero_le _, rfl, hst, hid (by simp)⟩
 case round =>
  clear hst
  obtain ⟨j, hj, rfl, hst, HP⟩ := hrel
  by_cases hlt : j < n
  ·have d1 : decide ((j : Int) < (n : Int)) = true := decide_eq_true (by omega)
   have z1 : IntKind.i64.wrap ((j : Int) + 1) = (j : Int) + 1 := IntWalk.i64_in _ (by omega)
   have hjl : j < l.length := by rw [HN.out]; exact hlt
   obtain ⟨x, hx⟩ : ∃ x, l[j]? = some x := ⟨_, List.getElem?_eq_getElem hjl⟩
   have HX := hid hx
   have hm := hid (List.mem_of_getElem? hx)
   obtain ⟨b, off, rfl, hr⟩ := Rd.at hl hlt
   have hcell := hid (hr j _ (numsV_get hx))
   obtain ⟨q, hq⟩ : ∃ q, q = p x := ⟨_, rfl⟩
   have HQ := hid hq
   clear hx hq hr hjl
   cases q
   ·go_wp2_with (first | go_big_skip | go_big_guard | (refine wl_index rfl rfl rfl rfl hlt ?_) | (refine wl_loadE rfl rfl rfl ?_; refine ⟨_, Loads.old hst (by rw [Nat.mul_one]; exact hcell.out), ?_⟩) | (refine (hcl x _ hm.out).mono ?_; rw [← HQ.out]; rintro _ w9 ⟨rfl, h4⟩; have hst1 := St.call0 hst h4; clear h4 hst))
    go_roundw
    case rel =>
     refine ⟨j + 1, by omega, rfl, hst1, hid (fun y hy => ?_)⟩
     rw [List.take_add_one, HX.out] at hy
     rcases List.mem_append.1 hy with hy | hy
     ·exact HP.out y hy
     ·simp at hy
      rw [hy, ← HQ.out]
    case measure => simp [intOf]; omega
   ·go_wp2_with (first | go_big_skip | go_big_guard | (refine wl_index rfl rfl rfl rfl hlt ?_) | (refine wl_loadE rfl rfl rfl ?_; refine ⟨_, Loads.old hst (by rw [Nat.mul_one]; exact hcell.out), ?_⟩) | (refine (hcl x _ hm.out).mono ?_; rw [← HQ.out]; rintro _ w9 ⟨rfl, h4⟩; have hst1 := St.call0 hst h4; clear h4 hst))
    go_ret
    refine ⟨?_, hst1⟩
    have hjl : j < l.length := by rw [HN.out]; exact hlt
    have e1 : l[j] = x := by
     have := HX.out
     rw [List.getElem?_eq_getElem hjl] at this
     exact Option.some.inj this
    have e2 : idxI p l = j := idxI_first hjl (by rw [e1, ← HQ.out]) (fun i hi => HP.out _ (by
     rw [List.mem_take_iff_getElem]
     exact ⟨i, by omega, rfl⟩))
    rw [e2]
    rfl
  ·have d1 : decide ((j : Int) < (n : Int)) = false := decide_eq_false (by omega)
   go_wp2_with (first | go_big_skip | go_big_guard | fail)
   go_ret
   refine ⟨?_, hst⟩
   have e2 : idxI p l = -1 := idxI_none (fun y hy => HP.out y (by rw [List.take_of_length_le (by rw [HN.out]; omega)]; exact hy))
   rw [e2]
   rfl
theorem containsI_any {w0 : World} {M : List Nat} {L : List HA} (fn : Nat) (p : Int → Bool) (ao : Option Addr) (n c : Nat) (l : List (Int)) (w : World) (hfn : ∀ (a : Array Value) (w : World), (callFunc fn a).run Tryz.prog w = .ok (.enter fn a) w)
  (hcl : ∀ (x : Int) (w : World), x ∈ l → Calls Tryz.prog fn #[(fun x => Value.int .i64 x) x] w fun e w' => e = .returned (.bool (p x)) ∧ St w [] w' []) (hl : Rd w (.slice ao n c) 1 n (numsV l)) (hn : l.length = n) (hb : n ≤ 1000000) :
  Calls Tryz.prog 49 #[.slice ao n c, .func (.func fn) #[] #[]] w fun e w' => e = .returned (.bool (l.any p)) ∧ St w [] w' [] := by
 have hst := St.refl w
 have HN := hid hn
 have HA := hid (idxI_any p l)
 clear hn
 go_enter Tryz.func49, Tryz.ntmps49
 go_wp2_with (first | go_big_skip | go_big_guard | (go_at_call 101; refine (indexI_any (w0 := w) (M := []) (L := []) fn p ao n c l _ hfn hcl (Rd.old hst hl) HN.out hb).mono ?_; rintro _ w9 ⟨rfl, h4⟩; have hst1 := St.call0 hst h4; clear h4 hst))
 go_ret
 refine ⟨?_, hst1⟩
 rw [← HA.out]
 rfl
end Go.Proofs.YtifajcblbedcoaaGreat
namespace Go.Proofs.YtifajcblbedcoaaGreat
set_option linter.unusedVariables false
set_option linter.unusedSimpArgs false
open Go.RowKit Hp
attribute [local irreducible] Go.Calls
set_option maxRecDepth 100000
set_option maxHeartbeats 4000000
def tabC (t : TC) (rv lv : Value) : List Value := [.int .i64 t.next, rv, .int .i64 t.kind, .int .i64 t.dev, .int .i64 t.at_, .int .i64 t.txg, lv]
def findP (name : List UInt8) (l : List RC) : Int × Bool := if findN name l < 0 then (0, false) else (findN name l, true)
theorem findP_at {name : List UInt8} {xs : List (Value × RC)} {j : Nat} {x : Value × RC} (hj : xs[j]? = some x) (hx : (x.2.name == name) = true) (h0 : ∀ y ∈ xs.take j, (y.2.name == name) = false) : findP name (xs.map (·.2)) = ((j : Int), true) := by
 obtain ⟨hlt, hg⟩ := List.getElem?_eq_some_iff.1 hj
 have e : findN name (xs.map (·.2)) = j := by
  unfold findN
  rw [idxI_map]
  exact idxI_first hlt (by show (xs[j].2.name == name) = true; rw [hg]; exact hx) (fun i hi => h0 _ (by rw [List.mem_take_iff_getElem]; exact ⟨i, by omega, rfl⟩))
 unfold findP
 rw [e, if_neg (by omega)]
theorem findP_no {name : List UInt8} {xs : List (Value × RC)} (h0 : ∀ y ∈ xs, (y.2.name == name) = false) : findP name (xs.map (·.2)) = (0, false) := by
 have e : findN name (xs.map (·.2)) = -1 := by
  unfold findN
  rw [idxI_map]
  exact idxI_none (fun y hy => h0 y hy)
 unfold findP
 rw [e, if_pos (by omega)]
theorem find_any (t : TC) (lv : Value) (name : List UInt8) (ar : Option Addr) (nr cr : Nat) (xs : List (Value × RC)) (w : World) (hR : RecsIn w (.slice ar nr cr) nr xs) (hb : nr ≤ 1000000) :
  Calls Tryz.prog 57 #[.agg (tabC t (.slice ar nr cr) lv).toArray, str name] w fun e w' => e = .returned (.tuple #[.int .i64 (findP name (xs.map (·.2))).1, .bool (findP name (xs.map (·.2))).2]) ∧ St w [] w' [] := by
 have hst0 := St.refl w
 have HR := hid hR
 clear hR
 unfold findP
 have HN := hid (show idxI (fun x => x.name == name) (xs.map (·.2)) = findN name (xs.map (·.2)) from rfl)
 obtain ⟨n, hn⟩ : ∃ n, n = findN name (xs.map (·.2)) := ⟨_, rfl⟩
 rw [← hn]
 have HN2 := hid hn
 clear hn
 by_cases h0 : n < 0
 ·have d1 : decide (n ≥ 0) = false := decide_eq_false (by omega)
  have d2 : decide (0 ≤ n) = false := d1
  have m1 : max n 0 = 0 := by rw [Int.max_def]; split <;> omega
  rw [if_pos h0]
  clear h0
  go_enter Tryz.func57, Tryz.ntmps57
  go_wp2_with (first | go_big_skip | go_big_guard | (refine wl_boxA hst0 rfl rfl rfl ?_; intro g1 w1 hst1; clear hst0) | (refine wl_box hst1 rfl rfl rfl ?_; intro g2 w2 hst2; clear hst1) | (refine wl_loadE rfl rfl rfl ?_; first | refine ⟨_, Loads.at [_] hst2 rfl, ?_⟩) | (go_at_call 107; refine (indexR_any 114 g2 (fun x => x.name == name) ar nr cr xs _ (fun _ _ => rfl) (fun x w' hx h => findC_any (St.old_cell h (hst2.cell (g := g2) (off := 0) (.head _) rfl) (by simp)) x ((HR.out.old (hst2.nil)).old h |>.each x hx)) (HR.out.old hst2.nil) hb).mono ?_; rw [HN.out, ← HN2.out]; rintro _ w9 ⟨rfl, h4⟩; have hst := St.call0 hst2 h4; clear h4))
  go_ret2
  exact ⟨rfl, hst.nil⟩
 ·have d1 : decide (n ≥ 0) = true := decide_eq_true (by omega)
  have d2 : decide (0 ≤ n) = true := d1
  have m1 : max n 0 = n := by rw [Int.max_def]; split <;> omega
  rw [if_neg h0]
  clear h0
  go_enter Tryz.func57, Tryz.ntmps57
  go_wp2_with (first | go_big_skip | go_big_guard | (refine wl_boxA hst0 rfl rfl rfl ?_; intro g1 w1 hst1; clear hst0) | (refine wl_box hst1 rfl rfl rfl ?_; intro g2 w2 hst2; clear hst1) | (refine wl_loadE rfl rfl rfl ?_; first | refine ⟨_, Loads.at [_] hst2 rfl, ?_⟩) | (go_at_call 107; refine (indexR_any 114 g2 (fun x => x.name == name) ar nr cr xs _ (fun _ _ => rfl) (fun x w' hx h => findC_any (St.old_cell h (hst2.cell (g := g2) (off := 0) (.head _) rfl) (by simp)) x ((HR.out.old (hst2.nil)).old h |>.each x hx)) (HR.out.old hst2.nil) hb).mono ?_; rw [HN.out, ← HN2.out]; rintro _ w9 ⟨rfl, h4⟩; have hst := St.call0 hst2 h4; clear h4))
  go_ret2
  exact ⟨rfl, hst.nil⟩
theorem refFind_any (t : TC) (lv : Value) (name : List UInt8) (ar : Option Addr) (nr cr : Nat) (xs : List (Value × RC)) (w : World) (hR : RecsIn w (.slice ar nr cr) nr xs) (hb : nr ≤ 1000000) :
  Calls Tryz.prog 91 #[.agg (tabC t (.slice ar nr cr) lv).toArray, str name] w fun e w' => e = .returned (.tuple #[.int .i64 (findP name (xs.map (·.2))).1, .bool (findP name (xs.map (·.2))).2]) ∧ St w [] w' [] := by
 have hst0 := St.refl w
 have HR := hid hR
 clear hR
 obtain ⟨R, hP⟩ : ∃ R, R = findP name (xs.map (·.2)) := ⟨_, rfl⟩
 rw [← hP]
 have HRR := hid hP
 clear hP
 go_enter Tryz.func91, Tryz.ntmps91
 go_wp2_with (first | go_big_skip | go_big_guard | (refine wl_boxA hst0 rfl rfl rfl ?_; intro g1 w1 hst1; clear hst0) | (refine wl_loadE rfl rfl rfl ?_; first | refine ⟨_, Loads.at [] hst1 rfl, ?_⟩))
 go_loopw [6] (fun i wr => ∃ j : Nat, j ≤ nr ∧ i = .int .i64 (j : Int) ∧ St w [] wr [.blk g1 27 (tabC t (.slice ar nr cr) lv)] ∧ Hid (∀ x ∈ xs.take j, (x.2.name == name) = false)) (fun i _ => nr - (intOf i).toNat)
 case atStart => exact ⟨0, Nat.zero_le _, rfl, hst1, hid (by simp)⟩
 case round =>
  clear hst1
  obtain ⟨j, hj, rfl, hst, HP⟩ := hrel
  by_cases hlt : j < nr
  ·have d1 : decide ((j : Int) < (nr : Int)) = true := decide_eq_true (by omega)
   have z1 : IntKind.i64.wrap ((j : Int) + 1) = (j : Int) + 1 := IntWalk.i64_in _ (by omega)
   obtain ⟨x, b, off, hx, rfl, hin, hr⟩ := RecsIn.at HR.out hlt
   have HX := hid hx
   have hname := hid (hr 1 _ (rfl : (cellsR x)[1]? = some (.string ⟨x.2.name.toArray⟩)))
   clear hx hr hin
   obtain ⟨q, hq⟩ : ∃ q, q = (x.2.name == name) := ⟨_, rfl⟩
   have HQ := hid hq
   clear hq
   cases q
   all_goals
    go_wp2_with (first | go_big_skip | go_big_guard | (refine wl_index rfl rfl rfl rfl hlt ?_) | (refine wl_loadE rfl rfl rfl ?_; first | refine ⟨_, Loads.at [] hst rfl, ?_⟩ | refine ⟨_, Loads.old hst hname.out, ?_⟩) | (refine wl_eqS rfl rfl rfl rfl ?_; rw [← HQ.out]))
    first
     | (go_ret2; exact ⟨by rw [HRR.out, findP_at HX.out HQ.out.symm HP.out]; rfl, hst.nil⟩)
     | (go_roundw; (case rel =>
       refine ⟨j + 1, by omega, rfl, hst, hid (fun y hy => ?_)⟩
       rw [List.take_add_one, HX.out] at hy
       rcases List.mem_append.1 hy with hy | hy
       ·exact HP.out y hy
       ·simp at hy
        rw [hy, ← HQ.out]); (case measure => simp [intOf]; omega))
  ·have d1 : decide ((j : Int) < (nr : Int)) = false := decide_eq_false (by omega)
   go_wp2_with (first | go_big_skip | go_big_guard | (refine wl_loadE rfl rfl rfl ?_; first | refine ⟨_, Loads.at [] hst rfl, ?_⟩))
   go_ret2
   refine ⟨?_, hst.nil⟩
   rw [HRR.out, findP_no (fun y hy => HP.out y (by rw [List.take_of_length_le (by rw [HR.out.len]; omega)]; exact hy))]
   rfl
end Go.Proofs.YtifajcblbedcoaaGreat
namespace Go.Proofs.YtifajcblbedcoaaGreat
set_option linter.unusedVariables false
set_option linter.unusedSimpArgs false
open Go.RowKit Hp
attribute [local irreducible] Go.Calls
set_option maxRecDepth 100000
set_option maxHeartbeats 4000000
theorem cursored_any (t : TC) (rv : Value) (al : Option Addr) (nl cl : Nat) (hn : t.lives.length = nl) (hb : nl ≤ 1000000) (w : World) :
  Calls Tryz.prog 48 #[.agg (tabC t rv (.slice al nl cl)).toArray] w fun e w' => e = .returned (.bool t.curB) ∧ St w [] w' [] := by
 have hst0 := St.refl w
 have hq : t.curB = (([t.kind, t.dev, t.at_, t.txg] == [0, 0, 0, 0]) || ((inB t.at_ 0 2147483647 && inB t.txg 1 2147483648) && (((t.kind == 1) && (t.dev == 0)) || ((t.kind == 2) && inB t.dev 0 ((nl : Int) - 1))))) := by rw [← hn]; rfl
 rw [hq]
 clear hq hn
 have z1 : IntKind.i64.wrap ((nl : Int) - 1) = (nl : Int) - 1 := IntWalk.i64_in _ (by omega)
 have z2 : (nl : Int) + (-1) = (nl : Int) - 1 := by omega
 cases h0 : ([t.kind, t.dev, t.at_, t.txg] == [0, 0, 0, 0])
 ·skip
  cases h1 : inB t.at_ 0 2147483647
  ·skip
   go_enter Tryz.func48, Tryz.ntmps48
   go_wp2_with (first | go_big_skip | go_big_guard | (refine wl_boxA hst0 rfl rfl rfl ?_; intro g1 w1 hst1; clear hst0) | (refine wl_loadE rfl rfl rfl ?_; first | refine ⟨_, Loads.atA [.int .i64 t.kind, .int .i64 t.dev, .int .i64 t.at_, .int .i64 t.txg] [] hst1 rfl rfl, ?_⟩) | (refine wl_alloc hst1 rfl rfl ?_; intro g2 _ hst2; clear hst1) | (refine wl_storeA [] hst2 rfl rfl rfl rfl rfl rfl rfl ?_; intro w6 hst; clear hst2) | (refine wl_loadE rfl rfl rfl ?_; first | refine ⟨_, Loads.atA [.int .i64 t.kind, .int .i64 t.dev, .int .i64 t.at_, .int .i64 t.txg] [] hst rfl rfl, ?_⟩ | refine ⟨_, Loads.at [] hst rfl, ?_⟩ | refine ⟨_, Loads.at [_] hst rfl, ?_⟩) | (refine wl_build0 rfl rfl ?_) | (go_at_call 47; refine (within_any _ _ _ _).mono ?_; rintro _ w9 ⟨rfl, h4⟩; replace hst := St.call0 hst h4; clear h4))
   all_goals go_ret
   all_goals exact ⟨rfl, hst.nil⟩
  ·cases h2 : inB t.txg 1 2147483648
   ·skip
    go_enter Tryz.func48, Tryz.ntmps48
    go_wp2_with (first | go_big_skip | go_big_guard | (refine wl_boxA hst0 rfl rfl rfl ?_; intro g1 w1 hst1; clear hst0) | (refine wl_loadE rfl rfl rfl ?_; first | refine ⟨_, Loads.atA [.int .i64 t.kind, .int .i64 t.dev, .int .i64 t.at_, .int .i64 t.txg] [] hst1 rfl rfl, ?_⟩) | (refine wl_alloc hst1 rfl rfl ?_; intro g2 _ hst2; clear hst1) | (refine wl_storeA [] hst2 rfl rfl rfl rfl rfl rfl rfl ?_; intro w6 hst; clear hst2) | (refine wl_loadE rfl rfl rfl ?_; first | refine ⟨_, Loads.atA [.int .i64 t.kind, .int .i64 t.dev, .int .i64 t.at_, .int .i64 t.txg] [] hst rfl rfl, ?_⟩ | refine ⟨_, Loads.at [] hst rfl, ?_⟩ | refine ⟨_, Loads.at [_] hst rfl, ?_⟩) | (refine wl_build0 rfl rfl ?_) | (go_at_call 47; refine (within_any _ _ _ _).mono ?_; rintro _ w9 ⟨rfl, h4⟩; replace hst := St.call0 hst h4; clear h4))
    all_goals go_ret
    all_goals exact ⟨rfl, hst.nil⟩
   ·cases h3 : (t.kind == 1) <;> cases h4 : (t.dev == 0) <;> cases h5 : (t.kind == 2)
    all_goals
     go_enter Tryz.func48, Tryz.ntmps48
     go_wp2_with (first | go_big_skip | go_big_guard | (refine wl_boxA hst0 rfl rfl rfl ?_; intro g1 w1 hst1; clear hst0) | (refine wl_loadE rfl rfl rfl ?_; first | refine ⟨_, Loads.atA [.int .i64 t.kind, .int .i64 t.dev, .int .i64 t.at_, .int .i64 t.txg] [] hst1 rfl rfl, ?_⟩) | (refine wl_alloc hst1 rfl rfl ?_; intro g2 _ hst2; clear hst1) | (refine wl_storeA [] hst2 rfl rfl rfl rfl rfl rfl rfl ?_; intro w6 hst; clear hst2) | (refine wl_loadE rfl rfl rfl ?_; first | refine ⟨_, Loads.atA [.int .i64 t.kind, .int .i64 t.dev, .int .i64 t.at_, .int .i64 t.txg] [] hst rfl rfl, ?_⟩ | refine ⟨_, Loads.at [] hst rfl, ?_⟩ | refine ⟨_, Loads.at [_] hst rfl, ?_⟩) | (refine wl_build0 rfl rfl ?_) | (go_at_call 47; refine (within_any _ _ _ _).mono ?_; rintro _ w9 ⟨rfl, h4⟩; replace hst := St.call0 hst h4; clear h4))
     all_goals go_ret
     all_goals exact ⟨rfl, hst.nil⟩
 ·skip
  go_enter Tryz.func48, Tryz.ntmps48
  go_wp2_with (first | go_big_skip | go_big_guard | (refine wl_boxA hst0 rfl rfl rfl ?_; intro g1 w1 hst1; clear hst0) | (refine wl_loadE rfl rfl rfl ?_; first | refine ⟨_, Loads.atA [.int .i64 t.kind, .int .i64 t.dev, .int .i64 t.at_, .int .i64 t.txg] [] hst1 rfl rfl, ?_⟩) | (refine wl_alloc hst1 rfl rfl ?_; intro g2 _ hst2; clear hst1) | (refine wl_storeA [] hst2 rfl rfl rfl rfl rfl rfl rfl ?_; intro w6 hst; clear hst2) | (refine wl_loadE rfl rfl rfl ?_; first | refine ⟨_, Loads.atA [.int .i64 t.kind, .int .i64 t.dev, .int .i64 t.at_, .int .i64 t.txg] [] hst rfl rfl, ?_⟩ | refine ⟨_, Loads.at [] hst rfl, ?_⟩ | refine ⟨_, Loads.at [_] hst rfl, ?_⟩) | (refine wl_build0 rfl rfl ?_) | (go_at_call 47; refine (within_any _ _ _ _).mono ?_; rintro _ w9 ⟨rfl, h4⟩; replace hst := St.call0 hst h4; clear h4))
  all_goals go_ret
  all_goals exact ⟨rfl, hst.nil⟩
theorem refCursor_any (t : TC) (nl : Nat) (hn : t.lives.length = nl) (hb : nl ≤ 1000000) (w : World) :
  Calls Tryz.prog 124 #[.agg #[.int .i64 t.kind, .int .i64 t.dev, .int .i64 t.at_, .int .i64 t.txg], .int .i64 nl] w fun e w' => e = .returned (.bool t.curB) ∧ St w [] w' [] := by
 have hst0 := St.refl w
 have hq : t.curB = (([t.kind, t.dev, t.at_, t.txg] == [0, 0, 0, 0]) || ((inB t.at_ 0 2147483647 && inB t.txg 1 2147483648) && (((t.kind == 1) && (t.dev == 0)) || ((t.kind == 2) && inB t.dev 0 ((nl : Int) - 1))))) := by rw [← hn]; rfl
 rw [hq]
 clear hq hn
 have z1 : IntKind.i64.wrap ((nl : Int) - 1) = (nl : Int) - 1 := IntWalk.i64_in _ (by omega)
 have z2 : (nl : Int) + (-1) = (nl : Int) - 1 := by omega
 cases hk : (t.kind == 0)
 ·have h0 : ([t.kind, t.dev, t.at_, t.txg] == [0, 0, 0, 0]) = false := by simp only [List.cons_beq_cons, hk, Bool.false_and]
  rw [h0]
  clear h0
  cases h1 : inB t.at_ 0 2147483647
  ·skip
   go_enter Tryz.func124, Tryz.ntmps124
   go_wp2_with (first | go_big_skip | go_big_guard | (refine wl_boxA hst0 rfl rfl rfl ?_; intro g1 w1 hst; clear hst0) | (refine wl_loadE rfl rfl rfl ?_; first | refine ⟨_, Loads.atA [.int .i64 t.kind, .int .i64 t.dev, .int .i64 t.at_, .int .i64 t.txg] [] hst rfl rfl, ?_⟩ | refine ⟨_, Loads.at [] hst rfl, ?_⟩) | (refine wl_build0 rfl rfl ?_) | (go_at_call 122; refine (refWithin_any _ _ _ _).mono ?_; rintro _ w9 ⟨rfl, h4⟩; replace hst := St.call0 hst h4; clear h4))
   all_goals go_ret
   all_goals exact ⟨rfl, hst.nil⟩
  ·cases h2 : inB t.txg 1 2147483648
   ·skip
    go_enter Tryz.func124, Tryz.ntmps124
    go_wp2_with (first | go_big_skip | go_big_guard | (refine wl_boxA hst0 rfl rfl rfl ?_; intro g1 w1 hst; clear hst0) | (refine wl_loadE rfl rfl rfl ?_; first | refine ⟨_, Loads.atA [.int .i64 t.kind, .int .i64 t.dev, .int .i64 t.at_, .int .i64 t.txg] [] hst rfl rfl, ?_⟩ | refine ⟨_, Loads.at [] hst rfl, ?_⟩) | (refine wl_build0 rfl rfl ?_) | (go_at_call 122; refine (refWithin_any _ _ _ _).mono ?_; rintro _ w9 ⟨rfl, h4⟩; replace hst := St.call0 hst h4; clear h4))
    all_goals go_ret
    all_goals exact ⟨rfl, hst.nil⟩
   ·cases h3 : (t.kind == 1) <;> cases h4 : (t.dev == 0) <;> cases h5 : (t.kind == 2)
    all_goals
     go_enter Tryz.func124, Tryz.ntmps124
     go_wp2_with (first | go_big_skip | go_big_guard | (refine wl_boxA hst0 rfl rfl rfl ?_; intro g1 w1 hst; clear hst0) | (refine wl_loadE rfl rfl rfl ?_; first | refine ⟨_, Loads.atA [.int .i64 t.kind, .int .i64 t.dev, .int .i64 t.at_, .int .i64 t.txg] [] hst rfl rfl, ?_⟩ | refine ⟨_, Loads.at [] hst rfl, ?_⟩) | (refine wl_build0 rfl rfl ?_) | (go_at_call 122; refine (refWithin_any _ _ _ _).mono ?_; rintro _ w9 ⟨rfl, h4⟩; replace hst := St.call0 hst h4; clear h4))
     all_goals go_ret
     all_goals exact ⟨rfl, hst.nil⟩
 ·have e1 : (t.kind == 1) = false := by
   have : t.kind = 0 := by simpa using hk
   rw [this]; rfl
  have e2 : (t.kind == 2) = false := by
   have : t.kind = 0 := by simpa using hk
   rw [this]; rfl
  rw [e1, e2, Bool.false_and, Bool.false_and, Bool.or_false, Bool.and_false, Bool.or_false]
  clear e1 e2
  have hc : ([t.kind, t.dev, t.at_, t.txg] == [0, 0, 0, 0]) = ((t.dev == 0) && ((t.at_ == 0) && (t.txg == 0))) := by
   rw [List.cons_beq_cons, List.cons_beq_cons, List.cons_beq_cons, List.cons_beq_cons, hk, Bool.true_and]
   simp
  rw [hc]
  clear hc
  go_enter Tryz.func124, Tryz.ntmps124
  go_wp2_with (first | go_big_skip | go_big_guard | (refine wl_boxA hst0 rfl rfl rfl ?_; intro g1 w1 hst; clear hst0) | (refine wl_loadE rfl rfl rfl ?_; first | refine ⟨_, Loads.atA [.int .i64 t.kind, .int .i64 t.dev, .int .i64 t.at_, .int .i64 t.txg] [] hst rfl rfl, ?_⟩ | refine ⟨_, Loads.at [] hst rfl, ?_⟩) | (refine wl_build0 rfl rfl ?_) | (go_at_call 122; refine (refWithin_any _ _ _ _).mono ?_; rintro _ w9 ⟨rfl, h4⟩; replace hst := St.call0 hst h4; clear h4))
  all_goals go_ret
  all_goals exact ⟨rfl, hst.nil⟩
end Go.Proofs.YtifajcblbedcoaaGreat
namespace Go.Proofs.YtifajcblbedcoaaGreat
set_option linter.unusedVariables false
set_option linter.unusedSimpArgs false
open Go.RowKit
namespace Hp
variable {P : Program} {md : Region.Mode} {ops : Array Oper} {Q : Exit → Act → World → Prop} {S : World → Prop}
theorem tq (i s : Nat) {op : Op} {ty : TypeId} {pos : String} {after : Array Edge} {g : Option (Nat × Bool)} {v : Value} {fuel : Nat} {listed listed' : Array Bool} {a a' : Act} {w : World}
  (h : wpAnyH P md ops Q S fuel listed' a' w)
  (hi : ops[i]? = some ⟨some s, op, ty, pos, after, g⟩ := by exact rfl)
  (hs : Region.noSelect ops = true := by kernel_rfl) (hf : Region.free md ops listed i = true := by kernel_rfl) (hr : (Region.ready md ops listed).contains i = true := by kernel_rfl)
  (hw : Region.wanted (Oper.mk (some s) op ty pos after g) (yielded ops a.tmps) = true := by rfl)
  (hy : ∀ w, S w → (execOp a.eval (Oper.mk (some s) op ty pos after g)).run P w = .ok (.value v) w := by intro w hSw; (try dsimp only at hSw); go_simp; try with_reducible rfl)
  (ha : a.put (some s) v = a' := by first | (simp only [Act.put, List.setIfInBounds_toArray, List.set_cons_zero, List.set_cons_succ]; rfl) | rfl)
  (hl : listed.setIfInBounds i true = listed' := by first | (simp only [List.setIfInBounds_toArray, List.set_cons_zero, List.set_cons_succ]; rfl) | rfl)
  (hQ : ∀ c a w, Q (.panic c) (a.put (some s) v) w → Q (.panic c) a w := by exact (fun _ _ _ h => h))
  (hS : S w := by assumption) : wpAnyH P md ops Q S (fuel + 1) listed a w := by
 subst ha hl
 exact wpAnyH_take hi hs hf hr hQ (Or.inl ⟨hw, hy⟩) hS h
theorem tu (i s : Nat) {op : Op} {ty : TypeId} {pos : String} {after : Array Edge} {g : Option (Nat × Bool)} {fuel : Nat} {listed listed' : Array Bool} {a a' : Act} {w : World}
  (h : wpAnyH P md ops Q S fuel listed' a' w)
  (hi : ops[i]? = some ⟨some s, op, ty, pos, after, g⟩ := by exact rfl)
  (hs : Region.noSelect ops = true := by kernel_rfl) (hf : Region.free md ops listed i = true := by kernel_rfl) (hr : (Region.ready md ops listed).contains i = true := by kernel_rfl)
  (hw : Region.wanted (Oper.mk (some s) op ty pos after g) (yielded ops a.tmps) = false := by rfl)
  (ha : a.put (some s) undef = a' := by first | (simp only [Act.put, List.setIfInBounds_toArray, List.set_cons_zero, List.set_cons_succ]; rfl) | rfl)
  (hl : listed.setIfInBounds i true = listed' := by first | (simp only [List.setIfInBounds_toArray, List.set_cons_zero, List.set_cons_succ]; rfl) | rfl)
  (hQ : ∀ c a w, Q (.panic c) (a.put (some s) undef) w → Q (.panic c) a w := by exact (fun _ _ _ h => h))
  (hS : S w := by assumption) : wpAnyH P md ops Q S (fuel + 1) listed a w := by
 subst ha hl
 exact wpAnyH_take hi hs hf hr hQ (Or.inr ⟨hw, rfl⟩) hS h
end Hp
end Go.Proofs.YtifajcblbedcoaaGreat
namespace Go.Proofs.YtifajcblbedcoaaGreat
set_option linter.unusedVariables false
set_option linter.unusedSimpArgs false
open Go.RowKit Hp
attribute [local irreducible] Go.Calls
set_option maxRecDepth 100000
set_option maxHeartbeats 4000000
attribute [local go_sem ↓] heldInt heldRecs heldStr
theorem idxI_at {α : Type} {p : α → Bool} : ∀ {l : List α}, 0 ≤ idxI p l → ∃ k : Nat, idxI p l = k ∧ k < l.length
 | [], h => by simp [idxI] at h
 | x :: l, h => by
  unfold idxI at h ⊢
  split
  ·exact ⟨0, rfl, by simp⟩
  ·rename_i hx
   rw [if_neg hx] at h
   split
   ·rename_i h1
    rw [if_pos h1] at h
    omega
   ·rename_i h1
    obtain ⟨k, hk, hl⟩ := idxI_at (l := l) (p := p) (by omega)
    exact ⟨k + 1, by omega, by simpa using hl⟩
theorem findP_yes {name : List UInt8} {xs : List (Value × RC)} {z : Int} (h : findP name (xs.map (·.2)) = (z, true)) : ∃ (j : Nat) (y : Value × RC), z = (j : Int) ∧ xs[j]? = some y ∧ findN name (xs.map (·.2)) = (j : Int) := by
 unfold findP at h
 split at h
 ·cases h
 ·rename_i h0
  obtain ⟨k, hk, hl⟩ := idxI_at (l := xs.map (·.2)) (p := fun x => x.name == name) (by unfold findN at h0; omega)
  have hz : findN name (xs.map (·.2)) = z := congrArg Prod.fst h
  rw [List.length_map] at hl
  exact ⟨k, xs[k], by rw [← hz]; exact hk, List.getElem?_eq_getElem hl, hk⟩
theorem volB_no {l : List RC} {r : RC} {z : Int} (h : findP (splitL r.name).1 l = (z, false)) : volB l r = false := by
 unfold findP at h
 split at h
 ·rename_i h0
  unfold volB
  rw [decide_eq_false (by omega), Bool.false_and]
 ·cases h
theorem volB_yes {xs : List (Value × RC)} {r : RC} {j : Nat} {y : Value × RC} (h : findN (splitL r.name).1 (xs.map (·.2)) = (j : Int)) (hy : xs[j]? = some y) : volB (xs.map (·.2)) r = (y.2.id == r.own) := by
 unfold volB
 rw [h, decide_eq_true (by omega), Bool.true_and]
 unfold idAt
 rw [Int.toNat_natCast, List.getElem?_map, hy]
 rfl
theorem RecsIn.take {w : World} {ao : Option Addr} {n c i : Nat} {xs : List (Value × RC)} (h : RecsIn w (.slice ao n c) n xs) (hi : i ≤ n) : RecsIn w (.slice ao i c) i (xs.take i) := by
 refine ⟨?_, by rw [List.length_take, h.len]; omega, fun x hx => h.each x (List.mem_of_mem_take hx)⟩
 obtain ⟨hl1, ao', c0, he, hn, hcm, hnone, hsome⟩ := h.rd
 simp only [Value.slice.injEq, true_and] at he
 obtain ⟨rfl, rfl⟩ := he
 have hlen : (recsV (xs.take i)).length = i * 44 := by
  have : ∀ l : List (Value × RC), (∀ x ∈ l, L32 x.2.S) → (recsV l).length = l.length * 44 := by
   intro l
   induction l with
   | nil => intro _; rfl
   | cons x l ih =>
    intro hl
    show (cellsR x ++ recsV l).length = _
    rw [List.length_append, cellsR_len (hl x (.head _)), ih (fun y hy => hl y (.tail _ hy)), List.length_cons]
    omega
  rw [this _ (fun x hx => (h.each x (List.mem_of_mem_take hx)).L), List.length_take, h.len]
  rw [Nat.min_eq_left hi]
 refine ⟨hlen, ao, c, rfl, by omega, hcm, fun h0 => ⟨by have := (hnone h0).1; omega, (hnone h0).2⟩, fun A hA h0 => ?_⟩
 obtain ⟨b, off, rfl, hr⟩ := hsome A hA h0
 refine ⟨b, off, rfl, fun j v hv => hr j v ?_⟩
 have e : recsV xs = recsV (xs.take i) ++ recsV (xs.drop i) := by rw [← recsV_append, List.take_append_drop]
 rw [e, List.getElem?_append_left (by have := (List.getElem?_eq_some_iff.1 hv).1; exact this)]
 exact hv
theorem related_any (t : TC) (lv : Value) (ar : Option Addr) (nr cr : Nat) (xs : List (Value × RC)) (w : World) (hR : RecsIn w (.slice ar nr cr) nr xs) (hb : nr ≤ 1000000) (i : Nat) (x : Value × RC) (hi : xs[i]? = some x) :
  Calls Tryz.prog 53 #[.agg (tabC t (.slice ar nr cr) lv).toArray, .int .i64 i] w fun e w' => e = .returned (.bool (relB t.next (xs.map (·.2)) i x.2)) ∧ St w [] w' [] := by
 have hst0 := St.refl w
 have hlt : i < nr := by rw [← hR.len]; exact (List.getElem?_eq_some_iff.1 hi).1
 obtain ⟨x', lb, lo, hx', rfl, hin, hr⟩ := RecsIn.at hR hlt
 obtain rfl : x = x' := Option.some.inj (hi.symm.trans hx')
 have hcr : nr ≤ cr ∧ cr ≤ maxLen := by
  obtain ⟨_, ao', c0, he, hn, hcm, _⟩ := hR.rd
  cases he
  exact ⟨hn, hcm⟩
 have HR := hid hR
 have HT := hid (hR.take (Nat.le_of_lt hlt))
 have HIN := hid hin
 have HLL := hid hin.L
 have HL := hid (cellsR_len hin.L)
 have HWR := hid hr
 clear hx' hin hr hR hi
 obtain ⟨n1, hn1⟩ : ∃ n1, n1 = idxI (fun y : RC => y.id == x.2.id) ((xs.take i).map (·.2)) := ⟨_, rfl⟩
 have HN1 := hid hn1
 have hany : ((xs.map (·.2)).take i).any (fun y => y.id == x.2.id) = decide (n1 ≥ 0) := by rw [hn1, idxI_any, List.map_take]
 have HA := hid hany
 clear hn1 hany
 obtain ⟨RR, hRR⟩ : ∃ RR, RR = relB t.next (xs.map (·.2)) i x.2 := ⟨_, rfl⟩
 rw [← hRR]
 have HRR := hid hRR
 clear hRR
 obtain ⟨hc1, hc2⟩ := hcr
 unfold maxLen at hc2
 by_cases k1 : n1 ≥ 0
 ·have d1 : decide (n1 ≥ 0) = true := decide_eq_true k1
  have d2 : decide (0 ≤ n1) = true := d1
  have hv : RR = false := by rw [HRR.out]; unfold relB; rw [HA.out, d1]; rfl
  rw [hv]
  clear hv k1
  go_enter Tryz.func53, Tryz.ntmps53
  go_wp2_with (first | go_big_skip | go_big_guard | (refine wl_boxA hst0 rfl rfl rfl ?_; intro g1 w1 hst1; clear hst0) | (refine wl_index rfl rfl rfl rfl hlt ?_) | (refine wl_loadE rfl rfl rfl ?_; first | refine ⟨_, Loads.at [] hst1 rfl, ?_⟩ | refine ⟨_, Loads.oldA (cs := cellsR x) hst1 HL.out HWR.out, ?_⟩ | refine ⟨_, Loads.atA (tabC t (.slice (some ⟨lb, lo, none⟩) nr cr) lv) [_] hst rfl rfl, ?_⟩ | refine ⟨_, Loads.at [] hst rfl, ?_⟩ | refine ⟨_, Loads.at [] hst (cellsR_41 HLL.out), ?_⟩ | refine ⟨_, Loads.at [_] hst rfl, ?_⟩) | (refine wl_alloc hst1 rfl rfl ?_; intro gx w2 hst2; clear hst1) | (refine wl_storeA [] hst2 rfl rfl rfl rfl (by exact HL.out) (cellsR_ones HIN.out) rfl ?_; intro w3 hst; clear hst2) | (go_at_call 107; refine (indexR_any 108 gx (fun y => y.id == x.2.id) _ i cr (xs.take i) _ (fun _ _ => rfl) (fun y w' hy h => twinC_any (St.old_cell h (hst.cell (g := gx) (off := 0) (.head _) rfl) (by simp)) y (((HT.out.old hst.nil).old h).each y hy)) (HT.out.old hst.nil) (by omega)).mono ?_; rw [← HN1.out]; rintro _ w9 ⟨rfl, h4⟩; replace hst := St.call0 hst h4; clear h4) | (go_at_call 107; refine (indexR_any 109 gx (fun y => (y.id == x.2.origin) && (y.kind == 2)) _ nr cr xs _ (fun _ _ => rfl) (fun y w' hy h => originC_any (St.old_cell h (hst.cell (g := gx) (off := 41) (.head _) (cellsR_41 HLL.out)) (by simp)) y (((HR.out.old hst.nil).old h).each y hy)) (HR.out.old hst.nil) hb).mono ?_; rintro _ w9 ⟨rfl, h4⟩; replace hst := St.call0 hst h4; clear h4) | (go_at_call 68; refine (split_any x.2.name _ HIN.out.2).mono ?_; rintro _ w9 ⟨rfl, h4⟩; replace hst := St.call0 hst h4; clear h4) | (go_at_call 57; refine (find_any t lv (splitL x.2.name).1 _ nr cr xs _ (HR.out.old hst.nil) hb).mono ?_; rw [HF.out]; rintro _ w9 ⟨rfl, h4⟩; replace hst := St.call0 hst h4; clear h4))
  go_ret
  exact ⟨rfl, hst.nil⟩
 ·have d1 : decide (n1 ≥ 0) = false := decide_eq_false k1
  have d2 : decide (0 ≤ n1) = false := d1
  clear k1
  by_cases k2 : x.2.id < t.next
  ·have d3 : decide (x.2.id ≥ t.next) = false := decide_eq_false (by omega)
   have d4 : decide (t.next ≤ x.2.id) = false := d3
   have hv : RR = kinB (xs.map (·.2)) x.2 := by rw [HRR.out]; unfold relB; rw [HA.out, d1, decide_eq_true k2]; rfl
   have HV := hid hv
   clear hv k2
   cases d5 : (x.2.kind == 2)
   ·cases d6 : (x.2.origin == 0)
    ·have hv : RR = decide (idxI (fun y : RC => (y.id == x.2.origin) && (y.kind == 2)) (xs.map (·.2)) ≥ 0) := by rw [HV.out]; unfold kinB; rw [d5, d6, idxI_any]; rfl
     rw [hv]
     clear hv
     go_enter Tryz.func53, Tryz.ntmps53
     go_wp2_with (first | go_big_skip | go_big_guard | (refine wl_boxA hst0 rfl rfl rfl ?_; intro g1 w1 hst1; clear hst0) | (refine wl_index rfl rfl rfl rfl hlt ?_) | (refine wl_loadE rfl rfl rfl ?_; first | refine ⟨_, Loads.at [] hst1 rfl, ?_⟩ | refine ⟨_, Loads.oldA (cs := cellsR x) hst1 HL.out HWR.out, ?_⟩ | refine ⟨_, Loads.atA (tabC t (.slice (some ⟨lb, lo, none⟩) nr cr) lv) [_] hst rfl rfl, ?_⟩ | refine ⟨_, Loads.at [] hst rfl, ?_⟩ | refine ⟨_, Loads.at [] hst (cellsR_41 HLL.out), ?_⟩ | refine ⟨_, Loads.at [_] hst rfl, ?_⟩) | (refine wl_alloc hst1 rfl rfl ?_; intro gx w2 hst2; clear hst1) | (refine wl_storeA [] hst2 rfl rfl rfl rfl (by exact HL.out) (cellsR_ones HIN.out) rfl ?_; intro w3 hst; clear hst2) | (go_at_call 107; refine (indexR_any 108 gx (fun y => y.id == x.2.id) _ i cr (xs.take i) _ (fun _ _ => rfl) (fun y w' hy h => twinC_any (St.old_cell h (hst.cell (g := gx) (off := 0) (.head _) rfl) (by simp)) y (((HT.out.old hst.nil).old h).each y hy)) (HT.out.old hst.nil) (by omega)).mono ?_; rw [← HN1.out]; rintro _ w9 ⟨rfl, h4⟩; replace hst := St.call0 hst h4; clear h4) | (go_at_call 107; refine (indexR_any 109 gx (fun y => (y.id == x.2.origin) && (y.kind == 2)) _ nr cr xs _ (fun _ _ => rfl) (fun y w' hy h => originC_any (St.old_cell h (hst.cell (g := gx) (off := 41) (.head _) (cellsR_41 HLL.out)) (by simp)) y (((HR.out.old hst.nil).old h).each y hy)) (HR.out.old hst.nil) hb).mono ?_; rintro _ w9 ⟨rfl, h4⟩; replace hst := St.call0 hst h4; clear h4) | (go_at_call 68; refine (split_any x.2.name _ HIN.out.2).mono ?_; rintro _ w9 ⟨rfl, h4⟩; replace hst := St.call0 hst h4; clear h4) | (go_at_call 57; refine (find_any t lv (splitL x.2.name).1 _ nr cr xs _ (HR.out.old hst.nil) hb).mono ?_; rw [HF.out]; rintro _ w9 ⟨rfl, h4⟩; replace hst := St.call0 hst h4; clear h4))
     go_ret
     exact ⟨rfl, hst.nil⟩
    ·have hv : RR = true := by rw [HV.out]; unfold kinB; rw [d5, d6]; rfl
     rw [hv]
     clear hv
     go_enter Tryz.func53, Tryz.ntmps53
     go_wp2_with (first | go_big_skip | go_big_guard | (refine wl_boxA hst0 rfl rfl rfl ?_; intro g1 w1 hst1; clear hst0) | (refine wl_index rfl rfl rfl rfl hlt ?_) | (refine wl_loadE rfl rfl rfl ?_; first | refine ⟨_, Loads.at [] hst1 rfl, ?_⟩ | refine ⟨_, Loads.oldA (cs := cellsR x) hst1 HL.out HWR.out, ?_⟩ | refine ⟨_, Loads.atA (tabC t (.slice (some ⟨lb, lo, none⟩) nr cr) lv) [_] hst rfl rfl, ?_⟩ | refine ⟨_, Loads.at [] hst rfl, ?_⟩ | refine ⟨_, Loads.at [] hst (cellsR_41 HLL.out), ?_⟩ | refine ⟨_, Loads.at [_] hst rfl, ?_⟩) | (refine wl_alloc hst1 rfl rfl ?_; intro gx w2 hst2; clear hst1) | (refine wl_storeA [] hst2 rfl rfl rfl rfl (by exact HL.out) (cellsR_ones HIN.out) rfl ?_; intro w3 hst; clear hst2) | (go_at_call 107; refine (indexR_any 108 gx (fun y => y.id == x.2.id) _ i cr (xs.take i) _ (fun _ _ => rfl) (fun y w' hy h => twinC_any (St.old_cell h (hst.cell (g := gx) (off := 0) (.head _) rfl) (by simp)) y (((HT.out.old hst.nil).old h).each y hy)) (HT.out.old hst.nil) (by omega)).mono ?_; rw [← HN1.out]; rintro _ w9 ⟨rfl, h4⟩; replace hst := St.call0 hst h4; clear h4) | (go_at_call 107; refine (indexR_any 109 gx (fun y => (y.id == x.2.origin) && (y.kind == 2)) _ nr cr xs _ (fun _ _ => rfl) (fun y w' hy h => originC_any (St.old_cell h (hst.cell (g := gx) (off := 41) (.head _) (cellsR_41 HLL.out)) (by simp)) y (((HR.out.old hst.nil).old h).each y hy)) (HR.out.old hst.nil) hb).mono ?_; rintro _ w9 ⟨rfl, h4⟩; replace hst := St.call0 hst h4; clear h4) | (go_at_call 68; refine (split_any x.2.name _ HIN.out.2).mono ?_; rintro _ w9 ⟨rfl, h4⟩; replace hst := St.call0 hst h4; clear h4) | (go_at_call 57; refine (find_any t lv (splitL x.2.name).1 _ nr cr xs _ (HR.out.old hst.nil) hb).mono ?_; rw [HF.out]; rintro _ w9 ⟨rfl, h4⟩; replace hst := St.call0 hst h4; clear h4))
     go_ret
     exact ⟨rfl, hst.nil⟩
   ·have hv : RR = volB (xs.map (·.2)) x.2 := by rw [HV.out]; unfold kinB; rw [d5]; rfl
    obtain ⟨⟨z, is⟩, hf⟩ : ∃ p, findP (splitL x.2.name).1 (xs.map (·.2)) = p := ⟨_, rfl⟩
    have HF := hid hf
    cases is
    ·have hv2 := hv.trans (volB_no hf)
     rw [hv2]
     clear hv hv2 hf
     go_enter Tryz.func53, Tryz.ntmps53
     go_wp2_with (first | go_big_skip | go_big_guard | (refine wl_boxA hst0 rfl rfl rfl ?_; intro g1 w1 hst1; clear hst0) | (refine wl_index rfl rfl rfl rfl hlt ?_) | (refine wl_loadE rfl rfl rfl ?_; first | refine ⟨_, Loads.at [] hst1 rfl, ?_⟩ | refine ⟨_, Loads.oldA (cs := cellsR x) hst1 HL.out HWR.out, ?_⟩ | refine ⟨_, Loads.atA (tabC t (.slice (some ⟨lb, lo, none⟩) nr cr) lv) [_] hst rfl rfl, ?_⟩ | refine ⟨_, Loads.at [] hst rfl, ?_⟩ | refine ⟨_, Loads.at [] hst (cellsR_41 HLL.out), ?_⟩ | refine ⟨_, Loads.at [_] hst rfl, ?_⟩) | (refine wl_alloc hst1 rfl rfl ?_; intro gx w2 hst2; clear hst1) | (refine wl_storeA [] hst2 rfl rfl rfl rfl (by exact HL.out) (cellsR_ones HIN.out) rfl ?_; intro w3 hst; clear hst2) | (go_at_call 107; refine (indexR_any 108 gx (fun y => y.id == x.2.id) _ i cr (xs.take i) _ (fun _ _ => rfl) (fun y w' hy h => twinC_any (St.old_cell h (hst.cell (g := gx) (off := 0) (.head _) rfl) (by simp)) y (((HT.out.old hst.nil).old h).each y hy)) (HT.out.old hst.nil) (by omega)).mono ?_; rw [← HN1.out]; rintro _ w9 ⟨rfl, h4⟩; replace hst := St.call0 hst h4; clear h4) | (go_at_call 107; refine (indexR_any 109 gx (fun y => (y.id == x.2.origin) && (y.kind == 2)) _ nr cr xs _ (fun _ _ => rfl) (fun y w' hy h => originC_any (St.old_cell h (hst.cell (g := gx) (off := 41) (.head _) (cellsR_41 HLL.out)) (by simp)) y (((HR.out.old hst.nil).old h).each y hy)) (HR.out.old hst.nil) hb).mono ?_; rintro _ w9 ⟨rfl, h4⟩; replace hst := St.call0 hst h4; clear h4) | (go_at_call 68; refine (split_any x.2.name _ HIN.out.2).mono ?_; rintro _ w9 ⟨rfl, h4⟩; replace hst := St.call0 hst h4; clear h4) | (go_at_call 57; refine (find_any t lv (splitL x.2.name).1 _ nr cr xs _ (HR.out.old hst.nil) hb).mono ?_; rw [HF.out]; rintro _ w9 ⟨rfl, h4⟩; replace hst := St.call0 hst h4; clear h4))
     have hD := hst.drew
     clear hst
     refine wp_region_held_drew (S := (fun w' => (loadVarH 22 ⟨g1, 1, none⟩).run Tryz.prog w' = .ok (.slice (some ⟨lb, lo, none⟩) nr cr) w' ∧ (loadVarH 3 ⟨gx, 40, none⟩).run Tryz.prog w' = .ok (.int .i64 x.2.own) w')) (by kernel_rfl) (by exact ⟨ldS [_] hD rfl, ldS [] hD (cellsR_40 HLL.out)⟩) (fun hHeld => ?_)
     refine tq 0 48 ?_
     refine tq 1 49 ?_
     refine tu 2 50 ?_
     refine tu 4 52 ?_
     refine tu 8 56 ?_
     refine tu 3 51 ?_
     refine tu 9 57 ?_
     refine tu 5 53 ?_
     refine tu 6 54 ?_
     refine tu 7 55 ?_
     refine tu 10 58 ?_
     refine tq 11 59 ?_
     refine tq 12 4 ?_
     refine wpAnyH_done (by kernel_rfl) ?_ _
     clear hHeld
     go_wp2_with (first | go_big_skip | go_big_guard | fail)
     go_ret
     exact ⟨rfl, hD.nil⟩
    ·obtain ⟨j, y, rfl, hy, hfn⟩ := findP_yes hf
     have hv2 := hv.trans (volB_yes hfn hy)
     rw [hv2]
     have hjlt : j < nr := by rw [← HR.out.len]; exact (List.getElem?_eq_some_iff.1 hy).1
     obtain ⟨y', b', o', hy', he, hiny, hry⟩ := RecsIn.at HR.out hjlt
     cases he
     obtain rfl : y = y' := Option.some.inj (hy.symm.trans hy')
     have HY := hid (show w.cell? ⟨lb, lo + j * 44, none⟩ = some (.int .i64 y.2.id) from hry 0 _ rfl)
     clear hv hv2 hf hy hfn hy' hiny hry
     go_enter Tryz.func53, Tryz.ntmps53
     go_wp2_with (first | go_big_skip | go_big_guard | (refine wl_boxA hst0 rfl rfl rfl ?_; intro g1 w1 hst1; clear hst0) | (refine wl_index rfl rfl rfl rfl hlt ?_) | (refine wl_loadE rfl rfl rfl ?_; first | refine ⟨_, Loads.at [] hst1 rfl, ?_⟩ | refine ⟨_, Loads.oldA (cs := cellsR x) hst1 HL.out HWR.out, ?_⟩ | refine ⟨_, Loads.atA (tabC t (.slice (some ⟨lb, lo, none⟩) nr cr) lv) [_] hst rfl rfl, ?_⟩ | refine ⟨_, Loads.at [] hst rfl, ?_⟩ | refine ⟨_, Loads.at [] hst (cellsR_41 HLL.out), ?_⟩ | refine ⟨_, Loads.at [_] hst rfl, ?_⟩) | (refine wl_alloc hst1 rfl rfl ?_; intro gx w2 hst2; clear hst1) | (refine wl_storeA [] hst2 rfl rfl rfl rfl (by exact HL.out) (cellsR_ones HIN.out) rfl ?_; intro w3 hst; clear hst2) | (go_at_call 107; refine (indexR_any 108 gx (fun y => y.id == x.2.id) _ i cr (xs.take i) _ (fun _ _ => rfl) (fun y w' hy h => twinC_any (St.old_cell h (hst.cell (g := gx) (off := 0) (.head _) rfl) (by simp)) y (((HT.out.old hst.nil).old h).each y hy)) (HT.out.old hst.nil) (by omega)).mono ?_; rw [← HN1.out]; rintro _ w9 ⟨rfl, h4⟩; replace hst := St.call0 hst h4; clear h4) | (go_at_call 107; refine (indexR_any 109 gx (fun y => (y.id == x.2.origin) && (y.kind == 2)) _ nr cr xs _ (fun _ _ => rfl) (fun y w' hy h => originC_any (St.old_cell h (hst.cell (g := gx) (off := 41) (.head _) (cellsR_41 HLL.out)) (by simp)) y (((HR.out.old hst.nil).old h).each y hy)) (HR.out.old hst.nil) hb).mono ?_; rintro _ w9 ⟨rfl, h4⟩; replace hst := St.call0 hst h4; clear h4) | (go_at_call 68; refine (split_any x.2.name _ HIN.out.2).mono ?_; rintro _ w9 ⟨rfl, h4⟩; replace hst := St.call0 hst h4; clear h4) | (go_at_call 57; refine (find_any t lv (splitL x.2.name).1 _ nr cr xs _ (HR.out.old hst.nil) hb).mono ?_; rw [HF.out]; rintro _ w9 ⟨rfl, h4⟩; replace hst := St.call0 hst h4; clear h4))
     have hD := hst.drew
     clear hst
     refine wp_region_held_drew (S := (fun w' => (loadVarH 22 ⟨g1, 1, none⟩).run Tryz.prog w' = .ok (.slice (some ⟨lb, lo, none⟩) nr cr) w' ∧ (loadVarH 3 ⟨gx, 40, none⟩).run Tryz.prog w' = .ok (.int .i64 x.2.own) w' ∧ (loadVarH 3 ⟨lb, lo + j * 44, none⟩).run Tryz.prog w' = .ok (.int .i64 y.2.id) w')) (by kernel_rfl) (by exact ⟨ldS [_] hD rfl, ldS [] hD (cellsR_40 HLL.out), ldO hD (HY.out)⟩) (fun hHeld => ?_)
     refine tq 0 48 ?_
     refine tq 1 49 ?_
     refine tq 2 50 ?_
     refine tq 4 52 ?_
     refine tq 8 56 ?_
     refine tq 3 51 ?_
     refine tq 9 57 ?_
     refine tq 5 53 ?_
     refine tq 6 54 ?_
     refine tq 7 55 ?_
     refine tq 10 58 ?_
     refine tq 11 59 ?_
     refine tq 12 4 ?_
     refine wpAnyH_done (by kernel_rfl) ?_ _
     clear hHeld
     go_wp2_with (first | go_big_skip | go_big_guard | fail)
     go_ret
     exact ⟨rfl, hD.nil⟩
  ·have d3 : decide (x.2.id ≥ t.next) = true := decide_eq_true (by omega)
   have d4 : decide (t.next ≤ x.2.id) = true := d3
   have hv : RR = false := by rw [HRR.out]; unfold relB; rw [decide_eq_false k2, Bool.and_false]; rfl
   rw [hv]
   clear hv k2
   go_enter Tryz.func53, Tryz.ntmps53
   go_wp2_with (first | go_big_skip | go_big_guard | (refine wl_boxA hst0 rfl rfl rfl ?_; intro g1 w1 hst1; clear hst0) | (refine wl_index rfl rfl rfl rfl hlt ?_) | (refine wl_loadE rfl rfl rfl ?_; first | refine ⟨_, Loads.at [] hst1 rfl, ?_⟩ | refine ⟨_, Loads.oldA (cs := cellsR x) hst1 HL.out HWR.out, ?_⟩ | refine ⟨_, Loads.atA (tabC t (.slice (some ⟨lb, lo, none⟩) nr cr) lv) [_] hst rfl rfl, ?_⟩ | refine ⟨_, Loads.at [] hst rfl, ?_⟩ | refine ⟨_, Loads.at [] hst (cellsR_41 HLL.out), ?_⟩ | refine ⟨_, Loads.at [_] hst rfl, ?_⟩) | (refine wl_alloc hst1 rfl rfl ?_; intro gx w2 hst2; clear hst1) | (refine wl_storeA [] hst2 rfl rfl rfl rfl (by exact HL.out) (cellsR_ones HIN.out) rfl ?_; intro w3 hst; clear hst2) | (go_at_call 107; refine (indexR_any 108 gx (fun y => y.id == x.2.id) _ i cr (xs.take i) _ (fun _ _ => rfl) (fun y w' hy h => twinC_any (St.old_cell h (hst.cell (g := gx) (off := 0) (.head _) rfl) (by simp)) y (((HT.out.old hst.nil).old h).each y hy)) (HT.out.old hst.nil) (by omega)).mono ?_; rw [← HN1.out]; rintro _ w9 ⟨rfl, h4⟩; replace hst := St.call0 hst h4; clear h4) | (go_at_call 107; refine (indexR_any 109 gx (fun y => (y.id == x.2.origin) && (y.kind == 2)) _ nr cr xs _ (fun _ _ => rfl) (fun y w' hy h => originC_any (St.old_cell h (hst.cell (g := gx) (off := 41) (.head _) (cellsR_41 HLL.out)) (by simp)) y (((HR.out.old hst.nil).old h).each y hy)) (HR.out.old hst.nil) hb).mono ?_; rintro _ w9 ⟨rfl, h4⟩; replace hst := St.call0 hst h4; clear h4) | (go_at_call 68; refine (split_any x.2.name _ HIN.out.2).mono ?_; rintro _ w9 ⟨rfl, h4⟩; replace hst := St.call0 hst h4; clear h4) | (go_at_call 57; refine (find_any t lv (splitL x.2.name).1 _ nr cr xs _ (HR.out.old hst.nil) hb).mono ?_; rw [HF.out]; rintro _ w9 ⟨rfl, h4⟩; replace hst := St.call0 hst h4; clear h4))
   go_ret
   exact ⟨rfl, hst.nil⟩
end Go.Proofs.YtifajcblbedcoaaGreat
namespace Go.Proofs.YtifajcblbedcoaaGreat
set_option linter.unusedVariables false
set_option linter.unusedSimpArgs false
open Go.RowKit Hp
attribute [local irreducible] Go.Calls
set_option maxRecDepth 100000
set_option maxHeartbeats 4000000
attribute [local go_sem ↓] heldInt heldRecs heldStr heldRec
theorem err_no {t : TC} (h : t.ok = false) : t.err = 2 := by unfold TC.err; rw [h]; rfl
theorem err_yes {t : TC} (h : t.ok = true) : t.err = 0 := by unfold TC.err; rw [h]; rfl
theorem ok_size {t : TC} (h : t.sizeB = false) : t.ok = false := by unfold TC.ok; rw [h]; rfl
theorem ok_cur {t : TC} (h : t.curB = false) : t.ok = false := by unfold TC.ok; rw [h]; simp
theorem ok_lives {t : TC} (h : t.livesB = false) : t.ok = false := by unfold TC.ok; rw [h]; simp
theorem ok_each {t : TC} (h : allAt (eachB t.recs) t.recs = false) : t.ok = false := by unfold TC.ok; rw [h]; simp
theorem ok_rel {t : TC} (h : allAt (relB t.next t.recs) t.recs = false) : t.ok = false := by unfold TC.ok; rw [h]; simp
theorem ok_all {t : TC} (h1 : t.sizeB = true) (h2 : t.curB = true) (h3 : t.livesB = true) (h4 : allAt (eachB t.recs) t.recs = true) (h5 : allAt (relB t.next t.recs) t.recs = true) : t.ok = true := by unfold TC.ok; rw [h1, h2, h3, h4, h5]; rfl
theorem lives_any (l : List Int) : (l.any fun n => !(inB n 0 2147483647)) = !(l.all fun n => inB n 0 2147483647) := by
 induction l with
 | nil => rfl
 | cons x l ih => rw [List.any_cons, List.all_cons, ih, Bool.not_and]
theorem map_at {xs : List (Value × RC)} {j : Nat} {x : Value × RC} (h : xs[j]? = some x) : (xs.map (·.2))[j]? = some x.2 := by rw [List.getElem?_map, h]; rfl
theorem less_at {xs : List (Value × RC)} {k : Nat} {y : Value × RC} {r : RC} (h : xs[k]? = some y) : lessAt (xs.map (·.2)) (k + 1) r = lessL y.2.name r.name := by
 show (match (xs.map (·.2))[k]? with
  | some y => lessL y.name r.name
  | none => true) = _
 rw [map_at h]
theorem all_steps {f : Nat → RC → Bool} {xs : List (Value × RC)} {j : Nat} {x : Value × RC} (h : ∀ i y, i < j → xs[i]? = some y → f i y.2 = true) (hx : xs[j]? = some x) (hf : f j x.2 = true) : ∀ i y, i < j + 1 → xs[i]? = some y → f i y.2 = true := fun i y hi hy => by
 by_cases e : i = j
 ·subst e
  rw [hx] at hy
  cases hy
  exact hf
 ·exact h i y (by omega) hy
theorem all_end {f : Nat → RC → Bool} {xs : List (Value × RC)} (h : ∀ i y, i < xs.length → xs[i]? = some y → f i y.2 = true) : allAt f (xs.map (·.2)) = true := allAt_all fun i r hi => by
 rw [List.getElem?_map] at hi
 cases hy : xs[i]? with
 | none => rw [hy] at hi; cases hi
 | some y =>
  rw [hy] at hi
  cases hi
  exact h i y (List.getElem?_eq_some_iff.1 hy).1 hy
theorem check12_any (t : TC) (ar al : Option Addr) (nr cr nl cl : Nat) (xs : List (Value × RC)) (w : World) (hR : RecsIn w (.slice ar nr cr) nr xs) (hx : xs.map (·.2) = t.recs) (hb : nr ≤ 1000000) (hl : Rd w (.slice al nl cl) 1 nl (numsV t.lives)) (hnl : t.lives.length = nl) (hbl : nl ≤ 1000000) :
  Calls Tryz.prog 20 #[.agg (tabC t (.slice ar nr cr) (.slice al nl cl)).toArray] w fun e w' => e = .returned (.int .i64 t.err) ∧ St w [] w' [] := by
 have hst0 := St.refl w
 have HR := hid hR
 have HX := hid hx
 have HLV := hid hl
 have HNL := hid hnl
 have hlen : t.recs.length = nr := by rw [← hx, List.length_map, hR.len]
 have HLN := hid hlen
 have HA := hid (lives_any t.lives)
 obtain ⟨E, hE⟩ : ∃ E, E = t.err := ⟨_, rfl⟩
 rw [← hE]
 have HE := hid hE
 have hsz : t.sizeB = ((inB t.next 1 2147483648 && decide ((nr : Int) ≤ 16)) && inB (nl : Int) 2 8) := by unfold TC.sizeB; rw [hlen, hnl]
 have HSZ := hid hsz
 clear hR hx hl hnl hlen hE hsz
 cases d1 : inB t.next 1 2147483648
 ·skip
  have hv : E = 2 := by rw [HE.out]; exact err_no (ok_size (by rw [HSZ.out, d1]; rfl))
  rw [hv]
  clear hv
  go_enter Tryz.func20, Tryz.ntmps20
  go_wp2_with (first | go_big_skip | go_big_guard | (refine wl_boxA hst0 rfl rfl rfl ?_; intro g1 w1 hst; clear hst0) | (refine wl_loadE rfl rfl rfl ?_; first | refine ⟨_, Loads.at [] hst rfl, ?_⟩ | refine ⟨_, Loads.atA (tabC t (.slice ar nr cr) (.slice al nl cl)) [] hst rfl rfl, ?_⟩) | (go_at_call 47; refine (within_any _ _ _ _).mono ?_; rintro _ w9 ⟨rfl, h4⟩; replace hst := St.call0 hst h4; clear h4) | (go_at_call 48; refine (cursored_any t (.slice ar nr cr) al nl cl HNL.out hbl _).mono ?_; rintro _ w9 ⟨rfl, h4⟩; replace hst := St.call0 hst h4; clear h4) | (go_at_call 49; refine (containsI_any (w0 := w) (M := []) (L := []) 50 (fun n => !(inB n 0 2147483647)) al nl cl t.lives _ (fun _ _ => rfl) (fun n w _ => livesC_any n w) (Rd.old hst HLV.out) HNL.out hbl).mono ?_; rw [HA.out]; rintro _ w9 ⟨rfl, h4⟩; replace hst := St.call0 hst h4; clear h4))
  go_ret
  exact ⟨rfl, hst.nil⟩
 ·by_cases k2 : (16 : Int) < (nr : Int)
  ·have d2 : decide ((16 : Int) < (nr : Int)) = true := decide_eq_true k2
   have d2' : decide ((nr : Int) > 16) = true := d2
   have hv : E = 2 := by rw [HE.out]; exact err_no (ok_size (by rw [HSZ.out, d1, decide_eq_false (by omega)]; rfl))
   rw [hv]
   clear hv
   go_enter Tryz.func20, Tryz.ntmps20
   go_wp2_with (first | go_big_skip | go_big_guard | (refine wl_boxA hst0 rfl rfl rfl ?_; intro g1 w1 hst; clear hst0) | (refine wl_loadE rfl rfl rfl ?_; first | refine ⟨_, Loads.at [] hst rfl, ?_⟩ | refine ⟨_, Loads.atA (tabC t (.slice ar nr cr) (.slice al nl cl)) [] hst rfl rfl, ?_⟩) | (go_at_call 47; refine (within_any _ _ _ _).mono ?_; rintro _ w9 ⟨rfl, h4⟩; replace hst := St.call0 hst h4; clear h4) | (go_at_call 48; refine (cursored_any t (.slice ar nr cr) al nl cl HNL.out hbl _).mono ?_; rintro _ w9 ⟨rfl, h4⟩; replace hst := St.call0 hst h4; clear h4) | (go_at_call 49; refine (containsI_any (w0 := w) (M := []) (L := []) 50 (fun n => !(inB n 0 2147483647)) al nl cl t.lives _ (fun _ _ => rfl) (fun n w _ => livesC_any n w) (Rd.old hst HLV.out) HNL.out hbl).mono ?_; rw [HA.out]; rintro _ w9 ⟨rfl, h4⟩; replace hst := St.call0 hst h4; clear h4))
   go_ret
   exact ⟨rfl, hst.nil⟩
  ·have d2 : decide ((16 : Int) < (nr : Int)) = false := decide_eq_false k2
   have d2' : decide ((nr : Int) > 16) = false := d2
   have d3 : decide ((nr : Int) ≤ 16) = true := decide_eq_true (by omega)
   cases d4 : inB (nl : Int) 2 8
   ·skip
    have hv : E = 2 := by rw [HE.out]; exact err_no (ok_size (by rw [HSZ.out, d1, d3, d4]; rfl))
    rw [hv]
    clear hv
    go_enter Tryz.func20, Tryz.ntmps20
    go_wp2_with (first | go_big_skip | go_big_guard | (refine wl_boxA hst0 rfl rfl rfl ?_; intro g1 w1 hst; clear hst0) | (refine wl_loadE rfl rfl rfl ?_; first | refine ⟨_, Loads.at [] hst rfl, ?_⟩ | refine ⟨_, Loads.atA (tabC t (.slice ar nr cr) (.slice al nl cl)) [] hst rfl rfl, ?_⟩) | (go_at_call 47; refine (within_any _ _ _ _).mono ?_; rintro _ w9 ⟨rfl, h4⟩; replace hst := St.call0 hst h4; clear h4) | (go_at_call 48; refine (cursored_any t (.slice ar nr cr) al nl cl HNL.out hbl _).mono ?_; rintro _ w9 ⟨rfl, h4⟩; replace hst := St.call0 hst h4; clear h4) | (go_at_call 49; refine (containsI_any (w0 := w) (M := []) (L := []) 50 (fun n => !(inB n 0 2147483647)) al nl cl t.lives _ (fun _ _ => rfl) (fun n w _ => livesC_any n w) (Rd.old hst HLV.out) HNL.out hbl).mono ?_; rw [HA.out]; rintro _ w9 ⟨rfl, h4⟩; replace hst := St.call0 hst h4; clear h4))
    go_ret
    exact ⟨rfl, hst.nil⟩
   ·cases d5 : t.curB
    ·skip
     have hv : E = 2 := by rw [HE.out]; exact err_no (ok_cur d5)
     rw [hv]
     clear hv
     go_enter Tryz.func20, Tryz.ntmps20
     go_wp2_with (first | go_big_skip | go_big_guard | (refine wl_boxA hst0 rfl rfl rfl ?_; intro g1 w1 hst; clear hst0) | (refine wl_loadE rfl rfl rfl ?_; first | refine ⟨_, Loads.at [] hst rfl, ?_⟩ | refine ⟨_, Loads.atA (tabC t (.slice ar nr cr) (.slice al nl cl)) [] hst rfl rfl, ?_⟩) | (go_at_call 47; refine (within_any _ _ _ _).mono ?_; rintro _ w9 ⟨rfl, h4⟩; replace hst := St.call0 hst h4; clear h4) | (go_at_call 48; refine (cursored_any t (.slice ar nr cr) al nl cl HNL.out hbl _).mono ?_; rintro _ w9 ⟨rfl, h4⟩; replace hst := St.call0 hst h4; clear h4) | (go_at_call 49; refine (containsI_any (w0 := w) (M := []) (L := []) 50 (fun n => !(inB n 0 2147483647)) al nl cl t.lives _ (fun _ _ => rfl) (fun n w _ => livesC_any n w) (Rd.old hst HLV.out) HNL.out hbl).mono ?_; rw [HA.out]; rintro _ w9 ⟨rfl, h4⟩; replace hst := St.call0 hst h4; clear h4))
     go_ret
     exact ⟨rfl, hst.nil⟩
    ·cases d6 : t.lives.all fun n => inB n 0 2147483647
     ·skip
      have hv : E = 2 := by rw [HE.out]; exact err_no (ok_lives d6)
      rw [hv]
      clear hv
      go_enter Tryz.func20, Tryz.ntmps20
      go_wp2_with (first | go_big_skip | go_big_guard | (refine wl_boxA hst0 rfl rfl rfl ?_; intro g1 w1 hst; clear hst0) | (refine wl_loadE rfl rfl rfl ?_; first | refine ⟨_, Loads.at [] hst rfl, ?_⟩ | refine ⟨_, Loads.atA (tabC t (.slice ar nr cr) (.slice al nl cl)) [] hst rfl rfl, ?_⟩) | (go_at_call 47; refine (within_any _ _ _ _).mono ?_; rintro _ w9 ⟨rfl, h4⟩; replace hst := St.call0 hst h4; clear h4) | (go_at_call 48; refine (cursored_any t (.slice ar nr cr) al nl cl HNL.out hbl _).mono ?_; rintro _ w9 ⟨rfl, h4⟩; replace hst := St.call0 hst h4; clear h4) | (go_at_call 49; refine (containsI_any (w0 := w) (M := []) (L := []) 50 (fun n => !(inB n 0 2147483647)) al nl cl t.lives _ (fun _ _ => rfl) (fun n w _ => livesC_any n w) (Rd.old hst HLV.out) HNL.out hbl).mono ?_; rw [HA.out]; rintro _ w9 ⟨rfl, h4⟩; replace hst := St.call0 hst h4; clear h4))
      go_ret
      exact ⟨rfl, hst.nil⟩
     ·have HSZ1 : Hid (t.sizeB = true) := hid (by rw [HSZ.out, d1, d3, d4]; rfl)
      have HC1 := hid d5
      have HL1 : Hid (t.livesB = true) := hid d6
      go_enter Tryz.func20, Tryz.ntmps20
      go_wp2_with (first | go_big_skip | go_big_guard | (refine wl_boxA hst0 rfl rfl rfl ?_; intro g1 w1 hst; clear hst0) | (refine wl_loadE rfl rfl rfl ?_; first | refine ⟨_, Loads.at [] hst rfl, ?_⟩ | refine ⟨_, Loads.atA (tabC t (.slice ar nr cr) (.slice al nl cl)) [] hst rfl rfl, ?_⟩) | (go_at_call 47; refine (within_any _ _ _ _).mono ?_; rintro _ w9 ⟨rfl, h4⟩; replace hst := St.call0 hst h4; clear h4) | (go_at_call 48; refine (cursored_any t (.slice ar nr cr) al nl cl HNL.out hbl _).mono ?_; rintro _ w9 ⟨rfl, h4⟩; replace hst := St.call0 hst h4; clear h4) | (go_at_call 49; refine (containsI_any (w0 := w) (M := []) (L := []) 50 (fun n => !(inB n 0 2147483647)) al nl cl t.lives _ (fun _ _ => rfl) (fun n w _ => livesC_any n w) (Rd.old hst HLV.out) HNL.out hbl).mono ?_; rw [HA.out]; rintro _ w9 ⟨rfl, h4⟩; replace hst := St.call0 hst h4; clear h4))
      go_loopw [34] (fun i wr => ∃ j : Nat, j ≤ nr ∧ i = .int .i64 (j : Int) ∧ St w [] wr [.blk g1 27 (tabC t (.slice ar nr cr) (.slice al nl cl))] ∧ Hid (∀ i y, i < j → xs[i]? = some y → eachB (xs.map (·.2)) i y.2 = true)) (fun i _ => nr - (intOf i).toNat)
      case atStart => exact ⟨0, Nat.zero_le _, rfl, hst, hid (fun i y hi _ => by omega)⟩
      case round =>
       clear hst
       obtain ⟨j, hj, rfl, hst, HP⟩ := hrel
       by_cases hlt : j < nr
       ·have e1 : decide ((j : Int) < (nr : Int)) = true := decide_eq_true (by omega)
        have z1 : IntKind.i64.wrap ((j : Int) + 1) = (j : Int) + 1 := IntWalk.i64_in _ (by omega)
        obtain ⟨x, lb, lo, hxj, rfl, hin, hr⟩ := RecsIn.at HR.out hlt
        have HXJ := hid hxj
        have HIN := hid hin
        have HL := hid (cellsR_len hin.L)
        have HWR := hid hr
        clear hxj hin hr
        obtain ⟨q, hq⟩ : ∃ q, q = x.2.aloneB := ⟨_, rfl⟩
        have HQ := hid hq
        clear hq
        cases q
        ·go_wp2_with (first | go_big_skip | go_big_guard | (refine wl_index rfl rfl rfl rfl hlt ?_) | (refine wl_loadE rfl rfl rfl ?_; first | refine ⟨_, Loads.oldA (cs := cellsR x) hst HL.out HWR.out, ?_⟩) | (refine wl_alloc hst rfl rfl ?_; intro gx w2 hst2; clear hst) | (refine wl_storeA [] hst2 rfl rfl rfl rfl (by exact HL.out) (cellsR_ones HIN.out) rfl ?_; intro w3 hst3; clear hst2))
         have hX := hst3.drew
         clear hst3
         refine wp_region_held_drew (S := (fun w' => (loadVarH 53 ⟨gx, 0, none⟩).run Tryz.prog w' = .ok (.agg (List.toArray (cellsR x))) w')) (by kernel_rfl) (by exact ldA (cellsR x) [] hX (HL.out) (by simp)) (fun hHeld => ?_)
         refine tq 0 39 ?_
         refine wpAnyH_ready (rs := [1]) (by kernel_rfl) (by simp) ?_
         refine (AllReadyH.cons (o := ⟨some 40, _, _, _, _, _⟩) rfl (fun K hK => ?_) AllReadyH.nil)
         rw [if_pos (by rfl)]
         go_simp
         go_at_call 51
         refine (alone_any x _ (RC.In.old hX HIN.out)).mono ?_
         rw [← HQ.out]
         rintro _ w4 ⟨rfl, h4⟩
         have hA1 := St.call0 hX h4
         clear h4
         refine hK.out _ _ ?_ (fun hHeld => ?_)
         ·exact ldA (cellsR x) [] hA1 (HL.out) (by simp)
         clear hK K
         (try simp only [Act.put, List.setIfInBounds_toArray, List.set_cons_zero, List.set_cons_succ])
         refine tq 2 41 ?_
         refine tq 3 42 ?_
         refine tu 4 43 ?_
         refine tu 5 44 ?_
         refine tu 6 45 ?_
         refine tu 7 46 ?_
         refine tu 9 48 ?_
         refine tu 14 53 ?_
         refine tu 8 47 ?_
         refine tu 10 49 ?_
         refine tu 15 54 ?_
         refine tu 11 50 ?_
         refine tu 12 51 ?_
         refine tu 13 52 ?_
         refine wpAnyH_ready (rs := [16]) (by kernel_rfl) (by simp) ?_
         refine (AllReadyH.cons (o := ⟨some 55, _, _, _, _, _⟩) rfl (fun K hK => ?_) AllReadyH.nil)
         rw [if_neg (by rw [show Region.wanted _ _ = false from rfl]; exact Bool.false_ne_true)]
         refine hK.out _ _ ?_ (fun hHeld => ?_)
         ·exact ldA (cellsR x) [] hA1 (HL.out) (by simp)
         clear hK K
         (try simp only [Act.put, List.setIfInBounds_toArray, List.set_cons_zero, List.set_cons_succ])
         refine tu 17 56 ?_
         refine tu 18 57 ?_
         refine tq 19 58 ?_
         refine wpAnyH_done (by kernel_rfl) ?_ _
         clear hHeld
         have hv : E = 2 := by rw [HE.out]; exact err_no (ok_each (by rw [← HX.out]; exact allAt_no (map_at HXJ.out) (by unfold eachB; rw [← HQ.out]; rfl)))
         have HV := hid hv
         clear hv
         go_wp2_with (first | go_big_skip | go_big_guard | fail)
         go_ret
         exact ⟨by have h := HV.out; subst h; rfl, hA1.nil⟩
        ·rcases j with _ | k
         ·go_wp2_with (first | go_big_skip | go_big_guard | (refine wl_index rfl rfl rfl rfl hlt ?_) | (refine wl_loadE rfl rfl rfl ?_; first | refine ⟨_, Loads.oldA (cs := cellsR x) hst HL.out HWR.out, ?_⟩) | (refine wl_alloc hst rfl rfl ?_; intro gx w2 hst2; clear hst) | (refine wl_storeA [] hst2 rfl rfl rfl rfl (by exact HL.out) (cellsR_ones HIN.out) rfl ?_; intro w3 hst3; clear hst2))
          have hX := hst3.drew
          clear hst3
          refine wp_region_held_drew (S := (fun w' => (loadVarH 53 ⟨gx, 0, none⟩).run Tryz.prog w' = .ok (.agg (List.toArray (cellsR x))) w')) (by kernel_rfl) (by exact ldA (cellsR x) [] hX (HL.out) (by simp)) (fun hHeld => ?_)
          refine tq 0 39 ?_
          refine wpAnyH_ready (rs := [1]) (by kernel_rfl) (by simp) ?_
          refine (AllReadyH.cons (o := ⟨some 40, _, _, _, _, _⟩) rfl (fun K hK => ?_) AllReadyH.nil)
          rw [if_pos (by rfl)]
          go_simp
          go_at_call 51
          refine (alone_any x _ (RC.In.old hX HIN.out)).mono ?_
          rw [← HQ.out]
          rintro _ w4 ⟨rfl, h4⟩
          have hA1 := St.call0 hX h4
          clear h4
          refine hK.out _ _ ?_ (fun hHeld => ?_)
          ·exact ldA (cellsR x) [] hA1 (HL.out) (by simp)
          clear hK K
          (try simp only [Act.put, List.setIfInBounds_toArray, List.set_cons_zero, List.set_cons_succ])
          refine tq 2 41 ?_
          refine tq 3 42 ?_
          refine tq 4 43 ?_
          refine tq 5 44 ?_
          refine tq 6 45 ?_
          refine tu 7 46 ?_
          refine tu 9 48 ?_
          refine tu 14 53 ?_
          refine tu 8 47 ?_
          refine tu 10 49 ?_
          refine tu 15 54 ?_
          refine tu 11 50 ?_
          refine tu 12 51 ?_
          refine tu 13 52 ?_
          refine wpAnyH_ready (rs := [16]) (by kernel_rfl) (by simp) ?_
          refine (AllReadyH.cons (o := ⟨some 55, _, _, _, _, _⟩) rfl (fun K hK => ?_) AllReadyH.nil)
          rw [if_neg (by rw [show Region.wanted _ _ = false from rfl]; exact Bool.false_ne_true)]
          refine hK.out _ _ ?_ (fun hHeld => ?_)
          ·exact ldA (cellsR x) [] hA1 (HL.out) (by simp)
          clear hK K
          (try simp only [Act.put, List.setIfInBounds_toArray, List.set_cons_zero, List.set_cons_succ])
          refine tu 17 56 ?_
          refine tq 18 57 ?_
          refine tq 19 58 ?_
          refine wpAnyH_done (by kernel_rfl) ?_ _
          clear hHeld
          go_wp2_with (first | go_big_skip | go_big_guard | fail)
          go_roundw
          case rel => exact ⟨0 + 1, by omega, by go_num, St.drop (L1 := []) hA1, hid (all_steps HP.out HXJ.out (by unfold eachB; rw [← HQ.out]; rfl))⟩
          case measure => simp [intOf]; omega
         ·obtain ⟨y, b', o', hy', he, hiny, hry⟩ := RecsIn.at HR.out (k := k) (by omega)
          cases he
          have HYK := hid hy'
          have HINY := hid hiny
          have HY := hid (show w.cell? ⟨lb, lo + k * 44 + 1, none⟩ = some (.string ⟨y.2.name.toArray⟩) from hry 1 _ rfl)
          clear hy' hiny hry
          have z2 : IntKind.i64.wrap (((k + 1 : Nat) : Int) - 1) = (k : Int) := by rw [IntWalk.i64_in _ (by omega)]; omega
          have z3 : (((k + 1 : Nat) : Int) - 1) = (k : Int) := by omega
          have z6 : IntKind.i64.wrap (k : Int) = (k : Int) := IntWalk.i64_in _ (by omega)
          have z4 : decide ((0 : Int) < ((k + 1 : Nat) : Int)) = true := decide_eq_true (by omega)
          have z5 : decide (((k + 1 : Nat) : Int) > 0) = true := z4
          have hltk : k < nr := by omega
          obtain ⟨r, hr⟩ : ∃ r, r = lessL y.2.name x.2.name := ⟨_, rfl⟩
          have HLE := hid hr
          have HLA := hid (show lessAt (xs.map (·.2)) (k + 1) x.2 = lessL y.2.name x.2.name from less_at HYK.out)
          clear hr
          cases r
          ·go_wp2_with (first | go_big_skip | go_big_guard | (refine wl_index rfl rfl rfl rfl hlt ?_) | (refine wl_loadE rfl rfl rfl ?_; first | refine ⟨_, Loads.oldA (cs := cellsR x) hst HL.out HWR.out, ?_⟩) | (refine wl_alloc hst rfl rfl ?_; intro gx w2 hst2; clear hst) | (refine wl_storeA [] hst2 rfl rfl rfl rfl (by exact HL.out) (cellsR_ones HIN.out) rfl ?_; intro w3 hst3; clear hst2))
           have hX := hst3.drew
           clear hst3
           refine wp_region_held_drew (S := (fun w' => (loadVarH 53 ⟨gx, 0, none⟩).run Tryz.prog w' = .ok (.agg (List.toArray (cellsR x))) w' ∧ (loadVarH 22 ⟨g1, 1, none⟩).run Tryz.prog w' = .ok (.slice (some ⟨lb, lo, none⟩) nr cr) w' ∧ (loadVarH 9 ⟨gx, 1, none⟩).run Tryz.prog w' = .ok (.string ⟨x.2.name.toArray⟩) w' ∧ (loadVarH 9 ⟨lb, lo + k * 44 + 1, none⟩).run Tryz.prog w' = .ok (.string ⟨y.2.name.toArray⟩) w')) (by kernel_rfl) (by exact ⟨ldA (cellsR x) [] hX (HL.out) (by simp), ldS [_] hX rfl, ldS [] hX rfl, ldO hX (HY.out)⟩) (fun hHeld => ?_)
           refine tq 0 39 ?_
           refine wpAnyH_ready (rs := [1]) (by kernel_rfl) (by simp) ?_
           refine (AllReadyH.cons (o := ⟨some 40, _, _, _, _, _⟩) rfl (fun K hK => ?_) AllReadyH.nil)
           rw [if_pos (by rfl)]
           go_simp
           go_at_call 51
           refine (alone_any x _ (RC.In.old hX HIN.out)).mono ?_
           rw [← HQ.out]
           rintro _ w4 ⟨rfl, h4⟩
           have hA1 := St.call0 hX h4
           clear h4
           refine hK.out _ _ ?_ (fun hHeld => ?_)
           ·exact ⟨ldA (cellsR x) [] hA1 (HL.out) (by simp), ldS [_] hA1 rfl, ldS [] hA1 rfl, ldO hA1 (HY.out)⟩
           clear hK K
           (try simp only [Act.put, List.setIfInBounds_toArray, List.set_cons_zero, List.set_cons_succ])
           refine tq 2 41 ?_
           refine tq 3 42 ?_
           refine tq 4 43 ?_
           refine tq 5 44 ?_
           refine tq 6 45 ?_
           refine tq 7 46 ?_
           refine tq 9 48 ?_
           refine tq 14 53 ?_
           refine tq 8 47 ?_
           refine tq 10 49 ?_
           refine tq 15 54 ?_
           refine tq 11 50 ?_
           refine tq 12 51 ?_
           refine tq 13 52 ?_
           refine wpAnyH_ready (rs := [16]) (by kernel_rfl) (by simp) ?_
           refine (AllReadyH.cons (o := ⟨some 55, _, _, _, _, _⟩) rfl (fun K hK => ?_) AllReadyH.nil)
           rw [if_pos (by rfl)]
           go_simp
           go_at_call 52
           refine (less_any y.2.name x.2.name _ HINY.out.2 HIN.out.2).mono ?_
           rw [← HLE.out]
           rintro _ w5 ⟨rfl, h4⟩
           have hA2 := St.call0 hA1 h4
           clear h4
           refine hK.out _ _ ?_ (fun hHeld => ?_)
           ·exact ⟨ldA (cellsR x) [] hA2 (HL.out) (by simp), ldS [_] hA2 rfl, ldS [] hA2 rfl, ldO hA2 (HY.out)⟩
           clear hK K
           (try simp only [Act.put, List.setIfInBounds_toArray, List.set_cons_zero, List.set_cons_succ])
           refine tq 17 56 ?_
           refine tq 18 57 ?_
           refine tq 19 58 ?_
           refine wpAnyH_done (by kernel_rfl) ?_ _
           clear hHeld
           have hv : E = 2 := by rw [HE.out]; exact err_no (ok_each (by rw [← HX.out]; exact allAt_no (map_at HXJ.out) (by unfold eachB; rw [← HQ.out, HLA.out, ← HLE.out]; rfl)))
           have HV := hid hv
           clear hv
           go_wp2_with (first | go_big_skip | go_big_guard | fail)
           go_ret
           exact ⟨by have h := HV.out; subst h; rfl, hA2.nil⟩
          ·go_wp2_with (first | go_big_skip | go_big_guard | (refine wl_index rfl rfl rfl rfl hlt ?_) | (refine wl_loadE rfl rfl rfl ?_; first | refine ⟨_, Loads.oldA (cs := cellsR x) hst HL.out HWR.out, ?_⟩) | (refine wl_alloc hst rfl rfl ?_; intro gx w2 hst2; clear hst) | (refine wl_storeA [] hst2 rfl rfl rfl rfl (by exact HL.out) (cellsR_ones HIN.out) rfl ?_; intro w3 hst3; clear hst2))
           have hX := hst3.drew
           clear hst3
           refine wp_region_held_drew (S := (fun w' => (loadVarH 53 ⟨gx, 0, none⟩).run Tryz.prog w' = .ok (.agg (List.toArray (cellsR x))) w' ∧ (loadVarH 22 ⟨g1, 1, none⟩).run Tryz.prog w' = .ok (.slice (some ⟨lb, lo, none⟩) nr cr) w' ∧ (loadVarH 9 ⟨gx, 1, none⟩).run Tryz.prog w' = .ok (.string ⟨x.2.name.toArray⟩) w' ∧ (loadVarH 9 ⟨lb, lo + k * 44 + 1, none⟩).run Tryz.prog w' = .ok (.string ⟨y.2.name.toArray⟩) w')) (by kernel_rfl) (by exact ⟨ldA (cellsR x) [] hX (HL.out) (by simp), ldS [_] hX rfl, ldS [] hX rfl, ldO hX (HY.out)⟩) (fun hHeld => ?_)
           refine tq 0 39 ?_
           refine wpAnyH_ready (rs := [1]) (by kernel_rfl) (by simp) ?_
           refine (AllReadyH.cons (o := ⟨some 40, _, _, _, _, _⟩) rfl (fun K hK => ?_) AllReadyH.nil)
           rw [if_pos (by rfl)]
           go_simp
           go_at_call 51
           refine (alone_any x _ (RC.In.old hX HIN.out)).mono ?_
           rw [← HQ.out]
           rintro _ w4 ⟨rfl, h4⟩
           have hA1 := St.call0 hX h4
           clear h4
           refine hK.out _ _ ?_ (fun hHeld => ?_)
           ·exact ⟨ldA (cellsR x) [] hA1 (HL.out) (by simp), ldS [_] hA1 rfl, ldS [] hA1 rfl, ldO hA1 (HY.out)⟩
           clear hK K
           (try simp only [Act.put, List.setIfInBounds_toArray, List.set_cons_zero, List.set_cons_succ])
           refine tq 2 41 ?_
           refine tq 3 42 ?_
           refine tq 4 43 ?_
           refine tq 5 44 ?_
           refine tq 6 45 ?_
           refine tq 7 46 ?_
           refine tq 9 48 ?_
           refine tq 14 53 ?_
           refine tq 8 47 ?_
           refine tq 10 49 ?_
           refine tq 15 54 ?_
           refine tq 11 50 ?_
           refine tq 12 51 ?_
           refine tq 13 52 ?_
           refine wpAnyH_ready (rs := [16]) (by kernel_rfl) (by simp) ?_
           refine (AllReadyH.cons (o := ⟨some 55, _, _, _, _, _⟩) rfl (fun K hK => ?_) AllReadyH.nil)
           rw [if_pos (by rfl)]
           go_simp
           go_at_call 52
           refine (less_any y.2.name x.2.name _ HINY.out.2 HIN.out.2).mono ?_
           rw [← HLE.out]
           rintro _ w5 ⟨rfl, h4⟩
           have hA2 := St.call0 hA1 h4
           clear h4
           refine hK.out _ _ ?_ (fun hHeld => ?_)
           ·exact ⟨ldA (cellsR x) [] hA2 (HL.out) (by simp), ldS [_] hA2 rfl, ldS [] hA2 rfl, ldO hA2 (HY.out)⟩
           clear hK K
           (try simp only [Act.put, List.setIfInBounds_toArray, List.set_cons_zero, List.set_cons_succ])
           refine tq 17 56 ?_
           refine tq 18 57 ?_
           refine tq 19 58 ?_
           refine wpAnyH_done (by kernel_rfl) ?_ _
           clear hHeld
           go_wp2_with (first | go_big_skip | go_big_guard | fail)
           go_roundw
           case rel => exact ⟨k + 1 + 1, by omega, by go_num, St.drop (L1 := []) hA2, hid (all_steps HP.out HXJ.out (by unfold eachB; rw [← HQ.out, HLA.out, ← HLE.out]; rfl))⟩
           case measure => simp [intOf]; omega
       ·have e1 : decide ((j : Int) < (nr : Int)) = false := decide_eq_false (by omega)
        have HE1 : Hid (allAt (eachB t.recs) t.recs = true) := hid (by rw [← HX.out]; exact all_end (fun i y hi hy => HP.out i y (by have := HR.out.len; omega) hy))
        clear HP hj e1
        go_wp2_with (first | go_big_skip | go_big_guard | (refine wl_loadE rfl rfl rfl ?_; first | refine ⟨_, Loads.at [] hst rfl, ?_⟩ | refine ⟨_, Loads.atA (tabC t (.slice ar nr cr) (.slice al nl cl)) [] hst rfl rfl, ?_⟩))
        go_loopw [63] (fun i wr => ∃ j : Nat, j ≤ nr ∧ i = .int .i64 (j : Int) ∧ St w [] wr [.blk g1 27 (tabC t (.slice ar nr cr) (.slice al nl cl))] ∧ Hid (∀ i y, i < j → xs[i]? = some y → relB t.next (xs.map (·.2)) i y.2 = true)) (fun i _ => nr - (intOf i).toNat)
        case atStart => exact ⟨0, Nat.zero_le _, rfl, hst, hid (fun i y hi _ => by omega)⟩
        case round =>
         clear hst
         obtain ⟨j, hj, rfl, hst, HP⟩ := hrel
         by_cases hlt : j < nr
         ·have e1 : decide ((j : Int) < (nr : Int)) = true := decide_eq_true (by omega)
          have z1 : IntKind.i64.wrap ((j : Int) + 1) = (j : Int) + 1 := IntWalk.i64_in _ (by omega)
          obtain ⟨x, hxj⟩ : ∃ x, xs[j]? = some x := ⟨_, List.getElem?_eq_getElem (by rw [HR.out.len]; exact hlt)⟩
          have HXJ := hid hxj
          clear hxj
          obtain ⟨q, hq⟩ : ∃ q, q = relB t.next (xs.map (·.2)) j x.2 := ⟨_, rfl⟩
          have HQ := hid hq
          clear hq
          cases q
          ·have hv : E = 2 := by rw [HE.out]; exact err_no (ok_rel (by rw [← HX.out]; exact allAt_no (map_at HXJ.out) HQ.out.symm))
           have HV := hid hv
           clear hv
           go_wp2_with (first | go_big_skip | go_big_guard | (refine wl_loadE rfl rfl rfl ?_; first | refine ⟨_, Loads.at [] hst rfl, ?_⟩ | refine ⟨_, Loads.atA (tabC t (.slice ar nr cr) (.slice al nl cl)) [] hst rfl rfl, ?_⟩) | (go_at_call 53; refine (related_any t (.slice al nl cl) ar nr cr xs _ (HR.out.old hst) hb j x HXJ.out).mono ?_; rw [← HQ.out]; rintro _ w9 ⟨rfl, h4⟩; replace hst := St.call0 hst h4; clear h4))
           go_ret
           exact ⟨by have h := HV.out; subst h; rfl, hst.nil⟩
          ·go_wp2_with (first | go_big_skip | go_big_guard | (refine wl_loadE rfl rfl rfl ?_; first | refine ⟨_, Loads.at [] hst rfl, ?_⟩ | refine ⟨_, Loads.atA (tabC t (.slice ar nr cr) (.slice al nl cl)) [] hst rfl rfl, ?_⟩) | (go_at_call 53; refine (related_any t (.slice al nl cl) ar nr cr xs _ (HR.out.old hst) hb j x HXJ.out).mono ?_; rw [← HQ.out]; rintro _ w9 ⟨rfl, h4⟩; replace hst := St.call0 hst h4; clear h4))
           go_roundw
           case rel => exact ⟨j + 1, by omega, rfl, hst, hid (all_steps HP.out HXJ.out HQ.out.symm)⟩
           case measure => simp [intOf]; omega
         ·have e1 : decide ((j : Int) < (nr : Int)) = false := decide_eq_false (by omega)
          have hv : E = 0 := by rw [HE.out]; exact err_yes (ok_all HSZ1.out HC1.out HL1.out HE1.out (by rw [← HX.out]; exact all_end (fun i y hi hy => HP.out i y (by have := HR.out.len; omega) hy)))
          have HV := hid hv
          clear hv
          go_wp2_with (first | go_big_skip | go_big_guard | fail)
          go_ret
          exact ⟨by have h := HV.out; subst h; rfl, hst.nil⟩
end Go.Proofs.YtifajcblbedcoaaGreat
namespace Go.Proofs.YtifajcblbedcoaaGreat
set_option linter.unusedVariables false
set_option linter.unusedSimpArgs false
open Go.RowKit Hp
attribute [local irreducible] Go.Calls Go.wpList
set_option maxRecDepth 100000
set_option maxHeartbeats 8000000
attribute [local go_sem ↓] heldInt heldInts heldRecs heldRec
theorem kitInts_any (a a' : Option Addr) (n c n' c' : Nat) (l k : List Int) (w : World) (hl : Rd w (.slice a n c) 1 n (numsV l)) (hk : Rd w (.slice a' n' c') 1 n' (numsV k)) (hn : l.length = n) (hn' : k.length = n') (hb : n ≤ 1000000) (hb' : n' ≤ 1000000) :
  Calls Tryz.prog 43 #[.slice a n c, .slice a' n' c'] w fun e w' => e = .returned (.bool (l == k)) ∧ St w [] w' [] := by
 have hst := St.refl w
 have HL := hid hl
 have HK := hid hk
 have HN := hid hn
 have HN' := hid hn'
 obtain ⟨E, hE⟩ : ∃ E, E = (l == k) := ⟨_, rfl⟩
 rw [← hE]
 have HE := hid hE
 clear hl hk hn hn' hE
 by_cases hnn : n = n'
 ·subst hnn
  have d1 : ((n : Int) != (n : Int)) = false := by simp
  go_enter Tryz.func43, Tryz.ntmps43
  go_wp2_with (first | go_big_skip | go_big_guard | fail)
  go_loopw [5] (fun i wr => ∃ j : Nat, j ≤ n ∧ i = .int .i64 (j : Int) ∧ St w [] wr [] ∧ Hid (∀ (i : Nat) (x y : Int), i < j → l[i]? = some x → k[i]? = some y → x = y)) (fun i _ => n - (intOf i).toNat)
  case atStart => exact ⟨0, Nat.zero_le _, rfl, hst, hid (fun i x y hi _ _ => by omega)⟩
  case round =>
   clear hst
   obtain ⟨j, hj, rfl, hst, HP⟩ := hrel
   by_cases hlt : j < n
   ·have e1 : decide ((j : Int) < (n : Int)) = true := decide_eq_true (by omega)
    have z1 : IntKind.i64.wrap ((j : Int) + 1) = (j : Int) + 1 := IntWalk.i64_in _ (by omega)
    obtain ⟨x, hx⟩ : ∃ x, l[j]? = some x := ⟨_, List.getElem?_eq_getElem (by rw [HN.out]; exact hlt)⟩
    obtain ⟨y, hy⟩ : ∃ y, k[j]? = some y := ⟨_, List.getElem?_eq_getElem (by rw [HN'.out]; exact hlt)⟩
    obtain ⟨lb, lo, rfl, hr⟩ := Rd.at HL.out hlt
    obtain ⟨lb2, lo2, rfl, hr2⟩ := Rd.at HK.out hlt
    have HX := hid hx
    have HY := hid hy
    have HCX := hid (hr j _ (numsV_get hx))
    have HCY := hid (hr2 j _ (numsV_get hy))
    clear hx hy hr hr2
    by_cases hxy : x = y
    ·have d2 : (x != y) = false := by rw [hxy]; simp
     have HXY := hid hxy
     clear hxy
     go_wp2_with (first | go_big_skip | go_big_guard | fail)
     have hX := hst.drew
     clear hst
     refine wp_region_held_drew (S := (fun w' => (loadVarH 3 ⟨lb, lo + j, none⟩).run Tryz.prog w' = .ok (.int .i64 x) w' ∧ (loadVarH 3 ⟨lb2, lo2 + j, none⟩).run Tryz.prog w' = .ok (.int .i64 y) w')) (by kernel_rfl) (by exact ⟨ldO hX HCX.out, ldO hX HCY.out⟩) (fun hHeld => ?_)
     refine tq 0 17 ?_
     refine tq 1 18 ?_
     refine tq 4 21 ?_
     refine tq 5 22 ?_
     refine tq 2 19 ?_
     refine tq 6 23 ?_
     refine tq 3 20 ?_
     refine tq 7 24 ?_
     refine tq 8 25 ?_
     refine wpAnyH_done (by kernel_rfl) ?_ _
     clear hHeld
     go_wp2_with (first | go_big_skip | go_big_guard | fail)
     go_roundw
     case rel => exact ⟨j + 1, by omega, rfl, hX, hid (fun i a b hi ha hb => by
      by_cases e : i = j
      ·subst e
       rw [HX.out] at ha; rw [HY.out] at hb
       cases ha; cases hb
       exact HXY.out
      ·exact HP.out i a b (by omega) ha hb)⟩
     case measure => simp [intOf]; omega
    ·have d2 : (x != y) = true := by rw [bne_iff_ne]; exact hxy
     have HXY := hid hxy
     clear hxy
     go_wp2_with (first | go_big_skip | go_big_guard | fail)
     have hX := hst.drew
     clear hst
     refine wp_region_held_drew (S := (fun w' => (loadVarH 3 ⟨lb, lo + j, none⟩).run Tryz.prog w' = .ok (.int .i64 x) w' ∧ (loadVarH 3 ⟨lb2, lo2 + j, none⟩).run Tryz.prog w' = .ok (.int .i64 y) w')) (by kernel_rfl) (by exact ⟨ldO hX HCX.out, ldO hX HCY.out⟩) (fun hHeld => ?_)
     refine tq 0 17 ?_
     refine tq 1 18 ?_
     refine tq 4 21 ?_
     refine tq 5 22 ?_
     refine tq 2 19 ?_
     refine tq 6 23 ?_
     refine tq 3 20 ?_
     refine tq 7 24 ?_
     refine tq 8 25 ?_
     refine wpAnyH_done (by kernel_rfl) ?_ _
     clear hHeld
     go_wp2_with (first | go_big_skip | go_big_guard | fail)
     go_ret
     exact ⟨by rw [HE.out, ints_no HX.out HY.out HXY.out]; rfl, hX⟩
   ·have e1 : decide ((j : Int) < (n : Int)) = false := decide_eq_false (by omega)
    go_wp2_with (first | go_big_skip | go_big_guard | fail)
    go_ret
    exact ⟨by rw [HE.out, ints_all (by rw [HN.out, HN'.out]) (fun i x y hx hy => HP.out i x y (by have := (List.getElem?_eq_some_iff.1 hx).1; have := HN.out; omega) hx hy)]; rfl, hst⟩
 ·have d1 : ((n : Int) != (n' : Int)) = true := by rw [bne_iff_ne]; omega
  have HNN := hid hnn
  clear hnn
  go_enter Tryz.func43, Tryz.ntmps43
  go_wp2_with (first | go_big_skip | go_big_guard | fail)
  go_ret
  exact ⟨by rw [HE.out, ints_len (by rw [HN.out, HN'.out]; exact HNN.out)]; rfl, hst⟩
end Go.Proofs.YtifajcblbedcoaaGreat
namespace Go.Proofs.YtifajcblbedcoaaGreat
set_option linter.unusedVariables false
set_option linter.unusedSimpArgs false
open Go.RowKit Hp
attribute [local irreducible] Go.Calls Go.wpList
set_option maxRecDepth 100000
set_option maxHeartbeats 8000000
structure TabIn (w : World) (t : TC) (ar : Option Addr) (nr cr : Nat) (al : Option Addr) (nl cl : Nat) (xs : List (Value × RC)) : Prop where
 R : RecsIn w (.slice ar nr cr) nr xs
 eq : xs.map (·.2) = t.recs
 L : Rd w (.slice al nl cl) 1 nl (numsV t.lives)
 ln : t.lives.length = nl
 br : nr ≤ 1000000
 bl : nl ≤ 1000000
theorem TabIn.old {w0 w : World} {Ls : List HA} {t : TC} {ar al : Option Addr} {nr cr nl cl : Nat} {xs : List (Value × RC)} (hst : St w0 [] w Ls) (h : TabIn w0 t ar nr cr al nl cl xs) : TabIn w t ar nr cr al nl cl xs := ⟨h.R.old hst, h.eq, Rd.old hst h.L, h.ln, h.br, h.bl⟩
theorem TabIn.len {w : World} {t : TC} {ar al : Option Addr} {nr cr nl cl : Nat} {xs : List (Value × RC)} (h : TabIn w t ar nr cr al nl cl xs) : t.recs.length = nr := by rw [← h.eq, List.length_map, h.R.len]
theorem recs_at {w : World} {t : TC} {ar al : Option Addr} {nr cr nl cl j : Nat} {xs : List (Value × RC)} {x : Value × RC} (h : TabIn w t ar nr cr al nl cl xs) (hx : xs[j]? = some x) : t.recs[j]? = some x.2 := by rw [← h.eq]; exact map_at hx
theorem recs_all {l k : List RC} {xs ys : List (Value × RC)} {n : Nat} (hx : xs.map (·.2) = l) (hy : ys.map (·.2) = k) (hl : l.length = n) (hk : k.length = n) (h : ∀ (i : Nat) (x y : Value × RC), i < n → xs[i]? = some x → ys[i]? = some y → x.2.sameB y.2 = true) : recsB l k = true := by
 subst hx hy
 refine recsB_all (by rw [hl, hk]) (fun i x y hx hy => ?_)
 have hi : i < n := by rw [← hl]; exact (List.getElem?_eq_some_iff.1 hx).1
 rw [List.getElem?_map] at hx hy
 cases hx' : xs[i]? with
 | none => rw [hx'] at hx; cases hx
 | some u =>
  cases hy' : ys[i]? with
  | none => rw [hy'] at hy; cases hy
  | some v =>
   rw [hx'] at hx; rw [hy'] at hy
   cases hx; cases hy
   exact h i u v hi hx' hy'
attribute [local go_sem ↓] heldInt heldInts heldRecs heldRec
theorem kitTable_any (t u : TC) (ar al ar' al' : Option Addr) (nr cr nl cl nr' cr' nl' cl' : Nat) (xs ys : List (Value × RC)) (w : World) (ht : TabIn w t ar nr cr al nl cl xs) (hu : TabIn w u ar' nr' cr' al' nl' cl' ys) :
  Calls Tryz.prog 15 #[.agg (tabC t (.slice ar nr cr) (.slice al nl cl)).toArray, .agg (tabC u (.slice ar' nr' cr') (.slice al' nl' cl')).toArray] w fun e w' => e = .returned (.bool (t.sameB u)) ∧ St w [] w' [] := by
 have hst0 := St.refl w
 have HT := hid ht
 have HU := hid hu
 have hbr := ht.br
 have hbr' := hu.br
 have hbl := ht.bl
 have hbl' := hu.bl
 obtain ⟨E, hE⟩ : ∃ E, E = t.sameB u := ⟨_, rfl⟩
 rw [← hE]
 have HE := hid hE
 clear ht hu hE
 cases d1 : (t.next == u.next)
 ·have d1' : (t.next != u.next) = true := by rw [bne, d1]; rfl
  have hv : E = false := by rw [HE.out]; exact TC.same1 d1
  rw [hv]
  clear hv
  go_enter Tryz.func15, Tryz.ntmps15
  go_wp2_with (first | go_big_skip | go_big_guard | (refine wl_boxA hst0 rfl rfl rfl ?_; intro g2 w1 hst1; clear hst0) | (refine wl_boxA hst1 rfl rfl rfl ?_; intro g3 w2 hst; clear hst1) | (refine wl_loadE rfl rfl rfl ?_; first | refine ⟨_, Loads.at [] hst rfl, ?_⟩ | refine ⟨_, Loads.at [_] hst rfl, ?_⟩ | refine ⟨_, Loads.atA [.int .i64 u.kind, .int .i64 u.dev, .int .i64 u.at_, .int .i64 u.txg] [] hst rfl rfl, ?_⟩ | refine ⟨_, Loads.atA [.int .i64 t.kind, .int .i64 t.dev, .int .i64 t.at_, .int .i64 t.txg] [_] hst rfl rfl, ?_⟩))
  go_ret
  exact ⟨rfl, hst.nil⟩
 ·have d1' : (t.next != u.next) = false := by rw [bne, d1]; rfl
  cases d2 : ([t.kind, t.dev, t.at_, t.txg] == [u.kind, u.dev, u.at_, u.txg])
  ·skip
   have hv : E = false := by rw [HE.out]; exact TC.same2 d2
   rw [hv]
   clear hv
   go_enter Tryz.func15, Tryz.ntmps15
   go_wp2_with (first | go_big_skip | go_big_guard | (refine wl_boxA hst0 rfl rfl rfl ?_; intro g2 w1 hst1; clear hst0) | (refine wl_boxA hst1 rfl rfl rfl ?_; intro g3 w2 hst; clear hst1) | (refine wl_loadE rfl rfl rfl ?_; first | refine ⟨_, Loads.at [] hst rfl, ?_⟩ | refine ⟨_, Loads.at [_] hst rfl, ?_⟩ | refine ⟨_, Loads.atA [.int .i64 u.kind, .int .i64 u.dev, .int .i64 u.at_, .int .i64 u.txg] [] hst rfl rfl, ?_⟩ | refine ⟨_, Loads.atA [.int .i64 t.kind, .int .i64 t.dev, .int .i64 t.at_, .int .i64 t.txg] [_] hst rfl rfl, ?_⟩))
   go_ret
   exact ⟨rfl, hst.nil⟩
  ·by_cases hnn : nr = nr'
   ·subst hnn
    have d5 : ((nr : Int) != (nr : Int)) = false := by simp
    cases h3 : (t.lives == u.lives)
    ·have H3 := hid h3
     have hv0 := TC.same3 (u := u) h3
     have HV := hid hv0
     clear h3 hv0
     have hv : E = false := by rw [HE.out]; exact HV.out
     rw [hv]
     clear hv
     go_enter Tryz.func15, Tryz.ntmps15
     go_wp2_with (first | go_big_skip | go_big_guard | (refine wl_boxA hst0 rfl rfl rfl ?_; intro g2 w1 hst1; clear hst0) | (refine wl_boxA hst1 rfl rfl rfl ?_; intro g3 w2 hst; clear hst1) | (refine wl_loadE rfl rfl rfl ?_; first | refine ⟨_, Loads.at [] hst rfl, ?_⟩ | refine ⟨_, Loads.at [_] hst rfl, ?_⟩ | refine ⟨_, Loads.atA [.int .i64 u.kind, .int .i64 u.dev, .int .i64 u.at_, .int .i64 u.txg] [] hst rfl rfl, ?_⟩ | refine ⟨_, Loads.atA [.int .i64 t.kind, .int .i64 t.dev, .int .i64 t.at_, .int .i64 t.txg] [_] hst rfl rfl, ?_⟩) | (go_at_call 43; refine (kitInts_any al al' nl cl nl' cl' t.lives u.lives _ (Rd.old hst HT.out.L) (Rd.old hst HU.out.L) HT.out.ln HU.out.ln hbl hbl').mono ?_; rw [H3.out]; rintro _ w9 ⟨rfl, h4⟩; replace hst := St.call0 hst h4; clear h4))
     go_ret
     exact ⟨rfl, hst.nil⟩
    ·have H3 := hid h3
     have H12 := hid (And.intro d1 (And.intro (show (t.curL == u.curL) = true from d2) h3))
     clear h3
     go_enter Tryz.func15, Tryz.ntmps15
     go_wp2_with (first | go_big_skip | go_big_guard | (refine wl_boxA hst0 rfl rfl rfl ?_; intro g2 w1 hst1; clear hst0) | (refine wl_boxA hst1 rfl rfl rfl ?_; intro g3 w2 hst; clear hst1) | (refine wl_loadE rfl rfl rfl ?_; first | refine ⟨_, Loads.at [] hst rfl, ?_⟩ | refine ⟨_, Loads.at [_] hst rfl, ?_⟩ | refine ⟨_, Loads.atA [.int .i64 u.kind, .int .i64 u.dev, .int .i64 u.at_, .int .i64 u.txg] [] hst rfl rfl, ?_⟩ | refine ⟨_, Loads.atA [.int .i64 t.kind, .int .i64 t.dev, .int .i64 t.at_, .int .i64 t.txg] [_] hst rfl rfl, ?_⟩) | (go_at_call 43; refine (kitInts_any al al' nl cl nl' cl' t.lives u.lives _ (Rd.old hst HT.out.L) (Rd.old hst HU.out.L) HT.out.ln HU.out.ln hbl hbl').mono ?_; rw [H3.out]; rintro _ w9 ⟨rfl, h4⟩; replace hst := St.call0 hst h4; clear h4))
     go_loopw [5] (fun i wr => ∃ j : Nat, j ≤ nr ∧ i = .int .i64 (j : Int) ∧ St w [] wr [.blk g3 27 (tabC u (.slice ar' nr cr') (.slice al' nl' cl')), .blk g2 27 (tabC t (.slice ar nr cr) (.slice al nl cl))] ∧ Hid (∀ (i : Nat) (x y : Value × RC), i < j → xs[i]? = some x → ys[i]? = some y → x.2.sameB y.2 = true)) (fun i _ => nr - (intOf i).toNat)
     case atStart => exact ⟨0, Nat.zero_le _, rfl, hst, hid (fun i x y hi _ _ => by omega)⟩
     case round =>
      clear hst
      obtain ⟨j, hj, rfl, hst, HP⟩ := hrel
      by_cases hlt : j < nr
      ·have e1 : decide ((j : Int) < (nr : Int)) = true := decide_eq_true (by omega)
       have z1 : IntKind.i64.wrap ((j : Int) + 1) = (j : Int) + 1 := IntWalk.i64_in _ (by omega)
       obtain ⟨x, lb, lo, hx, rfl, hin, hr⟩ := RecsIn.at HT.out.R hlt
       obtain ⟨y, lb2, lo2, hy, rfl, hin2, hr2⟩ := RecsIn.at HU.out.R hlt
       have HX := hid hx
       have HY := hid hy
       have HIX := hid hin
       have HIY := hid hin2
       have HLX := hid (cellsR_len hin.L)
       have HLY := hid (cellsR_len hin2.L)
       have HRX := hid hr
       have HRY := hid hr2
       clear hx hy hr hr2 hin hin2
       obtain ⟨q, hq⟩ : ∃ q, q = x.2.sameB y.2 := ⟨_, rfl⟩
       have HQ := hid hq
       clear hq
       cases q
       ·go_wp2_with (first | go_big_skip | go_big_guard | (refine wl_loadE rfl rfl rfl ?_; first | refine ⟨_, Loads.at [] hst rfl, ?_⟩ | refine ⟨_, Loads.at [_] hst rfl, ?_⟩ | refine ⟨_, Loads.atA [.int .i64 u.kind, .int .i64 u.dev, .int .i64 u.at_, .int .i64 u.txg] [] hst rfl rfl, ?_⟩ | refine ⟨_, Loads.atA [.int .i64 t.kind, .int .i64 t.dev, .int .i64 t.at_, .int .i64 t.txg] [_] hst rfl rfl, ?_⟩))
        have hX := hst.drew
        clear hst
        refine wp_region_held_drew (S := (fun w' => (loadVarH 22 ⟨g2, 1, none⟩).run Tryz.prog w' = .ok (.slice (some ⟨lb, lo, none⟩) nr cr) w' ∧ (loadVarH 22 ⟨g3, 1, none⟩).run Tryz.prog w' = .ok (.slice (some ⟨lb2, lo2, none⟩) nr cr') w' ∧ (loadVarH 53 ⟨lb, lo + j * 44, none⟩).run Tryz.prog w' = .ok (.agg (cellsR x).toArray) w' ∧ (loadVarH 53 ⟨lb2, lo2 + j * 44, none⟩).run Tryz.prog w' = .ok (.agg (cellsR y).toArray) w')) (by kernel_rfl) (by exact ⟨ldS [_] hX rfl, ldS [] hX rfl, ldOA hX HLX.out HRX.out, ldOA hX HLY.out HRY.out⟩) (fun hHeld => ?_)
        refine tq 0 42 ?_
        refine tq 2 44 ?_
        refine tq 5 47 ?_
        refine tq 7 49 ?_
        refine tq 1 43 ?_
        refine tq 6 48 ?_
        refine tq 3 45 ?_
        refine tq 8 50 ?_
        refine tq 4 46 ?_
        refine tq 9 51 ?_
        refine wpAnyH_ready (rs := [10]) (by kernel_rfl) (by simp) ?_
        refine (AllReadyH.cons (o := ⟨some 52, _, _, _, _, _⟩) rfl (fun K hK => ?_) AllReadyH.nil)
        rw [if_pos (by rfl)]
        go_simp
        go_at_call 44
        refine (kitRec_any x y _ (RC.In.old hX.nil HIX.out) (RC.In.old hX.nil HIY.out)).mono ?_
        rw [← HQ.out]
        rintro _ w9 ⟨rfl, h4⟩
        have hA6 := St.call0 hX h4
        clear h4
        refine hK.out _ _ ?_ (fun hHeld => ?_)
        ·exact ⟨ldS [_] hA6 rfl, ldS [] hA6 rfl, ldOA hA6 HLX.out HRX.out, ldOA hA6 HLY.out HRY.out⟩
        clear hK K
        (try simp only [Act.put, List.setIfInBounds_toArray, List.set_cons_zero, List.set_cons_succ])
        refine tq 11 53 ?_
        refine wpAnyH_done (by kernel_rfl) ?_ _
        clear hHeld
        go_wp2_with (first | go_big_skip | go_big_guard | fail)
        go_ret
        exact ⟨by rw [HE.out, TC.same4 (recsB_no (recs_at HT.out HX.out) (recs_at HU.out HY.out) HQ.out.symm)]; rfl, hA6.nil⟩
       ·go_wp2_with (first | go_big_skip | go_big_guard | (refine wl_loadE rfl rfl rfl ?_; first | refine ⟨_, Loads.at [] hst rfl, ?_⟩ | refine ⟨_, Loads.at [_] hst rfl, ?_⟩ | refine ⟨_, Loads.atA [.int .i64 u.kind, .int .i64 u.dev, .int .i64 u.at_, .int .i64 u.txg] [] hst rfl rfl, ?_⟩ | refine ⟨_, Loads.atA [.int .i64 t.kind, .int .i64 t.dev, .int .i64 t.at_, .int .i64 t.txg] [_] hst rfl rfl, ?_⟩))
        have hX := hst.drew
        clear hst
        refine wp_region_held_drew (S := (fun w' => (loadVarH 22 ⟨g2, 1, none⟩).run Tryz.prog w' = .ok (.slice (some ⟨lb, lo, none⟩) nr cr) w' ∧ (loadVarH 22 ⟨g3, 1, none⟩).run Tryz.prog w' = .ok (.slice (some ⟨lb2, lo2, none⟩) nr cr') w' ∧ (loadVarH 53 ⟨lb, lo + j * 44, none⟩).run Tryz.prog w' = .ok (.agg (cellsR x).toArray) w' ∧ (loadVarH 53 ⟨lb2, lo2 + j * 44, none⟩).run Tryz.prog w' = .ok (.agg (cellsR y).toArray) w')) (by kernel_rfl) (by exact ⟨ldS [_] hX rfl, ldS [] hX rfl, ldOA hX HLX.out HRX.out, ldOA hX HLY.out HRY.out⟩) (fun hHeld => ?_)
        refine tq 0 42 ?_
        refine tq 2 44 ?_
        refine tq 5 47 ?_
        refine tq 7 49 ?_
        refine tq 1 43 ?_
        refine tq 6 48 ?_
        refine tq 3 45 ?_
        refine tq 8 50 ?_
        refine tq 4 46 ?_
        refine tq 9 51 ?_
        refine wpAnyH_ready (rs := [10]) (by kernel_rfl) (by simp) ?_
        refine (AllReadyH.cons (o := ⟨some 52, _, _, _, _, _⟩) rfl (fun K hK => ?_) AllReadyH.nil)
        rw [if_pos (by rfl)]
        go_simp
        go_at_call 44
        refine (kitRec_any x y _ (RC.In.old hX.nil HIX.out) (RC.In.old hX.nil HIY.out)).mono ?_
        rw [← HQ.out]
        rintro _ w9 ⟨rfl, h4⟩
        have hA6 := St.call0 hX h4
        clear h4
        refine hK.out _ _ ?_ (fun hHeld => ?_)
        ·exact ⟨ldS [_] hA6 rfl, ldS [] hA6 rfl, ldOA hA6 HLX.out HRX.out, ldOA hA6 HLY.out HRY.out⟩
        clear hK K
        (try simp only [Act.put, List.setIfInBounds_toArray, List.set_cons_zero, List.set_cons_succ])
        refine tq 11 53 ?_
        refine wpAnyH_done (by kernel_rfl) ?_ _
        clear hHeld
        go_wp2_with (first | go_big_skip | go_big_guard | fail)
        go_roundw
        case rel => exact ⟨j + 1, by omega, rfl, hA6, hid (fun i a b hi ha hb => by
         by_cases e : i = j
         ·subst e
          rw [HX.out] at ha; rw [HY.out] at hb
          cases ha; cases hb
          exact HQ.out.symm
         ·exact HP.out i a b (by omega) ha hb)⟩
        case measure => simp [intOf]; omega
      ·have e1 : decide ((j : Int) < (nr : Int)) = false := decide_eq_false (by omega)
       obtain rfl : j = nr := by omega
       have H4 := hid (recs_all HT.out.eq HU.out.eq HT.out.len HU.out.len HP.out)
       clear HP
       go_wp2_with (first | go_big_skip | go_big_guard | (refine wl_loadE rfl rfl rfl ?_; first | refine ⟨_, Loads.at [] hst rfl, ?_⟩ | refine ⟨_, Loads.at [_] hst rfl, ?_⟩ | refine ⟨_, Loads.atA [.int .i64 u.kind, .int .i64 u.dev, .int .i64 u.at_, .int .i64 u.txg] [] hst rfl rfl, ?_⟩ | refine ⟨_, Loads.atA [.int .i64 t.kind, .int .i64 t.dev, .int .i64 t.at_, .int .i64 t.txg] [_] hst rfl rfl, ?_⟩))
       go_ret
       exact ⟨by rw [HE.out, TC.same0 H12.out.1 H12.out.2.1 H12.out.2.2 H4.out]; rfl, hst.nil⟩
   ·have d5 : ((nr : Int) != (nr' : Int)) = true := by rw [bne_iff_ne]; omega
    have hv0 := TC.same4 (t := t) (u := u) (recsB_len (by rw [HT.out.len, HU.out.len]; exact hnn))
    have HV := hid hv0
    clear hv0 hnn
    have hv : E = false := by rw [HE.out]; exact HV.out
    rw [hv]
    clear hv
    go_enter Tryz.func15, Tryz.ntmps15
    go_wp2_with (first | go_big_skip | go_big_guard | (refine wl_boxA hst0 rfl rfl rfl ?_; intro g2 w1 hst1; clear hst0) | (refine wl_boxA hst1 rfl rfl rfl ?_; intro g3 w2 hst; clear hst1) | (refine wl_loadE rfl rfl rfl ?_; first | refine ⟨_, Loads.at [] hst rfl, ?_⟩ | refine ⟨_, Loads.at [_] hst rfl, ?_⟩ | refine ⟨_, Loads.atA [.int .i64 u.kind, .int .i64 u.dev, .int .i64 u.at_, .int .i64 u.txg] [] hst rfl rfl, ?_⟩ | refine ⟨_, Loads.atA [.int .i64 t.kind, .int .i64 t.dev, .int .i64 t.at_, .int .i64 t.txg] [_] hst rfl rfl, ?_⟩))
    go_ret
    exact ⟨rfl, hst.nil⟩
end Go.Proofs.YtifajcblbedcoaaGreat
namespace Go.Proofs.YtifajcblbedcoaaGreat
set_option linter.unusedVariables false
set_option linter.unusedSimpArgs false
open Go.ChangeShapes Go.WideShapes Go.ChangeAt Go.RowKit Go.Deep Go.Lib Go.Joins Hp
set_option maxRecDepth 100000
theorem flat_invD {α : Type} {f : α → List Value} {sz : Nat} (hl : ∀ a, (f a).length = sz) : ∀ (ks : List α) (k : Nat) (v : Value), (ks.flatMap f)[k]? = some v → ∃ i j x, ks[i]? = some x ∧ k = i * sz + j ∧ (f x)[j]? = some v ∧ j < sz
 | [], k, v, h => by simp at h
 | x :: ks, k, v, h => by
  rw [List.flatMap_cons] at h
  by_cases hk : k < sz
  ·rw [List.getElem?_append_left (by rw [hl]; exact hk)] at h
   exact ⟨0, k, x, rfl, by omega, h, hk⟩
  ·rw [List.getElem?_append_right (by rw [hl]; omega), hl] at h
   obtain ⟨i, j, y, h1, h2, h3, h4⟩ := flat_invD hl ks (k - sz) v h
   refine ⟨i + 1, j, y, by simpa using h1, ?_, h3, h4⟩
   rw [Nat.succ_mul]
   omega
theorem flat_lenD {α : Type} {f : α → List Value} {sz : Nat} (hl : ∀ a, (f a).length = sz) (ks : List α) : (ks.flatMap f).length = ks.length * sz := by
 induction ks with
 | nil => simp
 | cons x ks ih => rw [List.flatMap_cons, List.length_append, ih, hl, List.length_cons, Nat.succ_mul]; omega
theorem spot_addD {a : Addr} (h : (a.add 0).spot = none) : a.spot = none := by
 simpa [Addr.add] using h
theorem spot_cellD {W : World} {a : Addr} {v : Value} (h1 : W.cell? a = some v) : a.spot = none := by
 unfold World.cell? at h1
 split at h1
 ·by_cases hs : a.spot = none
  ·exact hs
  ·have : (a.spot).isSome = true := by
    cases hq : a.spot with
    | none => exact absurd hq hs
    | some q => rfl
   rw [if_pos this] at h1
   cases h1
 ·cases h1
theorem open_structsD {α : Type} [Inhabited α] {f : α → List Value} {sz : Nat} (hl : ∀ a, (f a).length = sz) (hsz : 0 < sz) (ok : α → World → Prop) {H : Type} {enc : TypeId × Value → H} {W : World} {fuel : Nat} {T e : TypeId} {cs : List Value} {x : DataW H × List MemPlace} (hT : Tryz.prog.underlying T = some (.slice e)) (he : Tryz.prog.cellsOf e = sz)
  (hop : ∀ (fuel : Nat) (cs : List Value) (x : DataW H × List MemPlace), cs.length = sz → DataW.trod enc Tryz.prog W 0 (fun _ => true) true fuel e cs = some x → ∃ k : α, cs = f k ∧ ok k W)
  (h : DataW.trod enc Tryz.prog W 0 (fun _ => true) true fuel T cs = some x) : ∃ ao n c, ∃ ks : List α, cs = [.slice ao n c] ∧ Rd W (.slice ao n c) sz n (ks.flatMap f) ∧ ks.length = n ∧ ∀ x ∈ ks, ok x W := by
 rcases open_slice hT h with ⟨hc, _⟩ | ⟨a', len, cap, m, n, D, Pl, hc, _, hll, hm, hmm, _, hx⟩
 ·exact ⟨none, 0, 0, [], hc, Rd.nil _ _, rfl, by simp⟩
 ·by_cases h0 : cap = 0
  ·subst h0
   obtain rfl : len = 0 := by omega
   exact ⟨some a', 0, 0, [], hc, Rd.empty _ _ _, rfl, by simp⟩
  ·simp only [if_true] at hmm
   rw [he] at hx
   obtain ⟨cs0, h1, h2⟩ := hx 0 (by omega)
   obtain ⟨_, hlen0, hcell0⟩ := World.cells?_some h1
   have hspot : a'.spot = none := by
    have h3 := hcell0 0 hsz
    rw [Nat.zero_mul] at h3
    have : cs0[0]? = some cs0[0] := List.getElem?_eq_getElem (by omega)
    rw [this] at h3
    exact spot_addD (spot_addD (spot_cellD h3))
   obtain ⟨b, off, rfl⟩ : ∃ b off, a' = ⟨b, off, none⟩ := ⟨a'.block, a'.off, by cases a'; simp_all⟩
   obtain ⟨K, hK⟩ := choose_lt (α := α) (p := fun i k => ok k W ∧ ∀ j, j < sz → W.cell? ⟨b, off + i * sz + j, none⟩ = (f k)[j]?) (fun i hi => by
    obtain ⟨cs', h1, h2⟩ := hx i hi
    obtain ⟨_, hlen, hcell⟩ := World.cells?_some h1
    obtain ⟨k, rfl, hk⟩ := hop _ _ _ hlen h2
    refine ⟨k, hk, fun j hj => ?_⟩
    have := hcell j hj
    rwa [Addr.add_mid, Addr.add_mid] at this)
   refine ⟨_, len, cap, (List.range len).map K, hc, Rd.mk hll hm (by rw [flat_lenD hl, List.length_map, List.length_range]) (fun k v hk => ?_), by simp, fun x hx => ?_⟩
   ·obtain ⟨i, j, y, h1, rfl, h3, h4⟩ := flat_invD hl _ _ _ hk
    have hi : i < len := by
     have := (List.getElem?_eq_some_iff.1 h1).1
     simpa using this
    rw [List.getElem?_map, List.getElem?_range hi] at h1
    simp at h1
    subst h1
    rw [← Nat.add_assoc, (hK i (by omega)).2 j h4, h3]
   ·obtain ⟨i, hi, rfl⟩ := List.mem_map.1 hx
    exact (hK i (by have := List.mem_range.1 hi; omega)).1
theorem open_addrsD {H : Type} {enc : TypeId × Value → H} {W : World} {fuel : Nat} {cs : List Value} {x : DataW H × List MemPlace}
  (h : DataW.trod enc Tryz.prog W 0 (fun _ => true) true fuel 28 cs = some x) : ∃ ao n c l, cs = [.slice ao n c] ∧ Rd W (.slice ao n c) 2 n (addrsV l) ∧ l.length = n := by
 obtain ⟨ao, n, c, ks, e, hr, hl, -⟩ := open_structsD (α := Int × Int) (f := fun a => [.int .i64 a.1, .int .i64 a.2]) (sz := 2) (fun _ => rfl) (by decide) (fun _ _ => True) Tryz.underlying28 cellsE (fun fuel cs x hl h => by
  match cs, hl with
  | [a, b], _ =>
   obtain ⟨y0, y1, n, _, _, h0, h1⟩ := trod_struct2 Tryz.underlying102 h
   simp only [cellsI, List.drop_zero, List.drop_succ_cons, List.take_succ_cons, List.take_zero] at h0 h1
   obtain ⟨z0, e0, _⟩ := DataW.trod_int Tryz.underlying3 h0
   obtain ⟨z1, e1, _⟩ := DataW.trod_int Tryz.underlying3 h1
   cases e0; cases e1
   exact ⟨(z0, z1), rfl, trivial⟩) h
 refine ⟨ao, n, c, ks, e, ?_, hl⟩
 have : ks.flatMap (fun a => [.int .i64 a.1, .int .i64 a.2]) = addrsV ks := by
  clear hr hl
  induction ks with
  | nil => rfl
  | cons a ks ih => rw [List.flatMap_cons, ih]; rfl
 rw [← this]
 exact hr
theorem open_ptrD {H : Type} {enc : TypeId × Value → H} {W : World} {fuel : Nat} {L : List Value} {x : DataW H × List MemPlace} (hL : L.length = 35)
  (h : DataW.trod enc Tryz.prog W 0 (fun _ => true) true fuel 32 L = some x) : ∃ p : PV, L = p.cells ∧ p.In W := by
 match L, hL with
 | a :: b :: c :: T, hL =>
  have hT : T.length = 32 := by simpa using hL
  obtain ⟨y0, y1, y2, y3, n, _, _, h0, h1, h2, h3⟩ := trod_struct4 Tryz.underlying32 h
  simp only [cellsA, cellsI, cellsD, List.drop_zero, List.drop_succ_cons, List.take_succ_cons, List.take_zero] at h0 h1 h2 h3
  rw [List.take_of_length_le (by omega)] at h3
  obtain ⟨zb, eb, _⟩ := DataW.trod_int Tryz.underlying3 h1
  obtain ⟨zc, ec, _⟩ := DataW.trod_int Tryz.underlying3 h2
  obtain ⟨S, rfl, hS⟩ := open_id hT h3
  cases eb; cases ec
  obtain ⟨ao, len, cap, l, e, hR, hl⟩ := open_addrsD h0
  cases e
  exact ⟨⟨.slice ao len cap, l, zb, zc, S⟩, rfl, hS, ao, len, cap, rfl, hR, hl⟩
theorem cellsSd : Tryz.prog.cellsOf 9 = 1 := by kernel_rfl
end Go.Proofs.YtifajcblbedcoaaGreat
