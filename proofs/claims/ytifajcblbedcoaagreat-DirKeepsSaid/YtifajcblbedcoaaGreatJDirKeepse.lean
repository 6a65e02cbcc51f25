/- A table that was read, in memory. -/
import Derived.Test.YtifajcblbedcoaaGreatJDirKeepsc
import Derived.Test.YtifajcblbedcoaaGreatJDirKeepsd
import Derived.Test.YtifajcblbedcoaaGreatJDirKeepsb
import Derived.Test.YtifajcblbedcoaaGreatPtrR
import Derived.Test.YtifajcblbedcoaaGreatPtrL
import Derived.Test.YtifajcblbedcoaaGreatJDirKeepsa
import Derived.Test.YtifajcblbedcoaaGreatSepN
import Derived.Test.YtifajcblbedcoaaGreatNum
import Derived.Test.YtifajcblbedcoaaGreatPtrM
import Derived.Test.YtifajcblbedcoaaGreatSepQ
namespace Go.Proofs.YtifajcblbedcoaaGreat
set_option linter.unusedVariables false
set_option linter.unusedSimpArgs false
open Go.RowKit Hp
attribute [local irreducible] Go.Calls Go.wpList Hp.gvV Hp.gB Hp.gA Hp.bOr Hp.bAnd Hp.bNot inB rootB partB snapB
set_option maxRecDepth 100000
set_option maxHeartbeats 4000000
theorem rootB_ref (p : PV) : rootB p = (p.ok && (p.hole || (p.v == 3))) := by
  unfold rootB
  cases hh : p.hole
  · simp
  · rw [PV.hole_ok hh]; rfl
theorem may_any_r (x : Value × RC) (w : World) (hx : RC.In w x) : Calls Tryz.prog 135 #[.agg (cellsR x).toArray] w fun e w' => e = .returned (.bool x.2.aloneB) ∧ St w [] w' [] := by
  have hst0 := St.refl w
  have HX := hid hx
  have HL := hid hx.L
  have H35 := hid (PV.len (p := x.2.pv x.1) hx.L)
  clear hx
  obtain ⟨k, hk⟩ : ∃ k, k = (x.2.pv x.1).ok := ⟨_, rfl⟩
  have HK := hid hk
  clear hk
  cases k
  all_goals
    go_enter Tryz.func135, Tryz.ntmps135
    go_wp2_with (first | go_big_skip | (refine wl_boxA hst0 rfl rfl rfl ?_; intro g4 w1 hst; clear hst0) | (show wpList _ _ _ (Oper.mk _ (.fieldAddr 32 _ 2) _ _ _ (some _) :: _) _ _; refine wl_gfld (d := 2) rfl (by first | exact wanted_b rfl rfl | exact wanted_g rfl rfl) (by first | exact (fun hg => gvV_on hg) | exact (fun hg => gvV_gA hg) | exact (fun _ => rfl)) (by kernel_rfl) ?_; (try simp only [Act.put, List.setIfInBounds_toArray, List.set_cons_zero, List.set_cons_succ])) | (show wpList _ _ _ (Oper.mk _ (.fieldAddr 53 _ _) _ _ _ (some _) :: _) _ _; refine wl_gfldR rfl (by first | exact wanted_b rfl rfl | exact wanted_g rfl rfl) (by first | exact (fun hg => gvV_on hg) | exact (fun hg => gvV_gA hg) | exact (fun _ => rfl)) rfl ?_; (try simp only [Act.put, List.setIfInBounds_toArray, List.set_cons_zero, List.set_cons_succ])) | (show wpList _ _ _ (Oper.mk _ (.fieldAddr 32 _ 1) _ _ _ (some _) :: _) _ _; refine wl_gfld (d := 1) rfl (by first | exact wanted_b rfl rfl | exact wanted_g rfl rfl) (by first | exact (fun hg => gvV_on hg) | exact (fun hg => gvV_gA hg) | exact (fun _ => rfl)) (by kernel_rfl) ?_; (try simp only [Act.put, List.setIfInBounds_toArray, List.set_cons_zero, List.set_cons_succ])) | (show wpList _ _ _ (Oper.mk _ (.load _ _) _ _ _ (some _) :: _) _ _; refine wl_gloadE rfl (by first | exact wanted_b rfl rfl | exact wanted_g rfl rfl) (by first | exact (fun hg => gvV_on hg) | exact (fun hg => gvV_gA hg) | exact (fun _ => rfl)) ?_; (first | refine ⟨_, Loads.atA ((x.2.pv x.1).cells) [] hst H35.out (cellsR_root HL.out), ?_⟩ | refine ⟨_, Loads.at [] hst (cellsR_39 HL.out), ?_⟩ | refine ⟨_, Loads.at [] hst (cellsR_40 HL.out), ?_⟩ | refine ⟨_, Loads.at [] hst (cellsR_41 HL.out), ?_⟩ | refine ⟨_, Loads.at [] hst (cellsR_42 HL.out), ?_⟩ | refine ⟨_, Loads.at [] hst (cellsR_43 HL.out), ?_⟩ | refine ⟨_, Loads.at [] hst rfl, ?_⟩); (try simp only [Act.put, List.setIfInBounds_toArray, List.set_cons_zero, List.set_cons_succ]); (repeat ((first | (show wpList _ _ _ (Oper.mk _ (.move _) _ _ _ none :: _) _ _; refine wl_mv rfl rfl rfl ?_) | (show wpList _ _ _ (Oper.mk _ (.pick _ _ _) _ _ _ none :: _) _ _; (first | (refine wl_pickOr rfl rfl rfl rfl rfl ?_; intro q hq) | (refine wl_pickAnd rfl rfl rfl rfl rfl ?_; intro q hq))) | (show wpList _ _ _ (Oper.mk _ (.pick _ _ _) _ _ _ (some _) :: _) _ _; (first | (refine wl_gpickOr rfl (by first | exact wanted_b rfl rfl | exact wanted_g rfl rfl) rfl rfl rfl ?_; intro q hq) | (refine wl_gpickAnd rfl (by first | exact wanted_b rfl rfl | exact wanted_g rfl rfl) rfl rfl rfl ?_; intro q hq))) | (show wpList _ _ _ (Oper.mk _ (.move _) _ _ _ (some _) :: _) _ _; refine wl_gmove rfl (by first | exact wanted_b rfl rfl | exact wanted_g rfl rfl) (by first | exact (fun hg => gvV_on hg) | exact (fun hg => gvV_gA hg) | exact (fun _ => rfl)) ?_)); (try simp only [Act.put, List.setIfInBounds_toArray, List.set_cons_zero, List.set_cons_succ])))) | (show wpList _ _ _ (Oper.mk _ (.binOp _ 3 _ _ _) _ _ _ (some _) :: _) _ _; refine wl_gcmp rfl (by first | exact wanted_b rfl rfl | exact wanted_g rfl rfl) (by first | exact (fun hg => gvV_on hg) | exact (fun hg => gvV_gA hg) | exact (fun _ => rfl)) (by first | exact (fun hg => gvV_on hg) | exact (fun hg => gvV_gA hg) | exact (fun _ => rfl)) rfl ?_; (try simp only [Act.put, List.setIfInBounds_toArray, List.set_cons_zero, List.set_cons_succ]); (repeat ((first | (show wpList _ _ _ (Oper.mk _ (.move _) _ _ _ none :: _) _ _; refine wl_mv rfl rfl rfl ?_) | (show wpList _ _ _ (Oper.mk _ (.pick _ _ _) _ _ _ none :: _) _ _; (first | (refine wl_pickOr rfl rfl rfl rfl rfl ?_; intro q hq) | (refine wl_pickAnd rfl rfl rfl rfl rfl ?_; intro q hq))) | (show wpList _ _ _ (Oper.mk _ (.pick _ _ _) _ _ _ (some _) :: _) _ _; (first | (refine wl_gpickOr rfl (by first | exact wanted_b rfl rfl | exact wanted_g rfl rfl) rfl rfl rfl ?_; intro q hq) | (refine wl_gpickAnd rfl (by first | exact wanted_b rfl rfl | exact wanted_g rfl rfl) rfl rfl rfl ?_; intro q hq))) | (show wpList _ _ _ (Oper.mk _ (.move _) _ _ _ (some _) :: _) _ _; refine wl_gmove rfl (by first | exact wanted_b rfl rfl | exact wanted_g rfl rfl) (by first | exact (fun hg => gvV_on hg) | exact (fun hg => gvV_gA hg) | exact (fun _ => rfl)) ?_)); (try simp only [Act.put, List.setIfInBounds_toArray, List.set_cons_zero, List.set_cons_succ])))) | (show wpList _ _ _ (Oper.mk _ (.unOp .not _ _) _ _ _ (some _) :: _) _ _; refine wl_gnot rfl (by first | exact wanted_b rfl rfl | exact wanted_g rfl rfl) (by first | exact (fun hg => gvV_on hg) | exact (fun hg => gvV_gA hg) | exact (fun _ => rfl)) ?_; (try simp only [Act.put, List.setIfInBounds_toArray, List.set_cons_zero, List.set_cons_succ]); (repeat ((first | (show wpList _ _ _ (Oper.mk _ (.move _) _ _ _ none :: _) _ _; refine wl_mv rfl rfl rfl ?_) | (show wpList _ _ _ (Oper.mk _ (.pick _ _ _) _ _ _ none :: _) _ _; (first | (refine wl_pickOr rfl rfl rfl rfl rfl ?_; intro q hq) | (refine wl_pickAnd rfl rfl rfl rfl rfl ?_; intro q hq))) | (show wpList _ _ _ (Oper.mk _ (.pick _ _ _) _ _ _ (some _) :: _) _ _; (first | (refine wl_gpickOr rfl (by first | exact wanted_b rfl rfl | exact wanted_g rfl rfl) rfl rfl rfl ?_; intro q hq) | (refine wl_gpickAnd rfl (by first | exact wanted_b rfl rfl | exact wanted_g rfl rfl) rfl rfl rfl ?_; intro q hq))) | (show wpList _ _ _ (Oper.mk _ (.move _) _ _ _ (some _) :: _) _ _; refine wl_gmove rfl (by first | exact wanted_b rfl rfl | exact wanted_g rfl rfl) (by first | exact (fun hg => gvV_on hg) | exact (fun hg => gvV_gA hg) | exact (fun _ => rfl)) ?_)); (try simp only [Act.put, List.setIfInBounds_toArray, List.set_cons_zero, List.set_cons_succ])))) | (refine wl_loadE rfl rfl rfl ?_; first | refine ⟨_, Loads.atA ((x.2.pv x.1).cells) [] hst H35.out (cellsR_root HL.out), ?_⟩ | refine ⟨_, Loads.at [] hst (cellsR_39 HL.out), ?_⟩ | refine ⟨_, Loads.at [] hst (cellsR_40 HL.out), ?_⟩ | refine ⟨_, Loads.at [] hst (cellsR_41 HL.out), ?_⟩ | refine ⟨_, Loads.at [] hst (cellsR_42 HL.out), ?_⟩ | refine ⟨_, Loads.at [] hst (cellsR_43 HL.out), ?_⟩ | refine ⟨_, Loads.at [] hst rfl, ?_⟩) | (show wpList _ _ _ (Oper.mk _ (.call (Call.mk (.value (.func 122)) _ _)) _ _ _ (some _) :: _) _ _; refine wl_gcall (v := .bool (inB x.2.size 1 64)) hst (by first | exact wanted_b rfl rfl | exact wanted_g rfl rfl) ?_ ?_; (intro hg K hK; have Hg := hid hg; clear hg; go_simp; go_at_call 122; (try (conv => (arg 3; simp only [gvV_on Hg.out]))); refine (refWithin_any x.2.size 1 64 _).mono ?_; rintro _ w9 ⟨rfl, h4⟩; have hk := hK _ (St.call0 hst h4); simp only [Act.put, List.setIfInBounds_toArray, List.set_cons_zero, List.set_cons_succ] at hk; dsimp only; exact hk); (intro w5 hst5; replace hst := hst5; clear hst5; (try simp only [Act.put, List.setIfInBounds_toArray, List.set_cons_zero, List.set_cons_succ]); (repeat ((first | (show wpList _ _ _ (Oper.mk _ (.move _) _ _ _ none :: _) _ _; refine wl_mv rfl rfl rfl ?_) | (show wpList _ _ _ (Oper.mk _ (.pick _ _ _) _ _ _ none :: _) _ _; (first | (refine wl_pickOr rfl rfl rfl rfl rfl ?_; intro q hq) | (refine wl_pickAnd rfl rfl rfl rfl rfl ?_; intro q hq))) | (show wpList _ _ _ (Oper.mk _ (.pick _ _ _) _ _ _ (some _) :: _) _ _; (first | (refine wl_gpickOr rfl (by first | exact wanted_b rfl rfl | exact wanted_g rfl rfl) rfl rfl rfl ?_; intro q hq) | (refine wl_gpickAnd rfl (by first | exact wanted_b rfl rfl | exact wanted_g rfl rfl) rfl rfl rfl ?_; intro q hq))) | (show wpList _ _ _ (Oper.mk _ (.move _) _ _ _ (some _) :: _) _ _; refine wl_gmove rfl (by first | exact wanted_b rfl rfl | exact wanted_g rfl rfl) (by first | exact (fun hg => gvV_on hg) | exact (fun hg => gvV_gA hg) | exact (fun _ => rfl)) ?_)); (try simp only [Act.put, List.setIfInBounds_toArray, List.set_cons_zero, List.set_cons_succ]))))) | (show wpList _ _ _ (Oper.mk _ (.call (Call.mk (.value (.func 122)) _ _)) _ _ _ (some _) :: _) _ _; refine wl_gcall (v := .bool (inB x.2.made 1 2147483648)) hst (by first | exact wanted_b rfl rfl | exact wanted_g rfl rfl) ?_ ?_; (intro hg K hK; have Hg := hid hg; clear hg; go_simp; go_at_call 122; (try (conv => (arg 3; simp only [gvV_on Hg.out]))); refine (refWithin_any x.2.made 1 2147483648 _).mono ?_; rintro _ w9 ⟨rfl, h4⟩; have hk := hK _ (St.call0 hst h4); simp only [Act.put, List.setIfInBounds_toArray, List.set_cons_zero, List.set_cons_succ] at hk; dsimp only; exact hk); (intro w5 hst5; replace hst := hst5; clear hst5; (try simp only [Act.put, List.setIfInBounds_toArray, List.set_cons_zero, List.set_cons_succ]); (repeat ((first | (show wpList _ _ _ (Oper.mk _ (.move _) _ _ _ none :: _) _ _; refine wl_mv rfl rfl rfl ?_) | (show wpList _ _ _ (Oper.mk _ (.pick _ _ _) _ _ _ none :: _) _ _; (first | (refine wl_pickOr rfl rfl rfl rfl rfl ?_; intro q hq) | (refine wl_pickAnd rfl rfl rfl rfl rfl ?_; intro q hq))) | (show wpList _ _ _ (Oper.mk _ (.pick _ _ _) _ _ _ (some _) :: _) _ _; (first | (refine wl_gpickOr rfl (by first | exact wanted_b rfl rfl | exact wanted_g rfl rfl) rfl rfl rfl ?_; intro q hq) | (refine wl_gpickAnd rfl (by first | exact wanted_b rfl rfl | exact wanted_g rfl rfl) rfl rfl rfl ?_; intro q hq))) | (show wpList _ _ _ (Oper.mk _ (.move _) _ _ _ (some _) :: _) _ _; refine wl_gmove rfl (by first | exact wanted_b rfl rfl | exact wanted_g rfl rfl) (by first | exact (fun hg => gvV_on hg) | exact (fun hg => gvV_gA hg) | exact (fun _ => rfl)) ?_)); (try simp only [Act.put, List.setIfInBounds_toArray, List.set_cons_zero, List.set_cons_succ]))))) | (show wpList _ _ _ (Oper.mk _ (.call (Call.mk (.value (.func 122)) _ _)) _ _ _ (some _) :: _) _ _; refine wl_gcall (v := .bool (inB x.2.origin 0 2147483647)) hst (by first | exact wanted_b rfl rfl | exact wanted_g rfl rfl) ?_ ?_; (intro hg K hK; have Hg := hid hg; clear hg; go_simp; go_at_call 122; (try (conv => (arg 3; simp only [gvV_on Hg.out]))); refine (refWithin_any x.2.origin 0 2147483647 _).mono ?_; rintro _ w9 ⟨rfl, h4⟩; have hk := hK _ (St.call0 hst h4); simp only [Act.put, List.setIfInBounds_toArray, List.set_cons_zero, List.set_cons_succ] at hk; dsimp only; exact hk); (intro w5 hst5; replace hst := hst5; clear hst5; (try simp only [Act.put, List.setIfInBounds_toArray, List.set_cons_zero, List.set_cons_succ]); (repeat ((first | (show wpList _ _ _ (Oper.mk _ (.move _) _ _ _ none :: _) _ _; refine wl_mv rfl rfl rfl ?_) | (show wpList _ _ _ (Oper.mk _ (.pick _ _ _) _ _ _ none :: _) _ _; (first | (refine wl_pickOr rfl rfl rfl rfl rfl ?_; intro q hq) | (refine wl_pickAnd rfl rfl rfl rfl rfl ?_; intro q hq))) | (show wpList _ _ _ (Oper.mk _ (.pick _ _ _) _ _ _ (some _) :: _) _ _; (first | (refine wl_gpickOr rfl (by first | exact wanted_b rfl rfl | exact wanted_g rfl rfl) rfl rfl rfl ?_; intro q hq) | (refine wl_gpickAnd rfl (by first | exact wanted_b rfl rfl | exact wanted_g rfl rfl) rfl rfl rfl ?_; intro q hq))) | (show wpList _ _ _ (Oper.mk _ (.move _) _ _ _ (some _) :: _) _ _; refine wl_gmove rfl (by first | exact wanted_b rfl rfl | exact wanted_g rfl rfl) (by first | exact (fun hg => gvV_on hg) | exact (fun hg => gvV_gA hg) | exact (fun _ => rfl)) ?_)); (try simp only [Act.put, List.setIfInBounds_toArray, List.set_cons_zero, List.set_cons_succ]))))) | (show wpList _ _ _ (Oper.mk _ (.call (Call.mk (.value (.func 122)) _ _)) _ _ _ (some _) :: _) _ _; refine wl_gcall (v := .bool (inB x.2.quota 0 64)) hst (by first | exact wanted_b rfl rfl | exact wanted_g rfl rfl) ?_ ?_; (intro hg K hK; have Hg := hid hg; clear hg; go_simp; go_at_call 122; (try (conv => (arg 3; simp only [gvV_on Hg.out]))); refine (refWithin_any x.2.quota 0 64 _).mono ?_; rintro _ w9 ⟨rfl, h4⟩; have hk := hK _ (St.call0 hst h4); simp only [Act.put, List.setIfInBounds_toArray, List.set_cons_zero, List.set_cons_succ] at hk; dsimp only; exact hk); (intro w5 hst5; replace hst := hst5; clear hst5; (try simp only [Act.put, List.setIfInBounds_toArray, List.set_cons_zero, List.set_cons_succ]); (repeat ((first | (show wpList _ _ _ (Oper.mk _ (.move _) _ _ _ none :: _) _ _; refine wl_mv rfl rfl rfl ?_) | (show wpList _ _ _ (Oper.mk _ (.pick _ _ _) _ _ _ none :: _) _ _; (first | (refine wl_pickOr rfl rfl rfl rfl rfl ?_; intro q hq) | (refine wl_pickAnd rfl rfl rfl rfl rfl ?_; intro q hq))) | (show wpList _ _ _ (Oper.mk _ (.pick _ _ _) _ _ _ (some _) :: _) _ _; (first | (refine wl_gpickOr rfl (by first | exact wanted_b rfl rfl | exact wanted_g rfl rfl) rfl rfl rfl ?_; intro q hq) | (refine wl_gpickAnd rfl (by first | exact wanted_b rfl rfl | exact wanted_g rfl rfl) rfl rfl rfl ?_; intro q hq))) | (show wpList _ _ _ (Oper.mk _ (.move _) _ _ _ (some _) :: _) _ _; refine wl_gmove rfl (by first | exact wanted_b rfl rfl | exact wanted_g rfl rfl) (by first | exact (fun hg => gvV_on hg) | exact (fun hg => gvV_gA hg) | exact (fun _ => rfl)) ?_)); (try simp only [Act.put, List.setIfInBounds_toArray, List.set_cons_zero, List.set_cons_succ]))))) | (show wpList _ _ _ (Oper.mk _ (.call (Call.mk (.value (.func 122)) _ _)) _ _ _ (some _) :: _) _ _; refine wl_gcall (v := .bool (inB x.2.reserve 0 64)) hst (by first | exact wanted_b rfl rfl | exact wanted_g rfl rfl) ?_ ?_; (intro hg K hK; have Hg := hid hg; clear hg; go_simp; go_at_call 122; (try (conv => (arg 3; simp only [gvV_on Hg.out]))); refine (refWithin_any x.2.reserve 0 64 _).mono ?_; rintro _ w9 ⟨rfl, h4⟩; have hk := hK _ (St.call0 hst h4); simp only [Act.put, List.setIfInBounds_toArray, List.set_cons_zero, List.set_cons_succ] at hk; dsimp only; exact hk); (intro w5 hst5; replace hst := hst5; clear hst5; (try simp only [Act.put, List.setIfInBounds_toArray, List.set_cons_zero, List.set_cons_succ]); (repeat ((first | (show wpList _ _ _ (Oper.mk _ (.move _) _ _ _ none :: _) _ _; refine wl_mv rfl rfl rfl ?_) | (show wpList _ _ _ (Oper.mk _ (.pick _ _ _) _ _ _ none :: _) _ _; (first | (refine wl_pickOr rfl rfl rfl rfl rfl ?_; intro q hq) | (refine wl_pickAnd rfl rfl rfl rfl rfl ?_; intro q hq))) | (show wpList _ _ _ (Oper.mk _ (.pick _ _ _) _ _ _ (some _) :: _) _ _; (first | (refine wl_gpickOr rfl (by first | exact wanted_b rfl rfl | exact wanted_g rfl rfl) rfl rfl rfl ?_; intro q hq) | (refine wl_gpickAnd rfl (by first | exact wanted_b rfl rfl | exact wanted_g rfl rfl) rfl rfl rfl ?_; intro q hq))) | (show wpList _ _ _ (Oper.mk _ (.move _) _ _ _ (some _) :: _) _ _; refine wl_gmove rfl (by first | exact wanted_b rfl rfl | exact wanted_g rfl rfl) (by first | exact (fun hg => gvV_on hg) | exact (fun hg => gvV_gA hg) | exact (fun _ => rfl)) ?_)); (try simp only [Act.put, List.setIfInBounds_toArray, List.set_cons_zero, List.set_cons_succ]))))) | (show wpList _ _ _ (Oper.mk _ (.call (Call.mk (.value (.func 122)) _ _)) _ _ _ (some _) :: _) _ _; refine wl_gcall (v := .bool (inB x.2.own 1 2147483647)) hst (by first | exact wanted_b rfl rfl | exact wanted_g rfl rfl) ?_ ?_; (intro hg K hK; have Hg := hid hg; clear hg; go_simp; go_at_call 122; (try (conv => (arg 3; simp only [gvV_on Hg.out]))); refine (refWithin_any x.2.own 1 2147483647 _).mono ?_; rintro _ w9 ⟨rfl, h4⟩; have hk := hK _ (St.call0 hst h4); simp only [Act.put, List.setIfInBounds_toArray, List.set_cons_zero, List.set_cons_succ] at hk; dsimp only; exact hk); (intro w5 hst5; replace hst := hst5; clear hst5; (try simp only [Act.put, List.setIfInBounds_toArray, List.set_cons_zero, List.set_cons_succ]); (repeat ((first | (show wpList _ _ _ (Oper.mk _ (.move _) _ _ _ none :: _) _ _; refine wl_mv rfl rfl rfl ?_) | (show wpList _ _ _ (Oper.mk _ (.pick _ _ _) _ _ _ none :: _) _ _; (first | (refine wl_pickOr rfl rfl rfl rfl rfl ?_; intro q hq) | (refine wl_pickAnd rfl rfl rfl rfl rfl ?_; intro q hq))) | (show wpList _ _ _ (Oper.mk _ (.pick _ _ _) _ _ _ (some _) :: _) _ _; (first | (refine wl_gpickOr rfl (by first | exact wanted_b rfl rfl | exact wanted_g rfl rfl) rfl rfl rfl ?_; intro q hq) | (refine wl_gpickAnd rfl (by first | exact wanted_b rfl rfl | exact wanted_g rfl rfl) rfl rfl rfl ?_; intro q hq))) | (show wpList _ _ _ (Oper.mk _ (.move _) _ _ _ (some _) :: _) _ _; refine wl_gmove rfl (by first | exact wanted_b rfl rfl | exact wanted_g rfl rfl) (by first | exact (fun hg => gvV_on hg) | exact (fun hg => gvV_gA hg) | exact (fun _ => rfl)) ?_)); (try simp only [Act.put, List.setIfInBounds_toArray, List.set_cons_zero, List.set_cons_succ]))))) | (go_at_call 99; refine (refCheck_pv (x.2.pv x.1) _ (PV.In.old hst HX.out.1)).mono ?_; rw [← HK.out]; rintro _ w9 ⟨rfl, h4⟩; replace hst := St.call0 hst h4; clear h4; (try simp only [Act.put, List.setIfInBounds_toArray, List.set_cons_zero, List.set_cons_succ]); (repeat ((first | (show wpList _ _ _ (Oper.mk _ (.move _) _ _ _ none :: _) _ _; refine wl_mv rfl rfl rfl ?_) | (show wpList _ _ _ (Oper.mk _ (.pick _ _ _) _ _ _ none :: _) _ _; (first | (refine wl_pickOr rfl rfl rfl rfl rfl ?_; intro q hq) | (refine wl_pickAnd rfl rfl rfl rfl rfl ?_; intro q hq))) | (show wpList _ _ _ (Oper.mk _ (.pick _ _ _) _ _ _ (some _) :: _) _ _; (first | (refine wl_gpickOr rfl (by first | exact wanted_b rfl rfl | exact wanted_g rfl rfl) rfl rfl rfl ?_; intro q hq) | (refine wl_gpickAnd rfl (by first | exact wanted_b rfl rfl | exact wanted_g rfl rfl) rfl rfl rfl ?_; intro q hq))) | (show wpList _ _ _ (Oper.mk _ (.move _) _ _ _ (some _) :: _) _ _; refine wl_gmove rfl (by first | exact wanted_b rfl rfl | exact wanted_g rfl rfl) (by first | exact (fun hg => gvV_on hg) | exact (fun hg => gvV_gA hg) | exact (fun _ => rfl)) ?_)); (try simp only [Act.put, List.setIfInBounds_toArray, List.set_cons_zero, List.set_cons_succ])))) | (show wpList _ _ _ (Oper.mk _ (.call (Call.mk (.value (.func 100)) _ _)) _ _ _ (some _) :: _) _ _; refine wl_gcall (v := .bool (x.2.pv x.1).hole) hst (by first | exact wanted_b rfl rfl | exact wanted_g rfl rfl) ?_ ?_; (intro hg K hK; have Hg := hid hg; clear hg; go_simp; go_at_call 100; (try (conv => (arg 3; simp only [gvV_on Hg.out]))); refine (refHole_pv (x.2.pv x.1) _ (PV.In.old hst HX.out.1)).mono ?_; rintro _ w9 ⟨rfl, h4⟩; have hk := hK _ (St.call0 hst h4); simp only [Act.put, List.setIfInBounds_toArray, List.set_cons_zero, List.set_cons_succ] at hk; dsimp only; exact hk); (intro w5 hst5; replace hst := hst5; clear hst5; (try simp only [Act.put, List.setIfInBounds_toArray, List.set_cons_zero, List.set_cons_succ]); (repeat ((first | (show wpList _ _ _ (Oper.mk _ (.move _) _ _ _ none :: _) _ _; refine wl_mv rfl rfl rfl ?_) | (show wpList _ _ _ (Oper.mk _ (.pick _ _ _) _ _ _ none :: _) _ _; (first | (refine wl_pickOr rfl rfl rfl rfl rfl ?_; intro q hq) | (refine wl_pickAnd rfl rfl rfl rfl rfl ?_; intro q hq))) | (show wpList _ _ _ (Oper.mk _ (.pick _ _ _) _ _ _ (some _) :: _) _ _; (first | (refine wl_gpickOr rfl (by first | exact wanted_b rfl rfl | exact wanted_g rfl rfl) rfl rfl rfl ?_; intro q hq) | (refine wl_gpickAnd rfl (by first | exact wanted_b rfl rfl | exact wanted_g rfl rfl) rfl rfl rfl ?_; intro q hq))) | (show wpList _ _ _ (Oper.mk _ (.move _) _ _ _ (some _) :: _) _ _; refine wl_gmove rfl (by first | exact wanted_b rfl rfl | exact wanted_g rfl rfl) (by first | exact (fun hg => gvV_on hg) | exact (fun hg => gvV_gA hg) | exact (fun _ => rfl)) ?_)); (try simp only [Act.put, List.setIfInBounds_toArray, List.set_cons_zero, List.set_cons_succ]))))) | (go_at_call 100; refine (refHole_pv (x.2.pv x.1) _ (PV.In.old hst HX.out.1)).mono ?_; rintro _ w9 ⟨rfl, h4⟩; replace hst := St.call0 hst h4; clear h4; (try simp only [Act.put, List.setIfInBounds_toArray, List.set_cons_zero, List.set_cons_succ]); (repeat ((first | (show wpList _ _ _ (Oper.mk _ (.move _) _ _ _ none :: _) _ _; refine wl_mv rfl rfl rfl ?_) | (show wpList _ _ _ (Oper.mk _ (.pick _ _ _) _ _ _ none :: _) _ _; (first | (refine wl_pickOr rfl rfl rfl rfl rfl ?_; intro q hq) | (refine wl_pickAnd rfl rfl rfl rfl rfl ?_; intro q hq))) | (show wpList _ _ _ (Oper.mk _ (.pick _ _ _) _ _ _ (some _) :: _) _ _; (first | (refine wl_gpickOr rfl (by first | exact wanted_b rfl rfl | exact wanted_g rfl rfl) rfl rfl rfl ?_; intro q hq) | (refine wl_gpickAnd rfl (by first | exact wanted_b rfl rfl | exact wanted_g rfl rfl) rfl rfl rfl ?_; intro q hq))) | (show wpList _ _ _ (Oper.mk _ (.move _) _ _ _ (some _) :: _) _ _; refine wl_gmove rfl (by first | exact wanted_b rfl rfl | exact wanted_g rfl rfl) (by first | exact (fun hg => gvV_on hg) | exact (fun hg => gvV_gA hg) | exact (fun _ => rfl)) ?_)); (try simp only [Act.put, List.setIfInBounds_toArray, List.set_cons_zero, List.set_cons_succ])))) | (go_at_call 122; refine (refWithin_any x.2.id _ _ _).mono ?_; rintro _ w9 ⟨rfl, h4⟩; replace hst := St.call0 hst h4; clear h4; (try simp only [Act.put, List.setIfInBounds_toArray, List.set_cons_zero, List.set_cons_succ]); (repeat ((first | (show wpList _ _ _ (Oper.mk _ (.move _) _ _ _ none :: _) _ _; refine wl_mv rfl rfl rfl ?_) | (show wpList _ _ _ (Oper.mk _ (.pick _ _ _) _ _ _ none :: _) _ _; (first | (refine wl_pickOr rfl rfl rfl rfl rfl ?_; intro q hq) | (refine wl_pickAnd rfl rfl rfl rfl rfl ?_; intro q hq))) | (show wpList _ _ _ (Oper.mk _ (.pick _ _ _) _ _ _ (some _) :: _) _ _; (first | (refine wl_gpickOr rfl (by first | exact wanted_b rfl rfl | exact wanted_g rfl rfl) rfl rfl rfl ?_; intro q hq) | (refine wl_gpickAnd rfl (by first | exact wanted_b rfl rfl | exact wanted_g rfl rfl) rfl rfl rfl ?_; intro q hq))) | (show wpList _ _ _ (Oper.mk _ (.move _) _ _ _ (some _) :: _) _ _; refine wl_gmove rfl (by first | exact wanted_b rfl rfl | exact wanted_g rfl rfl) (by first | exact (fun hg => gvV_on hg) | exact (fun hg => gvV_gA hg) | exact (fun _ => rfl)) ?_)); (try simp only [Act.put, List.setIfInBounds_toArray, List.set_cons_zero, List.set_cons_succ])))) | (go_at_call 87; refine (refVolume_any x.2.name _ HX.out.2).mono ?_; rintro _ w9 ⟨rfl, h4⟩; replace hst := St.call0 hst h4; clear h4; (try simp only [Act.put, List.setIfInBounds_toArray, List.set_cons_zero, List.set_cons_succ]); (repeat ((first | (show wpList _ _ _ (Oper.mk _ (.move _) _ _ _ none :: _) _ _; refine wl_mv rfl rfl rfl ?_) | (show wpList _ _ _ (Oper.mk _ (.pick _ _ _) _ _ _ none :: _) _ _; (first | (refine wl_pickOr rfl rfl rfl rfl rfl ?_; intro q hq) | (refine wl_pickAnd rfl rfl rfl rfl rfl ?_; intro q hq))) | (show wpList _ _ _ (Oper.mk _ (.pick _ _ _) _ _ _ (some _) :: _) _ _; (first | (refine wl_gpickOr rfl (by first | exact wanted_b rfl rfl | exact wanted_g rfl rfl) rfl rfl rfl ?_; intro q hq) | (refine wl_gpickAnd rfl (by first | exact wanted_b rfl rfl | exact wanted_g rfl rfl) rfl rfl rfl ?_; intro q hq))) | (show wpList _ _ _ (Oper.mk _ (.move _) _ _ _ (some _) :: _) _ _; refine wl_gmove rfl (by first | exact wanted_b rfl rfl | exact wanted_g rfl rfl) (by first | exact (fun hg => gvV_on hg) | exact (fun hg => gvV_gA hg) | exact (fun _ => rfl)) ?_)); (try simp only [Act.put, List.setIfInBounds_toArray, List.set_cons_zero, List.set_cons_succ])))) | (go_at_call 92; refine (refSnap_any x.2.name _ HX.out.2).mono ?_; rintro _ w9 ⟨rfl, h4⟩; replace hst := St.call0 hst h4; clear h4; (try simp only [Act.put, List.setIfInBounds_toArray, List.set_cons_zero, List.set_cons_succ]); (repeat ((first | (show wpList _ _ _ (Oper.mk _ (.move _) _ _ _ none :: _) _ _; refine wl_mv rfl rfl rfl ?_) | (show wpList _ _ _ (Oper.mk _ (.pick _ _ _) _ _ _ none :: _) _ _; (first | (refine wl_pickOr rfl rfl rfl rfl rfl ?_; intro q hq) | (refine wl_pickAnd rfl rfl rfl rfl rfl ?_; intro q hq))) | (show wpList _ _ _ (Oper.mk _ (.pick _ _ _) _ _ _ (some _) :: _) _ _; (first | (refine wl_gpickOr rfl (by first | exact wanted_b rfl rfl | exact wanted_g rfl rfl) rfl rfl rfl ?_; intro q hq) | (refine wl_gpickAnd rfl (by first | exact wanted_b rfl rfl | exact wanted_g rfl rfl) rfl rfl rfl ?_; intro q hq))) | (show wpList _ _ _ (Oper.mk _ (.move _) _ _ _ (some _) :: _) _ _; refine wl_gmove rfl (by first | exact wanted_b rfl rfl | exact wanted_g rfl rfl) (by first | exact (fun hg => gvV_on hg) | exact (fun hg => gvV_gA hg) | exact (fun _ => rfl)) ?_)); (try simp only [Act.put, List.setIfInBounds_toArray, List.set_cons_zero, List.set_cons_succ])))))
    all_goals go_ret
    all_goals refine ⟨congrArg (fun z => Ending.returned (Value.bool z)) (?_ : (_ : Bool) = x.2.aloneB), hst.nil⟩
    all_goals
      have e := alone_eq x
      have e2 : (x.2.pv x.1).v = x.2.v := rfl
      have hk := HK.out
      clear HX HL H35 hst HK
      rw [e, RC.kindB, rootB_ref, e2, ← hk]
      simp only [hid_iff, bNot_eq, e2] at *
      clear e e2 hk
      (simp_all only [← Bool.not_and, ← Bool.not_or, bne, Bool.not_eq_true', Bool.not_eq_false', Bool.false_or, Bool.true_or, Bool.or_false, Bool.or_true, Bool.not_true, Bool.not_false, Bool.and_true, Bool.and_false, Bool.true_and, Bool.false_and, if_true, if_false, Bool.false_eq_true]) <;> rfl
end Go.Proofs.YtifajcblbedcoaaGreat
namespace Go.Proofs.YtifajcblbedcoaaGreat
set_option linter.unusedVariables false
set_option linter.unusedSimpArgs false
open Go.RowKit Hp
attribute [local irreducible] Go.Calls
set_option maxRecDepth 100000
set_option maxHeartbeats 4000000
attribute [local go_sem ↓] heldInt heldRecs heldStr heldRec
def bothB (next : Int) (l : List RC) (i : Nat) (r : RC) : Bool := eachB l i r && relB next l i r
theorem both_all (next : Int) (l : List RC) : allAt (bothB next l) l = (allAt (eachB l) l && allAt (relB next l) l) := by
  rw [Bool.eq_iff_iff, Bool.and_eq_true]
  constructor
  · intro h
    exact ⟨allAt_all fun i r hi => (Bool.and_eq_true_iff.1 (allAt_at h hi)).1, allAt_all fun i r hi => (Bool.and_eq_true_iff.1 (allAt_at h hi)).2⟩
  · rintro ⟨h1, h2⟩
    exact allAt_all fun i r hi => by unfold bothB; rw [allAt_at h1 hi, allAt_at h2 hi]; rfl
theorem records_any_r (t : TC) (lv : Value) (ar : Option Addr) (nr cr : Nat) (xs : List (Value × RC)) (w : World) (hR : RecsIn w (.slice ar nr cr) nr xs) (hb : nr ≤ 1000000) :
    Calls Tryz.prog 123 #[.agg (tabC t (.slice ar nr cr) lv).toArray] w fun e w' => e = .returned (.bool (allAt (bothB t.next (xs.map (·.2))) (xs.map (·.2)))) ∧ St w [] w' [] := by
  have hst0 := St.refl w
  have hcr : nr ≤ cr ∧ cr ≤ maxLen := by
    obtain ⟨_, ao', c0, he, hn, hcm, _⟩ := hR.rd
    cases he
    exact ⟨hn, hcm⟩
  have HR := hid hR
  clear hR
  obtain ⟨hc1, hc2⟩ := hcr
  unfold maxLen at hc2
  obtain ⟨E, hE⟩ : ∃ E, E = allAt (bothB t.next (xs.map (·.2))) (xs.map (·.2)) := ⟨_, rfl⟩
  rw [← hE]
  have HE := hid hE
  clear hE
  go_enter Tryz.func123, Tryz.ntmps123
  go_wp2_with (first | go_big_skip | go_big_guard | (refine wl_boxA hst0 rfl rfl rfl ?_; intro g1 w1 hst; clear hst0))
  go_loopw [3] (fun i wr => ∃ j : Nat, j ≤ nr ∧ i = .int .i64 (j : Int) ∧ St w [] wr [.blk g1 27 (tabC t (.slice ar nr cr) lv)] ∧ Hid (∀ i y, i < j → xs[i]? = some y → bothB t.next (xs.map (·.2)) i y.2 = true)) (fun i _ => nr - (intOf i).toNat)
  case atStart => exact ⟨0, Nat.zero_le _, rfl, hst, hid (fun i y hi _ => by omega)⟩
  case round =>
    clear hst
    obtain ⟨j, hj, rfl, hst, HP⟩ := hrel
    by_cases hlt : j < nr
    · have e1 : decide ((j : Int) < (nr : Int)) = true := decide_eq_true (by omega)
      have z1 : IntKind.i64.wrap ((j : Int) + 1) = (j : Int) + 1 := IntWalk.i64_in _ (by omega)
      obtain ⟨x, lb, lo, hxj, rfl, hin, hr⟩ := RecsIn.at HR.out hlt
      have HXJ := hid hxj
      have HIN := hid hin
      have HL := hid (cellsR_len hin.L)
      have HWR := hid hr
      clear hxj hin hr
      obtain ⟨q, hq⟩ : ∃ q, q = x.2.aloneB := ⟨_, rfl⟩
      have HQ := hid hq
      clear hq
      cases q
      · go_wp2_with (first | go_big_skip | go_big_guard | (refine wl_loadE rfl rfl rfl ?_; first | refine ⟨_, Loads.at [] hst rfl, ?_⟩) | (refine wl_index rfl rfl rfl rfl hlt ?_) | (refine wl_loadE rfl rfl rfl ?_; first | refine ⟨_, Loads.oldA (cs := cellsR x) hst HL.out HWR.out, ?_⟩) | (refine wl_alloc hst rfl rfl ?_; intro gx w2 hst2; clear hst) | (refine wl_storeA [] hst2 rfl rfl rfl rfl (by exact HL.out) (cellsR_ones HIN.out) rfl ?_; intro w3 hst3; clear hst2))
        have hX := hst3.drew
        clear hst3
        refine wp_region_held_drew (S := (fun w' => (loadVarH 53 ⟨gx, 0, none⟩).run Tryz.prog w' = .ok (.agg (List.toArray (cellsR x))) w' ∧ (loadVarH 3 ⟨gx, 0, none⟩).run Tryz.prog w' = .ok (.int .i64 x.2.id) w' ∧ (loadVarH 3 ⟨g1, 0, none⟩).run Tryz.prog w' = .ok (.int .i64 t.next) w')) (by kernel_rfl) (by exact ⟨ldA (cellsR x) [] hX (HL.out) (by simp), ldS [] hX rfl, ldS [_] hX rfl⟩) (fun hHeld => ?_)
        refine tq 0 18 ?_
        refine wpAnyH_ready (rs := [1]) (by kernel_rfl) (by simp) ?_
        refine (AllReadyH.cons (o := ⟨some 19, _, _, _, _, _⟩) rfl (fun K hK => ?_) AllReadyH.nil)
        rw [if_pos (by rfl)]
        go_simp
        go_at_call 135
        refine (may_any_r x _ (RC.In.old hX HIN.out)).mono ?_
        rw [← HQ.out]
        rintro _ w4 ⟨rfl, h4⟩
        have hA1 := St.call0 hX h4
        clear h4
        refine hK.out _ _ ?_ (fun hHeld => ?_)
        · exact ⟨ldA (cellsR x) [] hA1 (HL.out) (by simp), ldS [] hA1 rfl, ldS [_] hA1 rfl⟩
        clear hK K
        (try simp only [Act.put, List.setIfInBounds_toArray, List.set_cons_zero, List.set_cons_succ])
        refine tq 2 20 ?_
        refine tq 3 21 ?_
        refine tu 4 22 ?_
        refine tu 6 24 ?_
        refine tu 5 23 ?_
        refine tu 7 25 ?_
        refine tu 8 26 ?_
        refine tq 9 27 ?_
        refine tq 10 28 ?_
        refine tu 11 29 ?_
        refine tu 12 30 ?_
        refine tu 13 31 ?_
        refine tu 14 32 ?_
        refine tu 16 34 ?_
        refine tu 21 39 ?_
        refine tu 15 33 ?_
        refine tu 17 35 ?_
        refine tu 22 40 ?_
        refine tu 18 36 ?_
        refine tu 19 37 ?_
        refine tu 20 38 ?_
        refine wpAnyH_ready (rs := [23]) (by kernel_rfl) (by simp) ?_
        refine (AllReadyH.cons (o := ⟨some 41, _, _, _, _, _⟩) rfl (fun K hK => ?_) AllReadyH.nil)
        rw [if_neg (by rw [show Region.wanted _ _ = false from rfl]; exact Bool.false_ne_true)]
        refine hK.out _ _ ?_ (fun hHeld => ?_)
        · exact ⟨ldA (cellsR x) [] hA1 (HL.out) (by simp), ldS [] hA1 rfl, ldS [_] hA1 rfl⟩
        clear hK K
        (try simp only [Act.put, List.setIfInBounds_toArray, List.set_cons_zero, List.set_cons_succ])
        refine tu 24 42 ?_
        refine tu 25 43 ?_
        refine tq 26 44 ?_
        refine wpAnyH_done (by kernel_rfl) ?_ _
        clear hHeld
        have hv : E = false := by rw [HE.out]; exact allAt_no (map_at HXJ.out) (by unfold bothB eachB relB; rw [← HQ.out]; rfl)
        have HV := hid hv
        clear hv
        go_wp2_with (first | go_big_skip | go_big_guard | fail)
        go_ret
        exact ⟨by have h := HV.out; subst h; rfl, hA1.nil⟩
      · by_cases k2 : x.2.id < t.next
        · have d3 : decide (x.2.id ≥ t.next) = false := decide_eq_false (by omega)
          have d4 : decide (t.next ≤ x.2.id) = false := d3
          have HLT := hid (decide_eq_true k2)
          clear k2
          by_cases k3 : j = 0
          · have z7 : decide (0 < j) = false := decide_eq_false (by omega)
            have z4 : decide ((0 : Int) < (j : Int)) = false := decide_eq_false (by omega)
            have z5 : decide ((j : Int) > 0) = false := z4
            have HJ := hid k3
            clear k3
            go_wp2_with (first | go_big_skip | go_big_guard | (refine wl_loadE rfl rfl rfl ?_; first | refine ⟨_, Loads.at [] hst rfl, ?_⟩) | (refine wl_index rfl rfl rfl rfl hlt ?_) | (refine wl_loadE rfl rfl rfl ?_; first | refine ⟨_, Loads.oldA (cs := cellsR x) hst HL.out HWR.out, ?_⟩) | (refine wl_alloc hst rfl rfl ?_; intro gx w2 hst2; clear hst) | (refine wl_storeA [] hst2 rfl rfl rfl rfl (by exact HL.out) (cellsR_ones HIN.out) rfl ?_; intro w3 hst3; clear hst2))
            have hX := hst3.drew
            clear hst3
            refine wp_region_held_drew (S := (fun w' => (loadVarH 53 ⟨gx, 0, none⟩).run Tryz.prog w' = .ok (.agg (List.toArray (cellsR x))) w' ∧ (loadVarH 3 ⟨gx, 0, none⟩).run Tryz.prog w' = .ok (.int .i64 x.2.id) w' ∧ (loadVarH 3 ⟨g1, 0, none⟩).run Tryz.prog w' = .ok (.int .i64 t.next) w')) (by kernel_rfl) (by exact ⟨ldA (cellsR x) [] hX (HL.out) (by simp), ldS [] hX rfl, ldS [_] hX rfl⟩) (fun hHeld => ?_)
            refine tq 0 18 ?_
            refine wpAnyH_ready (rs := [1]) (by kernel_rfl) (by simp) ?_
            refine (AllReadyH.cons (o := ⟨some 19, _, _, _, _, _⟩) rfl (fun K hK => ?_) AllReadyH.nil)
            rw [if_pos (by rfl)]
            go_simp
            go_at_call 135
            refine (may_any_r x _ (RC.In.old hX HIN.out)).mono ?_
            rw [← HQ.out]
            rintro _ w4 ⟨rfl, h4⟩
            have hA1 := St.call0 hX h4
            clear h4
            refine hK.out _ _ ?_ (fun hHeld => ?_)
            · exact ⟨ldA (cellsR x) [] hA1 (HL.out) (by simp), ldS [] hA1 rfl, ldS [_] hA1 rfl⟩
            clear hK K
            (try simp only [Act.put, List.setIfInBounds_toArray, List.set_cons_zero, List.set_cons_succ])
            refine tq 2 20 ?_
            refine tq 3 21 ?_
            refine tq 4 22 ?_
            refine tq 6 24 ?_
            refine tq 5 23 ?_
            refine tq 7 25 ?_
            refine tq 8 26 ?_
            refine tq 9 27 ?_
            refine tq 10 28 ?_
            refine tq 11 29 ?_
            refine tq 12 30 ?_
            refine tq 13 31 ?_
            refine tu 14 32 ?_
            refine tu 16 34 ?_
            refine tu 21 39 ?_
            refine tu 15 33 ?_
            refine tu 17 35 ?_
            refine tu 22 40 ?_
            refine tu 18 36 ?_
            refine tu 19 37 ?_
            refine tu 20 38 ?_
            refine wpAnyH_ready (rs := [23]) (by kernel_rfl) (by simp) ?_
            refine (AllReadyH.cons (o := ⟨some 41, _, _, _, _, _⟩) rfl (fun K hK => ?_) AllReadyH.nil)
            rw [if_neg (by rw [show Region.wanted _ _ = false from rfl]; exact Bool.false_ne_true)]
            refine hK.out _ _ ?_ (fun hHeld => ?_)
            · exact ⟨ldA (cellsR x) [] hA1 (HL.out) (by simp), ldS [] hA1 rfl, ldS [_] hA1 rfl⟩
            clear hK K
            (try simp only [Act.put, List.setIfInBounds_toArray, List.set_cons_zero, List.set_cons_succ])
            refine tu 24 42 ?_
            refine tq 25 43 ?_
            refine tq 26 44 ?_
            refine wpAnyH_done (by kernel_rfl) ?_ _
            clear hHeld
            go_wp2_with (first | go_big_skip | go_big_guard | fail)
            go_loopw [5] (fun i wr => ∃ m : Nat, m ≤ j ∧ i = .int .i64 (m : Int) ∧ St w [] wr [.blk gx 53 (cellsR x), .blk g1 27 (tabC t (.slice (some ⟨lb, lo, none⟩) nr cr) lv)] ∧ Hid (((xs.take m).map (·.2)).any (fun y => y.id == x.2.id) = false)) (fun i _ => j - (intOf i).toNat)
            case atStart => exact ⟨0, Nat.zero_le _, rfl, hA1, hid rfl⟩
            case round =>
              clear hA1
              obtain ⟨m, hm, rfl, hsm, HM⟩ := hrel
              by_cases hmj : m < j
              · have f1 : decide ((m : Int) < (j : Int)) = true := decide_eq_true (by omega)
                have y1 : IntKind.i64.wrap ((m : Int) + 1) = (m : Int) + 1 := IntWalk.i64_in _ (by omega)
                have hltm : m < nr := by omega
                obtain ⟨z, b', o', hz', he, hinz, hrz⟩ := RecsIn.at HR.out hltm
                cases he
                have HZ := hid hz'
                have HZI := hid (show w.cell? ⟨lb, lo + m * 44, none⟩ = some (.int .i64 z.2.id) from hrz 0 _ rfl)
                clear hz' hinz hrz
                cases c1 : (z.2.id == x.2.id)
                · go_wp2_with (first | go_big_skip | go_big_guard | fail)
                  have hY := hsm.drew
                  clear hsm
                  refine wp_region_held_drew (S := (fun w' => (loadVarH 22 ⟨g1, 1, none⟩).run Tryz.prog w' = .ok (.slice (some ⟨lb, lo, none⟩) nr cr) w' ∧ (loadVarH 3 ⟨gx, 0, none⟩).run Tryz.prog w' = .ok (.int .i64 x.2.id) w' ∧ (loadVarH 3 ⟨lb, lo + m * 44, none⟩).run Tryz.prog w' = .ok (.int .i64 z.2.id) w')) (by kernel_rfl) (by exact ⟨ldS [_] hY rfl, ldS [] hY rfl, ldO hY (HZI.out)⟩) (fun hHeld => ?_)
                  refine tq 0 50 ?_
                  refine tq 2 52 ?_
                  refine tq 6 56 ?_
                  refine tq 1 51 ?_
                  refine tq 7 57 ?_
                  refine tq 3 53 ?_
                  refine tq 4 54 ?_
                  refine tq 5 55 ?_
                  refine tq 8 58 ?_
                  refine wpAnyH_done (by kernel_rfl) ?_ _
                  clear hHeld
                  go_wp2_with (first | go_big_skip | go_big_guard | fail)
                  go_roundw
                  case rel => exact ⟨m + 1, by omega, rfl, hY, hid (by rw [any_step HZ.out, HM.out, c1]; rfl)⟩
                  case measure => simp [intOf]; omega
                · go_wp2_with (first | go_big_skip | go_big_guard | fail)
                  have hY := hsm.drew
                  clear hsm
                  refine wp_region_held_drew (S := (fun w' => (loadVarH 22 ⟨g1, 1, none⟩).run Tryz.prog w' = .ok (.slice (some ⟨lb, lo, none⟩) nr cr) w' ∧ (loadVarH 3 ⟨gx, 0, none⟩).run Tryz.prog w' = .ok (.int .i64 x.2.id) w' ∧ (loadVarH 3 ⟨lb, lo + m * 44, none⟩).run Tryz.prog w' = .ok (.int .i64 z.2.id) w')) (by kernel_rfl) (by exact ⟨ldS [_] hY rfl, ldS [] hY rfl, ldO hY (HZI.out)⟩) (fun hHeld => ?_)
                  refine tq 0 50 ?_
                  refine tq 2 52 ?_
                  refine tq 6 56 ?_
                  refine tq 1 51 ?_
                  refine tq 7 57 ?_
                  refine tq 3 53 ?_
                  refine tq 4 54 ?_
                  refine tq 5 55 ?_
                  refine tq 8 58 ?_
                  refine wpAnyH_done (by kernel_rfl) ?_ _
                  clear hHeld
                  have hv : E = false := by rw [HE.out]; exact allAt_no (map_at HXJ.out) (by unfold bothB eachB relB; rw [List.any_eq_true.2 ⟨z.2, by rw [← List.map_take]; exact List.mem_map_of_mem (List.mem_take_iff_getElem.2 ⟨m, by have := HR.out.len; omega, (List.getElem?_eq_some_iff.1 HZ.out).2⟩), c1⟩]; simp)
                  have HV := hid hv
                  clear hv
                  go_wp2_with (first | go_big_skip | go_big_guard | fail)
                  go_ret
                  exact ⟨by have h := HV.out; subst h; rfl, hY.nil⟩
              · have f1 : decide ((m : Int) < (j : Int)) = false := decide_eq_false (by omega)
                obtain rfl : m = j := by omega
                obtain ⟨c, hc⟩ : ∃ c, c = kinB (xs.map (·.2)) x.2 := ⟨_, rfl⟩
                have HK := hid hc
                have HRE := hid (show relB t.next (xs.map (·.2)) m x.2 = c by unfold relB; rw [← List.map_take, HM.out, HLT.out, hc]; rfl)
                clear hc
                cases c
                · have hv : E = false := by rw [HE.out]; exact allAt_no (map_at HXJ.out) (by unfold bothB; rw [HRE.out, Bool.and_false])
                  have HV := hid hv
                  clear hv
                  go_wp2_with (first | go_big_skip | go_big_guard | (refine wl_loadE rfl rfl rfl ?_; first | refine ⟨_, Loads.atA (tabC t (.slice (some ⟨lb, lo, none⟩) nr cr) lv) [_] hsm rfl rfl, ?_⟩ | refine ⟨_, Loads.atA (cellsR x) [] hsm HL.out (by simp), ?_⟩) | (go_at_call 136; refine (kin_any_r t lv (some ⟨lb, lo, none⟩) nr cr xs _ (HR.out.old hsm) hb x (RC.In.old hsm HIN.out)).mono ?_; rw [← HK.out]; rintro _ w9 ⟨rfl, h4⟩; replace hsm := St.call0 hsm h4; clear h4))
                  go_ret
                  exact ⟨by have h := HV.out; subst h; rfl, hsm.nil⟩
                · go_wp2_with (first | go_big_skip | go_big_guard | (refine wl_loadE rfl rfl rfl ?_; first | refine ⟨_, Loads.atA (tabC t (.slice (some ⟨lb, lo, none⟩) nr cr) lv) [_] hsm rfl rfl, ?_⟩ | refine ⟨_, Loads.atA (cellsR x) [] hsm HL.out (by simp), ?_⟩) | (go_at_call 136; refine (kin_any_r t lv (some ⟨lb, lo, none⟩) nr cr xs _ (HR.out.old hsm) hb x (RC.In.old hsm HIN.out)).mono ?_; rw [← HK.out]; rintro _ w9 ⟨rfl, h4⟩; replace hsm := St.call0 hsm h4; clear h4))
                  go_roundw
                  case rel => exact ⟨m + 1, by omega, rfl, St.drop (L1 := []) hsm, hid (all_steps HP.out HXJ.out (by unfold bothB eachB; rw [HRE.out, ← HQ.out, (show lessAt (xs.map (·.2)) m x.2 = true by rw [HJ.out]; rfl)]; rfl))⟩
                  case measure => simp [intOf]; omega
          · obtain ⟨k, hk⟩ : ∃ k, j = k + 1 := ⟨j - 1, by omega⟩
            obtain ⟨y, b', o', hy', he, hiny, hry⟩ := RecsIn.at HR.out (k := k) (by omega)
            cases he
            have HYK := hid hy'
            have HINY := hid hiny
            have HY := hid (show w.cell? ⟨lb, lo + k * 44 + 1, none⟩ = some (.string ⟨y.2.name.toArray⟩) from hry 1 _ rfl)
            clear hy' hiny hry
            have z2 : IntKind.i64.wrap ((j : Int) - 1) = (k : Int) := by rw [IntWalk.i64_in _ (by omega)]; omega
            have z6 : IntKind.i64.wrap (k : Int) = (k : Int) := IntWalk.i64_in _ (by omega)
            have z7 : decide (0 < j) = true := decide_eq_true (by omega)
            have z4 : decide ((0 : Int) < (j : Int)) = true := decide_eq_true (by omega)
            have z5 : decide ((j : Int) > 0) = true := z4
            have hltk : k < nr := by omega
            obtain ⟨r, hr⟩ : ∃ r, r = lessL y.2.name x.2.name := ⟨_, rfl⟩
            have HLE := hid hr
            have HLA := hid (show lessAt (xs.map (·.2)) j x.2 = lessL y.2.name x.2.name by rw [hk]; exact less_at HYK.out)
            clear hr hk k3
            cases r
            · go_wp2_with (first | go_big_skip | go_big_guard | (refine wl_loadE rfl rfl rfl ?_; first | refine ⟨_, Loads.at [] hst rfl, ?_⟩) | (refine wl_index rfl rfl rfl rfl hlt ?_) | (refine wl_loadE rfl rfl rfl ?_; first | refine ⟨_, Loads.oldA (cs := cellsR x) hst HL.out HWR.out, ?_⟩) | (refine wl_alloc hst rfl rfl ?_; intro gx w2 hst2; clear hst) | (refine wl_storeA [] hst2 rfl rfl rfl rfl (by exact HL.out) (cellsR_ones HIN.out) rfl ?_; intro w3 hst3; clear hst2))
              have hX := hst3.drew
              clear hst3
              refine wp_region_held_drew (S := (fun w' => (loadVarH 53 ⟨gx, 0, none⟩).run Tryz.prog w' = .ok (.agg (List.toArray (cellsR x))) w' ∧ (loadVarH 3 ⟨gx, 0, none⟩).run Tryz.prog w' = .ok (.int .i64 x.2.id) w' ∧ (loadVarH 3 ⟨g1, 0, none⟩).run Tryz.prog w' = .ok (.int .i64 t.next) w' ∧ (loadVarH 22 ⟨g1, 1, none⟩).run Tryz.prog w' = .ok (.slice (some ⟨lb, lo, none⟩) nr cr) w' ∧ (loadVarH 9 ⟨gx, 1, none⟩).run Tryz.prog w' = .ok (.string ⟨x.2.name.toArray⟩) w' ∧ (loadVarH 9 ⟨lb, lo + k * 44 + 1, none⟩).run Tryz.prog w' = .ok (.string ⟨y.2.name.toArray⟩) w')) (by kernel_rfl) (by exact ⟨ldA (cellsR x) [] hX (HL.out) (by simp), ldS [] hX rfl, ldS [_] hX rfl, ldS [_] hX rfl, ldS [] hX rfl, ldO hX (HY.out)⟩) (fun hHeld => ?_)
              refine tq 0 18 ?_
              refine wpAnyH_ready (rs := [1]) (by kernel_rfl) (by simp) ?_
              refine (AllReadyH.cons (o := ⟨some 19, _, _, _, _, _⟩) rfl (fun K hK => ?_) AllReadyH.nil)
              rw [if_pos (by rfl)]
              go_simp
              go_at_call 135
              refine (may_any_r x _ (RC.In.old hX HIN.out)).mono ?_
              rw [← HQ.out]
              rintro _ w4 ⟨rfl, h4⟩
              have hA1 := St.call0 hX h4
              clear h4
              refine hK.out _ _ ?_ (fun hHeld => ?_)
              · exact ⟨ldA (cellsR x) [] hA1 (HL.out) (by simp), ldS [] hA1 rfl, ldS [_] hA1 rfl, ldS [_] hA1 rfl, ldS [] hA1 rfl, ldO hA1 (HY.out)⟩
              clear hK K
              (try simp only [Act.put, List.setIfInBounds_toArray, List.set_cons_zero, List.set_cons_succ])
              refine tq 2 20 ?_
              refine tq 3 21 ?_
              refine tq 4 22 ?_
              refine tq 6 24 ?_
              refine tq 5 23 ?_
              refine tq 7 25 ?_
              refine tq 8 26 ?_
              refine tq 9 27 ?_
              refine tq 10 28 ?_
              refine tq 11 29 ?_
              refine tq 12 30 ?_
              refine tq 13 31 ?_
              refine tq 14 32 ?_
              refine tq 16 34 ?_
              refine tq 21 39 ?_
              refine tq 15 33 ?_
              refine tq 17 35 ?_
              refine tq 22 40 ?_
              refine tq 18 36 ?_
              refine tq 19 37 ?_
              refine tq 20 38 ?_
              refine wpAnyH_ready (rs := [23]) (by kernel_rfl) (by simp) ?_
              refine (AllReadyH.cons (o := ⟨some 41, _, _, _, _, _⟩) rfl (fun K hK => ?_) AllReadyH.nil)
              rw [if_pos (by rfl)]
              go_simp
              go_at_call 127
              refine (refLess_any y.2.name x.2.name _ HINY.out.2 HIN.out.2).mono ?_
              rw [← HLE.out]
              rintro _ w5 ⟨rfl, h4⟩
              have hA2 := St.call0 hA1 h4
              clear h4
              refine hK.out _ _ ?_ (fun hHeld => ?_)
              · exact ⟨ldA (cellsR x) [] hA2 (HL.out) (by simp), ldS [] hA2 rfl, ldS [_] hA2 rfl, ldS [_] hA2 rfl, ldS [] hA2 rfl, ldO hA2 (HY.out)⟩
              clear hK K
              (try simp only [Act.put, List.setIfInBounds_toArray, List.set_cons_zero, List.set_cons_succ])
              refine tq 24 42 ?_
              refine tq 25 43 ?_
              refine tq 26 44 ?_
              refine wpAnyH_done (by kernel_rfl) ?_ _
              clear hHeld
              have hv : E = false := by rw [HE.out]; exact allAt_no (map_at HXJ.out) (by unfold bothB eachB relB; rw [HLA.out, ← HLE.out]; simp)
              have HV := hid hv
              clear hv
              go_wp2_with (first | go_big_skip | go_big_guard | fail)
              go_ret
              exact ⟨by have h := HV.out; subst h; rfl, hA2.nil⟩
            · go_wp2_with (first | go_big_skip | go_big_guard | (refine wl_loadE rfl rfl rfl ?_; first | refine ⟨_, Loads.at [] hst rfl, ?_⟩) | (refine wl_index rfl rfl rfl rfl hlt ?_) | (refine wl_loadE rfl rfl rfl ?_; first | refine ⟨_, Loads.oldA (cs := cellsR x) hst HL.out HWR.out, ?_⟩) | (refine wl_alloc hst rfl rfl ?_; intro gx w2 hst2; clear hst) | (refine wl_storeA [] hst2 rfl rfl rfl rfl (by exact HL.out) (cellsR_ones HIN.out) rfl ?_; intro w3 hst3; clear hst2))
              have hX := hst3.drew
              clear hst3
              refine wp_region_held_drew (S := (fun w' => (loadVarH 53 ⟨gx, 0, none⟩).run Tryz.prog w' = .ok (.agg (List.toArray (cellsR x))) w' ∧ (loadVarH 3 ⟨gx, 0, none⟩).run Tryz.prog w' = .ok (.int .i64 x.2.id) w' ∧ (loadVarH 3 ⟨g1, 0, none⟩).run Tryz.prog w' = .ok (.int .i64 t.next) w' ∧ (loadVarH 22 ⟨g1, 1, none⟩).run Tryz.prog w' = .ok (.slice (some ⟨lb, lo, none⟩) nr cr) w' ∧ (loadVarH 9 ⟨gx, 1, none⟩).run Tryz.prog w' = .ok (.string ⟨x.2.name.toArray⟩) w' ∧ (loadVarH 9 ⟨lb, lo + k * 44 + 1, none⟩).run Tryz.prog w' = .ok (.string ⟨y.2.name.toArray⟩) w')) (by kernel_rfl) (by exact ⟨ldA (cellsR x) [] hX (HL.out) (by simp), ldS [] hX rfl, ldS [_] hX rfl, ldS [_] hX rfl, ldS [] hX rfl, ldO hX (HY.out)⟩) (fun hHeld => ?_)
              refine tq 0 18 ?_
              refine wpAnyH_ready (rs := [1]) (by kernel_rfl) (by simp) ?_
              refine (AllReadyH.cons (o := ⟨some 19, _, _, _, _, _⟩) rfl (fun K hK => ?_) AllReadyH.nil)
              rw [if_pos (by rfl)]
              go_simp
              go_at_call 135
              refine (may_any_r x _ (RC.In.old hX HIN.out)).mono ?_
              rw [← HQ.out]
              rintro _ w4 ⟨rfl, h4⟩
              have hA1 := St.call0 hX h4
              clear h4
              refine hK.out _ _ ?_ (fun hHeld => ?_)
              · exact ⟨ldA (cellsR x) [] hA1 (HL.out) (by simp), ldS [] hA1 rfl, ldS [_] hA1 rfl, ldS [_] hA1 rfl, ldS [] hA1 rfl, ldO hA1 (HY.out)⟩
              clear hK K
              (try simp only [Act.put, List.setIfInBounds_toArray, List.set_cons_zero, List.set_cons_succ])
              refine tq 2 20 ?_
              refine tq 3 21 ?_
              refine tq 4 22 ?_
              refine tq 6 24 ?_
              refine tq 5 23 ?_
              refine tq 7 25 ?_
              refine tq 8 26 ?_
              refine tq 9 27 ?_
              refine tq 10 28 ?_
              refine tq 11 29 ?_
              refine tq 12 30 ?_
              refine tq 13 31 ?_
              refine tq 14 32 ?_
              refine tq 16 34 ?_
              refine tq 21 39 ?_
              refine tq 15 33 ?_
              refine tq 17 35 ?_
              refine tq 22 40 ?_
              refine tq 18 36 ?_
              refine tq 19 37 ?_
              refine tq 20 38 ?_
              refine wpAnyH_ready (rs := [23]) (by kernel_rfl) (by simp) ?_
              refine (AllReadyH.cons (o := ⟨some 41, _, _, _, _, _⟩) rfl (fun K hK => ?_) AllReadyH.nil)
              rw [if_pos (by rfl)]
              go_simp
              go_at_call 127
              refine (refLess_any y.2.name x.2.name _ HINY.out.2 HIN.out.2).mono ?_
              rw [← HLE.out]
              rintro _ w5 ⟨rfl, h4⟩
              have hA2 := St.call0 hA1 h4
              clear h4
              refine hK.out _ _ ?_ (fun hHeld => ?_)
              · exact ⟨ldA (cellsR x) [] hA2 (HL.out) (by simp), ldS [] hA2 rfl, ldS [_] hA2 rfl, ldS [_] hA2 rfl, ldS [] hA2 rfl, ldO hA2 (HY.out)⟩
              clear hK K
              (try simp only [Act.put, List.setIfInBounds_toArray, List.set_cons_zero, List.set_cons_succ])
              refine tq 24 42 ?_
              refine tq 25 43 ?_
              refine tq 26 44 ?_
              refine wpAnyH_done (by kernel_rfl) ?_ _
              clear hHeld
              go_wp2_with (first | go_big_skip | go_big_guard | fail)
              go_loopw [5] (fun i wr => ∃ m : Nat, m ≤ j ∧ i = .int .i64 (m : Int) ∧ St w [] wr [.blk gx 53 (cellsR x), .blk g1 27 (tabC t (.slice (some ⟨lb, lo, none⟩) nr cr) lv)] ∧ Hid (((xs.take m).map (·.2)).any (fun y => y.id == x.2.id) = false)) (fun i _ => j - (intOf i).toNat)
              case atStart => exact ⟨0, Nat.zero_le _, rfl, hA2, hid rfl⟩
              case round =>
                clear hA2
                obtain ⟨m, hm, rfl, hsm, HM⟩ := hrel
                by_cases hmj : m < j
                · have f1 : decide ((m : Int) < (j : Int)) = true := decide_eq_true (by omega)
                  have y1 : IntKind.i64.wrap ((m : Int) + 1) = (m : Int) + 1 := IntWalk.i64_in _ (by omega)
                  have hltm : m < nr := by omega
                  obtain ⟨z, b', o', hz', he, hinz, hrz⟩ := RecsIn.at HR.out hltm
                  cases he
                  have HZ := hid hz'
                  have HZI := hid (show w.cell? ⟨lb, lo + m * 44, none⟩ = some (.int .i64 z.2.id) from hrz 0 _ rfl)
                  clear hz' hinz hrz
                  cases c1 : (z.2.id == x.2.id)
                  · go_wp2_with (first | go_big_skip | go_big_guard | fail)
                    have hY := hsm.drew
                    clear hsm
                    refine wp_region_held_drew (S := (fun w' => (loadVarH 22 ⟨g1, 1, none⟩).run Tryz.prog w' = .ok (.slice (some ⟨lb, lo, none⟩) nr cr) w' ∧ (loadVarH 3 ⟨gx, 0, none⟩).run Tryz.prog w' = .ok (.int .i64 x.2.id) w' ∧ (loadVarH 3 ⟨lb, lo + m * 44, none⟩).run Tryz.prog w' = .ok (.int .i64 z.2.id) w')) (by kernel_rfl) (by exact ⟨ldS [_] hY rfl, ldS [] hY rfl, ldO hY (HZI.out)⟩) (fun hHeld => ?_)
                    refine tq 0 50 ?_
                    refine tq 2 52 ?_
                    refine tq 6 56 ?_
                    refine tq 1 51 ?_
                    refine tq 7 57 ?_
                    refine tq 3 53 ?_
                    refine tq 4 54 ?_
                    refine tq 5 55 ?_
                    refine tq 8 58 ?_
                    refine wpAnyH_done (by kernel_rfl) ?_ _
                    clear hHeld
                    go_wp2_with (first | go_big_skip | go_big_guard | fail)
                    go_roundw
                    case rel => exact ⟨m + 1, by omega, rfl, hY, hid (by rw [any_step HZ.out, HM.out, c1]; rfl)⟩
                    case measure => simp [intOf]; omega
                  · go_wp2_with (first | go_big_skip | go_big_guard | fail)
                    have hY := hsm.drew
                    clear hsm
                    refine wp_region_held_drew (S := (fun w' => (loadVarH 22 ⟨g1, 1, none⟩).run Tryz.prog w' = .ok (.slice (some ⟨lb, lo, none⟩) nr cr) w' ∧ (loadVarH 3 ⟨gx, 0, none⟩).run Tryz.prog w' = .ok (.int .i64 x.2.id) w' ∧ (loadVarH 3 ⟨lb, lo + m * 44, none⟩).run Tryz.prog w' = .ok (.int .i64 z.2.id) w')) (by kernel_rfl) (by exact ⟨ldS [_] hY rfl, ldS [] hY rfl, ldO hY (HZI.out)⟩) (fun hHeld => ?_)
                    refine tq 0 50 ?_
                    refine tq 2 52 ?_
                    refine tq 6 56 ?_
                    refine tq 1 51 ?_
                    refine tq 7 57 ?_
                    refine tq 3 53 ?_
                    refine tq 4 54 ?_
                    refine tq 5 55 ?_
                    refine tq 8 58 ?_
                    refine wpAnyH_done (by kernel_rfl) ?_ _
                    clear hHeld
                    have hv : E = false := by rw [HE.out]; exact allAt_no (map_at HXJ.out) (by unfold bothB eachB relB; rw [List.any_eq_true.2 ⟨z.2, by rw [← List.map_take]; exact List.mem_map_of_mem (List.mem_take_iff_getElem.2 ⟨m, by have := HR.out.len; omega, (List.getElem?_eq_some_iff.1 HZ.out).2⟩), c1⟩]; simp)
                    have HV := hid hv
                    clear hv
                    go_wp2_with (first | go_big_skip | go_big_guard | fail)
                    go_ret
                    exact ⟨by have h := HV.out; subst h; rfl, hY.nil⟩
                · have f1 : decide ((m : Int) < (j : Int)) = false := decide_eq_false (by omega)
                  obtain rfl : m = j := by omega
                  obtain ⟨c, hc⟩ : ∃ c, c = kinB (xs.map (·.2)) x.2 := ⟨_, rfl⟩
                  have HK := hid hc
                  have HRE := hid (show relB t.next (xs.map (·.2)) m x.2 = c by unfold relB; rw [← List.map_take, HM.out, HLT.out, hc]; rfl)
                  clear hc
                  cases c
                  · have hv : E = false := by rw [HE.out]; exact allAt_no (map_at HXJ.out) (by unfold bothB; rw [HRE.out, Bool.and_false])
                    have HV := hid hv
                    clear hv
                    go_wp2_with (first | go_big_skip | go_big_guard | (refine wl_loadE rfl rfl rfl ?_; first | refine ⟨_, Loads.atA (tabC t (.slice (some ⟨lb, lo, none⟩) nr cr) lv) [_] hsm rfl rfl, ?_⟩ | refine ⟨_, Loads.atA (cellsR x) [] hsm HL.out (by simp), ?_⟩) | (go_at_call 136; refine (kin_any_r t lv (some ⟨lb, lo, none⟩) nr cr xs _ (HR.out.old hsm) hb x (RC.In.old hsm HIN.out)).mono ?_; rw [← HK.out]; rintro _ w9 ⟨rfl, h4⟩; replace hsm := St.call0 hsm h4; clear h4))
                    go_ret
                    exact ⟨by have h := HV.out; subst h; rfl, hsm.nil⟩
                  · go_wp2_with (first | go_big_skip | go_big_guard | (refine wl_loadE rfl rfl rfl ?_; first | refine ⟨_, Loads.atA (tabC t (.slice (some ⟨lb, lo, none⟩) nr cr) lv) [_] hsm rfl rfl, ?_⟩ | refine ⟨_, Loads.atA (cellsR x) [] hsm HL.out (by simp), ?_⟩) | (go_at_call 136; refine (kin_any_r t lv (some ⟨lb, lo, none⟩) nr cr xs _ (HR.out.old hsm) hb x (RC.In.old hsm HIN.out)).mono ?_; rw [← HK.out]; rintro _ w9 ⟨rfl, h4⟩; replace hsm := St.call0 hsm h4; clear h4))
                    go_roundw
                    case rel => exact ⟨m + 1, by omega, rfl, St.drop (L1 := []) hsm, hid (all_steps HP.out HXJ.out (by unfold bothB eachB; rw [HRE.out, ← HQ.out, HLA.out, ← HLE.out]; rfl))⟩
                    case measure => simp [intOf]; omega
        · have d3 : decide (x.2.id ≥ t.next) = true := decide_eq_true (by omega)
          have d4 : decide (t.next ≤ x.2.id) = true := d3
          have HNL := hid (decide_eq_false k2)
          clear k2
          go_wp2_with (first | go_big_skip | go_big_guard | (refine wl_loadE rfl rfl rfl ?_; first | refine ⟨_, Loads.at [] hst rfl, ?_⟩) | (refine wl_index rfl rfl rfl rfl hlt ?_) | (refine wl_loadE rfl rfl rfl ?_; first | refine ⟨_, Loads.oldA (cs := cellsR x) hst HL.out HWR.out, ?_⟩) | (refine wl_alloc hst rfl rfl ?_; intro gx w2 hst2; clear hst) | (refine wl_storeA [] hst2 rfl rfl rfl rfl (by exact HL.out) (cellsR_ones HIN.out) rfl ?_; intro w3 hst3; clear hst2))
          have hX := hst3.drew
          clear hst3
          refine wp_region_held_drew (S := (fun w' => (loadVarH 53 ⟨gx, 0, none⟩).run Tryz.prog w' = .ok (.agg (List.toArray (cellsR x))) w' ∧ (loadVarH 3 ⟨gx, 0, none⟩).run Tryz.prog w' = .ok (.int .i64 x.2.id) w' ∧ (loadVarH 3 ⟨g1, 0, none⟩).run Tryz.prog w' = .ok (.int .i64 t.next) w')) (by kernel_rfl) (by exact ⟨ldA (cellsR x) [] hX (HL.out) (by simp), ldS [] hX rfl, ldS [_] hX rfl⟩) (fun hHeld => ?_)
          refine tq 0 18 ?_
          refine wpAnyH_ready (rs := [1]) (by kernel_rfl) (by simp) ?_
          refine (AllReadyH.cons (o := ⟨some 19, _, _, _, _, _⟩) rfl (fun K hK => ?_) AllReadyH.nil)
          rw [if_pos (by rfl)]
          go_simp
          go_at_call 135
          refine (may_any_r x _ (RC.In.old hX HIN.out)).mono ?_
          rw [← HQ.out]
          rintro _ w4 ⟨rfl, h4⟩
          have hA1 := St.call0 hX h4
          clear h4
          refine hK.out _ _ ?_ (fun hHeld => ?_)
          · exact ⟨ldA (cellsR x) [] hA1 (HL.out) (by simp), ldS [] hA1 rfl, ldS [_] hA1 rfl⟩
          clear hK K
          (try simp only [Act.put, List.setIfInBounds_toArray, List.set_cons_zero, List.set_cons_succ])
          refine tq 2 20 ?_
          refine tq 3 21 ?_
          refine tq 4 22 ?_
          refine tq 6 24 ?_
          refine tq 5 23 ?_
          refine tq 7 25 ?_
          refine tq 8 26 ?_
          refine tq 9 27 ?_
          refine tq 10 28 ?_
          refine tu 11 29 ?_
          refine tu 12 30 ?_
          refine tu 13 31 ?_
          refine tu 14 32 ?_
          refine tu 16 34 ?_
          refine tu 21 39 ?_
          refine tu 15 33 ?_
          refine tu 17 35 ?_
          refine tu 22 40 ?_
          refine tu 18 36 ?_
          refine tu 19 37 ?_
          refine tu 20 38 ?_
          refine wpAnyH_ready (rs := [23]) (by kernel_rfl) (by simp) ?_
          refine (AllReadyH.cons (o := ⟨some 41, _, _, _, _, _⟩) rfl (fun K hK => ?_) AllReadyH.nil)
          rw [if_neg (by rw [show Region.wanted _ _ = false from rfl]; exact Bool.false_ne_true)]
          refine hK.out _ _ ?_ (fun hHeld => ?_)
          · exact ⟨ldA (cellsR x) [] hA1 (HL.out) (by simp), ldS [] hA1 rfl, ldS [_] hA1 rfl⟩
          clear hK K
          (try simp only [Act.put, List.setIfInBounds_toArray, List.set_cons_zero, List.set_cons_succ])
          refine tu 24 42 ?_
          refine tu 25 43 ?_
          refine tq 26 44 ?_
          refine wpAnyH_done (by kernel_rfl) ?_ _
          clear hHeld
          have hv : E = false := by rw [HE.out]; exact allAt_no (map_at HXJ.out) (by unfold bothB eachB relB; rw [HNL.out]; simp)
          have HV := hid hv
          clear hv
          go_wp2_with (first | go_big_skip | go_big_guard | fail)
          go_ret
          exact ⟨by have h := HV.out; subst h; rfl, hA1.nil⟩
    · have e1 : decide ((j : Int) < (nr : Int)) = false := decide_eq_false (by omega)
      have hv : E = true := by rw [HE.out]; exact all_end (fun i y hi hy => HP.out i y (by have := HR.out.len; omega) hy)
      have HV := hid hv
      clear hv
      go_wp2_with (first | go_big_skip | go_big_guard | (refine wl_loadE rfl rfl rfl ?_; first | refine ⟨_, Loads.at [] hst rfl, ?_⟩))
      go_ret
      exact ⟨by have h := HV.out; subst h; rfl, hst.nil⟩
end Go.Proofs.YtifajcblbedcoaaGreat
namespace Go.Proofs.YtifajcblbedcoaaGreat
set_option linter.unusedVariables false
set_option linter.unusedSimpArgs false
open Go.RowKit Hp
attribute [local irreducible] Go.Calls
set_option maxRecDepth 100000
set_option maxHeartbeats 4000000
theorem lives_no {l : List Int} {j : Nat} {x : Int} (h : l[j]? = some x) (hx : inB x 0 2147483647 = false) : (l.all fun n => inB n 0 2147483647) = false := by
  rw [List.all_eq_false]
  exact ⟨x, List.mem_of_getElem? h, by rw [hx]; simp⟩
theorem lives_all {l : List Int} (h : ∀ (i : Nat) (x : Int), l[i]? = some x → inB x 0 2147483647 = true) : (l.all fun n => inB n 0 2147483647) = true := by
  rw [List.all_eq_true]
  intro x hx
  obtain ⟨i, hi⟩ := List.getElem?_of_mem hx
  exact h i x hi
theorem refCheck12_any (t : TC) (ar al : Option Addr) (nr cr nl cl : Nat) (xs : List (Value × RC)) (w : World) (hR : RecsIn w (.slice ar nr cr) nr xs) (hx : xs.map (·.2) = t.recs) (hb : nr ≤ 1000000) (hl : Rd w (.slice al nl cl) 1 nl (numsV t.lives)) (hnl : t.lives.length = nl) (hbl : nl ≤ 1000000) :
    Calls Tryz.prog 86 #[.agg (tabC t (.slice ar nr cr) (.slice al nl cl)).toArray] w fun e w' => e = .returned (.int .i64 t.err) ∧ St w [] w' [] := by
  have hst0 := St.refl w
  have HR := hid hR
  have HX := hid hx
  have HLV := hid hl
  have HNL := hid hnl
  have hlen : t.recs.length = nr := by rw [← hx, List.length_map, hR.len]
  have HLN := hid hlen
  obtain ⟨E, hE⟩ : ∃ E, E = t.err := ⟨_, rfl⟩
  rw [← hE]
  have HE := hid hE
  have hsz : t.sizeB = ((inB t.next 1 2147483648 && decide ((nr : Int) ≤ 16)) && inB (nl : Int) 2 8) := by unfold TC.sizeB; rw [hlen, hnl]
  have HSZ := hid hsz
  have hrec : allAt (bothB t.next (xs.map (·.2))) (xs.map (·.2)) = (allAt (eachB t.recs) t.recs && allAt (relB t.next t.recs) t.recs) := by rw [both_all, hx]
  clear hR hx hl hnl hlen hE hsz
  obtain ⟨R, hRR⟩ : ∃ R, R = allAt (bothB t.next (xs.map (·.2))) (xs.map (·.2)) := ⟨_, rfl⟩
  have HRR := hid hRR
  rw [← hRR] at hrec
  have HREC := hid hrec
  clear hRR hrec
  cases d1 : inB t.next 1 2147483648
  · skip
    have hv : E = 2 := by rw [HE.out]; exact err_no (ok_size (by rw [HSZ.out, d1]; rfl))
    rw [hv]
    clear hv
    go_enter Tryz.func86, Tryz.ntmps86
    go_wp2_with (first | go_big_skip | go_big_guard | (refine wl_boxA hst0 rfl rfl rfl ?_; intro g1 w1 hst; clear hst0) | (refine wl_loadE rfl rfl rfl ?_; first | refine ⟨_, Loads.at [] hst rfl, ?_⟩ | refine ⟨_, Loads.atA (tabC t (.slice ar nr cr) (.slice al nl cl)) [] hst rfl rfl, ?_⟩ | refine ⟨_, Loads.atA [.int .i64 t.kind, .int .i64 t.dev, .int .i64 t.at_, .int .i64 t.txg] [] hst rfl rfl, ?_⟩) | (go_at_call 122; refine (refWithin_any _ _ _ _).mono ?_; rintro _ w9 ⟨rfl, h4⟩; replace hst := St.call0 hst h4; clear h4))
    go_ret
    exact ⟨rfl, hst.nil⟩
  · by_cases k2 : (16 : Int) < (nr : Int)
    · have d2 : decide ((16 : Int) < (nr : Int)) = true := decide_eq_true k2
      have d2' : decide ((nr : Int) > 16) = true := d2
      have hv : E = 2 := by rw [HE.out]; exact err_no (ok_size (by rw [HSZ.out, d1, decide_eq_false (by omega)]; rfl))
      rw [hv]
      clear hv
      go_enter Tryz.func86, Tryz.ntmps86
      go_wp2_with (first | go_big_skip | go_big_guard | (refine wl_boxA hst0 rfl rfl rfl ?_; intro g1 w1 hst; clear hst0) | (refine wl_loadE rfl rfl rfl ?_; first | refine ⟨_, Loads.at [] hst rfl, ?_⟩ | refine ⟨_, Loads.atA (tabC t (.slice ar nr cr) (.slice al nl cl)) [] hst rfl rfl, ?_⟩ | refine ⟨_, Loads.atA [.int .i64 t.kind, .int .i64 t.dev, .int .i64 t.at_, .int .i64 t.txg] [] hst rfl rfl, ?_⟩) | (go_at_call 122; refine (refWithin_any _ _ _ _).mono ?_; rintro _ w9 ⟨rfl, h4⟩; replace hst := St.call0 hst h4; clear h4))
      go_ret
      exact ⟨rfl, hst.nil⟩
    · have d2 : decide ((16 : Int) < (nr : Int)) = false := decide_eq_false k2
      have d2' : decide ((nr : Int) > 16) = false := d2
      have d3 : decide ((nr : Int) ≤ 16) = true := decide_eq_true (by omega)
      cases d4 : inB (nl : Int) 2 8
      · skip
        have hv : E = 2 := by rw [HE.out]; exact err_no (ok_size (by rw [HSZ.out, d1, d3, d4]; rfl))
        rw [hv]
        clear hv
        go_enter Tryz.func86, Tryz.ntmps86
        go_wp2_with (first | go_big_skip | go_big_guard | (refine wl_boxA hst0 rfl rfl rfl ?_; intro g1 w1 hst; clear hst0) | (refine wl_loadE rfl rfl rfl ?_; first | refine ⟨_, Loads.at [] hst rfl, ?_⟩ | refine ⟨_, Loads.atA (tabC t (.slice ar nr cr) (.slice al nl cl)) [] hst rfl rfl, ?_⟩ | refine ⟨_, Loads.atA [.int .i64 t.kind, .int .i64 t.dev, .int .i64 t.at_, .int .i64 t.txg] [] hst rfl rfl, ?_⟩) | (go_at_call 122; refine (refWithin_any _ _ _ _).mono ?_; rintro _ w9 ⟨rfl, h4⟩; replace hst := St.call0 hst h4; clear h4))
        go_ret
        exact ⟨rfl, hst.nil⟩
      · have HSZ1 : Hid (t.sizeB = true) := hid (by rw [HSZ.out, d1, d3, d4]; rfl)
        go_enter Tryz.func86, Tryz.ntmps86
        go_wp2_with (first | go_big_skip | go_big_guard | (refine wl_boxA hst0 rfl rfl rfl ?_; intro g1 w1 hst; clear hst0) | (refine wl_loadE rfl rfl rfl ?_; first | refine ⟨_, Loads.at [] hst rfl, ?_⟩ | refine ⟨_, Loads.atA (tabC t (.slice ar nr cr) (.slice al nl cl)) [] hst rfl rfl, ?_⟩ | refine ⟨_, Loads.atA [.int .i64 t.kind, .int .i64 t.dev, .int .i64 t.at_, .int .i64 t.txg] [] hst rfl rfl, ?_⟩) | (go_at_call 122; refine (refWithin_any _ _ _ _).mono ?_; rintro _ w9 ⟨rfl, h4⟩; replace hst := St.call0 hst h4; clear h4))
        go_loopw [3] (fun i wr => ∃ j : Nat, j ≤ nl ∧ i = .int .i64 (j : Int) ∧ St w [] wr [.blk g1 27 (tabC t (.slice ar nr cr) (.slice al nl cl))] ∧ Hid (∀ i x, i < j → t.lives[i]? = some x → inB x 0 2147483647 = true)) (fun i _ => nl - (intOf i).toNat)
        case atStart => exact ⟨0, Nat.zero_le _, rfl, hst, hid (fun i y hi _ => by omega)⟩
        case round =>
          clear hst
          obtain ⟨j, hj, rfl, hst, HP⟩ := hrel
          by_cases hlt : j < nl
          · have e1 : decide ((j : Int) < (nl : Int)) = true := decide_eq_true (by omega)
            have z1 : IntKind.i64.wrap ((j : Int) + 1) = (j : Int) + 1 := IntWalk.i64_in _ (by omega)
            obtain ⟨x, hx⟩ : ∃ x, t.lives[j]? = some x := ⟨_, List.getElem?_eq_getElem (by rw [HNL.out]; exact hlt)⟩
            have HXJ := hid hx
            obtain ⟨lb, lo, rfl, hr⟩ := Rd.at HLV.out hlt
            have HC := hid (hr j _ (numsV_get hx))
            clear hx hr
            cases k4 : inB x 0 2147483647
            · have HV : Hid (E = 2) := hid (by rw [HE.out]; exact err_no (ok_lives (lives_no HXJ.out k4)))
              go_wp2_with (first | go_big_skip | go_big_guard | (refine wl_index rfl rfl rfl rfl hlt ?_) | (refine wl_loadE rfl rfl rfl ?_; first | refine ⟨_, Loads.old hst (by rw [Nat.mul_one]; exact HC.out), ?_⟩ | refine ⟨_, Loads.at [] hst rfl, ?_⟩) | (go_at_call 122; refine (refWithin_any _ _ _ _).mono ?_; rintro _ w9 ⟨rfl, h4⟩; replace hst := St.call0 hst h4; clear h4))
              go_ret
              exact ⟨by have h := HV.out; subst h; rfl, hst.nil⟩
            · go_wp2_with (first | go_big_skip | go_big_guard | (refine wl_index rfl rfl rfl rfl hlt ?_) | (refine wl_loadE rfl rfl rfl ?_; first | refine ⟨_, Loads.old hst (by rw [Nat.mul_one]; exact HC.out), ?_⟩ | refine ⟨_, Loads.at [] hst rfl, ?_⟩) | (go_at_call 122; refine (refWithin_any _ _ _ _).mono ?_; rintro _ w9 ⟨rfl, h4⟩; replace hst := St.call0 hst h4; clear h4))
              go_roundw
              case rel =>
                refine ⟨j + 1, by omega, rfl, hst, hid (fun i y hi hy => ?_)⟩
                by_cases e : i = j
                · subst e
                  rw [HXJ.out] at hy
                  cases hy
                  exact k4
                · exact HP.out i y (by omega) hy
              case measure => simp [intOf]; omega
          · have e1 : decide ((j : Int) < (nl : Int)) = false := decide_eq_false (by omega)
            have HL1 : Hid (t.livesB = true) := hid (lives_all fun i x hi => HP.out i x (by have := (List.getElem?_eq_some_iff.1 hi).1; have := HNL.out; omega) hi)
            clear HP
            cases R
            · have hrec := HREC.out
              have hk : t.ok = false := by
                unfold TC.ok
                rw [Bool.and_assoc _ _ (allAt (relB t.next t.recs) t.recs), ← hrec, Bool.and_false]
              clear hrec
              have HV : Hid (E = 2) := hid (by rw [HE.out]; exact err_no hk)
              go_wp2_with (first | go_big_skip | go_big_guard | (refine wl_loadE rfl rfl rfl ?_; first | refine ⟨_, Loads.at [] hst rfl, ?_⟩ | refine ⟨_, Loads.atA (tabC t (.slice ar nr cr) (.slice al nl cl)) [] hst rfl rfl, ?_⟩ | refine ⟨_, Loads.atA [.int .i64 t.kind, .int .i64 t.dev, .int .i64 t.at_, .int .i64 t.txg] [] hst rfl rfl, ?_⟩) | (go_at_call 123; refine (records_any_r t (.slice al nl cl) ar nr cr xs _ (HR.out.old hst) hb).mono ?_; rw [← HRR.out]; rintro _ w9 ⟨rfl, h4⟩; replace hst := St.call0 hst h4; clear h4) | (go_at_call 124; refine (refCursor_any t nl HNL.out hbl _).mono ?_; rintro _ w9 ⟨rfl, h4⟩; replace hst := St.call0 hst h4; clear h4))
              go_ret
              exact ⟨by have h := HV.out; subst h; rfl, hst.nil⟩
            · cases k5 : t.curB
              · skip
                have HV : Hid (E = 2) := hid (by rw [HE.out]; exact err_no (ok_cur k5))
                go_wp2_with (first | go_big_skip | go_big_guard | (refine wl_loadE rfl rfl rfl ?_; first | refine ⟨_, Loads.at [] hst rfl, ?_⟩ | refine ⟨_, Loads.atA (tabC t (.slice ar nr cr) (.slice al nl cl)) [] hst rfl rfl, ?_⟩ | refine ⟨_, Loads.atA [.int .i64 t.kind, .int .i64 t.dev, .int .i64 t.at_, .int .i64 t.txg] [] hst rfl rfl, ?_⟩) | (go_at_call 123; refine (records_any_r t (.slice al nl cl) ar nr cr xs _ (HR.out.old hst) hb).mono ?_; rw [← HRR.out]; rintro _ w9 ⟨rfl, h4⟩; replace hst := St.call0 hst h4; clear h4) | (go_at_call 124; refine (refCursor_any t nl HNL.out hbl _).mono ?_; rintro _ w9 ⟨rfl, h4⟩; replace hst := St.call0 hst h4; clear h4))
                go_ret
                exact ⟨by have h := HV.out; subst h; rfl, hst.nil⟩
              · have hrec := Bool.and_eq_true_iff.1 HREC.out.symm
                have HV : Hid (E = 0) := hid (by rw [HE.out]; exact err_yes (ok_all HSZ1.out k5 HL1.out hrec.1 hrec.2))
                clear hrec
                go_wp2_with (first | go_big_skip | go_big_guard | (refine wl_loadE rfl rfl rfl ?_; first | refine ⟨_, Loads.at [] hst rfl, ?_⟩ | refine ⟨_, Loads.atA (tabC t (.slice ar nr cr) (.slice al nl cl)) [] hst rfl rfl, ?_⟩ | refine ⟨_, Loads.atA [.int .i64 t.kind, .int .i64 t.dev, .int .i64 t.at_, .int .i64 t.txg] [] hst rfl rfl, ?_⟩) | (go_at_call 123; refine (records_any_r t (.slice al nl cl) ar nr cr xs _ (HR.out.old hst) hb).mono ?_; rw [← HRR.out]; rintro _ w9 ⟨rfl, h4⟩; replace hst := St.call0 hst h4; clear h4) | (go_at_call 124; refine (refCursor_any t nl HNL.out hbl _).mono ?_; rintro _ w9 ⟨rfl, h4⟩; replace hst := St.call0 hst h4; clear h4))
                go_ret
                exact ⟨by have h := HV.out; subst h; rfl, hst.nil⟩
end Go.Proofs.YtifajcblbedcoaaGreat
namespace Go.Proofs.YtifajcblbedcoaaGreat
set_option linter.unusedVariables false
set_option linter.unusedSimpArgs false
open Go.RowKit Hp
/-- Where a reader stands; whether the bytes ended within a field. -/
structure GS where
  pos : Nat
  short : Bool
def GS.stop (N n : Nat) (s : GS) : Bool := s.short || decide (N < s.pos + n)
def GS.go (N n : Nat) (s : GS) : GS := if s.stop N n then ⟨s.pos, true⟩ else ⟨s.pos + n, false⟩
/-- The bytes that are taken; none, or noughts, where they are not all there. -/
def gotG (z : Bool) (B : List UInt8) (n : Nat) (s : GS) : List UInt8 := if s.stop B.length n then (if z then List.replicate n 0 else []) else (B.drop s.pos).take n
def numG (B : List UInt8) (n : Nat) (s : GS) : Nat := beN (gotG false B n s)
theorem beN_zeros (n : Nat) : beN (List.replicate n 0) = 0 := by
  induction n with
  | zero => rfl
  | succ n ih => rw [List.replicate_succ', beN_snoc, ih]; rfl
theorem numG_z (z : Bool) (B : List UInt8) (n : Nat) (s : GS) : beN (gotG z B n s) = numG B n s := by
  unfold numG gotG
  cases s.stop B.length n <;> cases z <;> simp [beN_zeros] <;> rfl
theorem gotG_stop {z : Bool} {B : List UInt8} {n : Nat} {s : GS} (h : s.stop B.length n = true) : gotG z B n s = if z then List.replicate n 0 else [] := by unfold gotG; rw [if_pos h]
theorem gotG_go {z : Bool} {B : List UInt8} {n : Nat} {s : GS} (h : s.stop B.length n = false) : gotG z B n s = (B.drop s.pos).take n := by unfold gotG; rw [h]; rfl
theorem GS.go_stop {N n : Nat} {s : GS} (h : s.stop N n = true) : s.go N n = ⟨s.pos, true⟩ := by unfold GS.go; rw [if_pos h]
theorem GS.go_go {N n : Nat} {s : GS} (h : s.stop N n = false) : s.go N n = ⟨s.pos + n, false⟩ := by unfold GS.go; rw [h]; rfl
theorem GS.stop_yes {N n : Nat} {s : GS} (h : s.stop N n = false) : s.short = false ∧ s.pos + n ≤ N := by
  unfold GS.stop at h
  simp at h
  exact ⟨h.1, h.2⟩
theorem GS.go_no {N n : Nat} {s : GS} (h : (s.go N n).short = false) : s.stop N n = false := by
  cases hs : s.stop N n with
  | false => rfl
  | true => rw [GS.go_stop hs] at h; cases h
theorem GS.go_short {N n : Nat} {s : GS} (h : s.short = true) : (s.go N n).short = true := by
  have : s.stop N n = true := by unfold GS.stop; rw [h]; rfl
  rw [GS.go_stop this]
theorem GS.go_ok {N n : Nat} {s : GS} (h : (s.go N n).short = false) : s.short = false ∧ s.go N n = ⟨s.pos + n, false⟩ ∧ s.pos + n ≤ N := ⟨(GS.stop_yes (GS.go_no h)).1, GS.go_go (GS.go_no h), (GS.stop_yes (GS.go_no h)).2⟩
theorem gotG_len {z : Bool} {B : List UInt8} {n : Nat} {s : GS} (h : (s.go B.length n).short = false) : (gotG z B n s).length = n := by
  rw [gotG_go (GS.go_no h), List.length_take, List.length_drop]
  have := (GS.go_ok h).2.2
  omega
theorem gotG_same {z : Bool} {B : List UInt8} {n : Nat} {s : GS} (h : (s.go B.length n).short = false) : gotG z B n s = gotG false B n s := by
  rw [gotG_go (GS.go_no h), gotG_go (GS.go_no h)]
theorem GS.go_pos {N n : Nat} {s : GS} (h : s.pos ≤ N) : (s.go N n).pos ≤ N := by
  unfold GS.go
  split
  · exact h
  · rename_i h1
    exact (GS.stop_yes (by simpa using h1)).2
/-- A record's states, field by field. -/
def rS1 (B : List UInt8) (s : GS) : GS := s.go B.length 4
def rS2 (B : List UInt8) (s : GS) : GS := (rS1 B s).go B.length 1
def rS3 (B : List UInt8) (s : GS) : GS := (rS2 B s).go B.length (numG B 1 (rS1 B s))
def rS4 (B : List UInt8) (s : GS) : GS := (rS3 B s).go B.length 1
def rS5 (B : List UInt8) (s : GS) : GS := (rS4 B s).go B.length 1
def rS6 (B : List UInt8) (s : GS) : GS := (rS5 B s).go B.length 47
def rS7 (B : List UInt8) (s : GS) : GS := (rS6 B s).go B.length 4
def rS8 (B : List UInt8) (s : GS) : GS := (rS7 B s).go B.length 4
def rS9 (B : List UInt8) (s : GS) : GS := (rS8 B s).go B.length 4
def rS10 (B : List UInt8) (s : GS) : GS := (rS9 B s).go B.length 1
def rS11 (B : List UInt8) (s : GS) : GS := (rS10 B s).go B.length 1
def recS (B : List UInt8) (s : GS) : Nat → GS
  | 0 => s
  | 1 => rS1 B s
  | 2 => rS2 B s
  | 3 => rS3 B s
  | 4 => rS4 B s
  | 5 => rS5 B s
  | 6 => rS6 B s
  | 7 => rS7 B s
  | 8 => rS8 B s
  | 9 => rS9 B s
  | 10 => rS10 B s
  | _ => rS11 B s
/-- What a root's bytes tell. -/
structure RT where
  l : List (Int × Int)
  (b v : Int)
  S : List UInt8
def rootG (bs : List UInt8) : RT := if rOK bs then ⟨rAddrs bs 3, rBirth bs, rLevel bs, rSum bs⟩ else ⟨[], 0, 0, nones⟩
theorem rootG_L (bs : List UInt8) : L32 (rootG bs).S := by
  unfold rootG
  split
  · rename_i h
    exact rSum_len (rOK_len h)
  · exact L32.nones
def recG (z : Bool) (B : List UInt8) (s : GS) : RC :=
  { id := numG B 4 s, name := gotG z B (numG B 1 (recS B s 1)) (recS B s 2), kind := numG B 1 (recS B s 3), size := numG B 1 (recS B s 4),
    l := (rootG (gotG z B 47 (recS B s 5))).l, b := (rootG (gotG z B 47 (recS B s 5))).b, v := (rootG (gotG z B 47 (recS B s 5))).v, S := (rootG (gotG z B 47 (recS B s 5))).S,
    made := numG B 4 (recS B s 6), own := numG B 4 (recS B s 7), origin := numG B 4 (recS B s 8), quota := numG B 1 (recS B s 9), reserve := numG B 1 (recS B s 10) }
def rootOk (z : Bool) (B : List UInt8) (s : GS) : Bool := rOK (gotG z B 47 (recS B s 5))
def recE (B : List UInt8) (s : GS) : GS := recS B s 11
/-- Where it stands behind j records. -/
def stG (B : List UInt8) (s : GS) : Nat → GS
  | 0 => s
  | j + 1 => recE B (stG B s j)
def rcsG (z : Bool) (B : List UInt8) (s : GS) (j : Nat) : List RC := (List.range j).map fun i => recG z B (stG B s i)
def oksG (z : Bool) (B : List UInt8) (s : GS) (j : Nat) : Bool := (List.range j).all fun i => rootOk z B (stG B s i)
def lvS (B : List UInt8) (s : GS) : Nat → GS
  | 0 => s
  | j + 1 => (lvS B s j).go B.length 4
def lvsG (B : List UInt8) (s : GS) (j : Nat) : List Int := (List.range j).map fun i => ((numG B 4 (lvS B s i) : Nat) : Int)
theorem rcsG_succ (z : Bool) (B : List UInt8) (s : GS) (j : Nat) : rcsG z B s (j + 1) = rcsG z B s j ++ [recG z B (stG B s j)] := by simp [rcsG, List.range_succ]
theorem oksG_succ (z : Bool) (B : List UInt8) (s : GS) (j : Nat) : oksG z B s (j + 1) = (oksG z B s j && rootOk z B (stG B s j)) := by simp [oksG, List.range_succ]
theorem lvsG_succ (B : List UInt8) (s : GS) (j : Nat) : lvsG B s (j + 1) = lvsG B s j ++ [((numG B 4 (lvS B s j) : Nat) : Int)] := by simp [lvsG, List.range_succ]
theorem length_rcsG (z : Bool) (B : List UInt8) (s : GS) (j : Nat) : (rcsG z B s j).length = j := by simp [rcsG]
theorem length_lvsG (B : List UInt8) (s : GS) (j : Nat) : (lvsG B s j).length = j := by simp [lvsG]
/-! The states of a table. -/
def tS1 (B : List UInt8) : GS := (GS.mk 0 false).go B.length 4
def tMany (B : List UInt8) : Nat := numG B 1 (tS1 B)
def tS2 (B : List UInt8) : GS := (tS1 B).go B.length 1
def tS3 (B : List UInt8) : GS := stG B (tS2 B) (tMany B)
def tS4 (B : List UInt8) : GS := (tS3 B).go B.length 1
def tS5 (B : List UInt8) : GS := (tS4 B).go B.length 1
def tS6 (B : List UInt8) : GS := (tS5 B).go B.length 4
def tS7 (B : List UInt8) : GS := (tS6 B).go B.length 4
def tS8 (B : List UInt8) : GS := (tS7 B).go B.length 1
def tLives (B : List UInt8) : Nat := numG B 1 (tS7 B)
def tS9 (B : List UInt8) : GS := lvS B (tS8 B) (tLives B)
def tabG (z : Bool) (B : List UInt8) : TC := { next := numG B 4 ⟨0, false⟩, recs := rcsG z B (tS2 B) (tMany B), kind := numG B 1 (tS3 B), dev := numG B 1 (tS4 B), at_ := numG B 4 (tS5 B), txg := numG B 4 (tS6 B), lives := lvsG B (tS8 B) (tLives B) }
def rootsG (B : List UInt8) : Bool := oksG false B (tS2 B) (tMany B)
/-- Are bytes a table's? -/
def gOK (B : List UInt8) : Bool := ((!(tS9 B).short && ((tS9 B).pos == B.length)) && rootsG B) && (tabG false B).ok
def gErr (B : List UInt8) : Int := if (tS9 B).short then 4 else if (tS9 B).pos < B.length then 4 else if rootsG B && (tabG false B).ok then 0 else 2
def gAt (B : List UInt8) : Int := if (tS9 B).short then B.length else if (tS9 B).pos < B.length then (tS9 B).pos else 0
theorem recS_short {B : List UInt8} {s : GS} : ∀ k, s.short = true → (recS B s k).short = true := by
  intro k h
  have h1 : (rS1 B s).short = true := GS.go_short h
  have h2 : (rS2 B s).short = true := GS.go_short h1
  have h3 : (rS3 B s).short = true := GS.go_short h2
  have h4 : (rS4 B s).short = true := GS.go_short h3
  have h5 : (rS5 B s).short = true := GS.go_short h4
  have h6 : (rS6 B s).short = true := GS.go_short h5
  have h7 : (rS7 B s).short = true := GS.go_short h6
  have h8 : (rS8 B s).short = true := GS.go_short h7
  have h9 : (rS9 B s).short = true := GS.go_short h8
  have h10 : (rS10 B s).short = true := GS.go_short h9
  have h11 : (rS11 B s).short = true := GS.go_short h10
  match k with
  | 0 => exact h
  | 1 => exact h1
  | 2 => exact h2
  | 3 => exact h3
  | 4 => exact h4
  | 5 => exact h5
  | 6 => exact h6
  | 7 => exact h7
  | 8 => exact h8
  | 9 => exact h9
  | 10 => exact h10
  | _ + 11 => exact h11
theorem stG_short {B : List UInt8} {s : GS} {i j : Nat} (hij : i ≤ j) (h : (stG B s i).short = true) : (stG B s j).short = true := by
  induction j with
  | zero =>
    have : i = 0 := by omega
    subst this; exact h
  | succ j ih =>
    by_cases e : i = j + 1
    · subst e; exact h
    · exact recS_short 11 (ih (by omega))
theorem lvS_short {B : List UInt8} {s : GS} {i j : Nat} (hij : i ≤ j) (h : (lvS B s i).short = true) : (lvS B s j).short = true := by
  induction j with
  | zero =>
    have : i = 0 := by omega
    subst this; exact h
  | succ j ih =>
    by_cases e : i = j + 1
    · subst e; exact h
    · exact GS.go_short (ih (by omega))
theorem no_short {s t : GS} (h : s.short = true → t.short = true) (ht : t.short = false) : s.short = false := by
  cases hs : s.short with
  | false => rfl
  | true => rw [h hs] at ht; cases ht
/-- Behind a record that is all there, each field was there. -/
theorem recE_ok {B : List UInt8} {s : GS} (h : (recE B s).short = false) : (recS B s 1).short = false ∧ (recS B s 2).short = false ∧ (recS B s 3).short = false ∧ (recS B s 4).short = false ∧ (recS B s 5).short = false ∧ (recS B s 6).short = false ∧ (recS B s 7).short = false ∧ (recS B s 8).short = false ∧ (recS B s 9).short = false ∧ (recS B s 10).short = false := by
  have h10 := (GS.go_ok (s := recS B s 10) h).1
  have h9 := (GS.go_ok (s := recS B s 9) h10).1
  have h8 := (GS.go_ok (s := recS B s 8) h9).1
  have h7 := (GS.go_ok (s := recS B s 7) h8).1
  have h6 := (GS.go_ok (s := recS B s 6) h7).1
  have h5 := (GS.go_ok (s := recS B s 5) h6).1
  have h4 := (GS.go_ok (s := recS B s 4) h5).1
  have h3 := (GS.go_ok (s := recS B s 3) h4).1
  have h2 := (GS.go_ok (s := recS B s 2) h3).1
  have h1 := (GS.go_ok (s := recS B s 1) h2).1
  exact ⟨h1, h2, h3, h4, h5, h6, h7, h8, h9, h10⟩
theorem recG_z {z : Bool} {B : List UInt8} {s : GS} (h : (recE B s).short = false) : recG z B s = recG false B s ∧ rootOk z B s = rootOk false B s := by
  obtain ⟨h1, h2, h3, h4, h5, h6, _⟩ := recE_ok h
  have e1 : gotG z B (numG B 1 (recS B s 1)) (recS B s 2) = gotG false B (numG B 1 (recS B s 1)) (recS B s 2) := gotG_same (z := z) (s := recS B s 2) h3
  have e2 := gotG_same (z := z) (s := recS B s 5) h6
  unfold recG rootOk
  rw [e1, e2]
  exact ⟨rfl, rfl⟩
theorem rcsG_z {z : Bool} {B : List UInt8} {s : GS} {j : Nat} (h : (stG B s j).short = false) : rcsG z B s j = rcsG false B s j ∧ oksG z B s j = oksG false B s j := by
  induction j with
  | zero => exact ⟨rfl, rfl⟩
  | succ j ih =>
    have hj : (stG B s j).short = false := no_short (recS_short 11) h
    obtain ⟨e1, e2⟩ := ih hj
    obtain ⟨e3, e4⟩ := recG_z (z := z) (s := stG B s j) h
    rw [rcsG_succ, rcsG_succ, oksG_succ, oksG_succ, e1, e2, e3, e4]
    exact ⟨rfl, rfl⟩
/-- Behind a table that is all there, each field was there. -/
theorem tab_there {B : List UInt8} (h : (tS9 B).short = false) : (tS1 B).short = false ∧ (tS2 B).short = false ∧ (tS3 B).short = false ∧ (tS4 B).short = false ∧ (tS5 B).short = false ∧ (tS6 B).short = false ∧ (tS7 B).short = false ∧ (tS8 B).short = false := by
  have h8 : (tS8 B).short = false := no_short (fun h => lvS_short (i := 0) (Nat.zero_le _) h) h
  have h7 := (GS.go_ok (s := tS7 B) h8).1
  have h6 := (GS.go_ok (s := tS6 B) h7).1
  have h5 := (GS.go_ok (s := tS5 B) h6).1
  have h4 := (GS.go_ok (s := tS4 B) h5).1
  have h3 := (GS.go_ok (s := tS3 B) h4).1
  have h2 : (tS2 B).short = false := no_short (fun h => stG_short (i := 0) (Nat.zero_le _) h) h3
  have h1 := (GS.go_ok (s := tS1 B) h2).1
  exact ⟨h1, h2, h3, h4, h5, h6, h7, h8⟩
theorem tabG_z {z : Bool} {B : List UInt8} (h : (tS9 B).short = false) : tabG z B = tabG false B ∧ oksG z B (tS2 B) (tMany B) = rootsG B := by
  obtain ⟨e1, e2⟩ := rcsG_z (z := z) (s := tS2 B) (j := tMany B) (tab_there h).2.2.1
  unfold tabG rootsG
  rw [e1]
  exact ⟨rfl, e2⟩
end Go.Proofs.YtifajcblbedcoaaGreat
namespace Go.Proofs.YtifajcblbedcoaaGreat
set_option linter.unusedVariables false
set_option linter.unusedSimpArgs false
open Go.RowKit Hp
attribute [local irreducible] Go.Calls
set_option maxHeartbeats 2000000
theorem loadedI (A : Addr) : loadVar 3 A = loadVarH 3 A := rfl
theorem NV.at_v {x : NV} (h : x.Ln) {k : Nat} (hk : k < 4) : x.cells[1 + k * 35 + 2]? = some (.int .i64 (x.get k).v) := by
  have h1 := NV.at' h hk
  have h2 : ((x.cells.drop (1 + k * 35)).take (x.get k).cells.length)[2]? = (x.get k).cells[2]? := by rw [h1]
  rw [List.getElem?_take_of_lt (by rw [PV.len (h k)]; omega), List.getElem?_drop] at h2
  rw [h2]; rfl
theorem NV.at_sv {x : NV} (h : x.Ln) {k : Nat} (hk : k < 4) : x.cells[1 + k * 35]? = some (x.get k).sv := by
  have h1 := NV.at' h hk
  have h2 : ((x.cells.drop (1 + k * 35)).take (x.get k).cells.length)[0]? = (x.get k).cells[0]? := by rw [h1]
  rw [List.getElem?_take_of_lt (by rw [PV.len (h k)]; omega), List.getElem?_drop, Nat.add_zero] at h2
  rw [h2]; rfl
end Go.Proofs.YtifajcblbedcoaaGreat
namespace Go.Proofs.YtifajcblbedcoaaGreat
set_option linter.unusedVariables false
set_option linter.unusedSimpArgs false
open Go.RowKit Hp
attribute [local irreducible] Go.Calls
set_option maxHeartbeats 20000000
attribute [local go_sem ↓] loadedP loadedI
theorem NV.err_ok {x : NV} (h : x.ok = true) : x.err = 0 := by simp [NV.err, h]
theorem NV.err_no {x : NV} (h : x.ok = false) : x.err = 2 := by simp [NV.err, h]
theorem NV.ok_lv {x : NV} (h : ¬ (1 ≤ x.lv ∧ x.lv ≤ 3)) : x.ok = false := by simp [NV.ok, h]
theorem NV.ok_fit {x : NV} {k : Nat} (hk : k < 4) (h : (x.get k).fits x.lv = false) : x.ok = false := by
  rw [NV.ok, NV.fitsAll, all4_no (f := fun p => p.fits x.lv) hk h, Bool.and_false]
theorem NV.ok_all {x : NV} (h1 : 1 ≤ x.lv) (h3 : x.lv ≤ 3) (h : ∀ j, j < 4 → (x.get j).fits x.lv = true) : x.ok = true := by
  rw [NV.ok, NV.fitsAll, (all4 (f := fun p => p.fits x.lv)).2 h]
  simp [h1, h3]
end Go.Proofs.YtifajcblbedcoaaGreat
namespace Go.Proofs.YtifajcblbedcoaaGreat
set_option linter.unusedVariables false
set_option linter.unusedSimpArgs false
open Go.RowKit Hp
attribute [local irreducible] Go.Calls
set_option maxHeartbeats 4000000
def lvB (lv : Int) : UInt8 := UInt8.ofNat lv.toNat
def packTo (x : NV) (k : Nat) : List UInt8 := (lvB x.lv :: ((List.range k).map fun j => (x.get j).bytes).flatten) ++ List.replicate (255 - 47 * k) 0
def NV.bytes (x : NV) : List UInt8 := packTo x 4
theorem PV.length_bytes {p : PV} (h : L32 p.S) : p.bytes.length = 47 := length_bytesP p.l p.b p.v h
theorem length_flat {x : NV} (h : x.Ln) (k : Nat) : (((List.range k).map fun j => (x.get j).bytes).flatten).length = 47 * k := by
  induction k with
  | zero => rfl
  | succ k ih => rw [List.range_succ, List.map_append, List.flatten_append, List.length_append, ih]; simp [PV.length_bytes (h k)]; omega
theorem length_packTo {x : NV} (h : x.Ln) {k : Nat} (hk : k ≤ 4) : (packTo x k).length = 256 := by
  simp only [packTo, List.length_append, List.length_cons, length_flat h, List.length_replicate]; omega
theorem put_pack {x : NV} (h : x.Ln) {k : Nat} (hk : k < 4) : putAt (bytesV (packTo x k)) (1 + 47 * k) (bytesV (x.get k).bytes) = bytesV (packTo x (k + 1)) := by
  have e1 : bytesV (packTo x k) = bytesV (lvB x.lv :: ((List.range k).map fun j => (x.get j).bytes).flatten) ++ bytesV (List.replicate (255 - 47 * k) 0) := by rw [packTo, bytesV_append]
  have e2 : (bytesV (lvB x.lv :: ((List.range k).map fun j => (x.get j).bytes).flatten)).length = 1 + 47 * k := by rw [length_bytesV, List.length_cons, length_flat h]; omega
  have := put_app (bytesV (lvB x.lv :: ((List.range k).map fun j => (x.get j).bytes).flatten)) (bytesV (List.replicate (255 - 47 * k) 0)) 0 (bytesV (x.get k).bytes)
  rw [e2, Nat.add_zero] at this
  rw [e1, this, packTo, List.range_succ, List.map_append, List.flatten_append]
  have e3 : List.replicate (255 - 47 * k) (0 : UInt8) = List.replicate 47 0 ++ List.replicate (255 - 47 * (k + 1)) 0 := by rw [List.replicate_append_replicate]; congr 1; omega
  rw [e3]
  have e4 : (bytesV (x.get k).bytes).length = 47 := by rw [length_bytesV, PV.length_bytes (h k)]
  simp only [putAt, List.take_zero, List.nil_append, e4, Nat.zero_add, bytesV_append, ← List.cons_append, List.append_assoc]
  congr 1
  simp [bytesV, List.drop_append]
theorem packTo_zero (x : NV) : packTo x 0 = lvB x.lv :: List.replicate 255 0 := rfl
theorem lvB_val {lv : Int} (h1 : 1 ≤ lv) (h3 : lv ≤ 3) : ((lvB lv).toNat : Int) = lv := by
  unfold lvB; rw [UInt8.toNat_ofNat']; omega
theorem NV.at_tail {x : NV} (h : x.Ln) {k : Nat} (hk : k < 4) : ((x.cells.drop 1).drop (k * 35)).take 35 = (x.get k).cells := by
  have := NV.at' h hk
  rw [PV.len (h k)] at this
  rwa [List.drop_drop]
theorem NV.ok_parts {x : NV} (h : x.ok = true) : 1 ≤ x.lv ∧ x.lv ≤ 3 ∧ ∀ k, k < 4 → (x.get k).ok = true := by
  simp only [NV.ok, Bool.and_eq_true, decide_eq_true_eq] at h
  refine ⟨h.1.1, h.1.2, fun k hk => ?_⟩
  have := (all4 (f := fun p => p.fits x.lv)).1 h.2 k hk
  simp only [PV.fits, Bool.or_eq_true, Bool.and_eq_true] at this
  rcases this with h1 | h1
  · exact PV.hole_ok h1
  · exact h1.1
end Go.Proofs.YtifajcblbedcoaaGreat
namespace Go.Proofs.YtifajcblbedcoaaGreat
set_option linter.unusedVariables false
set_option linter.unusedSimpArgs false
open Go.RowKit Hp
def NV.set (x : NV) : Nat → PV → NV
  | 0, p => { x with p0 := p }
  | 1, p => { x with p1 := p }
  | 2, p => { x with p2 := p }
  | _, p => { x with p3 := p }
theorem NV.get_set_same (x : NV) {k : Nat} (hk : k < 4) (p : PV) : (x.set k p).get k = p := by
  obtain rfl | rfl | rfl | rfl : k = 0 ∨ k = 1 ∨ k = 2 ∨ k = 3 := by omega
  all_goals rfl
theorem NV.get_set_other (x : NV) {k j : Nat} (hk : k < 4) (hj : j < 4) (h : j ≠ k) (p : PV) : (x.set k p).get j = x.get j := by
  obtain rfl | rfl | rfl | rfl : k = 0 ∨ k = 1 ∨ k = 2 ∨ k = 3 := by omega
  all_goals
    obtain rfl | rfl | rfl | rfl : j = 0 ∨ j = 1 ∨ j = 2 ∨ j = 3 := by omega
  all_goals first | rfl | exact absurd rfl h
theorem NV.lv_set (x : NV) (k : Nat) (p : PV) : (x.set k p).lv = x.lv := by
  match k with
  | 0 => rfl
  | 1 => rfl
  | 2 => rfl
  | _ + 3 => rfl
theorem put_at (a b c v : List Value) (h : b.length = v.length) {n : Nat} (hn : n = a.length) : putAt (a ++ (b ++ c)) n v = a ++ (v ++ c) := by
  subst hn
  have := put_app a (b ++ c) 0 v
  rw [Nat.add_zero] at this
  rw [this]
  simp [putAt, ← h]
theorem put_node {x : NV} (h : x.Ln) {k : Nat} (hk : k < 4) {p : PV} (hp : L32 p.S) : putAt x.cells (1 + k * 35) p.cells = (x.set k p).cells := by
  have h0 : x.p0.cells.length = 35 := PV.len (h 0)
  have h1 : x.p1.cells.length = 35 := PV.len (h 1)
  have h2 : x.p2.cells.length = 35 := PV.len (h 2)
  have h3 : x.p3.cells.length = 35 := PV.len (h 3)
  have h4 := PV.len hp
  unfold NV.cells
  obtain rfl | rfl | rfl | rfl : k = 0 ∨ k = 1 ∨ k = 2 ∨ k = 3 := by omega
  · exact put_at [.int .i64 x.lv] x.p0.cells (x.p1.cells ++ (x.p2.cells ++ x.p3.cells)) p.cells (by omega) rfl
  · have := put_at (.int .i64 x.lv :: x.p0.cells) x.p1.cells (x.p2.cells ++ x.p3.cells) p.cells (n := 1 + 1 * 35) (by omega) (by simp [h0])
    simpa [NV.set] using this
  · have := put_at (.int .i64 x.lv :: (x.p0.cells ++ x.p1.cells)) x.p2.cells x.p3.cells p.cells (n := 1 + 2 * 35) (by omega) (by simp [h0, h1])
    simpa [NV.set] using this
  · have := put_at (.int .i64 x.lv :: (x.p0.cells ++ (x.p1.cells ++ x.p2.cells))) x.p3.cells [] p.cells (n := 1 + 3 * 35) (by omega) (by simp [h0, h1, h2])
    simpa [NV.set] using this
def uP (bs : List UInt8) (k : Nat) : List UInt8 := (bs.take (1 + 47 * (k + 1))).drop (1 + 47 * k)
theorem length_uP {bs : List UInt8} (h : bs.length = 256) {k : Nat} (hk : k < 4) : (uP bs k).length = 47 := by simp [uP, h]; omega
def uPV (bs : List UInt8) (k : Nat) : PV := ⟨.slice none 0 0, rAddrs (uP bs k) 3, rBirth (uP bs k), rLevel (uP bs k), rSum (uP bs k)⟩
def PV.eqd (p q : PV) : Prop := p.l = q.l ∧ p.b = q.b ∧ p.v = q.v ∧ p.S = q.S
def uNV (bs : List UInt8) : NV := ⟨((bs.getD 0 0).toNat : Int), uPV bs 0, uPV bs 1, uPV bs 2, uPV bs 3⟩
def uRd (bs : List UInt8) : Bool := rOK (uP bs 0) && (rOK (uP bs 1) && (rOK (uP bs 2) && rOK (uP bs 3)))
def uOK (bs : List UInt8) : Bool := decide (bs.length = 256) && (uRd bs && ((uNV bs).ok && ((uNV bs).bytes == bs)))
def zP : PV := ⟨.slice none 0 0, [], 0, 0, nones⟩
def zN (lv : Int) : NV := ⟨lv, zP, zP, zP, zP⟩
theorem zP_in (w : World) : zP.In w := ⟨L32.nones, none, 0, 0, rfl, Rd.nil w 2, rfl⟩
theorem zN_in (lv : Int) (w : World) : (zN lv).In w := by
  intro k
  match k with
  | 0 => exact zP_in w
  | 1 => exact zP_in w
  | 2 => exact zP_in w
  | _ + 3 => exact zP_in w
theorem uRd_at {bs : List UInt8} : uRd bs = true ↔ ∀ j, j < 4 → rOK (uP bs j) = true := by
  simp only [uRd, Bool.and_eq_true]
  constructor
  · rintro ⟨h0, h1, h2, h3⟩ j hj
    obtain rfl | rfl | rfl | rfl : j = 0 ∨ j = 1 ∨ j = 2 ∨ j = 3 := by omega
    · exact h0
    · exact h1
    · exact h2
    · exact h3
  · intro h
    exact ⟨h 0 (by omega), h 1 (by omega), h 2 (by omega), h 3 (by omega)⟩
theorem uOK_rd {bs : List UInt8} {j : Nat} (hj : j < 4) (h : rOK (uP bs j) = false) : uOK bs = false := by
  have : uRd bs = false := by
    rw [← Bool.not_eq_true, uRd_at]
    intro ha
    rw [ha j hj] at h; cases h
  simp [uOK, this]
theorem PV.eqd.ok {p q : PV} (h : p.eqd q) : p.ok = q.ok ∧ p.hole = q.hole ∧ p.bytes = q.bytes ∧ ∀ lv, p.fits lv = q.fits lv := by
  obtain ⟨h1, h2, h3, h4⟩ := h
  simp only [PV.ok, PV.hole, PV.bytes, PV.fits, h1, h2, h3, h4, and_self, implies_true]
theorem NV.eqd {x y : NV} (hl : x.lv = y.lv) (h : ∀ j, j < 4 → (x.get j).eqd (y.get j)) : x.ok = y.ok ∧ x.bytes = y.bytes := by
  have e0 := (h 0 (by omega)).ok
  have e1 := (h 1 (by omega)).ok
  have e2 := (h 2 (by omega)).ok
  have e3 := (h 3 (by omega)).ok
  simp only [NV.get] at e0 e1 e2 e3
  constructor
  · simp only [NV.ok, NV.fitsAll, hl, e0.2.2.2, e1.2.2.2, e2.2.2.2, e3.2.2.2]
  · simp only [NV.bytes, packTo, hl, List.range, List.range.loop, List.map_cons, List.map_nil, NV.get, e0.2.2.1, e1.2.2.1, e2.2.2.1, e3.2.2.1]
/-- What is read of a sector: the node, and its pointers' addresses among the pieces R. -/
def NV.isU (E : TypeId) (x : NV) (bs : List UInt8) (R : List HA) (k : Nat) : Prop := ∀ j, j < k → (x.get j).eqd (uPV bs j) ∧ ∃ ao n c, (x.get j).sv = .slice ao n c ∧ HA.row (.slice ao n c) E 2 n (addrsV (x.get j).l) ∈ R ∧ (x.get j).l.length = n
def unOut (bs : List UInt8) (w : World) (E : TypeId) (e : Ending) (w' : World) : Prop :=
  if uOK bs then ∃ (x : NV) (R : List HA), e = .returned (.tuple #[.agg x.cells.toArray, .int .i64 0]) ∧ St w [] w' R ∧ x.lv = (uNV bs).lv ∧ x.isU E bs R 4
  else e = .returned (.tuple #[.agg (zN 0).cells.toArray, .int .i64 (if bs.length = 256 then 2 else 4)]) ∧ St w [] w' []
theorem NV.isU.in {E : TypeId} {x : NV} {bs : List UInt8} {R L : List HA} {w0 w : World} {M : List Nat} {k : Nat} (h : x.isU E bs R k) (hst : St w0 M w L) (hR : ∀ y ∈ R, y ∈ L) (hS : ∀ j, j < k → L32 (uPV bs j).S) (hz : ∀ j, k ≤ j → j < 4 → x.get j = zP) : x.In w := by
  have main : ∀ j, j < 4 → (x.get j).In w := by
    intro j hj
    by_cases hk : j < k
    · obtain ⟨⟨h1, h2, h3, h4⟩, ao, n, c, h5, h6, h7⟩ := h j hk
      exact ⟨by rw [h4]; exact hS j hk, ao, n, c, h5, Rd.row hst (hR _ h6), h7⟩
    · rw [hz j (by omega) hj]; exact zP_in w
  intro j
  match j with
  | 0 => exact main 0 (by omega)
  | 1 => exact main 1 (by omega)
  | 2 => exact main 2 (by omega)
  | _ + 3 => exact main 3 (by omega)
end Go.Proofs.YtifajcblbedcoaaGreat
namespace Go.Proofs.YtifajcblbedcoaaGreat
set_option linter.unusedVariables false
set_option linter.unusedSimpArgs false
open Go.RowKit Hp
set_option maxRecDepth 100000
def xC (id : Int) (nm : List UInt8) (kind size : Int) (p : PV) (a b c d e : Int) : List Value := .int .i64 id :: .string ⟨nm.toArray⟩ :: .int .i64 kind :: .int .i64 size :: (p.cells ++ [.int .i64 a, .int .i64 b, .int .i64 c, .int .i64 d, .int .i64 e])
section
variable {id : Int} {nm : List UInt8} {kind size : Int} {p : PV} {a b c d e : Int}
theorem xC_len (h : L32 p.S) : (xC id nm kind size p a b c d e).length = 44 := by simp [xC, PV.len h]
theorem xC_put0 (z : Int) : putAt (xC id nm kind size p a b c d e) 0 [.int .i64 z] = xC z nm kind size p a b c d e := rfl
theorem xC_put1 (z : List UInt8) : putAt (xC id nm kind size p a b c d e) 1 [.string ⟨z.toArray⟩] = xC id z kind size p a b c d e := rfl
theorem xC_put2 (z : Int) : putAt (xC id nm kind size p a b c d e) 2 [.int .i64 z] = xC id nm z size p a b c d e := rfl
theorem xC_put3 (z : Int) : putAt (xC id nm kind size p a b c d e) 3 [.int .i64 z] = xC id nm kind z p a b c d e := rfl
theorem xC_put4 {q : PV} (h : L32 p.S) (h' : L32 q.S) : putAt (xC id nm kind size p a b c d e) 4 q.cells = xC id nm kind size q a b c d e :=
  put_at [.int .i64 id, .string ⟨nm.toArray⟩, .int .i64 kind, .int .i64 size] p.cells [.int .i64 a, .int .i64 b, .int .i64 c, .int .i64 d, .int .i64 e] q.cells (by rw [PV.len h, PV.len h']) rfl
theorem xC_tail (h : L32 p.S) {k : Nat} {v : Value} {t t' : List Value} (ht : putAt t k [v] = t') : putAt (.int .i64 id :: .string ⟨nm.toArray⟩ :: .int .i64 kind :: .int .i64 size :: (p.cells ++ t)) (39 + k) [v] = .int .i64 id :: .string ⟨nm.toArray⟩ :: .int .i64 kind :: .int .i64 size :: (p.cells ++ t') := by
  have hl := PV.len h
  subst ht
  unfold putAt
  have e1 : (Value.int IntKind.i64 id :: Value.string ⟨nm.toArray⟩ :: Value.int IntKind.i64 kind :: Value.int IntKind.i64 size :: (p.cells ++ t)) = ([Value.int IntKind.i64 id, Value.string ⟨nm.toArray⟩, Value.int IntKind.i64 kind, Value.int IntKind.i64 size] ++ p.cells) ++ t := by simp
  have e2 : ([Value.int IntKind.i64 id, Value.string ⟨nm.toArray⟩, Value.int IntKind.i64 kind, Value.int IntKind.i64 size] ++ p.cells).length = 39 := by simp [hl]
  rw [e1, List.take_append, List.drop_append, e2, List.take_of_length_le (by rw [e2]; omega), List.drop_of_length_le (by rw [e2]; omega)]
  simp
  congr 2
  omega
theorem xC_put39 (h : L32 p.S) (z : Int) : putAt (xC id nm kind size p a b c d e) 39 [.int .i64 z] = xC id nm kind size p z b c d e := xC_tail h (k := 0) rfl
theorem xC_put40 (h : L32 p.S) (z : Int) : putAt (xC id nm kind size p a b c d e) 40 [.int .i64 z] = xC id nm kind size p a z c d e := xC_tail h (k := 1) rfl
theorem xC_put41 (h : L32 p.S) (z : Int) : putAt (xC id nm kind size p a b c d e) 41 [.int .i64 z] = xC id nm kind size p a b z d e := xC_tail h (k := 2) rfl
theorem xC_put42 (h : L32 p.S) (z : Int) : putAt (xC id nm kind size p a b c d e) 42 [.int .i64 z] = xC id nm kind size p a b c z e := xC_tail h (k := 3) rfl
theorem xC_put43 (h : L32 p.S) (z : Int) : putAt (xC id nm kind size p a b c d e) 43 [.int .i64 z] = xC id nm kind size p a b c d z := xC_tail h (k := 4) rfl
theorem xC_all : ((xC id nm kind size p a b c d e).drop 0).take (xC id nm kind size p a b c d e).length = xC id nm kind size p a b c d e := by simp
theorem xC_ones (h : p.cells.all (·.oneCell') = true) : (xC id nm kind size p a b c d e).all (·.oneCell') = true := by
  simp [xC, Value.oneCell', List.all_append] at h ⊢
  exact h
end
theorem numG1_lt (B : List UInt8) (s : GS) : numG B 1 s < 256 := by
  unfold numG
  refine Nat.lt_of_lt_of_le (beN_lt _) ?_
  have : (gotG false B 1 s).length ≤ 1 := by
    unfold gotG
    split
    · simp
    · rw [List.length_take]; omega
  calc 256 ^ (gotG false B 1 s).length ≤ 256 ^ 1 := Nat.pow_le_pow_right (by decide) this
    _ = 256 := by decide
theorem rS_le {B : List UInt8} {s : GS} (h : s.pos ≤ B.length) : (rS1 B s).pos ≤ B.length ∧ (rS2 B s).pos ≤ B.length ∧ (rS3 B s).pos ≤ B.length ∧ (rS4 B s).pos ≤ B.length ∧ (rS5 B s).pos ≤ B.length ∧ (rS6 B s).pos ≤ B.length ∧ (rS7 B s).pos ≤ B.length ∧ (rS8 B s).pos ≤ B.length ∧ (rS9 B s).pos ≤ B.length ∧ (rS10 B s).pos ≤ B.length := by
  have h1 : (rS1 B s).pos ≤ B.length := GS.go_pos h
  have h2 : (rS2 B s).pos ≤ B.length := GS.go_pos h1
  have h3 : (rS3 B s).pos ≤ B.length := GS.go_pos h2
  have h4 : (rS4 B s).pos ≤ B.length := GS.go_pos h3
  have h5 : (rS5 B s).pos ≤ B.length := GS.go_pos h4
  have h6 : (rS6 B s).pos ≤ B.length := GS.go_pos h5
  have h7 : (rS7 B s).pos ≤ B.length := GS.go_pos h6
  have h8 : (rS8 B s).pos ≤ B.length := GS.go_pos h7
  have h9 : (rS9 B s).pos ≤ B.length := GS.go_pos h8
  exact ⟨h1, h2, h3, h4, h5, h6, h7, h8, h9, GS.go_pos h9⟩
theorem rec_cells {z : Bool} {B : List UInt8} {s : GS} {sv : Value} {l : List (Int × Int)} {b v : Int} {S : List UInt8} (h : rootG (gotG z B 47 (rS5 B s)) = ⟨l, b, v, S⟩) :
    cellsR (sv, recG z B s) = xC (numG B 4 s : Nat) (gotG z B (numG B 1 (rS1 B s)) (rS2 B s)) (numG B 1 (rS3 B s) : Nat) (numG B 1 (rS4 B s) : Nat) ⟨sv, l, b, v, S⟩ (numG B 4 (rS6 B s) : Nat) (numG B 4 (rS7 B s) : Nat) (numG B 4 (rS8 B s) : Nat) (numG B 1 (rS9 B s) : Nat) (numG B 1 (rS10 B s) : Nat) := by
  show xC (numG B 4 s : Nat) (gotG z B (numG B 1 (rS1 B s)) (rS2 B s)) (numG B 1 (rS3 B s) : Nat) (numG B 1 (rS4 B s) : Nat) ⟨sv, (rootG (gotG z B 47 (rS5 B s))).l, (rootG (gotG z B 47 (rS5 B s))).b, (rootG (gotG z B 47 (rS5 B s))).v, (rootG (gotG z B 47 (rS5 B s))).S⟩ (numG B 4 (rS6 B s) : Nat) (numG B 4 (rS7 B s) : Nat) (numG B 4 (rS8 B s) : Nat) (numG B 1 (rS9 B s) : Nat) (numG B 1 (rS10 B s) : Nat) = _
  rw [h]
theorem rec_l {z : Bool} {B : List UInt8} {s : GS} {l : List (Int × Int)} {b v : Int} {S : List UInt8} (h : rootG (gotG z B 47 (rS5 B s)) = ⟨l, b, v, S⟩) : (recG z B s).l = l := by
  show (rootG (gotG z B 47 (rS5 B s))).l = l
  rw [h]
theorem rec_S (z : Bool) (B : List UInt8) (s : GS) : L32 (recG z B s).S := rootG_L _
theorem rootG_yes {bs : List UInt8} (h : rOK bs = true) : rootG bs = ⟨rAddrs bs 3, rBirth bs, rLevel bs, rSum bs⟩ := by unfold rootG; rw [if_pos h]
theorem rootG_no {bs : List UInt8} (h : rOK bs = false) : rootG bs = ⟨[], 0, 0, nones⟩ := by unfold rootG; rw [h]; rfl
end Go.Proofs.YtifajcblbedcoaaGreat
namespace Go.Proofs.YtifajcblbedcoaaGreat
set_option linter.unusedVariables false
set_option linter.unusedSimpArgs false
open Go.RowKit Hp
theorem beN_numB_take (n : Int) (k i : Nat) (h0 : 0 ≤ n) (h : n < 2 ^ (8 * k)) (hi : i ≤ k) : (beN ((numB n k).take i) : Int) = n / 2 ^ (8 * (k - i)) := by
  induction i with
  | zero =>
    rw [List.take_zero, Nat.sub_zero, Int.ediv_eq_zero_of_lt h0 h]
    rfl
  | succ i ih =>
    rw [numB_take n k i hi, beN_snoc]
    have h1 := ih (by omega)
    rw [Int.natCast_add, Int.natCast_mul, h1, byteAt_int, show k - 1 - i = k - (i + 1) by omega, show ((256 : Nat) : Int) = 256 from rfl]
    have h2 : (2 : Int) ^ (8 * (k - i)) = 2 ^ (8 * (k - (i + 1))) * 256 := by
      rw [show 8 * (k - i) = 8 * (k - (i + 1)) + 8 by omega, Int.pow_add]
      rfl
    rw [h2, ← Int.ediv_ediv_of_nonneg (Int.le_of_lt (Int.pow_pos (by decide)))]
    omega
theorem beN_numB (n : Int) (k : Nat) (h0 : 0 ≤ n) (h : n < 2 ^ (8 * k)) : (beN (numB n k) : Int) = n := by
  have := beN_numB_take n k k h0 h (Nat.le_refl _)
  rw [List.take_of_length_le (by rw [length_numB]; exact Nat.le_refl _), Nat.sub_self, Nat.mul_zero] at this
  rw [this]
  simp
theorem numB_beN (l : List UInt8) : numB (beN l) l.length = l := by
  suffices h : ∀ (k : Nat) (l : List UInt8), l.length = k → ∀ m : Nat, numB ((m * 256 ^ k + beN l : Nat) : Int) k = l by
    have := h l.length l rfl 0
    simpa using this
  intro k
  induction k with
  | zero => intro l hl m; rw [List.eq_nil_of_length_eq_zero hl]; rfl
  | succ k ih =>
    intro l hl m
    match l, hl with
    | x :: l, hl =>
      have hl' : l.length = k := by simpa using hl
      have hb : beN (x :: l) = x.toNat * 256 ^ k + beN l := by
        have : ∀ (l : List UInt8) (a : Nat), l.foldl (fun a x => a * 256 + x.toNat) a = a * 256 ^ l.length + beN l := by
          intro l
          induction l with
          | nil => intro a; simp [beN]
          | cons y l ih =>
            intro a
            unfold beN
            rw [List.foldl_cons, List.foldl_cons, ih, ih (0 * 256 + y.toNat), List.length_cons, Nat.pow_succ]
            simp only [Nat.zero_mul, Nat.zero_add, Nat.add_mul, Nat.mul_assoc, Nat.mul_comm 256]
            omega
        have h9 := this l (0 * 256 + x.toNat)
        rw [hl', Nat.zero_mul, Nat.zero_add] at h9
        unfold beN at h9 ⊢
        rw [List.foldl_cons, Nat.zero_mul, Nat.zero_add]
        exact h9
      have hlt := beN_lt l
      rw [hl'] at hlt
      have hcast : ((m * 256 ^ (k + 1) + beN (x :: l) : Nat) : Int) = (((m * 256 + x.toNat) * 256 ^ k + beN l : Nat) : Int) := by
        congr 1
        rw [hb, Nat.pow_succ, Nat.add_mul, Nat.mul_assoc, Nat.mul_comm 256]
        omega
      rw [hcast]
      show byteAt _ k :: numB _ k = x :: l
      congr 1
      · have h1 := byteAt_int (((m * 256 + x.toNat) * 256 ^ k + beN l : Nat) : Int) k
        have h2 : (2 : Int) ^ (8 * k) = ((256 ^ k : Nat) : Int) := by
          rw [Int.pow_mul, Int.natCast_pow, show (2 : Int) ^ 8 = ((256 : Nat) : Int) from rfl]
        have hdiv : ((m * 256 + x.toNat) * 256 ^ k + beN l) / 256 ^ k = m * 256 + x.toNat := by
          rw [Nat.add_comm, Nat.add_mul_div_right _ _ (Nat.pow_pos (by decide)), Nat.div_eq_of_lt hlt, Nat.zero_add]
        rw [h2, ← Int.natCast_ediv, hdiv] at h1
        have hx := x.toNat_lt
        apply UInt8.toNat_inj.1
        omega
      · exact ih l hl' (m * 256 + x.toNat)
end Go.Proofs.YtifajcblbedcoaaGreat
namespace Go.Proofs.YtifajcblbedcoaaGreat
set_option linter.unusedVariables false
set_option linter.unusedSimpArgs false
open Go.RowKit Hp
set_option maxRecDepth 100000
/-! ### What is read is written as it was read -/
theorem take_go {B : List UInt8} {n : Nat} {s : GS} (z : Bool) (h : (s.go B.length n).short = false) : B.take (s.go B.length n).pos = B.take s.pos ++ gotG z B n s := by
  obtain ⟨_, e, hl⟩ := GS.go_ok h
  rw [gotG_go (GS.go_no h), e]
  show B.take (s.pos + n) = _
  rw [List.take_add]
theorem num_go {B : List UInt8} {n : Nat} {s : GS} (h : (s.go B.length n).short = false) : numB ((numG B n s : Nat) : Int) n = gotG false B n s := by
  have hl := gotG_len (z := false) h
  have := numB_beN (gotG false B n s)
  rw [hl] at this
  exact this
theorem take_num {B : List UInt8} {n : Nat} {s : GS} (h : (s.go B.length n).short = false) : B.take (s.go B.length n).pos = B.take s.pos ++ numB ((numG B n s : Nat) : Int) n := by rw [take_go false h, num_go h]
theorem take_rec {B : List UInt8} {s : GS} (h : (recE B s).short = false) (hr : rootOk false B s = true) : B.take (recE B s).pos = B.take s.pos ++ (recG false B s).bytes := by
  obtain ⟨h1, h2, h3, h4, h5, h6, h7, h8, h9, h10⟩ := recE_ok h
  have e1 := take_num (s := recS B s 0) h1
  have e2 := take_num (s := recS B s 1) h2
  have e3 : B.take ((recS B s 2).go B.length (numG B 1 (recS B s 1))).pos = B.take (recS B s 2).pos ++ gotG false B (numG B 1 (recS B s 1)) (recS B s 2) := take_go (s := recS B s 2) false h3
  have e4 := take_num (s := recS B s 3) h4
  have e5 := take_num (s := recS B s 4) h5
  have e6 := take_go (s := recS B s 5) false h6
  have e7 := take_num (s := recS B s 6) h7
  have e8 := take_num (s := recS B s 7) h8
  have e9 := take_num (s := recS B s 8) h9
  have e10 := take_num (s := recS B s 9) h10
  have e11 := take_num (s := recS B s 10) h
  have hn : (recG false B s).name.length = numG B 1 (recS B s 1) := gotG_len h3
  have hb : ((recG false B s).pv undef).bytes = gotG false B 47 (recS B s 5) := by
    have h' := hr
    unfold rootOk at h'
    have hp := (rOK_parts h').2
    rw [beq_iff_eq] at hp
    show bytesP (rootG (gotG false B 47 (recS B s 5))).l (rootG (gotG false B 47 (recS B s 5))).b (rootG (gotG false B 47 (recS B s 5))).v (rootG (gotG false B 47 (recS B s 5))).S = _
    unfold rootG
    rw [if_pos h']
    exact hp
  unfold RC.bytes
  rw [hn, hb]
  show B.take ((recS B s 10).go B.length 1).pos = _
  rw [e11]
  show B.take ((recS B s 9).go B.length 1).pos ++ _ = _
  rw [e10]
  show B.take ((recS B s 8).go B.length 4).pos ++ _ ++ _ = _
  rw [e9]
  show B.take ((recS B s 7).go B.length 4).pos ++ _ ++ _ ++ _ = _
  rw [e8]
  show B.take ((recS B s 6).go B.length 4).pos ++ _ ++ _ ++ _ ++ _ = _
  rw [e7]
  show B.take ((recS B s 5).go B.length 47).pos ++ _ ++ _ ++ _ ++ _ ++ _ = _
  rw [e6]
  show B.take ((recS B s 4).go B.length 1).pos ++ _ ++ _ ++ _ ++ _ ++ _ ++ _ = _
  rw [e5]
  show B.take ((recS B s 3).go B.length 1).pos ++ _ ++ _ ++ _ ++ _ ++ _ ++ _ ++ _ = _
  rw [e4]
  show B.take ((recS B s 2).go B.length (numG B 1 (recS B s 1))).pos ++ _ ++ _ ++ _ ++ _ ++ _ ++ _ ++ _ ++ _ = _
  rw [e3]
  show B.take ((recS B s 1).go B.length 1).pos ++ _ ++ _ ++ _ ++ _ ++ _ ++ _ ++ _ ++ _ ++ _ = _
  rw [e2]
  show B.take ((recS B s 0).go B.length 4).pos ++ _ ++ _ ++ _ ++ _ ++ _ ++ _ ++ _ ++ _ ++ _ ++ _ = _
  rw [e1]
  simp only [List.append_assoc]
  rfl
theorem take_recs {B : List UInt8} {s : GS} {j : Nat} (h : (stG B s j).short = false) (hr : oksG false B s j = true) : B.take (stG B s j).pos = B.take s.pos ++ (rcsG false B s j).flatMap RC.bytes := by
  induction j with
  | zero => simp [stG, rcsG]
  | succ j ih =>
    rw [oksG_succ, Bool.and_eq_true] at hr
    have hj : (stG B s j).short = false := no_short (recS_short 11) h
    rw [rcsG_succ, List.flatMap_append, ← List.append_assoc, ← ih hj hr.1]
    show B.take (recE B (stG B s j)).pos = _
    rw [take_rec h hr.2]
    simp
theorem take_lives {B : List UInt8} {s : GS} {j : Nat} (h : (lvS B s j).short = false) : B.take (lvS B s j).pos = B.take s.pos ++ (lvsG B s j).flatMap fun n => numB n 4 := by
  induction j with
  | zero => simp [lvS, lvsG]
  | succ j ih =>
    have hj : (lvS B s j).short = false := no_short GS.go_short h
    rw [lvsG_succ, List.flatMap_append, ← List.append_assoc, ← ih hj]
    show B.take ((lvS B s j).go B.length 4).pos = _
    rw [take_num h]
    simp
theorem read_write {B : List UInt8} (h : (tS9 B).short = false) (hp : (tS9 B).pos = B.length) (hr : rootsG B = true) : (tabG false B).bytes = B := by
  obtain ⟨h1, h2, h3, h4, h5, h6, h7, h8⟩ := tab_there h
  have e1 := take_num (s := GS.mk 0 false) h1
  have e2 := take_num (s := tS1 B) h2
  have e3 := take_recs (s := tS2 B) (j := tMany B) h3 hr
  have e4 := take_num (s := tS3 B) h4
  have e5 := take_num (s := tS4 B) h5
  have e6 := take_num (s := tS5 B) h6
  have e7 := take_num (s := tS6 B) h7
  have e8 := take_num (s := tS7 B) h8
  have e9 := take_lives (s := tS8 B) (j := tLives B) h
  have e : B.take (tS9 B).pos = B := by rw [hp, List.take_length]
  have hm : (tabG false B).recs.length = numG B 1 (tS1 B) := length_rcsG _ _ _ _
  have hl : (tabG false B).lives.length = numG B 1 (tS7 B) := length_lvsG _ _ _
  unfold TC.bytes
  rw [hm, hl]
  refine Eq.trans ?_ e
  show _ = B.take (lvS B (tS8 B) (tLives B)).pos
  rw [e9]
  show _ = B.take ((tS7 B).go B.length 1).pos ++ _
  rw [e8]
  show _ = B.take ((tS6 B).go B.length 4).pos ++ _ ++ _
  rw [e7]
  show _ = B.take ((tS5 B).go B.length 4).pos ++ _ ++ _ ++ _
  rw [e6]
  show _ = B.take ((tS4 B).go B.length 1).pos ++ _ ++ _ ++ _ ++ _
  rw [e5]
  show _ = B.take ((tS3 B).go B.length 1).pos ++ _ ++ _ ++ _ ++ _ ++ _
  rw [e4]
  show _ = B.take (stG B (tS2 B) (tMany B)).pos ++ _ ++ _ ++ _ ++ _ ++ _ ++ _
  rw [e3]
  show _ = B.take ((tS1 B).go B.length 1).pos ++ _ ++ _ ++ _ ++ _ ++ _ ++ _ ++ _
  rw [e2]
  show _ = B.take ((GS.mk 0 false).go B.length 4).pos ++ _ ++ _ ++ _ ++ _ ++ _ ++ _ ++ _ ++ _
  rw [e1]
  simp only [List.append_assoc, List.take_zero, List.nil_append]
  rfl
theorem gOK_bytes {B : List UInt8} (h : gOK B = true) : (tabG false B).bytes = B ∧ (tabG false B).ok = true := by
  unfold gOK at h
  simp only [Bool.and_eq_true, beq_iff_eq, Bool.not_eq_true'] at h
  exact ⟨read_write h.1.1.1 h.1.1.2 h.1.2, h.2⟩
/-! ### What is written is read back -/
theorem go_at (z : Bool) (A P C : List UInt8) {n : Nat} (hn : P.length = n) : gotG z (A ++ (P ++ C)) n ⟨A.length, false⟩ = P ∧ (GS.mk A.length false).go (A ++ (P ++ C)).length n = ⟨(A ++ P).length, false⟩ := by
  have hs : (GS.mk A.length false).stop (A ++ (P ++ C)).length n = false := by
    unfold GS.stop
    simp
    omega
  refine ⟨?_, ?_⟩
  · rw [gotG_go hs]
    show ((A ++ (P ++ C)).drop A.length).take n = P
    rw [List.drop_left, ← hn, List.take_left]
  · rw [GS.go_go hs, List.length_append, hn]
theorem num_at (A C : List UInt8) {x : Int} {n : Nat} (h0 : 0 ≤ x) (h : x < 2 ^ (8 * n)) : ((numG (A ++ (numB x n ++ C)) n ⟨A.length, false⟩ : Nat) : Int) = x ∧ (GS.mk A.length false).go (A ++ (numB x n ++ C)).length n = ⟨(A ++ numB x n).length, false⟩ := by
  obtain ⟨e1, e2⟩ := go_at false A (numB x n) C (length_numB x n)
  refine ⟨?_, e2⟩
  unfold numG
  rw [e1]
  exact beN_numB x n h0 h
theorem root_back {p : PV} (h : p.ok = true) (hS : L32 p.S) : rOK p.bytes = true ∧ rootG p.bytes = ⟨p.l, p.b, p.v, p.S⟩ := by
  have hr : rOK p.bytes = true := rOK_bytes h hS
  refine ⟨hr, ?_⟩
  obtain ⟨e1, e2, e3, e4⟩ := read_bytes (S := p.S) h
  unfold rootG
  rw [if_pos hr]
  show RT.mk (rAddrs (bytesP p.l p.b p.v p.S) 3) (rBirth (bytesP p.l p.b p.v p.S)) (rLevel (bytesP p.l p.b p.v p.S)) (rSum (bytesP p.l p.b p.v p.S)) = _
  rw [e1, e2, e3, e4]
theorem R31.lt {z : Int} (h : R31 z) : 0 ≤ z ∧ z < 2 ^ (8 * 4) := ⟨h.1, by have := h.2; omega⟩
theorem lt1 {z k : Int} (h : inB z 0 k = true) (hk : k < 256) : 0 ≤ z ∧ z < 2 ^ (8 * 1) := by
  unfold inB at h
  simp only [Bool.and_eq_true, decide_eq_true_eq] at h
  exact ⟨h.1, by have := h.2; omega⟩
/-- The numbers of one byte are less than 256. -/
structure RC.Sm (r : RC) : Prop where
  kind : 0 ≤ r.kind ∧ r.kind < 2 ^ (8 * 1)
  size : 0 ≤ r.size ∧ r.size < 2 ^ (8 * 1)
  quota : 0 ≤ r.quota ∧ r.quota < 2 ^ (8 * 1)
  reserve : 0 ≤ r.reserve ∧ r.reserve < 2 ^ (8 * 1)
  name : 0 ≤ (r.name.length : Int) ∧ (r.name.length : Int) < 2 ^ (8 * 1)
theorem eq_sm {z k : Int} (h : (z == k) = true) (h0 : 0 ≤ k) (hk : k < 256) : 0 ≤ z ∧ z < 2 ^ (8 * 1) := by
  rw [beq_iff_eq] at h
  subst h
  exact ⟨h0, by omega⟩
theorem inB_sm {z a k : Int} (h : inB z a k = true) (h0 : 0 ≤ a) (hk : k < 256) : 0 ≤ z ∧ z < 2 ^ (8 * 1) := by
  unfold inB at h
  simp only [Bool.and_eq_true, decide_eq_true_eq] at h
  exact ⟨by omega, by have := h.2; omega⟩
theorem alone_sm {r : RC} (h : r.aloneB = true) : r.Sm := by
  have hn := (alone_bd h).name
  have hn' : 0 ≤ (r.name.length : Int) ∧ (r.name.length : Int) < 2 ^ (8 * 1) := ⟨by omega, by omega⟩
  unfold RC.aloneB at h
  simp only [Bool.and_eq_true] at h
  obtain ⟨⟨⟨⟨h1, h2⟩, h3⟩, h4⟩, h5⟩ := h
  unfold RC.kindB at h5
  by_cases k1 : (r.kind == 1) = true
  · rw [if_pos k1] at h5
    simp only [Bool.and_eq_true] at h5
    obtain ⟨⟨⟨⟨a1, a2⟩, a3⟩, a4⟩, a5⟩ := h5
    exact ⟨eq_sm k1 (by decide) (by decide), inB_sm h2 (by decide) (by decide), inB_sm a4 (by decide) (by decide), inB_sm a5 (by decide) (by decide), hn'⟩
  · rw [if_neg k1] at h5
    by_cases k2 : (r.kind == 2) = true
    · rw [if_pos k2] at h5
      simp only [Bool.and_eq_true] at h5
      obtain ⟨⟨⟨⟨⟨a1, a2⟩, a3⟩, a4⟩, a5⟩, a6⟩ := h5
      exact ⟨eq_sm k2 (by decide) (by decide), inB_sm h2 (by decide) (by decide), eq_sm a4 (by decide) (by decide), eq_sm a5 (by decide) (by decide), hn'⟩
    · rw [if_neg k2] at h5
      cases h5
theorem num_at' {B : List UInt8} (A C : List UInt8) {x : Int} {n : Nat} {s : GS} (hB : B = A ++ (numB x n ++ C)) (hs : s = ⟨A.length, false⟩) (h : 0 ≤ x ∧ x < 2 ^ (8 * n)) : ((numG B n s : Nat) : Int) = x ∧ s.go B.length n = ⟨(A ++ numB x n).length, false⟩ := by
  subst hB; subst hs
  exact num_at A C h.1 h.2
theorem got_at' {B : List UInt8} (A P C : List UInt8) {n : Nat} {s : GS} (hB : B = A ++ (P ++ C)) (hs : s = ⟨A.length, false⟩) (hn : P.length = n) : gotG false B n s = P ∧ s.go B.length n = ⟨(A ++ P).length, false⟩ := by
  subst hB; subst hs
  exact go_at false A P C hn
theorem rec_back {B : List UInt8} (A C : List UInt8) {r : RC} (hB : B = A ++ (r.bytes ++ C)) (hb : r.Bd) (hs : r.Sm) (hS : L32 r.S) :
    recG false B ⟨A.length, false⟩ = r ∧ rootOk false B ⟨A.length, false⟩ = true ∧ recE B ⟨A.length, false⟩ = ⟨(A ++ r.bytes).length, false⟩ := by
  unfold RC.bytes at hB
  simp only [List.append_assoc] at hB
  have h47 : ((r.pv undef).bytes).length = 47 := length_bytesP _ _ _ (S := (r.pv undef).S) hS
  obtain ⟨n1, s1⟩ := num_at' (B := B) (n := 4) (s := (GS.mk A.length false)) (A) _ hB rfl hb.id.lt
  obtain ⟨n2, s2⟩ := num_at' (B := B) (n := 1) (s := (rS1 B ⟨A.length, false⟩)) (A ++ numB r.id 4) _ (by simp only [List.append_assoc]; exact hB) s1 hs.name
  have hN : numG B 1 (rS1 B ⟨A.length, false⟩) = r.name.length := by
    have : ((numG B 1 (rS1 B ⟨A.length, false⟩) : Nat) : Int) = (r.name.length : Int) := n2
    omega
  obtain ⟨n3, s3⟩ := got_at' (B := B) (n := r.name.length) (s := (rS2 B ⟨A.length, false⟩)) (A ++ numB r.id 4 ++ numB (r.name.length : Int) 1) (r.name) _ (by simp only [List.append_assoc]; exact hB) s2 rfl
  have s3' : rS3 B ⟨A.length, false⟩ = ⟨(A ++ numB r.id 4 ++ numB (r.name.length : Int) 1 ++ r.name).length, false⟩ := by
    show (rS2 B ⟨A.length, false⟩).go B.length (numG B 1 (rS1 B ⟨A.length, false⟩)) = _
    rw [hN]
    exact s3
  obtain ⟨n4, s4⟩ := num_at' (B := B) (n := 1) (s := (rS3 B ⟨A.length, false⟩)) (A ++ numB r.id 4 ++ numB (r.name.length : Int) 1 ++ r.name) _ (by simp only [List.append_assoc]; exact hB) s3' hs.kind
  obtain ⟨n5, s5⟩ := num_at' (B := B) (n := 1) (s := (rS4 B ⟨A.length, false⟩)) (A ++ numB r.id 4 ++ numB (r.name.length : Int) 1 ++ r.name ++ numB r.kind 1) _ (by simp only [List.append_assoc]; exact hB) s4 hs.size
  obtain ⟨n6, s6⟩ := got_at' (B := B) (n := 47) (s := (rS5 B ⟨A.length, false⟩)) (A ++ numB r.id 4 ++ numB (r.name.length : Int) 1 ++ r.name ++ numB r.kind 1 ++ numB r.size 1) ((r.pv undef).bytes) _ (by simp only [List.append_assoc]; exact hB) s5 h47
  obtain ⟨n7, s7⟩ := num_at' (B := B) (n := 4) (s := (rS6 B ⟨A.length, false⟩)) (A ++ numB r.id 4 ++ numB (r.name.length : Int) 1 ++ r.name ++ numB r.kind 1 ++ numB r.size 1 ++ (r.pv undef).bytes) _ (by simp only [List.append_assoc]; exact hB) s6 hb.made.lt
  obtain ⟨n8, s8⟩ := num_at' (B := B) (n := 4) (s := (rS7 B ⟨A.length, false⟩)) (A ++ numB r.id 4 ++ numB (r.name.length : Int) 1 ++ r.name ++ numB r.kind 1 ++ numB r.size 1 ++ (r.pv undef).bytes ++ numB r.made 4) _ (by simp only [List.append_assoc]; exact hB) s7 hb.own.lt
  obtain ⟨n9, s9⟩ := num_at' (B := B) (n := 4) (s := (rS8 B ⟨A.length, false⟩)) (A ++ numB r.id 4 ++ numB (r.name.length : Int) 1 ++ r.name ++ numB r.kind 1 ++ numB r.size 1 ++ (r.pv undef).bytes ++ numB r.made 4 ++ numB r.own 4) _ (by simp only [List.append_assoc]; exact hB) s8 hb.origin.lt
  obtain ⟨n10, s10⟩ := num_at' (B := B) (n := 1) (s := (rS9 B ⟨A.length, false⟩)) (A ++ numB r.id 4 ++ numB (r.name.length : Int) 1 ++ r.name ++ numB r.kind 1 ++ numB r.size 1 ++ (r.pv undef).bytes ++ numB r.made 4 ++ numB r.own 4 ++ numB r.origin 4) _ (by simp only [List.append_assoc]; exact hB) s9 hs.quota
  obtain ⟨n11, s11⟩ := num_at' (B := B) (n := 1) (s := (rS10 B ⟨A.length, false⟩)) (A ++ numB r.id 4 ++ numB (r.name.length : Int) 1 ++ r.name ++ numB r.kind 1 ++ numB r.size 1 ++ (r.pv undef).bytes ++ numB r.made 4 ++ numB r.own 4 ++ numB r.origin 4 ++ numB r.quota 1) _ (by simp only [List.append_assoc]; exact hB) s10 hs.reserve
  obtain ⟨hr, hg⟩ := root_back (p := r.pv undef) hb.root hS
  have n3' : gotG false B (numG B 1 (rS1 B ⟨A.length, false⟩)) (rS2 B ⟨A.length, false⟩) = r.name := by rw [hN]; exact n3
  refine ⟨?_, ?_, ?_⟩
  · show RC.mk _ _ _ _ _ _ _ _ (gotG false B (numG B 1 (rS1 B ⟨A.length, false⟩)) (rS2 B ⟨A.length, false⟩)) (rootG (gotG false B 47 (rS5 B ⟨A.length, false⟩))).l (rootG (gotG false B 47 (rS5 B ⟨A.length, false⟩))).b (rootG (gotG false B 47 (rS5 B ⟨A.length, false⟩))).v (rootG (gotG false B 47 (rS5 B ⟨A.length, false⟩))).S = r
    rw [n3', n6, hg]
    show RC.mk ((numG B 4 ⟨A.length, false⟩ : Nat) : Int) ((numG B 1 (rS3 B ⟨A.length, false⟩) : Nat) : Int) ((numG B 1 (rS4 B ⟨A.length, false⟩) : Nat) : Int) ((numG B 4 (rS6 B ⟨A.length, false⟩) : Nat) : Int) ((numG B 4 (rS7 B ⟨A.length, false⟩) : Nat) : Int) ((numG B 4 (rS8 B ⟨A.length, false⟩) : Nat) : Int) ((numG B 1 (rS9 B ⟨A.length, false⟩) : Nat) : Int) ((numG B 1 (rS10 B ⟨A.length, false⟩) : Nat) : Int) r.name r.l r.b r.v r.S = r
    rw [n1, n4, n5, n7, n8, n9, n10, n11]
  · show rOK (gotG false B 47 (rS5 B ⟨A.length, false⟩)) = true
    rw [n6]
    exact hr
  · show rS11 B ⟨A.length, false⟩ = _
    unfold RC.bytes
    simp only [List.append_assoc] at s11 ⊢
    exact s11
theorem recs_back {B : List UInt8} : ∀ (l : List RC) (A C : List UInt8), B = A ++ (l.flatMap RC.bytes ++ C) → (∀ r ∈ l, r.Bd ∧ r.Sm ∧ L32 r.S) → ∀ j, j ≤ l.length → rcsG false B ⟨A.length, false⟩ j = l.take j ∧ oksG false B ⟨A.length, false⟩ j = true ∧ stG B ⟨A.length, false⟩ j = ⟨(A ++ (l.take j).flatMap RC.bytes).length, false⟩ := by
  intro l A C hB hl j
  induction j with
  | zero => intro _; exact ⟨by simp [rcsG], rfl, by simp [stG]⟩
  | succ j ih =>
    intro hj
    obtain ⟨e1, e2, e3⟩ := ih (by omega)
    obtain ⟨r, hr⟩ : ∃ r, l[j]? = some r := ⟨_, List.getElem?_eq_getElem (by omega)⟩
    obtain ⟨b1, b2, b3⟩ := hl r (List.mem_of_getElem? hr)
    have hd : l.drop j = r :: l.drop (j + 1) := by
      obtain ⟨hlt, hg⟩ := List.getElem?_eq_some_iff.1 hr
      rw [List.drop_eq_getElem_cons hlt, hg]
    have hB' : B = (A ++ (l.take j).flatMap RC.bytes) ++ (r.bytes ++ ((l.drop (j + 1)).flatMap RC.bytes ++ C)) := by
      have hs : l.flatMap RC.bytes = (l.take j).flatMap RC.bytes ++ (r.bytes ++ (l.drop (j + 1)).flatMap RC.bytes) := by
        rw [← List.flatMap_cons, ← hd, ← List.flatMap_append, List.take_append_drop]
      rw [hB, hs]
      simp only [List.append_assoc]
    obtain ⟨q1, q2, q3⟩ := rec_back _ _ hB' b1 b2 b3
    refine ⟨?_, ?_, ?_⟩
    · rw [rcsG_succ, e1, e3, q1, List.take_add_one, hr]; rfl
    · rw [oksG_succ, e2, e3, q2]; rfl
    · show recE B (stG B ⟨A.length, false⟩ j) = _
      rw [e3, q3, flat_step RC.bytes hr, List.append_assoc]
theorem lives_back {B : List UInt8} : ∀ (l : List Int) (A C : List UInt8), B = A ++ ((l.flatMap fun n => numB n 4) ++ C) → (∀ z ∈ l, R31 z) → ∀ j, j ≤ l.length → lvsG B ⟨A.length, false⟩ j = l.take j ∧ lvS B ⟨A.length, false⟩ j = ⟨(A ++ (l.take j).flatMap fun n => numB n 4).length, false⟩ := by
  intro l A C hB hl j
  induction j with
  | zero => intro _; exact ⟨by simp [lvsG], by simp [lvS]⟩
  | succ j ih =>
    intro hj
    obtain ⟨e1, e3⟩ := ih (by omega)
    obtain ⟨r, hr⟩ : ∃ r, l[j]? = some r := ⟨_, List.getElem?_eq_getElem (by omega)⟩
    have b := hl r (List.mem_of_getElem? hr)
    have hd : l.drop j = r :: l.drop (j + 1) := by
      obtain ⟨hlt, hg⟩ := List.getElem?_eq_some_iff.1 hr
      rw [List.drop_eq_getElem_cons hlt, hg]
    have hB' : B = (A ++ (l.take j).flatMap fun n => numB n 4) ++ (numB r 4 ++ (((l.drop (j + 1)).flatMap fun n => numB n 4) ++ C)) := by
      have hs : (l.flatMap fun n => numB n 4) = ((l.take j).flatMap fun n => numB n 4) ++ (numB r 4 ++ (l.drop (j + 1)).flatMap fun n => numB n 4) := by
        rw [show numB r 4 ++ ((l.drop (j + 1)).flatMap fun n => numB n 4) = (l.drop j).flatMap fun n => numB n 4 by rw [hd, List.flatMap_cons], ← List.flatMap_append, List.take_append_drop]
      rw [hB, hs]
      simp only [List.append_assoc]
    obtain ⟨q1, q2⟩ := num_at' (n := 4) _ _ hB' e3 b.lt
    refine ⟨?_, ?_⟩
    · rw [lvsG_succ, e1, q1, List.take_add_one, hr]; rfl
    · show (lvS B ⟨A.length, false⟩ j).go B.length 4 = _
      rw [q2, flat_step _ hr, List.append_assoc]
theorem tab_back {t : TC} (h : t.ok = true) (hS : ∀ r ∈ t.recs, L32 r.S) : tabG false t.bytes = t ∧ rootsG t.bytes = true ∧ tS9 t.bytes = ⟨t.bytes.length, false⟩ := by
  have hb := ok_bd h
  have hsm : ∀ r ∈ t.recs, r.Bd ∧ r.Sm ∧ L32 r.S := fun r hr => by
    refine ⟨hb.recs r hr, ?_, hS r hr⟩
    unfold TC.ok at h
    simp only [Bool.and_eq_true] at h
    obtain ⟨i, hi⟩ := List.getElem?_of_mem hr
    have := allAt_at h.1.2 hi
    unfold eachB at this
    exact alone_sm (Bool.and_eq_true_iff.1 this).1
  have hcur : (0 ≤ t.kind ∧ t.kind < 2 ^ (8 * 1)) ∧ (0 ≤ t.dev ∧ t.dev < 2 ^ (8 * 1)) := by
    have hc : t.curB = true := by
      unfold TC.ok at h
      simp only [Bool.and_eq_true] at h
      exact h.1.1.1.2
    unfold TC.curB at hc
    rcases Bool.or_eq_true_iff.1 hc with hc | hc
    · unfold TC.cur0 at hc
      simp at hc
      obtain ⟨h1, h2, _⟩ := hc
      rw [h1, h2]
      decide
    · simp only [Bool.and_eq_true] at hc
      have hl := hb.lives
      rcases Bool.or_eq_true_iff.1 hc.2 with hc | hc
      · simp only [Bool.and_eq_true] at hc
        exact ⟨eq_sm hc.1 (by decide) (by decide), eq_sm hc.2 (by decide) (by decide)⟩
      · simp only [Bool.and_eq_true] at hc
        exact ⟨eq_sm hc.1 (by decide) (by decide), inB_sm hc.2 (by decide) (by omega)⟩
  have hm := hb.many
  have hv := hb.lives
  obtain ⟨B, hB⟩ : ∃ B, B = t.bytes := ⟨_, rfl⟩
  rw [← hB]
  unfold TC.bytes at hB
  simp only [List.append_assoc] at hB
  obtain ⟨n1, s1⟩ := num_at' (B := B) (n := 4) (s := (GS.mk ([] : List UInt8).length false)) ([]) _ (by simp only [List.nil_append]; exact hB) rfl hb.next.lt
  obtain ⟨n2, s2⟩ := num_at' (B := B) (n := 1) (s := (tS1 B)) ([] ++ numB t.next 4) _ (by simp only [List.append_assoc, List.nil_append]; exact hB) s1 ⟨by omega, by omega⟩
  have hN : tMany B = t.recs.length := by
    have : ((numG B 1 (tS1 B) : Nat) : Int) = (t.recs.length : Int) := n2
    unfold tMany
    omega
  have s2' : tS2 B = ⟨([] ++ numB t.next 4 ++ numB (t.recs.length : Int) 1).length, false⟩ := s2
  obtain ⟨r1, r2, r3⟩ := recs_back (B := B) t.recs ([] ++ numB t.next 4 ++ numB (t.recs.length : Int) 1) _ (by simp only [List.append_assoc, List.nil_append]; exact hB) hsm t.recs.length (Nat.le_refl _)
  rw [List.take_length] at r1 r3
  have s3 : tS3 B = ⟨([] ++ numB t.next 4 ++ numB (t.recs.length : Int) 1 ++ t.recs.flatMap RC.bytes).length, false⟩ := by
    unfold tS3
    rw [hN, s2', r3]
  obtain ⟨n4, s4⟩ := num_at' (B := B) (n := 1) (s := (tS3 B)) ([] ++ numB t.next 4 ++ numB (t.recs.length : Int) 1 ++ t.recs.flatMap RC.bytes) _ (by simp only [List.append_assoc, List.nil_append]; exact hB) s3 hcur.1
  obtain ⟨n5, s5⟩ := num_at' (B := B) (n := 1) (s := (tS4 B)) ([] ++ numB t.next 4 ++ numB (t.recs.length : Int) 1 ++ t.recs.flatMap RC.bytes ++ numB t.kind 1) _ (by simp only [List.append_assoc, List.nil_append]; exact hB) s4 hcur.2
  obtain ⟨n6, s6⟩ := num_at' (B := B) (n := 4) (s := (tS5 B)) ([] ++ numB t.next 4 ++ numB (t.recs.length : Int) 1 ++ t.recs.flatMap RC.bytes ++ numB t.kind 1 ++ numB t.dev 1) _ (by simp only [List.append_assoc, List.nil_append]; exact hB) s5 hb.at_.lt
  obtain ⟨n7, s7⟩ := num_at' (B := B) (n := 4) (s := (tS6 B)) ([] ++ numB t.next 4 ++ numB (t.recs.length : Int) 1 ++ t.recs.flatMap RC.bytes ++ numB t.kind 1 ++ numB t.dev 1 ++ numB t.at_ 4) _ (by simp only [List.append_assoc, List.nil_append]; exact hB) s6 hb.txg.lt
  obtain ⟨n8, s8⟩ := num_at' (B := B) (n := 1) (s := (tS7 B)) ([] ++ numB t.next 4 ++ numB (t.recs.length : Int) 1 ++ t.recs.flatMap RC.bytes ++ numB t.kind 1 ++ numB t.dev 1 ++ numB t.at_ 4 ++ numB t.txg 4) _ (by simp only [List.append_assoc, List.nil_append]; exact hB) s7 ⟨by omega, by omega⟩
  have hL : tLives B = t.lives.length := by
    have : ((numG B 1 (tS7 B) : Nat) : Int) = (t.lives.length : Int) := n8
    unfold tLives
    omega
  have s8' : tS8 B = ⟨([] ++ numB t.next 4 ++ numB (t.recs.length : Int) 1 ++ t.recs.flatMap RC.bytes ++ numB t.kind 1 ++ numB t.dev 1 ++ numB t.at_ 4 ++ numB t.txg 4 ++ numB (t.lives.length : Int) 1).length, false⟩ := s8
  obtain ⟨l1, l3⟩ := lives_back (B := B) t.lives ([] ++ numB t.next 4 ++ numB (t.recs.length : Int) 1 ++ t.recs.flatMap RC.bytes ++ numB t.kind 1 ++ numB t.dev 1 ++ numB t.at_ 4 ++ numB t.txg 4 ++ numB (t.lives.length : Int) 1) [] (by simp only [List.append_assoc, List.nil_append, List.append_nil]; exact hB) hb.live t.lives.length (Nat.le_refl _)
  rw [List.take_length] at l1 l3
  have q1 : rcsG false B (tS2 B) (tMany B) = t.recs := by rw [hN, s2', r1]
  have q2 : lvsG B (tS8 B) (tLives B) = t.lives := by rw [hL, s8', l1]
  refine ⟨?_, ?_, ?_⟩
  · show TC.mk ((numG B 4 ⟨0, false⟩ : Nat) : Int) (rcsG false B (tS2 B) (tMany B)) ((numG B 1 (tS3 B) : Nat) : Int) ((numG B 1 (tS4 B) : Nat) : Int) ((numG B 4 (tS5 B) : Nat) : Int) ((numG B 4 (tS6 B) : Nat) : Int) (lvsG B (tS8 B) (tLives B)) = t
    have n1' : ((numG B 4 ⟨0, false⟩ : Nat) : Int) = t.next := n1
    rw [q1, q2, n1', n4, n5, n6, n7]
  · unfold rootsG
    rw [hN, s2', r2]
  · unfold tS9
    rw [hL, s8', l3, hB]
    simp only [List.append_assoc, List.nil_append]
theorem back_ok {t : TC} (h : t.ok = true) (hS : ∀ r ∈ t.recs, L32 r.S) : gOK t.bytes = true ∧ tabG false t.bytes = t := by
  obtain ⟨e1, e2, e3⟩ := tab_back h hS
  refine ⟨?_, e1⟩
  unfold gOK
  rw [e1, e2, e3, h]
  simp
theorem tab_one {t u : TC} (ht : t.ok = true) (hu : u.ok = true) (hS : ∀ r ∈ t.recs, L32 r.S) (hS' : ∀ r ∈ u.recs, L32 r.S) (h : t.bytes = u.bytes) : t = u := by
  have e1 := (back_ok ht hS).2
  have e2 := (back_ok hu hS').2
  rw [← e1, ← e2, h]
/-! ### Bytes that are cut short -/
theorem cut_go {N N' n : Nat} {s : GS} (hN : N' ≤ N) (h : (s.go N' n).short = false) : s.go N n = s.go N' n := by
  obtain ⟨h0, e, hl⟩ := GS.go_ok h
  rw [e]
  refine GS.go_go ?_
  unfold GS.stop
  rw [h0]
  simp
  omega
theorem cut_got {B : List UInt8} {k n : Nat} {s : GS} (hk : k ≤ B.length) (h : (s.go (B.take k).length n).short = false) : gotG false (B.take k) n s = gotG false B n s := by
  have h' := cut_go (N := B.length) (by rw [List.length_take]; omega) h
  obtain ⟨h0, e, hl⟩ := GS.go_ok h
  rw [gotG_go (GS.go_no h), gotG_go (GS.go_no (by rw [h']; exact h))]
  rw [List.length_take] at hl
  rw [List.drop_take, List.take_take, Nat.min_eq_left (by omega)]
theorem cut_num {B : List UInt8} {k n : Nat} {s : GS} (hk : k ≤ B.length) (h : (s.go (B.take k).length n).short = false) : numG (B.take k) n s = numG B n s := by
  unfold numG
  rw [cut_got hk h]
theorem cut_rec {B : List UInt8} {k : Nat} {s : GS} (hk : k ≤ B.length) (h : (recE (B.take k) s).short = false) : recE B s = recE (B.take k) s := by
  have hl : (B.take k).length ≤ B.length := by rw [List.length_take]; omega
  obtain ⟨h1, h2, h3, h4, h5, h6, h7, h8, h9, h10⟩ := recE_ok h
  have e1 : rS1 B s = rS1 (B.take k) s := cut_go hl h1
  have e2 : rS2 B s = rS2 (B.take k) s := by unfold rS2; rw [e1]; exact cut_go hl h2
  have en : numG B 1 (rS1 B s) = numG (B.take k) 1 (rS1 (B.take k) s) := by rw [e1]; exact (cut_num hk h2).symm
  have e3 : rS3 B s = rS3 (B.take k) s := by unfold rS3; rw [e2, en]; exact cut_go hl h3
  have e4 : rS4 B s = rS4 (B.take k) s := by unfold rS4; rw [e3]; exact cut_go hl h4
  have e5 : rS5 B s = rS5 (B.take k) s := by unfold rS5; rw [e4]; exact cut_go hl h5
  have e6 : rS6 B s = rS6 (B.take k) s := by unfold rS6; rw [e5]; exact cut_go hl h6
  have e7 : rS7 B s = rS7 (B.take k) s := by unfold rS7; rw [e6]; exact cut_go hl h7
  have e8 : rS8 B s = rS8 (B.take k) s := by unfold rS8; rw [e7]; exact cut_go hl h8
  have e9 : rS9 B s = rS9 (B.take k) s := by unfold rS9; rw [e8]; exact cut_go hl h9
  have e10 : rS10 B s = rS10 (B.take k) s := by unfold rS10; rw [e9]; exact cut_go hl h10
  show rS11 B s = rS11 (B.take k) s
  unfold rS11
  rw [e10]
  exact cut_go hl h
theorem cut_st {B : List UInt8} {k : Nat} {s : GS} (hk : k ≤ B.length) {j : Nat} (h : (stG (B.take k) s j).short = false) : stG B s j = stG (B.take k) s j := by
  induction j with
  | zero => rfl
  | succ j ih =>
    have hj : (stG (B.take k) s j).short = false := no_short (recS_short 11) h
    show recE B (stG B s j) = _
    rw [ih hj]
    exact cut_rec hk h
theorem cut_lv {B : List UInt8} {k : Nat} {s : GS} (hk : k ≤ B.length) {j : Nat} (h : (lvS (B.take k) s j).short = false) : lvS B s j = lvS (B.take k) s j := by
  have hl : (B.take k).length ≤ B.length := by rw [List.length_take]; omega
  induction j with
  | zero => rfl
  | succ j ih =>
    have hj : (lvS (B.take k) s j).short = false := no_short GS.go_short h
    show (lvS B s j).go B.length 4 = _
    rw [ih hj]
    exact cut_go hl h
theorem go_le {N n : Nat} {s : GS} (h : s.pos ≤ N) : (s.go N n).pos ≤ N := GS.go_pos h
theorem rec_le {B : List UInt8} {s : GS} (h : s.pos ≤ B.length) : (recE B s).pos ≤ B.length :=
  go_le (go_le (go_le (go_le (go_le (go_le (go_le (go_le (go_le (go_le (go_le h))))))))))
theorem st_le {B : List UInt8} {s : GS} (h : s.pos ≤ B.length) : ∀ j, (stG B s j).pos ≤ B.length
  | 0 => h
  | j + 1 => rec_le (st_le h j)
theorem lv_le {B : List UInt8} {s : GS} (h : s.pos ≤ B.length) : ∀ j, (lvS B s j).pos ≤ B.length
  | 0 => h
  | j + 1 => go_le (lv_le h j)
theorem tS2_le (B : List UInt8) : (tS2 B).pos ≤ B.length := go_le (go_le (Nat.zero_le _))
theorem tS8_le (B : List UInt8) : (tS8 B).pos ≤ B.length := go_le (go_le (go_le (go_le (go_le (st_le (tS2_le B) _)))))
theorem tS9_le (B : List UInt8) : (tS9 B).pos ≤ B.length := lv_le (tS8_le B) _
theorem cut_tab {B : List UInt8} {k : Nat} (hk : k < B.length) (hp : tS9 B = ⟨B.length, false⟩) : (tS9 (B.take k)).short = true := by
  cases h : (tS9 (B.take k)).short with
  | true => rfl
  | false =>
    exfalso
    have hk' : k ≤ B.length := by omega
    have hl : (B.take k).length ≤ B.length := by rw [List.length_take]; omega
    obtain ⟨h1, h2, h3, h4, h5, h6, h7, h8⟩ := tab_there h
    have e1 : tS1 B = tS1 (B.take k) := cut_go hl h1
    have e2 : tS2 B = tS2 (B.take k) := by unfold tS2; rw [e1]; exact cut_go hl h2
    have em : tMany B = tMany (B.take k) := by unfold tMany; rw [e1]; exact (cut_num hk' h2).symm
    have e3 : tS3 B = tS3 (B.take k) := by unfold tS3; rw [e2, em]; exact cut_st hk' h3
    have e4 : tS4 B = tS4 (B.take k) := by unfold tS4; rw [e3]; exact cut_go hl h4
    have e5 : tS5 B = tS5 (B.take k) := by unfold tS5; rw [e4]; exact cut_go hl h5
    have e6 : tS6 B = tS6 (B.take k) := by unfold tS6; rw [e5]; exact cut_go hl h6
    have e7 : tS7 B = tS7 (B.take k) := by unfold tS7; rw [e6]; exact cut_go hl h7
    have e8 : tS8 B = tS8 (B.take k) := by unfold tS8; rw [e7]; exact cut_go hl h8
    have el : tLives B = tLives (B.take k) := by unfold tLives; rw [e7]; exact (cut_num hk' h8).symm
    have e9 : tS9 B = tS9 (B.take k) := by unfold tS9; rw [e8, el]; exact cut_lv hk' h
    have := tS9_le (B.take k)
    rw [← e9, hp, List.length_take] at this
    simp at this
    omega
theorem cut_err {t : TC} (h : t.ok = true) (hS : ∀ r ∈ t.recs, L32 r.S) {k : Nat} (hk : k < t.bytes.length) : gErr (t.bytes.take k) = 4 ∧ gAt (t.bytes.take k) = k ∧ gOK (t.bytes.take k) = false := by
  have hs := cut_tab hk (tab_back h hS).2.2
  refine ⟨?_, ?_, ?_⟩
  · unfold gErr; rw [if_pos hs]
  · unfold gAt; rw [if_pos hs, List.length_take]; omega
  · unfold gOK; rw [hs]; rfl
end Go.Proofs.YtifajcblbedcoaaGreat
namespace Go.Proofs.YtifajcblbedcoaaGreat
set_option linter.unusedVariables false
set_option linter.unusedSimpArgs false
open Go.RowKit Hp
/-- The rows of the records' addresses. -/
def rootRows (E : TypeId) (xs : List (Value × RC)) : List HA := xs.reverse.map fun x => .row x.1 E 2 x.2.l.length (addrsV x.2.l)
theorem rootRows_add (E : TypeId) (xs : List (Value × RC)) (x : Value × RC) : rootRows E (xs ++ [x]) = .row x.1 E 2 x.2.l.length (addrsV x.2.l) :: rootRows E xs := by simp [rootRows]
theorem rootRows_mem {E : TypeId} {xs : List (Value × RC)} {x : Value × RC} (h : x ∈ xs) : HA.row x.1 E 2 x.2.l.length (addrsV x.2.l) ∈ rootRows E xs := by
  unfold rootRows
  rw [List.mem_map]
  exact ⟨x, by simpa using h, rfl⟩
theorem Hp.St.root {w0 w : World} {M : List Nat} {g : HA} {A : List HA} {E : TypeId} {xs : List (Value × RC)} {sv : Value} {x : RC} (h : St w0 M w (g :: .row sv E 2 x.l.length (addrsV x.l) :: (A ++ rootRows E xs))) : St w0 M w (g :: (A ++ rootRows E (xs ++ [(sv, x)]))) := by
  rw [rootRows_add]
  exact St.perm h (.cons _ List.perm_middle.symm)
/-- What a table's bytes come to. -/
def tabOut (rT : TypeId) (aT : TypeId) (iT : TypeId) (B : List UInt8) (w : World) (e : Ending) (w' : World) : Prop :=
  if gOK B then ∃ rv lv xs, e = .returned (.tuple #[.agg (tabC (tabG false B) rv lv).toArray, .agg #[.int .i64 0, .int .i64 0]]) ∧ xs.map (·.2) = (tabG false B).recs ∧ St w [] w' (.row rv rT 44 (tabG false B).recs.length (recsV xs) :: .row lv iT 1 (tabG false B).lives.length (numsV (tabG false B).lives) :: rootRows aT xs)
  else e = .returned (.tuple #[.agg #[.int .i64 0, .slice none 0 0, .int .i64 0, .int .i64 0, .int .i64 0, .int .i64 0, .slice none 0 0], .agg #[.int .i64 (gErr B), .int .i64 (gAt B)]]) ∧ St w [] w' []
theorem gOK_no_short {B : List UInt8} (h : (tS9 B).short = true) : gOK B = false ∧ gErr B = 4 ∧ gAt B = B.length := by
  refine ⟨by unfold gOK; rw [h]; rfl, by unfold gErr; rw [if_pos h], by unfold gAt; rw [if_pos h]⟩
theorem gOK_no_end {B : List UInt8} (h : (tS9 B).short = false) (h2 : (tS9 B).pos < B.length) : gOK B = false ∧ gErr B = 4 ∧ gAt B = (tS9 B).pos := by
  refine ⟨?_, ?_, ?_⟩
  · unfold gOK
    have : ((tS9 B).pos == B.length) = false := by rw [beq_eq_false_iff_ne]; omega
    rw [this]; simp
  · unfold gErr; rw [if_neg (by rw [h]; decide), if_pos h2]
  · unfold gAt; rw [if_neg (by rw [h]; decide), if_pos h2]
theorem gOK_no_fit {B : List UInt8} (h : (tS9 B).short = false) (h2 : ¬ (tS9 B).pos < B.length) (h3 : (rootsG B && (tabG false B).ok) = false) : gOK B = false ∧ gErr B = 2 ∧ gAt B = 0 := by
  refine ⟨?_, ?_, ?_⟩
  · unfold gOK
    rw [Bool.and_assoc, h3]; simp
  · unfold gErr; rw [if_neg (by rw [h]; decide), if_neg h2, h3]; rfl
  · unfold gAt; rw [if_neg (by rw [h]; decide), if_neg h2]
theorem gOK_yes {B : List UInt8} (h : (tS9 B).short = false) (h2 : ¬ (tS9 B).pos < B.length) (h3 : rootsG B = true) (h4 : (tabG false B).ok = true) : gOK B = true ∧ (tabG false B).bytes = B := by
  have hp : (tS9 B).pos = B.length := by have := tS9_le B; omega
  refine ⟨?_, read_write h hp h3⟩
  unfold gOK
  rw [h, hp, h3, h4]
  simp
/-- A record that lies among the pieces is in memory. -/
theorem root_in {w0 w : World} {M : List Nat} {L : List HA} {E : TypeId} {x : Value × RC} (hst : St w0 M w L) (hm : HA.row x.1 E 2 x.2.l.length (addrsV x.2.l) ∈ L) (hS : L32 x.2.S) (hn : x.2.name.length ≤ 9223372036854775807) : RC.In w x := by
  obtain ⟨ao, c, e, h1, h2, h3⟩ := row_form hst hm
  have hr := Rd.row hst hm
  refine ⟨⟨hS, ao, _, c, e, ?_, rfl⟩, hn⟩
  rw [e] at hr
  exact hr
theorem name_le {B : List UInt8} (z : Bool) (s : GS) : (recG z B s).name.length ≤ 255 := by
  show (gotG z B (numG B 1 (rS1 B s)) (rS2 B s)).length ≤ 255
  have := numG1_lt B (rS1 B s)
  unfold gotG
  split
  · cases z
    · simp
    · simp; omega
  · rw [List.length_take]; omega
theorem recs_in {w0 w : World} {M : List Nat} {L : List HA} {rT E : TypeId} {rv : Value} {n : Nat} {B : List UInt8} {z : Bool} {s : GS} {xs : List (Value × RC)} (hst : St w0 M w L) (hr : HA.row rv rT 44 n (recsV xs) ∈ L) (hx : xs.map (·.2) = rcsG z B s n) (hm : ∀ x ∈ xs, HA.row x.1 E 2 x.2.l.length (addrsV x.2.l) ∈ L) : RecsIn w rv n xs := by
  refine ⟨Rd.row hst hr, by rw [← List.length_map (f := (·.2)), hx, length_rcsG], fun x hxm => ?_⟩
  have h2 : x.2 ∈ rcsG z B s n := by rw [← hx]; exact List.mem_map_of_mem hxm
  unfold rcsG at h2
  rw [List.mem_map] at h2
  obtain ⟨i, _, hi⟩ := h2
  refine root_in hst (hm x hxm) ?_ ?_
  · rw [← hi]; exact rec_S _ _ _
  · rw [← hi]; have := name_le z (B := B) (stG B s i); omega
end Go.Proofs.YtifajcblbedcoaaGreat
