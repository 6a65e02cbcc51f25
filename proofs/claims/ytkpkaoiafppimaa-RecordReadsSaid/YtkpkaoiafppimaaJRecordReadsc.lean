import Derived.Test.YtkpkaoiafppimaaJRecordReadsb
import Derived.Test.YtkpkaoiafppimaaD8
import Derived.Test.YtkpkaoiafppimaaSepK
import Derived.Test.YtkpkaoiafppimaaPtrR
import Derived.Test.YtkpkaoiafppimaaPtrL
import Derived.Test.YtkpkaoiafppimaaD1
import Derived.Test.YtkpkaoiafppimaaNum
import Derived.Test.YtkpkaoiafppimaaSepP
import Derived.Test.YtkpkaoiafppimaaSepQ
import Derived.Test.YtkpkaoiafppimaaJRecordReadsa
namespace Go.Proofs.Ytkpkaoiafppimaa
set_option linter.unusedVariables false
set_option linter.unusedSimpArgs false
open Go.RowKit Hp
attribute [local irreducible] Go.Calls Go.wpList Hp.gvV Hp.gB Hp.gA Hp.bOr Hp.bAnd Hp.bNot inB rootB partB snapB
set_option maxRecDepth 100000
set_option maxHeartbeats 4000000
theorem alone_any (x : Value × RC) (w : World) (hx : RC.In w x) : Calls Try.prog 47 #[.agg (cellsR x).toArray] w fun e w' => e = .returned (.bool x.2.aloneB) ∧ St w [] w' [] := by
  have hst0 := St.refl w
  have HX := hid hx
  have HL := hid hx.L
  have H35 := hid (PV.len (p := x.2.pv x.1) hx.L)
  clear hx
  go_enter Try.func47, Try.ntmps47
  go_wp2_with (first | go_big_skip | (refine wl_boxA hst0 rfl rfl rfl ?_; intro g4 w1 hst; clear hst0) | (show wpList _ _ _ (Oper.mk _ (.fieldAddr 47 _ _) _ _ _ (some _) :: _) _ _; refine wl_gfldR rfl (by first | exact wanted_b rfl rfl | exact wanted_g rfl rfl) (by first | exact (fun hg => gvV_on hg) | exact (fun hg => gvV_gA hg) | exact (fun _ => rfl)) rfl ?_; (try simp only [Act.put, List.setIfInBounds_toArray, List.set_cons_zero, List.set_cons_succ])) | (show wpList _ _ _ (Oper.mk _ (.fieldAddr 45 _ 1) _ _ _ (some _) :: _) _ _; refine wl_gfld (d := 1) rfl (by first | exact wanted_b rfl rfl | exact wanted_g rfl rfl) (by first | exact (fun hg => gvV_on hg) | exact (fun hg => gvV_gA hg) | exact (fun _ => rfl)) (by kernel_rfl) ?_; (try simp only [Act.put, List.setIfInBounds_toArray, List.set_cons_zero, List.set_cons_succ])) | (show wpList _ _ _ (Oper.mk _ (.load _ _) _ _ _ (some _) :: _) _ _; refine wl_gloadE rfl (by first | exact wanted_b rfl rfl | exact wanted_g rfl rfl) (by first | exact (fun hg => gvV_on hg) | exact (fun hg => gvV_gA hg) | exact (fun _ => rfl)) ?_; (first | refine ⟨_, Loads.atA ((x.2.pv x.1).cells) [] hst H35.out (cellsR_root HL.out), ?_⟩ | refine ⟨_, Loads.at [] hst (cellsR_39 HL.out), ?_⟩ | refine ⟨_, Loads.at [] hst (cellsR_40 HL.out), ?_⟩ | refine ⟨_, Loads.at [] hst (cellsR_41 HL.out), ?_⟩ | refine ⟨_, Loads.at [] hst (cellsR_42 HL.out), ?_⟩ | refine ⟨_, Loads.at [] hst (cellsR_43 HL.out), ?_⟩ | refine ⟨_, Loads.at [] hst rfl, ?_⟩); (try simp only [Act.put, List.setIfInBounds_toArray, List.set_cons_zero, List.set_cons_succ]); (repeat ((first | (show wpList _ _ _ (Oper.mk _ (.move _) _ _ _ none :: _) _ _; refine wl_mv rfl rfl rfl ?_) | (show wpList _ _ _ (Oper.mk _ (.pick _ _ _) _ _ _ none :: _) _ _; (first | (refine wl_pickOr rfl rfl rfl rfl rfl ?_; intro q hq) | (refine wl_pickAnd rfl rfl rfl rfl rfl ?_; intro q hq))) | (show wpList _ _ _ (Oper.mk _ (.pick _ _ _) _ _ _ (some _) :: _) _ _; (first | (refine wl_gpickOr rfl (by first | exact wanted_b rfl rfl | exact wanted_g rfl rfl) rfl rfl rfl ?_; intro q hq) | (refine wl_gpickAnd rfl (by first | exact wanted_b rfl rfl | exact wanted_g rfl rfl) rfl rfl rfl ?_; intro q hq))) | (show wpList _ _ _ (Oper.mk _ (.move _) _ _ _ (some _) :: _) _ _; refine wl_gmove rfl (by first | exact wanted_b rfl rfl | exact wanted_g rfl rfl) (by first | exact (fun hg => gvV_on hg) | exact (fun hg => gvV_gA hg) | exact (fun _ => rfl)) ?_)); (try simp only [Act.put, List.setIfInBounds_toArray, List.set_cons_zero, List.set_cons_succ])))) | (show wpList _ _ _ (Oper.mk _ (.binOp _ 3 _ _ _) _ _ _ (some _) :: _) _ _; refine wl_gcmp rfl (by first | exact wanted_b rfl rfl | exact wanted_g rfl rfl) (by first | exact (fun hg => gvV_on hg) | exact (fun hg => gvV_gA hg) | exact (fun _ => rfl)) (by first | exact (fun hg => gvV_on hg) | exact (fun hg => gvV_gA hg) | exact (fun _ => rfl)) rfl ?_; (try simp only [Act.put, List.setIfInBounds_toArray, List.set_cons_zero, List.set_cons_succ]); (repeat ((first | (show wpList _ _ _ (Oper.mk _ (.move _) _ _ _ none :: _) _ _; refine wl_mv rfl rfl rfl ?_) | (show wpList _ _ _ (Oper.mk _ (.pick _ _ _) _ _ _ none :: _) _ _; (first | (refine wl_pickOr rfl rfl rfl rfl rfl ?_; intro q hq) | (refine wl_pickAnd rfl rfl rfl rfl rfl ?_; intro q hq))) | (show wpList _ _ _ (Oper.mk _ (.pick _ _ _) _ _ _ (some _) :: _) _ _; (first | (refine wl_gpickOr rfl (by first | exact wanted_b rfl rfl | exact wanted_g rfl rfl) rfl rfl rfl ?_; intro q hq) | (refine wl_gpickAnd rfl (by first | exact wanted_b rfl rfl | exact wanted_g rfl rfl) rfl rfl rfl ?_; intro q hq))) | (show wpList _ _ _ (Oper.mk _ (.move _) _ _ _ (some _) :: _) _ _; refine wl_gmove rfl (by first | exact wanted_b rfl rfl | exact wanted_g rfl rfl) (by first | exact (fun hg => gvV_on hg) | exact (fun hg => gvV_gA hg) | exact (fun _ => rfl)) ?_)); (try simp only [Act.put, List.setIfInBounds_toArray, List.set_cons_zero, List.set_cons_succ])))) | (show wpList _ _ _ (Oper.mk _ (.unOp .not _ _) _ _ _ (some _) :: _) _ _; refine wl_gnot rfl (by first | exact wanted_b rfl rfl | exact wanted_g rfl rfl) (by first | exact (fun hg => gvV_on hg) | exact (fun hg => gvV_gA hg) | exact (fun _ => rfl)) ?_; (try simp only [Act.put, List.setIfInBounds_toArray, List.set_cons_zero, List.set_cons_succ]); (repeat ((first | (show wpList _ _ _ (Oper.mk _ (.move _) _ _ _ none :: _) _ _; refine wl_mv rfl rfl rfl ?_) | (show wpList _ _ _ (Oper.mk _ (.pick _ _ _) _ _ _ none :: _) _ _; (first | (refine wl_pickOr rfl rfl rfl rfl rfl ?_; intro q hq) | (refine wl_pickAnd rfl rfl rfl rfl rfl ?_; intro q hq))) | (show wpList _ _ _ (Oper.mk _ (.pick _ _ _) _ _ _ (some _) :: _) _ _; (first | (refine wl_gpickOr rfl (by first | exact wanted_b rfl rfl | exact wanted_g rfl rfl) rfl rfl rfl ?_; intro q hq) | (refine wl_gpickAnd rfl (by first | exact wanted_b rfl rfl | exact wanted_g rfl rfl) rfl rfl rfl ?_; intro q hq))) | (show wpList _ _ _ (Oper.mk _ (.move _) _ _ _ (some _) :: _) _ _; refine wl_gmove rfl (by first | exact wanted_b rfl rfl | exact wanted_g rfl rfl) (by first | exact (fun hg => gvV_on hg) | exact (fun hg => gvV_gA hg) | exact (fun _ => rfl)) ?_)); (try simp only [Act.put, List.setIfInBounds_toArray, List.set_cons_zero, List.set_cons_succ])))) | (refine wl_loadE rfl rfl rfl ?_; first | refine ⟨_, Loads.atA ((x.2.pv x.1).cells) [] hst H35.out (cellsR_root HL.out), ?_⟩ | refine ⟨_, Loads.at [] hst (cellsR_39 HL.out), ?_⟩ | refine ⟨_, Loads.at [] hst (cellsR_40 HL.out), ?_⟩ | refine ⟨_, Loads.at [] hst (cellsR_41 HL.out), ?_⟩ | refine ⟨_, Loads.at [] hst (cellsR_42 HL.out), ?_⟩ | refine ⟨_, Loads.at [] hst (cellsR_43 HL.out), ?_⟩ | refine ⟨_, Loads.at [] hst rfl, ?_⟩) | (show wpList _ _ _ (Oper.mk _ (.call (Call.mk (.value (.func 43)) _ _)) _ _ _ (some _) :: _) _ _; refine wl_gcall (v := .bool (inB x.2.size 1 64)) hst (by first | exact wanted_b rfl rfl | exact wanted_g rfl rfl) ?_ ?_; (intro hg K hK; have Hg := hid hg; clear hg; go_simp; go_at_call 43; (try (conv => (arg 3; simp only [gvV_on Hg.out]))); refine (within_any x.2.size 1 64 _).mono ?_; rintro _ w9 ⟨rfl, h4⟩; have hk := hK _ (St.call0 hst h4); simp only [Act.put, List.setIfInBounds_toArray, List.set_cons_zero, List.set_cons_succ] at hk; dsimp only; exact hk); (intro w5 hst5; replace hst := hst5; clear hst5; (try simp only [Act.put, List.setIfInBounds_toArray, List.set_cons_zero, List.set_cons_succ]); (repeat ((first | (show wpList _ _ _ (Oper.mk _ (.move _) _ _ _ none :: _) _ _; refine wl_mv rfl rfl rfl ?_) | (show wpList _ _ _ (Oper.mk _ (.pick _ _ _) _ _ _ none :: _) _ _; (first | (refine wl_pickOr rfl rfl rfl rfl rfl ?_; intro q hq) | (refine wl_pickAnd rfl rfl rfl rfl rfl ?_; intro q hq))) | (show wpList _ _ _ (Oper.mk _ (.pick _ _ _) _ _ _ (some _) :: _) _ _; (first | (refine wl_gpickOr rfl (by first | exact wanted_b rfl rfl | exact wanted_g rfl rfl) rfl rfl rfl ?_; intro q hq) | (refine wl_gpickAnd rfl (by first | exact wanted_b rfl rfl | exact wanted_g rfl rfl) rfl rfl rfl ?_; intro q hq))) | (show wpList _ _ _ (Oper.mk _ (.move _) _ _ _ (some _) :: _) _ _; refine wl_gmove rfl (by first | exact wanted_b rfl rfl | exact wanted_g rfl rfl) (by first | exact (fun hg => gvV_on hg) | exact (fun hg => gvV_gA hg) | exact (fun _ => rfl)) ?_)); (try simp only [Act.put, List.setIfInBounds_toArray, List.set_cons_zero, List.set_cons_succ]))))) | (show wpList _ _ _ (Oper.mk _ (.call (Call.mk (.value (.func 43)) _ _)) _ _ _ (some _) :: _) _ _; refine wl_gcall (v := .bool (inB x.2.made 1 2147483648)) hst (by first | exact wanted_b rfl rfl | exact wanted_g rfl rfl) ?_ ?_; (intro hg K hK; have Hg := hid hg; clear hg; go_simp; go_at_call 43; (try (conv => (arg 3; simp only [gvV_on Hg.out]))); refine (within_any x.2.made 1 2147483648 _).mono ?_; rintro _ w9 ⟨rfl, h4⟩; have hk := hK _ (St.call0 hst h4); simp only [Act.put, List.setIfInBounds_toArray, List.set_cons_zero, List.set_cons_succ] at hk; dsimp only; exact hk); (intro w5 hst5; replace hst := hst5; clear hst5; (try simp only [Act.put, List.setIfInBounds_toArray, List.set_cons_zero, List.set_cons_succ]); (repeat ((first | (show wpList _ _ _ (Oper.mk _ (.move _) _ _ _ none :: _) _ _; refine wl_mv rfl rfl rfl ?_) | (show wpList _ _ _ (Oper.mk _ (.pick _ _ _) _ _ _ none :: _) _ _; (first | (refine wl_pickOr rfl rfl rfl rfl rfl ?_; intro q hq) | (refine wl_pickAnd rfl rfl rfl rfl rfl ?_; intro q hq))) | (show wpList _ _ _ (Oper.mk _ (.pick _ _ _) _ _ _ (some _) :: _) _ _; (first | (refine wl_gpickOr rfl (by first | exact wanted_b rfl rfl | exact wanted_g rfl rfl) rfl rfl rfl ?_; intro q hq) | (refine wl_gpickAnd rfl (by first | exact wanted_b rfl rfl | exact wanted_g rfl rfl) rfl rfl rfl ?_; intro q hq))) | (show wpList _ _ _ (Oper.mk _ (.move _) _ _ _ (some _) :: _) _ _; refine wl_gmove rfl (by first | exact wanted_b rfl rfl | exact wanted_g rfl rfl) (by first | exact (fun hg => gvV_on hg) | exact (fun hg => gvV_gA hg) | exact (fun _ => rfl)) ?_)); (try simp only [Act.put, List.setIfInBounds_toArray, List.set_cons_zero, List.set_cons_succ]))))) | (show wpList _ _ _ (Oper.mk _ (.call (Call.mk (.value (.func 43)) _ _)) _ _ _ (some _) :: _) _ _; refine wl_gcall (v := .bool (inB x.2.origin 0 2147483647)) hst (by first | exact wanted_b rfl rfl | exact wanted_g rfl rfl) ?_ ?_; (intro hg K hK; have Hg := hid hg; clear hg; go_simp; go_at_call 43; (try (conv => (arg 3; simp only [gvV_on Hg.out]))); refine (within_any x.2.origin 0 2147483647 _).mono ?_; rintro _ w9 ⟨rfl, h4⟩; have hk := hK _ (St.call0 hst h4); simp only [Act.put, List.setIfInBounds_toArray, List.set_cons_zero, List.set_cons_succ] at hk; dsimp only; exact hk); (intro w5 hst5; replace hst := hst5; clear hst5; (try simp only [Act.put, List.setIfInBounds_toArray, List.set_cons_zero, List.set_cons_succ]); (repeat ((first | (show wpList _ _ _ (Oper.mk _ (.move _) _ _ _ none :: _) _ _; refine wl_mv rfl rfl rfl ?_) | (show wpList _ _ _ (Oper.mk _ (.pick _ _ _) _ _ _ none :: _) _ _; (first | (refine wl_pickOr rfl rfl rfl rfl rfl ?_; intro q hq) | (refine wl_pickAnd rfl rfl rfl rfl rfl ?_; intro q hq))) | (show wpList _ _ _ (Oper.mk _ (.pick _ _ _) _ _ _ (some _) :: _) _ _; (first | (refine wl_gpickOr rfl (by first | exact wanted_b rfl rfl | exact wanted_g rfl rfl) rfl rfl rfl ?_; intro q hq) | (refine wl_gpickAnd rfl (by first | exact wanted_b rfl rfl | exact wanted_g rfl rfl) rfl rfl rfl ?_; intro q hq))) | (show wpList _ _ _ (Oper.mk _ (.move _) _ _ _ (some _) :: _) _ _; refine wl_gmove rfl (by first | exact wanted_b rfl rfl | exact wanted_g rfl rfl) (by first | exact (fun hg => gvV_on hg) | exact (fun hg => gvV_gA hg) | exact (fun _ => rfl)) ?_)); (try simp only [Act.put, List.setIfInBounds_toArray, List.set_cons_zero, List.set_cons_succ]))))) | (show wpList _ _ _ (Oper.mk _ (.call (Call.mk (.value (.func 43)) _ _)) _ _ _ (some _) :: _) _ _; refine wl_gcall (v := .bool (inB x.2.quota 0 64)) hst (by first | exact wanted_b rfl rfl | exact wanted_g rfl rfl) ?_ ?_; (intro hg K hK; have Hg := hid hg; clear hg; go_simp; go_at_call 43; (try (conv => (arg 3; simp only [gvV_on Hg.out]))); refine (within_any x.2.quota 0 64 _).mono ?_; rintro _ w9 ⟨rfl, h4⟩; have hk := hK _ (St.call0 hst h4); simp only [Act.put, List.setIfInBounds_toArray, List.set_cons_zero, List.set_cons_succ] at hk; dsimp only; exact hk); (intro w5 hst5; replace hst := hst5; clear hst5; (try simp only [Act.put, List.setIfInBounds_toArray, List.set_cons_zero, List.set_cons_succ]); (repeat ((first | (show wpList _ _ _ (Oper.mk _ (.move _) _ _ _ none :: _) _ _; refine wl_mv rfl rfl rfl ?_) | (show wpList _ _ _ (Oper.mk _ (.pick _ _ _) _ _ _ none :: _) _ _; (first | (refine wl_pickOr rfl rfl rfl rfl rfl ?_; intro q hq) | (refine wl_pickAnd rfl rfl rfl rfl rfl ?_; intro q hq))) | (show wpList _ _ _ (Oper.mk _ (.pick _ _ _) _ _ _ (some _) :: _) _ _; (first | (refine wl_gpickOr rfl (by first | exact wanted_b rfl rfl | exact wanted_g rfl rfl) rfl rfl rfl ?_; intro q hq) | (refine wl_gpickAnd rfl (by first | exact wanted_b rfl rfl | exact wanted_g rfl rfl) rfl rfl rfl ?_; intro q hq))) | (show wpList _ _ _ (Oper.mk _ (.move _) _ _ _ (some _) :: _) _ _; refine wl_gmove rfl (by first | exact wanted_b rfl rfl | exact wanted_g rfl rfl) (by first | exact (fun hg => gvV_on hg) | exact (fun hg => gvV_gA hg) | exact (fun _ => rfl)) ?_)); (try simp only [Act.put, List.setIfInBounds_toArray, List.set_cons_zero, List.set_cons_succ]))))) | (show wpList _ _ _ (Oper.mk _ (.call (Call.mk (.value (.func 43)) _ _)) _ _ _ (some _) :: _) _ _; refine wl_gcall (v := .bool (inB x.2.reserve 0 64)) hst (by first | exact wanted_b rfl rfl | exact wanted_g rfl rfl) ?_ ?_; (intro hg K hK; have Hg := hid hg; clear hg; go_simp; go_at_call 43; (try (conv => (arg 3; simp only [gvV_on Hg.out]))); refine (within_any x.2.reserve 0 64 _).mono ?_; rintro _ w9 ⟨rfl, h4⟩; have hk := hK _ (St.call0 hst h4); simp only [Act.put, List.setIfInBounds_toArray, List.set_cons_zero, List.set_cons_succ] at hk; dsimp only; exact hk); (intro w5 hst5; replace hst := hst5; clear hst5; (try simp only [Act.put, List.setIfInBounds_toArray, List.set_cons_zero, List.set_cons_succ]); (repeat ((first | (show wpList _ _ _ (Oper.mk _ (.move _) _ _ _ none :: _) _ _; refine wl_mv rfl rfl rfl ?_) | (show wpList _ _ _ (Oper.mk _ (.pick _ _ _) _ _ _ none :: _) _ _; (first | (refine wl_pickOr rfl rfl rfl rfl rfl ?_; intro q hq) | (refine wl_pickAnd rfl rfl rfl rfl rfl ?_; intro q hq))) | (show wpList _ _ _ (Oper.mk _ (.pick _ _ _) _ _ _ (some _) :: _) _ _; (first | (refine wl_gpickOr rfl (by first | exact wanted_b rfl rfl | exact wanted_g rfl rfl) rfl rfl rfl ?_; intro q hq) | (refine wl_gpickAnd rfl (by first | exact wanted_b rfl rfl | exact wanted_g rfl rfl) rfl rfl rfl ?_; intro q hq))) | (show wpList _ _ _ (Oper.mk _ (.move _) _ _ _ (some _) :: _) _ _; refine wl_gmove rfl (by first | exact wanted_b rfl rfl | exact wanted_g rfl rfl) (by first | exact (fun hg => gvV_on hg) | exact (fun hg => gvV_gA hg) | exact (fun _ => rfl)) ?_)); (try simp only [Act.put, List.setIfInBounds_toArray, List.set_cons_zero, List.set_cons_succ]))))) | (show wpList _ _ _ (Oper.mk _ (.call (Call.mk (.value (.func 43)) _ _)) _ _ _ (some _) :: _) _ _; refine wl_gcall (v := .bool (inB x.2.own 1 2147483647)) hst (by first | exact wanted_b rfl rfl | exact wanted_g rfl rfl) ?_ ?_; (intro hg K hK; have Hg := hid hg; clear hg; go_simp; go_at_call 43; (try (conv => (arg 3; simp only [gvV_on Hg.out]))); refine (within_any x.2.own 1 2147483647 _).mono ?_; rintro _ w9 ⟨rfl, h4⟩; have hk := hK _ (St.call0 hst h4); simp only [Act.put, List.setIfInBounds_toArray, List.set_cons_zero, List.set_cons_succ] at hk; dsimp only; exact hk); (intro w5 hst5; replace hst := hst5; clear hst5; (try simp only [Act.put, List.setIfInBounds_toArray, List.set_cons_zero, List.set_cons_succ]); (repeat ((first | (show wpList _ _ _ (Oper.mk _ (.move _) _ _ _ none :: _) _ _; refine wl_mv rfl rfl rfl ?_) | (show wpList _ _ _ (Oper.mk _ (.pick _ _ _) _ _ _ none :: _) _ _; (first | (refine wl_pickOr rfl rfl rfl rfl rfl ?_; intro q hq) | (refine wl_pickAnd rfl rfl rfl rfl rfl ?_; intro q hq))) | (show wpList _ _ _ (Oper.mk _ (.pick _ _ _) _ _ _ (some _) :: _) _ _; (first | (refine wl_gpickOr rfl (by first | exact wanted_b rfl rfl | exact wanted_g rfl rfl) rfl rfl rfl ?_; intro q hq) | (refine wl_gpickAnd rfl (by first | exact wanted_b rfl rfl | exact wanted_g rfl rfl) rfl rfl rfl ?_; intro q hq))) | (show wpList _ _ _ (Oper.mk _ (.move _) _ _ _ (some _) :: _) _ _; refine wl_gmove rfl (by first | exact wanted_b rfl rfl | exact wanted_g rfl rfl) (by first | exact (fun hg => gvV_on hg) | exact (fun hg => gvV_gA hg) | exact (fun _ => rfl)) ?_)); (try simp only [Act.put, List.setIfInBounds_toArray, List.set_cons_zero, List.set_cons_succ]))))) | (show wpList _ _ _ (Oper.mk _ (.call (Call.mk (.value (.func 71)) _ _)) _ _ _ (some _) :: _) _ _; refine wl_gcall (v := .bool (rootB (x.2.pv x.1))) hst (by first | exact wanted_b rfl rfl | exact wanted_g rfl rfl) ?_ ?_; (intro hg K hK; have Hg := hid hg; clear hg; go_simp; go_at_call 71; (try (conv => (arg 3; simp only [gvV_on Hg.out]))); refine (rooted_any (x.2.pv x.1) _ (PV.In.old hst HX.out.1)).mono ?_; rintro _ w9 ⟨rfl, h4⟩; have hk := hK _ (St.call0 hst h4); simp only [Act.put, List.setIfInBounds_toArray, List.set_cons_zero, List.set_cons_succ] at hk; dsimp only; exact hk); (intro w5 hst5; replace hst := hst5; clear hst5; (try simp only [Act.put, List.setIfInBounds_toArray, List.set_cons_zero, List.set_cons_succ]); (repeat ((first | (show wpList _ _ _ (Oper.mk _ (.move _) _ _ _ none :: _) _ _; refine wl_mv rfl rfl rfl ?_) | (show wpList _ _ _ (Oper.mk _ (.pick _ _ _) _ _ _ none :: _) _ _; (first | (refine wl_pickOr rfl rfl rfl rfl rfl ?_; intro q hq) | (refine wl_pickAnd rfl rfl rfl rfl rfl ?_; intro q hq))) | (show wpList _ _ _ (Oper.mk _ (.pick _ _ _) _ _ _ (some _) :: _) _ _; (first | (refine wl_gpickOr rfl (by first | exact wanted_b rfl rfl | exact wanted_g rfl rfl) rfl rfl rfl ?_; intro q hq) | (refine wl_gpickAnd rfl (by first | exact wanted_b rfl rfl | exact wanted_g rfl rfl) rfl rfl rfl ?_; intro q hq))) | (show wpList _ _ _ (Oper.mk _ (.move _) _ _ _ (some _) :: _) _ _; refine wl_gmove rfl (by first | exact wanted_b rfl rfl | exact wanted_g rfl rfl) (by first | exact (fun hg => gvV_on hg) | exact (fun hg => gvV_gA hg) | exact (fun _ => rfl)) ?_)); (try simp only [Act.put, List.setIfInBounds_toArray, List.set_cons_zero, List.set_cons_succ]))))) | (go_at_call 43; refine (within_any x.2.id _ _ _).mono ?_; rintro _ w9 ⟨rfl, h4⟩; replace hst := St.call0 hst h4; clear h4; (try simp only [Act.put, List.setIfInBounds_toArray, List.set_cons_zero, List.set_cons_succ]); (repeat ((first | (show wpList _ _ _ (Oper.mk _ (.move _) _ _ _ none :: _) _ _; refine wl_mv rfl rfl rfl ?_) | (show wpList _ _ _ (Oper.mk _ (.pick _ _ _) _ _ _ none :: _) _ _; (first | (refine wl_pickOr rfl rfl rfl rfl rfl ?_; intro q hq) | (refine wl_pickAnd rfl rfl rfl rfl rfl ?_; intro q hq))) | (show wpList _ _ _ (Oper.mk _ (.pick _ _ _) _ _ _ (some _) :: _) _ _; (first | (refine wl_gpickOr rfl (by first | exact wanted_b rfl rfl | exact wanted_g rfl rfl) rfl rfl rfl ?_; intro q hq) | (refine wl_gpickAnd rfl (by first | exact wanted_b rfl rfl | exact wanted_g rfl rfl) rfl rfl rfl ?_; intro q hq))) | (show wpList _ _ _ (Oper.mk _ (.move _) _ _ _ (some _) :: _) _ _; refine wl_gmove rfl (by first | exact wanted_b rfl rfl | exact wanted_g rfl rfl) (by first | exact (fun hg => gvV_on hg) | exact (fun hg => gvV_gA hg) | exact (fun _ => rfl)) ?_)); (try simp only [Act.put, List.setIfInBounds_toArray, List.set_cons_zero, List.set_cons_succ])))) | (go_at_call 72; refine (volume_any x.2.name _ HX.out.2).mono ?_; rintro _ w9 ⟨rfl, h4⟩; replace hst := St.call0 hst h4; clear h4; (try simp only [Act.put, List.setIfInBounds_toArray, List.set_cons_zero, List.set_cons_succ]); (repeat ((first | (show wpList _ _ _ (Oper.mk _ (.move _) _ _ _ none :: _) _ _; refine wl_mv rfl rfl rfl ?_) | (show wpList _ _ _ (Oper.mk _ (.pick _ _ _) _ _ _ none :: _) _ _; (first | (refine wl_pickOr rfl rfl rfl rfl rfl ?_; intro q hq) | (refine wl_pickAnd rfl rfl rfl rfl rfl ?_; intro q hq))) | (show wpList _ _ _ (Oper.mk _ (.pick _ _ _) _ _ _ (some _) :: _) _ _; (first | (refine wl_gpickOr rfl (by first | exact wanted_b rfl rfl | exact wanted_g rfl rfl) rfl rfl rfl ?_; intro q hq) | (refine wl_gpickAnd rfl (by first | exact wanted_b rfl rfl | exact wanted_g rfl rfl) rfl rfl rfl ?_; intro q hq))) | (show wpList _ _ _ (Oper.mk _ (.move _) _ _ _ (some _) :: _) _ _; refine wl_gmove rfl (by first | exact wanted_b rfl rfl | exact wanted_g rfl rfl) (by first | exact (fun hg => gvV_on hg) | exact (fun hg => gvV_gA hg) | exact (fun _ => rfl)) ?_)); (try simp only [Act.put, List.setIfInBounds_toArray, List.set_cons_zero, List.set_cons_succ])))) | (go_at_call 73; refine (snap_any x.2.name _ HX.out.2).mono ?_; rintro _ w9 ⟨rfl, h4⟩; replace hst := St.call0 hst h4; clear h4; (try simp only [Act.put, List.setIfInBounds_toArray, List.set_cons_zero, List.set_cons_succ]); (repeat ((first | (show wpList _ _ _ (Oper.mk _ (.move _) _ _ _ none :: _) _ _; refine wl_mv rfl rfl rfl ?_) | (show wpList _ _ _ (Oper.mk _ (.pick _ _ _) _ _ _ none :: _) _ _; (first | (refine wl_pickOr rfl rfl rfl rfl rfl ?_; intro q hq) | (refine wl_pickAnd rfl rfl rfl rfl rfl ?_; intro q hq))) | (show wpList _ _ _ (Oper.mk _ (.pick _ _ _) _ _ _ (some _) :: _) _ _; (first | (refine wl_gpickOr rfl (by first | exact wanted_b rfl rfl | exact wanted_g rfl rfl) rfl rfl rfl ?_; intro q hq) | (refine wl_gpickAnd rfl (by first | exact wanted_b rfl rfl | exact wanted_g rfl rfl) rfl rfl rfl ?_; intro q hq))) | (show wpList _ _ _ (Oper.mk _ (.move _) _ _ _ (some _) :: _) _ _; refine wl_gmove rfl (by first | exact wanted_b rfl rfl | exact wanted_g rfl rfl) (by first | exact (fun hg => gvV_on hg) | exact (fun hg => gvV_gA hg) | exact (fun _ => rfl)) ?_)); (try simp only [Act.put, List.setIfInBounds_toArray, List.set_cons_zero, List.set_cons_succ])))))
  all_goals go_ret
  all_goals refine ⟨congrArg (fun z => Ending.returned (Value.bool z)) (?_ : (_ : Bool) = x.2.aloneB), hst.nil⟩
  all_goals
    have e := alone_eq x
    clear HX HL H35 hst
    rw [e, RC.kindB]
    clear e
    simp only [hid_iff, bNot_eq] at *
    (simp_all only [← Bool.not_and, ← Bool.not_or, bne, Bool.not_eq_true', Bool.not_eq_false', Bool.false_or, Bool.true_or, Bool.or_false, Bool.or_true, Bool.not_true, Bool.not_false, Bool.and_true, Bool.and_false, Bool.true_and, Bool.false_and, if_true, if_false, Bool.false_eq_true]) <;> rfl
end Go.Proofs.Ytkpkaoiafppimaa
namespace Go.Proofs.Ytkpkaoiafppimaa
set_option linter.unusedVariables false
set_option linter.unusedSimpArgs false
open Go.RowKit Hp
attribute [local irreducible] Go.Calls
set_option maxRecDepth 100000
set_option maxHeartbeats 4000000
attribute [local go_sem ↓] heldInt heldRecs heldStr heldRec
theorem err_no {t : TC} (h : t.ok = false) : t.err = 2 := by unfold TC.err; rw [h]; rfl
theorem err_yes {t : TC} (h : t.ok = true) : t.err = 0 := by unfold TC.err; rw [h]; rfl
theorem ok_size {t : TC} (h : t.sizeB = false) : t.ok = false := by unfold TC.ok; rw [h]; rfl
theorem ok_cur {t : TC} (h : t.curB = false) : t.ok = false := by unfold TC.ok; rw [h]; simp
theorem ok_lives {t : TC} (h : t.livesB = false) : t.ok = false := by unfold TC.ok; rw [h]; simp
theorem ok_each {t : TC} (h : allAt (eachB t.recs) t.recs = false) : t.ok = false := by unfold TC.ok; rw [h]; simp
theorem ok_rel {t : TC} (h : allAt (relB t.next t.recs) t.recs = false) : t.ok = false := by unfold TC.ok; rw [h]; simp
theorem ok_all {t : TC} (h1 : t.sizeB = true) (h2 : t.curB = true) (h3 : t.livesB = true) (h4 : allAt (eachB t.recs) t.recs = true) (h5 : allAt (relB t.next t.recs) t.recs = true) : t.ok = true := by unfold TC.ok; rw [h1, h2, h3, h4, h5]; rfl
theorem lives_any (l : List Int) : (l.any fun n => !(inB n 0 2147483647)) = !(l.all fun n => inB n 0 2147483647) := by
  induction l with
  | nil => rfl
  | cons x l ih => rw [List.any_cons, List.all_cons, ih, Bool.not_and]
theorem map_at {xs : List (Value × RC)} {j : Nat} {x : Value × RC} (h : xs[j]? = some x) : (xs.map (·.2))[j]? = some x.2 := by rw [List.getElem?_map, h]; rfl
theorem less_at {xs : List (Value × RC)} {k : Nat} {y : Value × RC} {r : RC} (h : xs[k]? = some y) : lessAt (xs.map (·.2)) (k + 1) r = lessL y.2.name r.name := by
  show (match (xs.map (·.2))[k]? with
    | some y => lessL y.name r.name
    | none => true) = _
  rw [map_at h]
theorem all_steps {f : Nat → RC → Bool} {xs : List (Value × RC)} {j : Nat} {x : Value × RC} (h : ∀ i y, i < j → xs[i]? = some y → f i y.2 = true) (hx : xs[j]? = some x) (hf : f j x.2 = true) : ∀ i y, i < j + 1 → xs[i]? = some y → f i y.2 = true := fun i y hi hy => by
  by_cases e : i = j
  · subst e
    rw [hx] at hy
    cases hy
    exact hf
  · exact h i y (by omega) hy
theorem all_end {f : Nat → RC → Bool} {xs : List (Value × RC)} (h : ∀ i y, i < xs.length → xs[i]? = some y → f i y.2 = true) : allAt f (xs.map (·.2)) = true := allAt_all fun i r hi => by
  rw [List.getElem?_map] at hi
  cases hy : xs[i]? with
  | none => rw [hy] at hi; cases hi
  | some y =>
    rw [hy] at hi
    cases hi
    exact h i y (List.getElem?_eq_some_iff.1 hy).1 hy
theorem check12_any (t : TC) (ar al : Option Addr) (nr cr nl cl : Nat) (xs : List (Value × RC)) (w : World) (hR : RecsIn w (.slice ar nr cr) nr xs) (hx : xs.map (·.2) = t.recs) (hb : nr ≤ 1000000) (hl : Rd w (.slice al nl cl) 1 nl (numsV t.lives)) (hnl : t.lives.length = nl) (hbl : nl ≤ 1000000) :
    Calls Try.prog 19 #[.agg (tabC t (.slice ar nr cr) (.slice al nl cl)).toArray] w fun e w' => e = .returned (.int .i64 t.err) ∧ St w [] w' [] := by
  have hst0 := St.refl w
  have HR := hid hR
  have HX := hid hx
  have HLV := hid hl
  have HNL := hid hnl
  have hlen : t.recs.length = nr := by rw [← hx, List.length_map, hR.len]
  have HLN := hid hlen
  have HA := hid (lives_any t.lives)
  obtain ⟨E, hE⟩ : ∃ E, E = t.err := ⟨_, rfl⟩
  rw [← hE]
  have HE := hid hE
  have hsz : t.sizeB = ((inB t.next 1 2147483648 && decide ((nr : Int) ≤ 16)) && inB (nl : Int) 2 8) := by unfold TC.sizeB; rw [hlen, hnl]
  have HSZ := hid hsz
  clear hR hx hl hnl hlen hE hsz
  cases d1 : inB t.next 1 2147483648
  · skip
    have hv : E = 2 := by rw [HE.out]; exact err_no (ok_size (by rw [HSZ.out, d1]; rfl))
    rw [hv]
    clear hv
    go_enter Try.func19, Try.ntmps19
    go_wp2_with (first | go_big_skip | go_big_guard | (refine wl_boxA hst0 rfl rfl rfl ?_; intro g1 w1 hst; clear hst0) | (refine wl_loadE rfl rfl rfl ?_; first | refine ⟨_, Loads.at [] hst rfl, ?_⟩ | refine ⟨_, Loads.atA (tabC t (.slice ar nr cr) (.slice al nl cl)) [] hst rfl rfl, ?_⟩) | (go_at_call 43; refine (within_any _ _ _ _).mono ?_; rintro _ w9 ⟨rfl, h4⟩; replace hst := St.call0 hst h4; clear h4) | (go_at_call 44; refine (cursored_any t (.slice ar nr cr) al nl cl HNL.out hbl _).mono ?_; rintro _ w9 ⟨rfl, h4⟩; replace hst := St.call0 hst h4; clear h4) | (go_at_call 45; refine (containsI_any (w0 := w) (M := []) (L := []) 46 (fun n => !(inB n 0 2147483647)) al nl cl t.lives _ (fun _ _ => rfl) (fun n w _ => livesC_any n w) (Rd.old hst HLV.out) HNL.out hbl).mono ?_; rw [HA.out]; rintro _ w9 ⟨rfl, h4⟩; replace hst := St.call0 hst h4; clear h4))
    go_ret
    exact ⟨rfl, hst.nil⟩
  · by_cases k2 : (16 : Int) < (nr : Int)
    · have d2 : decide ((16 : Int) < (nr : Int)) = true := decide_eq_true k2
      have d2' : decide ((nr : Int) > 16) = true := d2
      have hv : E = 2 := by rw [HE.out]; exact err_no (ok_size (by rw [HSZ.out, d1, decide_eq_false (by omega)]; rfl))
      rw [hv]
      clear hv
      go_enter Try.func19, Try.ntmps19
      go_wp2_with (first | go_big_skip | go_big_guard | (refine wl_boxA hst0 rfl rfl rfl ?_; intro g1 w1 hst; clear hst0) | (refine wl_loadE rfl rfl rfl ?_; first | refine ⟨_, Loads.at [] hst rfl, ?_⟩ | refine ⟨_, Loads.atA (tabC t (.slice ar nr cr) (.slice al nl cl)) [] hst rfl rfl, ?_⟩) | (go_at_call 43; refine (within_any _ _ _ _).mono ?_; rintro _ w9 ⟨rfl, h4⟩; replace hst := St.call0 hst h4; clear h4) | (go_at_call 44; refine (cursored_any t (.slice ar nr cr) al nl cl HNL.out hbl _).mono ?_; rintro _ w9 ⟨rfl, h4⟩; replace hst := St.call0 hst h4; clear h4) | (go_at_call 45; refine (containsI_any (w0 := w) (M := []) (L := []) 46 (fun n => !(inB n 0 2147483647)) al nl cl t.lives _ (fun _ _ => rfl) (fun n w _ => livesC_any n w) (Rd.old hst HLV.out) HNL.out hbl).mono ?_; rw [HA.out]; rintro _ w9 ⟨rfl, h4⟩; replace hst := St.call0 hst h4; clear h4))
      go_ret
      exact ⟨rfl, hst.nil⟩
    · have d2 : decide ((16 : Int) < (nr : Int)) = false := decide_eq_false k2
      have d2' : decide ((nr : Int) > 16) = false := d2
      have d3 : decide ((nr : Int) ≤ 16) = true := decide_eq_true (by omega)
      cases d4 : inB (nl : Int) 2 8
      · skip
        have hv : E = 2 := by rw [HE.out]; exact err_no (ok_size (by rw [HSZ.out, d1, d3, d4]; rfl))
        rw [hv]
        clear hv
        go_enter Try.func19, Try.ntmps19
        go_wp2_with (first | go_big_skip | go_big_guard | (refine wl_boxA hst0 rfl rfl rfl ?_; intro g1 w1 hst; clear hst0) | (refine wl_loadE rfl rfl rfl ?_; first | refine ⟨_, Loads.at [] hst rfl, ?_⟩ | refine ⟨_, Loads.atA (tabC t (.slice ar nr cr) (.slice al nl cl)) [] hst rfl rfl, ?_⟩) | (go_at_call 43; refine (within_any _ _ _ _).mono ?_; rintro _ w9 ⟨rfl, h4⟩; replace hst := St.call0 hst h4; clear h4) | (go_at_call 44; refine (cursored_any t (.slice ar nr cr) al nl cl HNL.out hbl _).mono ?_; rintro _ w9 ⟨rfl, h4⟩; replace hst := St.call0 hst h4; clear h4) | (go_at_call 45; refine (containsI_any (w0 := w) (M := []) (L := []) 46 (fun n => !(inB n 0 2147483647)) al nl cl t.lives _ (fun _ _ => rfl) (fun n w _ => livesC_any n w) (Rd.old hst HLV.out) HNL.out hbl).mono ?_; rw [HA.out]; rintro _ w9 ⟨rfl, h4⟩; replace hst := St.call0 hst h4; clear h4))
        go_ret
        exact ⟨rfl, hst.nil⟩
      · cases d5 : t.curB
        · skip
          have hv : E = 2 := by rw [HE.out]; exact err_no (ok_cur d5)
          rw [hv]
          clear hv
          go_enter Try.func19, Try.ntmps19
          go_wp2_with (first | go_big_skip | go_big_guard | (refine wl_boxA hst0 rfl rfl rfl ?_; intro g1 w1 hst; clear hst0) | (refine wl_loadE rfl rfl rfl ?_; first | refine ⟨_, Loads.at [] hst rfl, ?_⟩ | refine ⟨_, Loads.atA (tabC t (.slice ar nr cr) (.slice al nl cl)) [] hst rfl rfl, ?_⟩) | (go_at_call 43; refine (within_any _ _ _ _).mono ?_; rintro _ w9 ⟨rfl, h4⟩; replace hst := St.call0 hst h4; clear h4) | (go_at_call 44; refine (cursored_any t (.slice ar nr cr) al nl cl HNL.out hbl _).mono ?_; rintro _ w9 ⟨rfl, h4⟩; replace hst := St.call0 hst h4; clear h4) | (go_at_call 45; refine (containsI_any (w0 := w) (M := []) (L := []) 46 (fun n => !(inB n 0 2147483647)) al nl cl t.lives _ (fun _ _ => rfl) (fun n w _ => livesC_any n w) (Rd.old hst HLV.out) HNL.out hbl).mono ?_; rw [HA.out]; rintro _ w9 ⟨rfl, h4⟩; replace hst := St.call0 hst h4; clear h4))
          go_ret
          exact ⟨rfl, hst.nil⟩
        · cases d6 : t.lives.all fun n => inB n 0 2147483647
          · skip
            have hv : E = 2 := by rw [HE.out]; exact err_no (ok_lives d6)
            rw [hv]
            clear hv
            go_enter Try.func19, Try.ntmps19
            go_wp2_with (first | go_big_skip | go_big_guard | (refine wl_boxA hst0 rfl rfl rfl ?_; intro g1 w1 hst; clear hst0) | (refine wl_loadE rfl rfl rfl ?_; first | refine ⟨_, Loads.at [] hst rfl, ?_⟩ | refine ⟨_, Loads.atA (tabC t (.slice ar nr cr) (.slice al nl cl)) [] hst rfl rfl, ?_⟩) | (go_at_call 43; refine (within_any _ _ _ _).mono ?_; rintro _ w9 ⟨rfl, h4⟩; replace hst := St.call0 hst h4; clear h4) | (go_at_call 44; refine (cursored_any t (.slice ar nr cr) al nl cl HNL.out hbl _).mono ?_; rintro _ w9 ⟨rfl, h4⟩; replace hst := St.call0 hst h4; clear h4) | (go_at_call 45; refine (containsI_any (w0 := w) (M := []) (L := []) 46 (fun n => !(inB n 0 2147483647)) al nl cl t.lives _ (fun _ _ => rfl) (fun n w _ => livesC_any n w) (Rd.old hst HLV.out) HNL.out hbl).mono ?_; rw [HA.out]; rintro _ w9 ⟨rfl, h4⟩; replace hst := St.call0 hst h4; clear h4))
            go_ret
            exact ⟨rfl, hst.nil⟩
          · have HSZ1 : Hid (t.sizeB = true) := hid (by rw [HSZ.out, d1, d3, d4]; rfl)
            have HC1 := hid d5
            have HL1 : Hid (t.livesB = true) := hid d6
            go_enter Try.func19, Try.ntmps19
            go_wp2_with (first | go_big_skip | go_big_guard | (refine wl_boxA hst0 rfl rfl rfl ?_; intro g1 w1 hst; clear hst0) | (refine wl_loadE rfl rfl rfl ?_; first | refine ⟨_, Loads.at [] hst rfl, ?_⟩ | refine ⟨_, Loads.atA (tabC t (.slice ar nr cr) (.slice al nl cl)) [] hst rfl rfl, ?_⟩) | (go_at_call 43; refine (within_any _ _ _ _).mono ?_; rintro _ w9 ⟨rfl, h4⟩; replace hst := St.call0 hst h4; clear h4) | (go_at_call 44; refine (cursored_any t (.slice ar nr cr) al nl cl HNL.out hbl _).mono ?_; rintro _ w9 ⟨rfl, h4⟩; replace hst := St.call0 hst h4; clear h4) | (go_at_call 45; refine (containsI_any (w0 := w) (M := []) (L := []) 46 (fun n => !(inB n 0 2147483647)) al nl cl t.lives _ (fun _ _ => rfl) (fun n w _ => livesC_any n w) (Rd.old hst HLV.out) HNL.out hbl).mono ?_; rw [HA.out]; rintro _ w9 ⟨rfl, h4⟩; replace hst := St.call0 hst h4; clear h4))
            go_loopw [34] (fun i wr => ∃ j : Nat, j ≤ nr ∧ i = .int .i64 (j : Int) ∧ St w [] wr [.blk g1 30 (tabC t (.slice ar nr cr) (.slice al nl cl))] ∧ Hid (∀ i y, i < j → xs[i]? = some y → eachB (xs.map (·.2)) i y.2 = true)) (fun i _ => nr - (intOf i).toNat)
            case atStart => exact ⟨0, Nat.zero_le _, rfl, hst, hid (fun i y hi _ => by omega)⟩
            case round =>
              clear hst
              obtain ⟨j, hj, rfl, hst, HP⟩ := hrel
              by_cases hlt : j < nr
              · have e1 : decide ((j : Int) < (nr : Int)) = true := decide_eq_true (by omega)
                have z1 : IntKind.i64.wrap ((j : Int) + 1) = (j : Int) + 1 := IntWalk.i64_in _ (by omega)
                obtain ⟨x, lb, lo, hxj, rfl, hin, hr⟩ := RecsIn.at HR.out hlt
                have HXJ := hid hxj
                have HIN := hid hin
                have HL := hid (cellsR_len hin.L)
                have HWR := hid hr
                clear hxj hin hr
                obtain ⟨q, hq⟩ : ∃ q, q = x.2.aloneB := ⟨_, rfl⟩
                have HQ := hid hq
                clear hq
                cases q
                · go_wp2_with (first | go_big_skip | go_big_guard | (refine wl_index rfl rfl rfl rfl hlt ?_) | (refine wl_loadE rfl rfl rfl ?_; first | refine ⟨_, Loads.oldA (cs := cellsR x) hst HL.out HWR.out, ?_⟩) | (refine wl_alloc hst rfl rfl ?_; intro gx w2 hst2; clear hst) | (refine wl_storeA [] hst2 rfl rfl rfl rfl (by exact HL.out) (cellsR_ones HIN.out) rfl ?_; intro w3 hst3; clear hst2))
                  have hX := hst3.drew
                  clear hst3
                  refine wp_region_held_drew (S := (fun w' => (loadVarH 47 ⟨gx, 0, none⟩).run Try.prog w' = .ok (.agg (List.toArray (cellsR x))) w')) (by kernel_rfl) (by exact ldA (cellsR x) [] hX (HL.out) (by simp)) (fun hHeld => ?_)
                  refine tk 0 39 ?_
                  (try simp only [Act.put, List.setIfInBounds_toArray, List.set_cons_zero, List.set_cons_succ])
                  refine wpAnyH_ready (rs := [1]) (by kernel_rfl) (by simp) ?_
                  refine (AllReadyH.cons (o := ⟨some 40, _, _, _, _, _⟩) rfl (fun K hK => ?_) AllReadyH.nil)
                  rw [if_pos (by rfl)]
                  go_simp
                  go_at_call 47
                  refine (alone_any x _ (RC.In.old hX HIN.out)).mono ?_
                  rw [← HQ.out]
                  rintro _ w4 ⟨rfl, h4⟩
                  have hA1 := St.call0 hX h4
                  clear h4
                  refine hK.out _ _ ?_ (fun hHeld => ?_)
                  · exact ldA (cellsR x) [] hA1 (HL.out) (by simp)
                  clear hK K
                  (try simp only [Act.put, List.setIfInBounds_toArray, List.set_cons_zero, List.set_cons_succ])
                  refine tk 2 41 ?_
                  (try simp only [Act.put, List.setIfInBounds_toArray, List.set_cons_zero, List.set_cons_succ])
                  refine tk 3 42 ?_
                  (try simp only [Act.put, List.setIfInBounds_toArray, List.set_cons_zero, List.set_cons_succ])
                  refine wpAnyH_take (i := 4) (oi := ⟨some 43, _, _, _, _, _⟩) (v := undef) rfl (by kernel_rfl) (by kernel_rfl) (by kernel_rfl) (fun _ _ _ h => h) (Or.inr ⟨by rfl, rfl⟩) (by assumption) ?_
                  (try simp only [Act.put, List.setIfInBounds_toArray, List.set_cons_zero, List.set_cons_succ])
                  refine wpAnyH_take (i := 5) (oi := ⟨some 44, _, _, _, _, _⟩) (v := undef) rfl (by kernel_rfl) (by kernel_rfl) (by kernel_rfl) (fun _ _ _ h => h) (Or.inr ⟨by rfl, rfl⟩) (by assumption) ?_
                  (try simp only [Act.put, List.setIfInBounds_toArray, List.set_cons_zero, List.set_cons_succ])
                  refine wpAnyH_take (i := 6) (oi := ⟨some 45, _, _, _, _, _⟩) (v := undef) rfl (by kernel_rfl) (by kernel_rfl) (by kernel_rfl) (fun _ _ _ h => h) (Or.inr ⟨by rfl, rfl⟩) (by assumption) ?_
                  (try simp only [Act.put, List.setIfInBounds_toArray, List.set_cons_zero, List.set_cons_succ])
                  refine wpAnyH_take (i := 7) (oi := ⟨some 46, _, _, _, _, _⟩) (v := undef) rfl (by kernel_rfl) (by kernel_rfl) (by kernel_rfl) (fun _ _ _ h => h) (Or.inr ⟨by rfl, rfl⟩) (by assumption) ?_
                  (try simp only [Act.put, List.setIfInBounds_toArray, List.set_cons_zero, List.set_cons_succ])
                  refine wpAnyH_take (i := 9) (oi := ⟨some 48, _, _, _, _, _⟩) (v := undef) rfl (by kernel_rfl) (by kernel_rfl) (by kernel_rfl) (fun _ _ _ h => h) (Or.inr ⟨by rfl, rfl⟩) (by assumption) ?_
                  (try simp only [Act.put, List.setIfInBounds_toArray, List.set_cons_zero, List.set_cons_succ])
                  refine wpAnyH_take (i := 14) (oi := ⟨some 53, _, _, _, _, _⟩) (v := undef) rfl (by kernel_rfl) (by kernel_rfl) (by kernel_rfl) (fun _ _ _ h => h) (Or.inr ⟨by rfl, rfl⟩) (by assumption) ?_
                  (try simp only [Act.put, List.setIfInBounds_toArray, List.set_cons_zero, List.set_cons_succ])
                  refine wpAnyH_take (i := 8) (oi := ⟨some 47, _, _, _, _, _⟩) (v := undef) rfl (by kernel_rfl) (by kernel_rfl) (by kernel_rfl) (fun _ _ _ h => h) (Or.inr ⟨by rfl, rfl⟩) (by assumption) ?_
                  (try simp only [Act.put, List.setIfInBounds_toArray, List.set_cons_zero, List.set_cons_succ])
                  refine wpAnyH_take (i := 10) (oi := ⟨some 49, _, _, _, _, _⟩) (v := undef) rfl (by kernel_rfl) (by kernel_rfl) (by kernel_rfl) (fun _ _ _ h => h) (Or.inr ⟨by rfl, rfl⟩) (by assumption) ?_
                  (try simp only [Act.put, List.setIfInBounds_toArray, List.set_cons_zero, List.set_cons_succ])
                  refine wpAnyH_take (i := 15) (oi := ⟨some 54, _, _, _, _, _⟩) (v := undef) rfl (by kernel_rfl) (by kernel_rfl) (by kernel_rfl) (fun _ _ _ h => h) (Or.inr ⟨by rfl, rfl⟩) (by assumption) ?_
                  (try simp only [Act.put, List.setIfInBounds_toArray, List.set_cons_zero, List.set_cons_succ])
                  refine wpAnyH_take (i := 11) (oi := ⟨some 50, _, _, _, _, _⟩) (v := undef) rfl (by kernel_rfl) (by kernel_rfl) (by kernel_rfl) (fun _ _ _ h => h) (Or.inr ⟨by rfl, rfl⟩) (by assumption) ?_
                  (try simp only [Act.put, List.setIfInBounds_toArray, List.set_cons_zero, List.set_cons_succ])
                  refine wpAnyH_take (i := 12) (oi := ⟨some 51, _, _, _, _, _⟩) (v := undef) rfl (by kernel_rfl) (by kernel_rfl) (by kernel_rfl) (fun _ _ _ h => h) (Or.inr ⟨by rfl, rfl⟩) (by assumption) ?_
                  (try simp only [Act.put, List.setIfInBounds_toArray, List.set_cons_zero, List.set_cons_succ])
                  refine wpAnyH_take (i := 13) (oi := ⟨some 52, _, _, _, _, _⟩) (v := undef) rfl (by kernel_rfl) (by kernel_rfl) (by kernel_rfl) (fun _ _ _ h => h) (Or.inr ⟨by rfl, rfl⟩) (by assumption) ?_
                  (try simp only [Act.put, List.setIfInBounds_toArray, List.set_cons_zero, List.set_cons_succ])
                  refine wpAnyH_ready (rs := [16]) (by kernel_rfl) (by simp) ?_
                  refine (AllReadyH.cons (o := ⟨some 55, _, _, _, _, _⟩) rfl (fun K hK => ?_) AllReadyH.nil)
                  rw [if_neg (by rw [show Region.wanted _ _ = false from rfl]; exact Bool.false_ne_true)]
                  refine hK.out _ _ ?_ (fun hHeld => ?_)
                  · exact ldA (cellsR x) [] hA1 (HL.out) (by simp)
                  clear hK K
                  (try simp only [Act.put, List.setIfInBounds_toArray, List.set_cons_zero, List.set_cons_succ])
                  refine wpAnyH_take (i := 17) (oi := ⟨some 56, _, _, _, _, _⟩) (v := undef) rfl (by kernel_rfl) (by kernel_rfl) (by kernel_rfl) (fun _ _ _ h => h) (Or.inr ⟨by rfl, rfl⟩) (by assumption) ?_
                  (try simp only [Act.put, List.setIfInBounds_toArray, List.set_cons_zero, List.set_cons_succ])
                  refine wpAnyH_take (i := 18) (oi := ⟨some 57, _, _, _, _, _⟩) (v := undef) rfl (by kernel_rfl) (by kernel_rfl) (by kernel_rfl) (fun _ _ _ h => h) (Or.inr ⟨by rfl, rfl⟩) (by assumption) ?_
                  (try simp only [Act.put, List.setIfInBounds_toArray, List.set_cons_zero, List.set_cons_succ])
                  refine tk 19 58 ?_
                  (try simp only [Act.put, List.setIfInBounds_toArray, List.set_cons_zero, List.set_cons_succ])
                  refine wpAnyH_done (by kernel_rfl) ?_ _
                  clear hHeld
                  have hv : E = 2 := by rw [HE.out]; exact err_no (ok_each (by rw [← HX.out]; exact allAt_no (map_at HXJ.out) (by unfold eachB; rw [← HQ.out]; rfl)))
                  have HV := hid hv
                  clear hv
                  go_wp2_with (first | go_big_skip | go_big_guard | fail)
                  go_ret
                  exact ⟨by have h := HV.out; subst h; rfl, hA1.nil⟩
                · rcases j with _ | k
                  · go_wp2_with (first | go_big_skip | go_big_guard | (refine wl_index rfl rfl rfl rfl hlt ?_) | (refine wl_loadE rfl rfl rfl ?_; first | refine ⟨_, Loads.oldA (cs := cellsR x) hst HL.out HWR.out, ?_⟩) | (refine wl_alloc hst rfl rfl ?_; intro gx w2 hst2; clear hst) | (refine wl_storeA [] hst2 rfl rfl rfl rfl (by exact HL.out) (cellsR_ones HIN.out) rfl ?_; intro w3 hst3; clear hst2))
                    have hX := hst3.drew
                    clear hst3
                    refine wp_region_held_drew (S := (fun w' => (loadVarH 47 ⟨gx, 0, none⟩).run Try.prog w' = .ok (.agg (List.toArray (cellsR x))) w')) (by kernel_rfl) (by exact ldA (cellsR x) [] hX (HL.out) (by simp)) (fun hHeld => ?_)
                    refine tk 0 39 ?_
                    (try simp only [Act.put, List.setIfInBounds_toArray, List.set_cons_zero, List.set_cons_succ])
                    refine wpAnyH_ready (rs := [1]) (by kernel_rfl) (by simp) ?_
                    refine (AllReadyH.cons (o := ⟨some 40, _, _, _, _, _⟩) rfl (fun K hK => ?_) AllReadyH.nil)
                    rw [if_pos (by rfl)]
                    go_simp
                    go_at_call 47
                    refine (alone_any x _ (RC.In.old hX HIN.out)).mono ?_
                    rw [← HQ.out]
                    rintro _ w4 ⟨rfl, h4⟩
                    have hA1 := St.call0 hX h4
                    clear h4
                    refine hK.out _ _ ?_ (fun hHeld => ?_)
                    · exact ldA (cellsR x) [] hA1 (HL.out) (by simp)
                    clear hK K
                    (try simp only [Act.put, List.setIfInBounds_toArray, List.set_cons_zero, List.set_cons_succ])
                    refine tk 2 41 ?_
                    (try simp only [Act.put, List.setIfInBounds_toArray, List.set_cons_zero, List.set_cons_succ])
                    refine tk 3 42 ?_
                    (try simp only [Act.put, List.setIfInBounds_toArray, List.set_cons_zero, List.set_cons_succ])
                    refine tk 4 43 ?_
                    (try simp only [Act.put, List.setIfInBounds_toArray, List.set_cons_zero, List.set_cons_succ])
                    refine tk 5 44 ?_
                    (try simp only [Act.put, List.setIfInBounds_toArray, List.set_cons_zero, List.set_cons_succ])
                    refine tk 6 45 ?_
                    (try simp only [Act.put, List.setIfInBounds_toArray, List.set_cons_zero, List.set_cons_succ])
                    refine wpAnyH_take (i := 7) (oi := ⟨some 46, _, _, _, _, _⟩) (v := undef) rfl (by kernel_rfl) (by kernel_rfl) (by kernel_rfl) (fun _ _ _ h => h) (Or.inr ⟨by rfl, rfl⟩) (by assumption) ?_
                    (try simp only [Act.put, List.setIfInBounds_toArray, List.set_cons_zero, List.set_cons_succ])
                    refine wpAnyH_take (i := 9) (oi := ⟨some 48, _, _, _, _, _⟩) (v := undef) rfl (by kernel_rfl) (by kernel_rfl) (by kernel_rfl) (fun _ _ _ h => h) (Or.inr ⟨by rfl, rfl⟩) (by assumption) ?_
                    (try simp only [Act.put, List.setIfInBounds_toArray, List.set_cons_zero, List.set_cons_succ])
                    refine wpAnyH_take (i := 14) (oi := ⟨some 53, _, _, _, _, _⟩) (v := undef) rfl (by kernel_rfl) (by kernel_rfl) (by kernel_rfl) (fun _ _ _ h => h) (Or.inr ⟨by rfl, rfl⟩) (by assumption) ?_
                    (try simp only [Act.put, List.setIfInBounds_toArray, List.set_cons_zero, List.set_cons_succ])
                    refine wpAnyH_take (i := 8) (oi := ⟨some 47, _, _, _, _, _⟩) (v := undef) rfl (by kernel_rfl) (by kernel_rfl) (by kernel_rfl) (fun _ _ _ h => h) (Or.inr ⟨by rfl, rfl⟩) (by assumption) ?_
                    (try simp only [Act.put, List.setIfInBounds_toArray, List.set_cons_zero, List.set_cons_succ])
                    refine wpAnyH_take (i := 10) (oi := ⟨some 49, _, _, _, _, _⟩) (v := undef) rfl (by kernel_rfl) (by kernel_rfl) (by kernel_rfl) (fun _ _ _ h => h) (Or.inr ⟨by rfl, rfl⟩) (by assumption) ?_
                    (try simp only [Act.put, List.setIfInBounds_toArray, List.set_cons_zero, List.set_cons_succ])
                    refine wpAnyH_take (i := 15) (oi := ⟨some 54, _, _, _, _, _⟩) (v := undef) rfl (by kernel_rfl) (by kernel_rfl) (by kernel_rfl) (fun _ _ _ h => h) (Or.inr ⟨by rfl, rfl⟩) (by assumption) ?_
                    (try simp only [Act.put, List.setIfInBounds_toArray, List.set_cons_zero, List.set_cons_succ])
                    refine wpAnyH_take (i := 11) (oi := ⟨some 50, _, _, _, _, _⟩) (v := undef) rfl (by kernel_rfl) (by kernel_rfl) (by kernel_rfl) (fun _ _ _ h => h) (Or.inr ⟨by rfl, rfl⟩) (by assumption) ?_
                    (try simp only [Act.put, List.setIfInBounds_toArray, List.set_cons_zero, List.set_cons_succ])
                    refine wpAnyH_take (i := 12) (oi := ⟨some 51, _, _, _, _, _⟩) (v := undef) rfl (by kernel_rfl) (by kernel_rfl) (by kernel_rfl) (fun _ _ _ h => h) (Or.inr ⟨by rfl, rfl⟩) (by assumption) ?_
                    (try simp only [Act.put, List.setIfInBounds_toArray, List.set_cons_zero, List.set_cons_succ])
                    refine wpAnyH_take (i := 13) (oi := ⟨some 52, _, _, _, _, _⟩) (v := undef) rfl (by kernel_rfl) (by kernel_rfl) (by kernel_rfl) (fun _ _ _ h => h) (Or.inr ⟨by rfl, rfl⟩) (by assumption) ?_
                    (try simp only [Act.put, List.setIfInBounds_toArray, List.set_cons_zero, List.set_cons_succ])
                    refine wpAnyH_ready (rs := [16]) (by kernel_rfl) (by simp) ?_
                    refine (AllReadyH.cons (o := ⟨some 55, _, _, _, _, _⟩) rfl (fun K hK => ?_) AllReadyH.nil)
                    rw [if_neg (by rw [show Region.wanted _ _ = false from rfl]; exact Bool.false_ne_true)]
                    refine hK.out _ _ ?_ (fun hHeld => ?_)
                    · exact ldA (cellsR x) [] hA1 (HL.out) (by simp)
                    clear hK K
                    (try simp only [Act.put, List.setIfInBounds_toArray, List.set_cons_zero, List.set_cons_succ])
                    refine wpAnyH_take (i := 17) (oi := ⟨some 56, _, _, _, _, _⟩) (v := undef) rfl (by kernel_rfl) (by kernel_rfl) (by kernel_rfl) (fun _ _ _ h => h) (Or.inr ⟨by rfl, rfl⟩) (by assumption) ?_
                    (try simp only [Act.put, List.setIfInBounds_toArray, List.set_cons_zero, List.set_cons_succ])
                    refine tk 18 57 ?_
                    (try simp only [Act.put, List.setIfInBounds_toArray, List.set_cons_zero, List.set_cons_succ])
                    refine tk 19 58 ?_
                    (try simp only [Act.put, List.setIfInBounds_toArray, List.set_cons_zero, List.set_cons_succ])
                    refine wpAnyH_done (by kernel_rfl) ?_ _
                    clear hHeld
                    go_wp2_with (first | go_big_skip | go_big_guard | fail)
                    go_roundw
                    case rel => exact ⟨0 + 1, by omega, by go_num, St.drop (L1 := []) hA1, hid (all_steps HP.out HXJ.out (by unfold eachB; rw [← HQ.out]; rfl))⟩
                    case measure => simp [intOf]; omega
                  · obtain ⟨y, b', o', hy', he, hiny, hry⟩ := RecsIn.at HR.out (k := k) (by omega)
                    cases he
                    have HYK := hid hy'
                    have HINY := hid hiny
                    have HY := hid (show w.cell? ⟨lb, lo + k * 44 + 1, none⟩ = some (.string ⟨y.2.name.toArray⟩) from hry 1 _ rfl)
                    clear hy' hiny hry
                    have z2 : IntKind.i64.wrap (((k + 1 : Nat) : Int) - 1) = (k : Int) := by rw [IntWalk.i64_in _ (by omega)]; omega
                    have z3 : (((k + 1 : Nat) : Int) - 1) = (k : Int) := by omega
                    have z6 : IntKind.i64.wrap (k : Int) = (k : Int) := IntWalk.i64_in _ (by omega)
                    have z4 : decide ((0 : Int) < ((k + 1 : Nat) : Int)) = true := decide_eq_true (by omega)
                    have z5 : decide (((k + 1 : Nat) : Int) > 0) = true := z4
                    have hltk : k < nr := by omega
                    obtain ⟨r, hr⟩ : ∃ r, r = lessL y.2.name x.2.name := ⟨_, rfl⟩
                    have HLE := hid hr
                    have HLA := hid (show lessAt (xs.map (·.2)) (k + 1) x.2 = lessL y.2.name x.2.name from less_at HYK.out)
                    clear hr
                    cases r
                    · go_wp2_with (first | go_big_skip | go_big_guard | (refine wl_index rfl rfl rfl rfl hlt ?_) | (refine wl_loadE rfl rfl rfl ?_; first | refine ⟨_, Loads.oldA (cs := cellsR x) hst HL.out HWR.out, ?_⟩) | (refine wl_alloc hst rfl rfl ?_; intro gx w2 hst2; clear hst) | (refine wl_storeA [] hst2 rfl rfl rfl rfl (by exact HL.out) (cellsR_ones HIN.out) rfl ?_; intro w3 hst3; clear hst2))
                      have hX := hst3.drew
                      clear hst3
                      refine wp_region_held_drew (S := (fun w' => (loadVarH 47 ⟨gx, 0, none⟩).run Try.prog w' = .ok (.agg (List.toArray (cellsR x))) w' ∧ (loadVarH 25 ⟨g1, 1, none⟩).run Try.prog w' = .ok (.slice (some ⟨lb, lo, none⟩) nr cr) w' ∧ (loadVarH 9 ⟨gx, 1, none⟩).run Try.prog w' = .ok (.string ⟨x.2.name.toArray⟩) w' ∧ (loadVarH 9 ⟨lb, lo + k * 44 + 1, none⟩).run Try.prog w' = .ok (.string ⟨y.2.name.toArray⟩) w')) (by kernel_rfl) (by exact ⟨ldA (cellsR x) [] hX (HL.out) (by simp), ldS [_] hX rfl, ldS [] hX rfl, ldO hX (HY.out)⟩) (fun hHeld => ?_)
                      refine tk 0 39 ?_
                      (try simp only [Act.put, List.setIfInBounds_toArray, List.set_cons_zero, List.set_cons_succ])
                      refine wpAnyH_ready (rs := [1]) (by kernel_rfl) (by simp) ?_
                      refine (AllReadyH.cons (o := ⟨some 40, _, _, _, _, _⟩) rfl (fun K hK => ?_) AllReadyH.nil)
                      rw [if_pos (by rfl)]
                      go_simp
                      go_at_call 47
                      refine (alone_any x _ (RC.In.old hX HIN.out)).mono ?_
                      rw [← HQ.out]
                      rintro _ w4 ⟨rfl, h4⟩
                      have hA1 := St.call0 hX h4
                      clear h4
                      refine hK.out _ _ ?_ (fun hHeld => ?_)
                      · exact ⟨ldA (cellsR x) [] hA1 (HL.out) (by simp), ldS [_] hA1 rfl, ldS [] hA1 rfl, ldO hA1 (HY.out)⟩
                      clear hK K
                      (try simp only [Act.put, List.setIfInBounds_toArray, List.set_cons_zero, List.set_cons_succ])
                      refine tk 2 41 ?_
                      (try simp only [Act.put, List.setIfInBounds_toArray, List.set_cons_zero, List.set_cons_succ])
                      refine tk 3 42 ?_
                      (try simp only [Act.put, List.setIfInBounds_toArray, List.set_cons_zero, List.set_cons_succ])
                      refine tk 4 43 ?_
                      (try simp only [Act.put, List.setIfInBounds_toArray, List.set_cons_zero, List.set_cons_succ])
                      refine tk 5 44 ?_
                      (try simp only [Act.put, List.setIfInBounds_toArray, List.set_cons_zero, List.set_cons_succ])
                      refine tk 6 45 ?_
                      (try simp only [Act.put, List.setIfInBounds_toArray, List.set_cons_zero, List.set_cons_succ])
                      refine tk 7 46 ?_
                      (try simp only [Act.put, List.setIfInBounds_toArray, List.set_cons_zero, List.set_cons_succ])
                      refine tk 9 48 ?_
                      (try simp only [Act.put, List.setIfInBounds_toArray, List.set_cons_zero, List.set_cons_succ])
                      refine tk 14 53 ?_
                      (try simp only [Act.put, List.setIfInBounds_toArray, List.set_cons_zero, List.set_cons_succ])
                      refine tk 8 47 ?_
                      (try simp only [Act.put, List.setIfInBounds_toArray, List.set_cons_zero, List.set_cons_succ])
                      refine tk 10 49 ?_
                      (try simp only [Act.put, List.setIfInBounds_toArray, List.set_cons_zero, List.set_cons_succ])
                      refine tk 15 54 ?_
                      (try simp only [Act.put, List.setIfInBounds_toArray, List.set_cons_zero, List.set_cons_succ])
                      refine tk 11 50 ?_
                      (try simp only [Act.put, List.setIfInBounds_toArray, List.set_cons_zero, List.set_cons_succ])
                      refine tk 12 51 ?_
                      (try simp only [Act.put, List.setIfInBounds_toArray, List.set_cons_zero, List.set_cons_succ])
                      refine tk 13 52 ?_
                      (try simp only [Act.put, List.setIfInBounds_toArray, List.set_cons_zero, List.set_cons_succ])
                      refine wpAnyH_ready (rs := [16]) (by kernel_rfl) (by simp) ?_
                      refine (AllReadyH.cons (o := ⟨some 55, _, _, _, _, _⟩) rfl (fun K hK => ?_) AllReadyH.nil)
                      rw [if_pos (by rfl)]
                      go_simp
                      go_at_call 48
                      refine (less_any y.2.name x.2.name _ HINY.out.2 HIN.out.2).mono ?_
                      rw [← HLE.out]
                      rintro _ w5 ⟨rfl, h4⟩
                      have hA2 := St.call0 hA1 h4
                      clear h4
                      refine hK.out _ _ ?_ (fun hHeld => ?_)
                      · exact ⟨ldA (cellsR x) [] hA2 (HL.out) (by simp), ldS [_] hA2 rfl, ldS [] hA2 rfl, ldO hA2 (HY.out)⟩
                      clear hK K
                      (try simp only [Act.put, List.setIfInBounds_toArray, List.set_cons_zero, List.set_cons_succ])
                      refine tk 17 56 ?_
                      (try simp only [Act.put, List.setIfInBounds_toArray, List.set_cons_zero, List.set_cons_succ])
                      refine tk 18 57 ?_
                      (try simp only [Act.put, List.setIfInBounds_toArray, List.set_cons_zero, List.set_cons_succ])
                      refine tk 19 58 ?_
                      (try simp only [Act.put, List.setIfInBounds_toArray, List.set_cons_zero, List.set_cons_succ])
                      refine wpAnyH_done (by kernel_rfl) ?_ _
                      clear hHeld
                      have hv : E = 2 := by rw [HE.out]; exact err_no (ok_each (by rw [← HX.out]; exact allAt_no (map_at HXJ.out) (by unfold eachB; rw [← HQ.out, HLA.out, ← HLE.out]; rfl)))
                      have HV := hid hv
                      clear hv
                      go_wp2_with (first | go_big_skip | go_big_guard | fail)
                      go_ret
                      exact ⟨by have h := HV.out; subst h; rfl, hA2.nil⟩
                    · go_wp2_with (first | go_big_skip | go_big_guard | (refine wl_index rfl rfl rfl rfl hlt ?_) | (refine wl_loadE rfl rfl rfl ?_; first | refine ⟨_, Loads.oldA (cs := cellsR x) hst HL.out HWR.out, ?_⟩) | (refine wl_alloc hst rfl rfl ?_; intro gx w2 hst2; clear hst) | (refine wl_storeA [] hst2 rfl rfl rfl rfl (by exact HL.out) (cellsR_ones HIN.out) rfl ?_; intro w3 hst3; clear hst2))
                      have hX := hst3.drew
                      clear hst3
                      refine wp_region_held_drew (S := (fun w' => (loadVarH 47 ⟨gx, 0, none⟩).run Try.prog w' = .ok (.agg (List.toArray (cellsR x))) w' ∧ (loadVarH 25 ⟨g1, 1, none⟩).run Try.prog w' = .ok (.slice (some ⟨lb, lo, none⟩) nr cr) w' ∧ (loadVarH 9 ⟨gx, 1, none⟩).run Try.prog w' = .ok (.string ⟨x.2.name.toArray⟩) w' ∧ (loadVarH 9 ⟨lb, lo + k * 44 + 1, none⟩).run Try.prog w' = .ok (.string ⟨y.2.name.toArray⟩) w')) (by kernel_rfl) (by exact ⟨ldA (cellsR x) [] hX (HL.out) (by simp), ldS [_] hX rfl, ldS [] hX rfl, ldO hX (HY.out)⟩) (fun hHeld => ?_)
                      refine tk 0 39 ?_
                      (try simp only [Act.put, List.setIfInBounds_toArray, List.set_cons_zero, List.set_cons_succ])
                      refine wpAnyH_ready (rs := [1]) (by kernel_rfl) (by simp) ?_
                      refine (AllReadyH.cons (o := ⟨some 40, _, _, _, _, _⟩) rfl (fun K hK => ?_) AllReadyH.nil)
                      rw [if_pos (by rfl)]
                      go_simp
                      go_at_call 47
                      refine (alone_any x _ (RC.In.old hX HIN.out)).mono ?_
                      rw [← HQ.out]
                      rintro _ w4 ⟨rfl, h4⟩
                      have hA1 := St.call0 hX h4
                      clear h4
                      refine hK.out _ _ ?_ (fun hHeld => ?_)
                      · exact ⟨ldA (cellsR x) [] hA1 (HL.out) (by simp), ldS [_] hA1 rfl, ldS [] hA1 rfl, ldO hA1 (HY.out)⟩
                      clear hK K
                      (try simp only [Act.put, List.setIfInBounds_toArray, List.set_cons_zero, List.set_cons_succ])
                      refine tk 2 41 ?_
                      (try simp only [Act.put, List.setIfInBounds_toArray, List.set_cons_zero, List.set_cons_succ])
                      refine tk 3 42 ?_
                      (try simp only [Act.put, List.setIfInBounds_toArray, List.set_cons_zero, List.set_cons_succ])
                      refine tk 4 43 ?_
                      (try simp only [Act.put, List.setIfInBounds_toArray, List.set_cons_zero, List.set_cons_succ])
                      refine tk 5 44 ?_
                      (try simp only [Act.put, List.setIfInBounds_toArray, List.set_cons_zero, List.set_cons_succ])
                      refine tk 6 45 ?_
                      (try simp only [Act.put, List.setIfInBounds_toArray, List.set_cons_zero, List.set_cons_succ])
                      refine tk 7 46 ?_
                      (try simp only [Act.put, List.setIfInBounds_toArray, List.set_cons_zero, List.set_cons_succ])
                      refine tk 9 48 ?_
                      (try simp only [Act.put, List.setIfInBounds_toArray, List.set_cons_zero, List.set_cons_succ])
                      refine tk 14 53 ?_
                      (try simp only [Act.put, List.setIfInBounds_toArray, List.set_cons_zero, List.set_cons_succ])
                      refine tk 8 47 ?_
                      (try simp only [Act.put, List.setIfInBounds_toArray, List.set_cons_zero, List.set_cons_succ])
                      refine tk 10 49 ?_
                      (try simp only [Act.put, List.setIfInBounds_toArray, List.set_cons_zero, List.set_cons_succ])
                      refine tk 15 54 ?_
                      (try simp only [Act.put, List.setIfInBounds_toArray, List.set_cons_zero, List.set_cons_succ])
                      refine tk 11 50 ?_
                      (try simp only [Act.put, List.setIfInBounds_toArray, List.set_cons_zero, List.set_cons_succ])
                      refine tk 12 51 ?_
                      (try simp only [Act.put, List.setIfInBounds_toArray, List.set_cons_zero, List.set_cons_succ])
                      refine tk 13 52 ?_
                      (try simp only [Act.put, List.setIfInBounds_toArray, List.set_cons_zero, List.set_cons_succ])
                      refine wpAnyH_ready (rs := [16]) (by kernel_rfl) (by simp) ?_
                      refine (AllReadyH.cons (o := ⟨some 55, _, _, _, _, _⟩) rfl (fun K hK => ?_) AllReadyH.nil)
                      rw [if_pos (by rfl)]
                      go_simp
                      go_at_call 48
                      refine (less_any y.2.name x.2.name _ HINY.out.2 HIN.out.2).mono ?_
                      rw [← HLE.out]
                      rintro _ w5 ⟨rfl, h4⟩
                      have hA2 := St.call0 hA1 h4
                      clear h4
                      refine hK.out _ _ ?_ (fun hHeld => ?_)
                      · exact ⟨ldA (cellsR x) [] hA2 (HL.out) (by simp), ldS [_] hA2 rfl, ldS [] hA2 rfl, ldO hA2 (HY.out)⟩
                      clear hK K
                      (try simp only [Act.put, List.setIfInBounds_toArray, List.set_cons_zero, List.set_cons_succ])
                      refine tk 17 56 ?_
                      (try simp only [Act.put, List.setIfInBounds_toArray, List.set_cons_zero, List.set_cons_succ])
                      refine tk 18 57 ?_
                      (try simp only [Act.put, List.setIfInBounds_toArray, List.set_cons_zero, List.set_cons_succ])
                      refine tk 19 58 ?_
                      (try simp only [Act.put, List.setIfInBounds_toArray, List.set_cons_zero, List.set_cons_succ])
                      refine wpAnyH_done (by kernel_rfl) ?_ _
                      clear hHeld
                      go_wp2_with (first | go_big_skip | go_big_guard | fail)
                      go_roundw
                      case rel => exact ⟨k + 1 + 1, by omega, by go_num, St.drop (L1 := []) hA2, hid (all_steps HP.out HXJ.out (by unfold eachB; rw [← HQ.out, HLA.out, ← HLE.out]; rfl))⟩
                      case measure => simp [intOf]; omega
              · have e1 : decide ((j : Int) < (nr : Int)) = false := decide_eq_false (by omega)
                have HE1 : Hid (allAt (eachB t.recs) t.recs = true) := hid (by rw [← HX.out]; exact all_end (fun i y hi hy => HP.out i y (by have := HR.out.len; omega) hy))
                clear HP hj e1
                go_wp2_with (first | go_big_skip | go_big_guard | (refine wl_loadE rfl rfl rfl ?_; first | refine ⟨_, Loads.at [] hst rfl, ?_⟩ | refine ⟨_, Loads.atA (tabC t (.slice ar nr cr) (.slice al nl cl)) [] hst rfl rfl, ?_⟩))
                go_loopw [63] (fun i wr => ∃ j : Nat, j ≤ nr ∧ i = .int .i64 (j : Int) ∧ St w [] wr [.blk g1 30 (tabC t (.slice ar nr cr) (.slice al nl cl))] ∧ Hid (∀ i y, i < j → xs[i]? = some y → relB t.next (xs.map (·.2)) i y.2 = true)) (fun i _ => nr - (intOf i).toNat)
                case atStart => exact ⟨0, Nat.zero_le _, rfl, hst, hid (fun i y hi _ => by omega)⟩
                case round =>
                  clear hst
                  obtain ⟨j, hj, rfl, hst, HP⟩ := hrel
                  by_cases hlt : j < nr
                  · have e1 : decide ((j : Int) < (nr : Int)) = true := decide_eq_true (by omega)
                    have z1 : IntKind.i64.wrap ((j : Int) + 1) = (j : Int) + 1 := IntWalk.i64_in _ (by omega)
                    obtain ⟨x, hxj⟩ : ∃ x, xs[j]? = some x := ⟨_, List.getElem?_eq_getElem (by rw [HR.out.len]; exact hlt)⟩
                    have HXJ := hid hxj
                    clear hxj
                    obtain ⟨q, hq⟩ : ∃ q, q = relB t.next (xs.map (·.2)) j x.2 := ⟨_, rfl⟩
                    have HQ := hid hq
                    clear hq
                    cases q
                    · have hv : E = 2 := by rw [HE.out]; exact err_no (ok_rel (by rw [← HX.out]; exact allAt_no (map_at HXJ.out) HQ.out.symm))
                      have HV := hid hv
                      clear hv
                      go_wp2_with (first | go_big_skip | go_big_guard | (refine wl_loadE rfl rfl rfl ?_; first | refine ⟨_, Loads.at [] hst rfl, ?_⟩ | refine ⟨_, Loads.atA (tabC t (.slice ar nr cr) (.slice al nl cl)) [] hst rfl rfl, ?_⟩) | (go_at_call 49; refine (related_any t (.slice al nl cl) ar nr cr xs _ (HR.out.old hst) hb j x HXJ.out).mono ?_; rw [← HQ.out]; rintro _ w9 ⟨rfl, h4⟩; replace hst := St.call0 hst h4; clear h4))
                      go_ret
                      exact ⟨by have h := HV.out; subst h; rfl, hst.nil⟩
                    · go_wp2_with (first | go_big_skip | go_big_guard | (refine wl_loadE rfl rfl rfl ?_; first | refine ⟨_, Loads.at [] hst rfl, ?_⟩ | refine ⟨_, Loads.atA (tabC t (.slice ar nr cr) (.slice al nl cl)) [] hst rfl rfl, ?_⟩) | (go_at_call 49; refine (related_any t (.slice al nl cl) ar nr cr xs _ (HR.out.old hst) hb j x HXJ.out).mono ?_; rw [← HQ.out]; rintro _ w9 ⟨rfl, h4⟩; replace hst := St.call0 hst h4; clear h4))
                      go_roundw
                      case rel => exact ⟨j + 1, by omega, rfl, hst, hid (all_steps HP.out HXJ.out HQ.out.symm)⟩
                      case measure => simp [intOf]; omega
                  · have e1 : decide ((j : Int) < (nr : Int)) = false := decide_eq_false (by omega)
                    have hv : E = 0 := by rw [HE.out]; exact err_yes (ok_all HSZ1.out HC1.out HL1.out HE1.out (by rw [← HX.out]; exact all_end (fun i y hi hy => HP.out i y (by have := HR.out.len; omega) hy)))
                    have HV := hid hv
                    clear hv
                    go_wp2_with (first | go_big_skip | go_big_guard | fail)
                    go_ret
                    exact ⟨by have h := HV.out; subst h; rfl, hst.nil⟩
end Go.Proofs.Ytkpkaoiafppimaa
namespace Go.Proofs.Ytkpkaoiafppimaa
set_option linter.unusedVariables false
set_option linter.unusedSimpArgs false
open Go.RowKit Hp
def R64 (z : Int) : Prop := -9223372036854775808 ≤ z ∧ z ≤ 9223372036854775807
/-- A number of at most 31 bits and one more. -/
def R31 (z : Int) : Prop := 0 ≤ z ∧ z ≤ 2147483648
theorem R31.r64 {z : Int} (h : R31 z) : R64 z := ⟨by have := h.1; omega, by have := h.2; omega⟩
theorem inB_31 {z lo hi : Int} (h : inB z lo hi = true) (h0 : 0 ≤ lo) (h1 : hi ≤ 2147483648) : R31 z := by
  unfold inB at h
  simp only [Bool.and_eq_true, decide_eq_true_eq] at h
  exact ⟨by omega, by omega⟩
theorem eq_31 {z k : Int} (h : (z == k) = true) (hk : R31 k) : R31 z := by
  rw [beq_iff_eq] at h
  rw [h]; exact hk
structure RC.Bd (r : RC) : Prop where
  id : R31 r.id
  kind : R31 r.kind
  size : R31 r.size
  made : R31 r.made
  own : R31 r.own
  origin : R31 r.origin
  quota : R31 r.quota
  reserve : R31 r.reserve
  name : r.name.length ≤ 41
  root : (r.pv undef).ok = true
theorem snapB_len {l : List UInt8} (h : snapB l = true) : l.length ≤ 41 := by
  unfold snapB at h
  obtain ⟨⟨a, b, f⟩, hs⟩ : ∃ p, splitL l = p := ⟨_, rfl⟩
  rw [hs] at h
  simp at h
  subst h
  obtain ⟨e, ha, hb⟩ := split_true hs
  have h1 := (part_bd ha).2
  have h2 := (part_bd hb).2
  rw [e]
  simp
  omega
theorem rootB_ok {p : PV} (h : rootB p = true) : p.ok = true := by
  unfold rootB at h
  rcases Bool.or_eq_true_iff.1 h with h | h
  · exact PV.hole_ok h
  · exact (Bool.and_eq_true_iff.1 h).1
theorem alone_bd {r : RC} (h : r.aloneB = true) : r.Bd := by
  unfold RC.aloneB at h
  simp only [Bool.and_eq_true] at h
  obtain ⟨⟨⟨⟨h1, h2⟩, h3⟩, h4⟩, h5⟩ := h
  unfold RC.kindB at h5
  have z : R31 0 := ⟨by decide, by decide⟩
  have one : R31 1 := ⟨by decide, by decide⟩
  have two : R31 2 := ⟨by decide, by decide⟩
  by_cases k1 : (r.kind == 1) = true
  · rw [if_pos k1] at h5
    simp only [Bool.and_eq_true] at h5
    obtain ⟨⟨⟨⟨a1, a2⟩, a3⟩, a4⟩, a5⟩ := h5
    exact ⟨inB_31 h1 (by decide) (by decide), eq_31 k1 one, inB_31 h2 (by decide) (by decide), inB_31 h3 (by decide) (by decide), eq_31 a2 z, inB_31 a3 (by decide) (by decide), inB_31 a4 (by decide) (by decide), inB_31 a5 (by decide) (by decide), by have := (part_bd a1).2; omega, rootB_ok h4⟩
  · rw [if_neg k1] at h5
    by_cases k2 : (r.kind == 2) = true
    · rw [if_pos k2] at h5
      simp only [Bool.and_eq_true] at h5
      obtain ⟨⟨⟨⟨⟨a1, a2⟩, a3⟩, a4⟩, a5⟩, a6⟩ := h5
      exact ⟨inB_31 h1 (by decide) (by decide), eq_31 k2 two, inB_31 h2 (by decide) (by decide), inB_31 h3 (by decide) (by decide), inB_31 a2 (by decide) (by decide), eq_31 a3 z, eq_31 a4 z, eq_31 a5 z, snapB_len a1, rootB_ok h4⟩
    · rw [if_neg k2] at h5
      cases h5
structure TC.Bd (t : TC) : Prop where
  next : R31 t.next
  kind : R31 t.kind
  dev : R31 t.dev
  at_ : R31 t.at_
  txg : R31 t.txg
  many : t.recs.length ≤ 16
  lives : t.lives.length ≤ 8
  recs : ∀ r ∈ t.recs, r.Bd
  live : ∀ z ∈ t.lives, R31 z
theorem cur_bd {t : TC} (h : t.curB = true) (hl : t.lives.length ≤ 8) : R31 t.kind ∧ R31 t.dev ∧ R31 t.at_ ∧ R31 t.txg := by
  have z : R31 0 := ⟨by decide, by decide⟩
  have one : R31 1 := ⟨by decide, by decide⟩
  have two : R31 2 := ⟨by decide, by decide⟩
  unfold TC.curB at h
  rcases Bool.or_eq_true_iff.1 h with h | h
  · unfold TC.cur0 at h
    simp at h
    obtain ⟨h1, h2, h3, h4⟩ := h
    rw [h1, h2, h3, h4]
    exact ⟨z, z, z, z⟩
  · simp only [Bool.and_eq_true] at h
    obtain ⟨⟨h1, h2⟩, h3⟩ := h
    have a1 := inB_31 h1 (by decide) (by decide)
    have a2 := inB_31 h2 (by decide) (by decide)
    rcases Bool.or_eq_true_iff.1 h3 with h | h
    · simp only [Bool.and_eq_true] at h
      exact ⟨eq_31 h.1 one, eq_31 h.2 z, a1, a2⟩
    · simp only [Bool.and_eq_true] at h
      exact ⟨eq_31 h.1 two, inB_31 h.2 (by decide) (by omega), a1, a2⟩
theorem ok_bd {t : TC} (h : t.ok = true) : t.Bd := by
  unfold TC.ok at h
  simp only [Bool.and_eq_true] at h
  obtain ⟨⟨⟨⟨h1, h2⟩, h3⟩, h4⟩, h5⟩ := h
  unfold TC.sizeB at h1
  simp only [Bool.and_eq_true, decide_eq_true_eq] at h1
  obtain ⟨⟨a1, a2⟩, a3⟩ := h1
  have hl : t.lives.length ≤ 8 := by
    unfold inB at a3
    simp only [Bool.and_eq_true, decide_eq_true_eq] at a3
    omega
  obtain ⟨c1, c2, c3, c4⟩ := cur_bd h2 hl
  refine ⟨inB_31 a1 (by decide) (by decide), c1, c2, c3, c4, by omega, hl, fun r hr => ?_, fun z hz => ?_⟩
  · obtain ⟨i, hi⟩ := List.getElem?_of_mem hr
    have := allAt_at h4 hi
    unfold eachB at this
    exact alone_bd (Bool.and_eq_true_iff.1 this).1
  · unfold TC.livesB at h3
    exact inB_31 (List.all_eq_true.1 h3 z hz) (by decide) (by decide)
theorem flat_step {α : Type} (f : α → List UInt8) {l : List α} {j : Nat} {x : α} (h : l[j]? = some x) : (l.take (j + 1)).flatMap f = (l.take j).flatMap f ++ f x := by
  rw [List.take_add_one, h, List.flatMap_append]
  simp
end Go.Proofs.Ytkpkaoiafppimaa
namespace Go.Proofs.Ytkpkaoiafppimaa
set_option linter.unusedVariables false
set_option linter.unusedSimpArgs false
open Go.RowKit Hp
/-- Where a reader stands; whether the bytes ended within a field. -/
structure GS where
  pos : Nat
  short : Bool
def GS.stop (N n : Nat) (s : GS) : Bool := s.short || decide (N < s.pos + n)
def GS.go (N n : Nat) (s : GS) : GS := if s.stop N n then ⟨s.pos, true⟩ else ⟨s.pos + n, false⟩
/-- The bytes that are taken; none, or noughts, where they are not all there. -/
def gotG (z : Bool) (B : List UInt8) (n : Nat) (s : GS) : List UInt8 := if s.stop B.length n then (if z then List.replicate n 0 else []) else (B.drop s.pos).take n
def numG (B : List UInt8) (n : Nat) (s : GS) : Nat := beN (gotG false B n s)
theorem beN_zeros (n : Nat) : beN (List.replicate n 0) = 0 := by
  induction n with
  | zero => rfl
  | succ n ih => rw [List.replicate_succ', beN_snoc, ih]; rfl
theorem numG_z (z : Bool) (B : List UInt8) (n : Nat) (s : GS) : beN (gotG z B n s) = numG B n s := by
  unfold numG gotG
  cases s.stop B.length n <;> cases z <;> simp [beN_zeros] <;> rfl
theorem gotG_stop {z : Bool} {B : List UInt8} {n : Nat} {s : GS} (h : s.stop B.length n = true) : gotG z B n s = if z then List.replicate n 0 else [] := by unfold gotG; rw [if_pos h]
theorem gotG_go {z : Bool} {B : List UInt8} {n : Nat} {s : GS} (h : s.stop B.length n = false) : gotG z B n s = (B.drop s.pos).take n := by unfold gotG; rw [h]; rfl
theorem GS.go_stop {N n : Nat} {s : GS} (h : s.stop N n = true) : s.go N n = ⟨s.pos, true⟩ := by unfold GS.go; rw [if_pos h]
theorem GS.go_go {N n : Nat} {s : GS} (h : s.stop N n = false) : s.go N n = ⟨s.pos + n, false⟩ := by unfold GS.go; rw [h]; rfl
theorem GS.stop_yes {N n : Nat} {s : GS} (h : s.stop N n = false) : s.short = false ∧ s.pos + n ≤ N := by
  unfold GS.stop at h
  simp at h
  exact ⟨h.1, h.2⟩
theorem GS.go_no {N n : Nat} {s : GS} (h : (s.go N n).short = false) : s.stop N n = false := by
  cases hs : s.stop N n with
  | false => rfl
  | true => rw [GS.go_stop hs] at h; cases h
theorem GS.go_short {N n : Nat} {s : GS} (h : s.short = true) : (s.go N n).short = true := by
  have : s.stop N n = true := by unfold GS.stop; rw [h]; rfl
  rw [GS.go_stop this]
theorem GS.go_ok {N n : Nat} {s : GS} (h : (s.go N n).short = false) : s.short = false ∧ s.go N n = ⟨s.pos + n, false⟩ ∧ s.pos + n ≤ N := ⟨(GS.stop_yes (GS.go_no h)).1, GS.go_go (GS.go_no h), (GS.stop_yes (GS.go_no h)).2⟩
theorem gotG_len {z : Bool} {B : List UInt8} {n : Nat} {s : GS} (h : (s.go B.length n).short = false) : (gotG z B n s).length = n := by
  rw [gotG_go (GS.go_no h), List.length_take, List.length_drop]
  have := (GS.go_ok h).2.2
  omega
theorem gotG_same {z : Bool} {B : List UInt8} {n : Nat} {s : GS} (h : (s.go B.length n).short = false) : gotG z B n s = gotG false B n s := by
  rw [gotG_go (GS.go_no h), gotG_go (GS.go_no h)]
theorem GS.go_pos {N n : Nat} {s : GS} (h : s.pos ≤ N) : (s.go N n).pos ≤ N := by
  unfold GS.go
  split
  · exact h
  · rename_i h1
    exact (GS.stop_yes (by simpa using h1)).2
/-- A record's states, field by field. -/
def rS1 (B : List UInt8) (s : GS) : GS := s.go B.length 4
def rS2 (B : List UInt8) (s : GS) : GS := (rS1 B s).go B.length 1
def rS3 (B : List UInt8) (s : GS) : GS := (rS2 B s).go B.length (numG B 1 (rS1 B s))
def rS4 (B : List UInt8) (s : GS) : GS := (rS3 B s).go B.length 1
def rS5 (B : List UInt8) (s : GS) : GS := (rS4 B s).go B.length 1
def rS6 (B : List UInt8) (s : GS) : GS := (rS5 B s).go B.length 47
def rS7 (B : List UInt8) (s : GS) : GS := (rS6 B s).go B.length 4
def rS8 (B : List UInt8) (s : GS) : GS := (rS7 B s).go B.length 4
def rS9 (B : List UInt8) (s : GS) : GS := (rS8 B s).go B.length 4
def rS10 (B : List UInt8) (s : GS) : GS := (rS9 B s).go B.length 1
def rS11 (B : List UInt8) (s : GS) : GS := (rS10 B s).go B.length 1
def recS (B : List UInt8) (s : GS) : Nat → GS
  | 0 => s
  | 1 => rS1 B s
  | 2 => rS2 B s
  | 3 => rS3 B s
  | 4 => rS4 B s
  | 5 => rS5 B s
  | 6 => rS6 B s
  | 7 => rS7 B s
  | 8 => rS8 B s
  | 9 => rS9 B s
  | 10 => rS10 B s
  | _ => rS11 B s
/-- What a root's bytes tell. -/
structure RT where
  l : List (Int × Int)
  (b v : Int)
  S : List UInt8
def rootG (bs : List UInt8) : RT := if rOK bs then ⟨rAddrs bs 3, rBirth bs, rLevel bs, rSum bs⟩ else ⟨[], 0, 0, nones⟩
theorem rootG_L (bs : List UInt8) : L32 (rootG bs).S := by
  unfold rootG
  split
  · rename_i h
    exact rSum_len (rOK_len h)
  · exact L32.nones
def recG (z : Bool) (B : List UInt8) (s : GS) : RC :=
  { id := numG B 4 s, name := gotG z B (numG B 1 (recS B s 1)) (recS B s 2), kind := numG B 1 (recS B s 3), size := numG B 1 (recS B s 4),
    l := (rootG (gotG z B 47 (recS B s 5))).l, b := (rootG (gotG z B 47 (recS B s 5))).b, v := (rootG (gotG z B 47 (recS B s 5))).v, S := (rootG (gotG z B 47 (recS B s 5))).S,
    made := numG B 4 (recS B s 6), own := numG B 4 (recS B s 7), origin := numG B 4 (recS B s 8), quota := numG B 1 (recS B s 9), reserve := numG B 1 (recS B s 10) }
def rootOk (z : Bool) (B : List UInt8) (s : GS) : Bool := rOK (gotG z B 47 (recS B s 5))
def recE (B : List UInt8) (s : GS) : GS := recS B s 11
/-- Where it stands behind j records. -/
def stG (B : List UInt8) (s : GS) : Nat → GS
  | 0 => s
  | j + 1 => recE B (stG B s j)
def rcsG (z : Bool) (B : List UInt8) (s : GS) (j : Nat) : List RC := (List.range j).map fun i => recG z B (stG B s i)
def oksG (z : Bool) (B : List UInt8) (s : GS) (j : Nat) : Bool := (List.range j).all fun i => rootOk z B (stG B s i)
def lvS (B : List UInt8) (s : GS) : Nat → GS
  | 0 => s
  | j + 1 => (lvS B s j).go B.length 4
def lvsG (B : List UInt8) (s : GS) (j : Nat) : List Int := (List.range j).map fun i => ((numG B 4 (lvS B s i) : Nat) : Int)
theorem rcsG_succ (z : Bool) (B : List UInt8) (s : GS) (j : Nat) : rcsG z B s (j + 1) = rcsG z B s j ++ [recG z B (stG B s j)] := by simp [rcsG, List.range_succ]
theorem oksG_succ (z : Bool) (B : List UInt8) (s : GS) (j : Nat) : oksG z B s (j + 1) = (oksG z B s j && rootOk z B (stG B s j)) := by simp [oksG, List.range_succ]
theorem lvsG_succ (B : List UInt8) (s : GS) (j : Nat) : lvsG B s (j + 1) = lvsG B s j ++ [((numG B 4 (lvS B s j) : Nat) : Int)] := by simp [lvsG, List.range_succ]
theorem length_rcsG (z : Bool) (B : List UInt8) (s : GS) (j : Nat) : (rcsG z B s j).length = j := by simp [rcsG]
theorem length_lvsG (B : List UInt8) (s : GS) (j : Nat) : (lvsG B s j).length = j := by simp [lvsG]
/-! The states of a table. -/
def tS1 (B : List UInt8) : GS := (GS.mk 0 false).go B.length 4
def tMany (B : List UInt8) : Nat := numG B 1 (tS1 B)
def tS2 (B : List UInt8) : GS := (tS1 B).go B.length 1
def tS3 (B : List UInt8) : GS := stG B (tS2 B) (tMany B)
def tS4 (B : List UInt8) : GS := (tS3 B).go B.length 1
def tS5 (B : List UInt8) : GS := (tS4 B).go B.length 1
def tS6 (B : List UInt8) : GS := (tS5 B).go B.length 4
def tS7 (B : List UInt8) : GS := (tS6 B).go B.length 4
def tS8 (B : List UInt8) : GS := (tS7 B).go B.length 1
def tLives (B : List UInt8) : Nat := numG B 1 (tS7 B)
def tS9 (B : List UInt8) : GS := lvS B (tS8 B) (tLives B)
def tabG (z : Bool) (B : List UInt8) : TC := { next := numG B 4 ⟨0, false⟩, recs := rcsG z B (tS2 B) (tMany B), kind := numG B 1 (tS3 B), dev := numG B 1 (tS4 B), at_ := numG B 4 (tS5 B), txg := numG B 4 (tS6 B), lives := lvsG B (tS8 B) (tLives B) }
def rootsG (B : List UInt8) : Bool := oksG false B (tS2 B) (tMany B)
/-- Are bytes a table's? -/
def gOK (B : List UInt8) : Bool := ((!(tS9 B).short && ((tS9 B).pos == B.length)) && rootsG B) && (tabG false B).ok
def gErr (B : List UInt8) : Int := if (tS9 B).short then 4 else if (tS9 B).pos < B.length then 4 else if rootsG B && (tabG false B).ok then 0 else 2
def gAt (B : List UInt8) : Int := if (tS9 B).short then B.length else if (tS9 B).pos < B.length then (tS9 B).pos else 0
theorem recS_short {B : List UInt8} {s : GS} : ∀ k, s.short = true → (recS B s k).short = true := by
  intro k h
  have h1 : (rS1 B s).short = true := GS.go_short h
  have h2 : (rS2 B s).short = true := GS.go_short h1
  have h3 : (rS3 B s).short = true := GS.go_short h2
  have h4 : (rS4 B s).short = true := GS.go_short h3
  have h5 : (rS5 B s).short = true := GS.go_short h4
  have h6 : (rS6 B s).short = true := GS.go_short h5
  have h7 : (rS7 B s).short = true := GS.go_short h6
  have h8 : (rS8 B s).short = true := GS.go_short h7
  have h9 : (rS9 B s).short = true := GS.go_short h8
  have h10 : (rS10 B s).short = true := GS.go_short h9
  have h11 : (rS11 B s).short = true := GS.go_short h10
  match k with
  | 0 => exact h
  | 1 => exact h1
  | 2 => exact h2
  | 3 => exact h3
  | 4 => exact h4
  | 5 => exact h5
  | 6 => exact h6
  | 7 => exact h7
  | 8 => exact h8
  | 9 => exact h9
  | 10 => exact h10
  | _ + 11 => exact h11
theorem stG_short {B : List UInt8} {s : GS} {i j : Nat} (hij : i ≤ j) (h : (stG B s i).short = true) : (stG B s j).short = true := by
  induction j with
  | zero =>
    have : i = 0 := by omega
    subst this; exact h
  | succ j ih =>
    by_cases e : i = j + 1
    · subst e; exact h
    · exact recS_short 11 (ih (by omega))
theorem lvS_short {B : List UInt8} {s : GS} {i j : Nat} (hij : i ≤ j) (h : (lvS B s i).short = true) : (lvS B s j).short = true := by
  induction j with
  | zero =>
    have : i = 0 := by omega
    subst this; exact h
  | succ j ih =>
    by_cases e : i = j + 1
    · subst e; exact h
    · exact GS.go_short (ih (by omega))
theorem no_short {s t : GS} (h : s.short = true → t.short = true) (ht : t.short = false) : s.short = false := by
  cases hs : s.short with
  | false => rfl
  | true => rw [h hs] at ht; cases ht
/-- Behind a record that is all there, each field was there. -/
theorem recE_ok {B : List UInt8} {s : GS} (h : (recE B s).short = false) : (recS B s 1).short = false ∧ (recS B s 2).short = false ∧ (recS B s 3).short = false ∧ (recS B s 4).short = false ∧ (recS B s 5).short = false ∧ (recS B s 6).short = false ∧ (recS B s 7).short = false ∧ (recS B s 8).short = false ∧ (recS B s 9).short = false ∧ (recS B s 10).short = false := by
  have h10 := (GS.go_ok (s := recS B s 10) h).1
  have h9 := (GS.go_ok (s := recS B s 9) h10).1
  have h8 := (GS.go_ok (s := recS B s 8) h9).1
  have h7 := (GS.go_ok (s := recS B s 7) h8).1
  have h6 := (GS.go_ok (s := recS B s 6) h7).1
  have h5 := (GS.go_ok (s := recS B s 5) h6).1
  have h4 := (GS.go_ok (s := recS B s 4) h5).1
  have h3 := (GS.go_ok (s := recS B s 3) h4).1
  have h2 := (GS.go_ok (s := recS B s 2) h3).1
  have h1 := (GS.go_ok (s := recS B s 1) h2).1
  exact ⟨h1, h2, h3, h4, h5, h6, h7, h8, h9, h10⟩
theorem recG_z {z : Bool} {B : List UInt8} {s : GS} (h : (recE B s).short = false) : recG z B s = recG false B s ∧ rootOk z B s = rootOk false B s := by
  obtain ⟨h1, h2, h3, h4, h5, h6, _⟩ := recE_ok h
  have e1 : gotG z B (numG B 1 (recS B s 1)) (recS B s 2) = gotG false B (numG B 1 (recS B s 1)) (recS B s 2) := gotG_same (z := z) (s := recS B s 2) h3
  have e2 := gotG_same (z := z) (s := recS B s 5) h6
  unfold recG rootOk
  rw [e1, e2]
  exact ⟨rfl, rfl⟩
theorem rcsG_z {z : Bool} {B : List UInt8} {s : GS} {j : Nat} (h : (stG B s j).short = false) : rcsG z B s j = rcsG false B s j ∧ oksG z B s j = oksG false B s j := by
  induction j with
  | zero => exact ⟨rfl, rfl⟩
  | succ j ih =>
    have hj : (stG B s j).short = false := no_short (recS_short 11) h
    obtain ⟨e1, e2⟩ := ih hj
    obtain ⟨e3, e4⟩ := recG_z (z := z) (s := stG B s j) h
    rw [rcsG_succ, rcsG_succ, oksG_succ, oksG_succ, e1, e2, e3, e4]
    exact ⟨rfl, rfl⟩
/-- Behind a table that is all there, each field was there. -/
theorem tab_there {B : List UInt8} (h : (tS9 B).short = false) : (tS1 B).short = false ∧ (tS2 B).short = false ∧ (tS3 B).short = false ∧ (tS4 B).short = false ∧ (tS5 B).short = false ∧ (tS6 B).short = false ∧ (tS7 B).short = false ∧ (tS8 B).short = false := by
  have h8 : (tS8 B).short = false := no_short (fun h => lvS_short (i := 0) (Nat.zero_le _) h) h
  have h7 := (GS.go_ok (s := tS7 B) h8).1
  have h6 := (GS.go_ok (s := tS6 B) h7).1
  have h5 := (GS.go_ok (s := tS5 B) h6).1
  have h4 := (GS.go_ok (s := tS4 B) h5).1
  have h3 := (GS.go_ok (s := tS3 B) h4).1
  have h2 : (tS2 B).short = false := no_short (fun h => stG_short (i := 0) (Nat.zero_le _) h) h3
  have h1 := (GS.go_ok (s := tS1 B) h2).1
  exact ⟨h1, h2, h3, h4, h5, h6, h7, h8⟩
theorem tabG_z {z : Bool} {B : List UInt8} (h : (tS9 B).short = false) : tabG z B = tabG false B ∧ oksG z B (tS2 B) (tMany B) = rootsG B := by
  obtain ⟨e1, e2⟩ := rcsG_z (z := z) (s := tS2 B) (j := tMany B) (tab_there h).2.2.1
  unfold tabG rootsG
  rw [e1]
  exact ⟨rfl, e2⟩
end Go.Proofs.Ytkpkaoiafppimaa
namespace Go.Proofs.Ytkpkaoiafppimaa
set_option linter.unusedVariables false
set_option linter.unusedSimpArgs false
open Go.RowKit Hp
attribute [local irreducible] Go.Calls Go.wpList
set_option maxRecDepth 100000
set_option maxHeartbeats 4000000
instance dNW : TyN Try.prog 77 1 := ⟨by kernel_rfl⟩
instance dZW : TyZ Try.prog 77 [.slice none 0 0] := ⟨by kernel_rfl⟩
instance dBW : TyB Try.prog 77 [.slice none 0 0] := ⟨by kernel_rfl⟩
theorem rowP_at {w0 w : World} {M : List Nat} {p : Value → Bool} {v : Value} {T : TypeId} {sz n : Nat} {xs : List Value} (L1 : List HA) {L2 : List HA} (h : St w0 M w (L1 ++ .rowP p v T sz n xs :: L2)) : ∃ ao c, v = .slice ao n c := by
  obtain ⟨ao, c, e, _⟩ := rowP_form h (List.mem_append.2 (.inr (.head _)))
  exact ⟨ao, c, e⟩
theorem wnum_w {w0 w : World} {M : List Nat} {R : List HA} {gw m : Nat} {wv : Value} {B : List UInt8} (hS : St w0 M w (.blk gw 77 [wv] :: .rowP isB wv 5 1 m (bytesV B) :: R)) (z : Int) (k : Nat) (hk : k ≤ 8) (hm : m ≤ 100000) (hz : -9223372036854775808 ≤ z ∧ z ≤ 9223372036854775807) :
    Calls Try.prog 40 #[.pointer (some ⟨gw, 0, none⟩), .int .i64 z, .int .i64 k] w fun e w' => e = .returned (.pointer (some ⟨gw, 0, none⟩)) ∧ ∃ wv', St w0 M w' (.blk gw 77 [wv'] :: .rowP isB wv' 5 1 (m + k) (bytesV (B ++ numB z k)) :: R) := by
  have hst := hS
  clear hS
  go_enter Try.func40, Try.ntmps40
  go_wp2_with (first | go_big_skip | go_big_guard | fail)
  go_loopw [7] (fun i wr => ∃ (j : Nat) (wv : Value), j ≤ k ∧ i = .int .i64 ((j : Int) - 1) ∧ St w0 M wr (.blk gw 77 [wv] :: .rowP isB wv 5 1 (m + (k - j)) (bytesV (B ++ (numB z k).take (k - j))) :: R)) (fun i _ => ((intOf i) + 1).toNat)
  case atStart => exact ⟨k, wv, Nat.le_refl _, rfl, by simpa using hst⟩
  case round =>
    clear hst
    obtain ⟨j, wv, hj, rfl, hst⟩ := hrel
    by_cases hlt : 0 < j
    · have y8 : IntKind.i64.wrap (8 * ((j : Int) - 1)) = ((8 * (j - 1) : Nat) : Int) := by rw [IntWalk.i64_in _ (by omega)]; omega
      go_wp2_with (first | go_big_skip | go_big_guard | fail)
      have hX := hst.drew
      clear hst
      refine wp_region_held_drew (S := (fun w' => True)) (by kernel_rfl) (by exact trivial) (fun hHeld => ?_)
      refine tk 0 14 ?_
      (try simp only [Act.put, List.setIfInBounds_toArray, List.set_cons_zero, List.set_cons_succ])
      refine tk 1 15 ?_
      (try simp only [Act.put, List.setIfInBounds_toArray, List.set_cons_zero, List.set_cons_succ])
      refine tk 5 19 ?_
      (try simp only [Act.put, List.setIfInBounds_toArray, List.set_cons_zero, List.set_cons_succ])
      refine tk 6 20 ?_
      (try simp only [Act.put, List.setIfInBounds_toArray, List.set_cons_zero, List.set_cons_succ])
      refine tk 2 16 ?_
      (try simp only [Act.put, List.setIfInBounds_toArray, List.set_cons_zero, List.set_cons_succ])
      refine tk 7 21 ?_
      (try simp only [Act.put, List.setIfInBounds_toArray, List.set_cons_zero, List.set_cons_succ])
      refine tk 3 17 ?_
      (try simp only [Act.put, List.setIfInBounds_toArray, List.set_cons_zero, List.set_cons_succ])
      refine tk 8 22 ?_
      (try simp only [Act.put, List.setIfInBounds_toArray, List.set_cons_zero, List.set_cons_succ])
      refine tk 9 23 ?_
      (try simp only [Act.put, List.setIfInBounds_toArray, List.set_cons_zero, List.set_cons_succ])
      refine wpAnyH_ready (rs := [4, 10]) (by kernel_rfl) (by simp) ?_
      refine (AllReadyH.cons (o := ⟨some 18, _, _, _, _, _⟩) rfl (fun K hK => ?_) (AllReadyH.cons (o := ⟨some 24, _, _, _, _, _⟩) rfl (fun K hK => ?_) AllReadyH.nil))
      · rw [if_pos (by rfl)]
        refine ow_of_wl (ops := #[]) (by rfl) ?_
        refine wl_loadE rfl rfl rfl ?_
        refine ⟨_, Loads.at [] hX rfl, ?_⟩
        refine q0_nil ?_
        refine hK.out _ _ ?_ (fun hHeld => ?_)
        · exact trivial
        clear hK K
        (try simp only [Act.put, List.setIfInBounds_toArray, List.set_cons_zero, List.set_cons_succ])
        refine wpAnyH_ready (rs := [10]) (by kernel_rfl) (by simp) ?_
        refine (AllReadyH.cons (o := ⟨some 24, _, _, _, _, _⟩) rfl (fun K hK => ?_) AllReadyH.nil)
        rw [if_pos (by rfl)]
        refine ow_of_wl (ops := #[]) (by rfl) ?_
        apply wl_bsX [.int _ _] [.int _ _] hX
        rfl
        rfl
        exact rfl
        exact rfl
        infer_instance
        infer_instance
        rfl
        rfl
        rfl
        intro gb w5 hB2
        refine q0_nil ?_
        refine hK.out _ _ ?_ (fun hHeld => ?_)
        · exact trivial
        clear hK K
        (try simp only [Act.put, List.setIfInBounds_toArray, List.set_cons_zero, List.set_cons_succ])
        refine wpAnyH_ready (rs := [11]) (by kernel_rfl) (by simp) ?_
        refine (AllReadyH.cons (o := ⟨some 25, _, _, _, _, _⟩) rfl (fun K hK => ?_) AllReadyH.nil)
        rw [if_pos (by rfl)]
        refine ow_of_wl (ops := #[]) (by rfl) ?_
        apply wl_appP [_, _] hB2
        rfl
        rfl
        exact rfl
        exact rfl
        infer_instance
        infer_instance
        infer_instance
        infer_instance
        exact (Rd.blk0 hB2 rfl (by decide))
        exact rfl
        rfl
        exact isB_one _
        (unfold maxLen; omega)
        intro v9 w6 hB3 _
        obtain ⟨vo, vc, rfl⟩ := rowP_at [_, _] hB3
        refine q0_nil ?_
        refine hK.out _ _ ?_ (fun hHeld => ?_)
        · exact trivial
        clear hK K
        (try simp only [Act.put, List.setIfInBounds_toArray, List.set_cons_zero, List.set_cons_succ])
        refine tk 12 26 ?_
        (try simp only [Act.put, List.setIfInBounds_toArray, List.set_cons_zero, List.set_cons_succ])
        refine tk 13 27 ?_
        (try simp only [Act.put, List.setIfInBounds_toArray, List.set_cons_zero, List.set_cons_succ])
        refine wpAnyH_ready (rs := [14]) (by kernel_rfl) (by simp) ?_
        refine (AllReadyH.cons (o := ⟨none, _, _, _, _, _⟩) rfl (fun K hK => ?_) AllReadyH.nil)
        rw [if_pos (by rfl)]
        refine ow_of_wl (ops := #[]) (by rfl) ?_
        refine wl_store [_] hB3 rfl rfl rfl (v := .slice _ _ _) rfl rfl rfl (by show (0 : Nat) + 1 ≤ 1; decide) ?_
        intro w7 hB4
        refine q0_nil ?_
        refine hK.out _ _ ?_ (fun hHeld => ?_)
        · exact trivial
        clear hK K
        (try simp only [Act.put, List.setIfInBounds_toArray, List.set_cons_zero, List.set_cons_succ])
        refine wpAnyH_done (by kernel_rfl) ?_ _
        clear hHeld
        have h5 : St w0 M w7 (.blk gw 77 [.slice vo (m + (k - j) + 1) vc] :: .rowP isB (.slice vo (m + (k - j) + 1) vc) 5 1 (m + (k - j) + 1) (bytesV (B ++ (numB z k).take (k - j)) ++ [.int .u8 (z / 2 ^ (8 * (j - 1)) % 256)]) :: R) := St.sub hB4 (List.sublist_cons_self _ _)
        clear hB4
        rw [byteV, show m + (k - j) + 1 = m + (k - (j - 1)) by omega] at h5
        have e9 : bytesV (B ++ (numB z k).take (k - (j - 1))) = bytesV (B ++ (numB z k).take (k - j)) ++ [.int .u8 (byteAt z (j - 1)).toNat] := by
          rw [show k - (j - 1) = (k - j) + 1 by omega, numB_take _ _ _ (by omega), ← List.append_assoc, bytesV_append _ [_], show k - 1 - (k - j) = j - 1 by omega]
          rfl
        rw [← e9] at h5
        clear e9
        go_wp2_with (first | go_big_skip | go_big_guard | fail)
        go_roundw
        case rel => exact ⟨j - 1, _, by omega, by go_num, h5⟩
        case measure => simp [intOf]; omega
      · rw [if_pos (by rfl)]
        refine ow_of_wl (ops := #[]) (by rfl) ?_
        apply wl_bsX [.int _ _] [.int _ _] hX
        rfl
        rfl
        exact rfl
        exact rfl
        infer_instance
        infer_instance
        rfl
        rfl
        rfl
        intro gb w5 hB2
        refine q0_nil ?_
        refine hK.out _ _ ?_ (fun hHeld => ?_)
        · exact trivial
        clear hK K
        (try simp only [Act.put, List.setIfInBounds_toArray, List.set_cons_zero, List.set_cons_succ])
        refine wpAnyH_ready (rs := [4]) (by kernel_rfl) (by simp) ?_
        refine (AllReadyH.cons (o := ⟨some 18, _, _, _, _, _⟩) rfl (fun K hK => ?_) AllReadyH.nil)
        rw [if_pos (by rfl)]
        refine ow_of_wl (ops := #[]) (by rfl) ?_
        refine wl_loadE rfl rfl rfl ?_
        refine ⟨_, Loads.at [_] hB2 rfl, ?_⟩
        refine q0_nil ?_
        refine hK.out _ _ ?_ (fun hHeld => ?_)
        · exact trivial
        clear hK K
        (try simp only [Act.put, List.setIfInBounds_toArray, List.set_cons_zero, List.set_cons_succ])
        refine wpAnyH_ready (rs := [11]) (by kernel_rfl) (by simp) ?_
        refine (AllReadyH.cons (o := ⟨some 25, _, _, _, _, _⟩) rfl (fun K hK => ?_) AllReadyH.nil)
        rw [if_pos (by rfl)]
        refine ow_of_wl (ops := #[]) (by rfl) ?_
        apply wl_appP [_, _] hB2
        rfl
        rfl
        exact rfl
        exact rfl
        infer_instance
        infer_instance
        infer_instance
        infer_instance
        exact (Rd.blk0 hB2 rfl (by decide))
        exact rfl
        rfl
        exact isB_one _
        (unfold maxLen; omega)
        intro v9 w6 hB3 _
        obtain ⟨vo, vc, rfl⟩ := rowP_at [_, _] hB3
        refine q0_nil ?_
        refine hK.out _ _ ?_ (fun hHeld => ?_)
        · exact trivial
        clear hK K
        (try simp only [Act.put, List.setIfInBounds_toArray, List.set_cons_zero, List.set_cons_succ])
        refine tk 12 26 ?_
        (try simp only [Act.put, List.setIfInBounds_toArray, List.set_cons_zero, List.set_cons_succ])
        refine tk 13 27 ?_
        (try simp only [Act.put, List.setIfInBounds_toArray, List.set_cons_zero, List.set_cons_succ])
        refine wpAnyH_ready (rs := [14]) (by kernel_rfl) (by simp) ?_
        refine (AllReadyH.cons (o := ⟨none, _, _, _, _, _⟩) rfl (fun K hK => ?_) AllReadyH.nil)
        rw [if_pos (by rfl)]
        refine ow_of_wl (ops := #[]) (by rfl) ?_
        refine wl_store [_] hB3 rfl rfl rfl (v := .slice _ _ _) rfl rfl rfl (by show (0 : Nat) + 1 ≤ 1; decide) ?_
        intro w7 hB4
        refine q0_nil ?_
        refine hK.out _ _ ?_ (fun hHeld => ?_)
        · exact trivial
        clear hK K
        (try simp only [Act.put, List.setIfInBounds_toArray, List.set_cons_zero, List.set_cons_succ])
        refine wpAnyH_done (by kernel_rfl) ?_ _
        clear hHeld
        have h5 : St w0 M w7 (.blk gw 77 [.slice vo (m + (k - j) + 1) vc] :: .rowP isB (.slice vo (m + (k - j) + 1) vc) 5 1 (m + (k - j) + 1) (bytesV (B ++ (numB z k).take (k - j)) ++ [.int .u8 (z / 2 ^ (8 * (j - 1)) % 256)]) :: R) := St.sub hB4 (List.sublist_cons_self _ _)
        clear hB4
        rw [byteV, show m + (k - j) + 1 = m + (k - (j - 1)) by omega] at h5
        have e9 : bytesV (B ++ (numB z k).take (k - (j - 1))) = bytesV (B ++ (numB z k).take (k - j)) ++ [.int .u8 (byteAt z (j - 1)).toNat] := by
          rw [show k - (j - 1) = (k - j) + 1 by omega, numB_take _ _ _ (by omega), ← List.append_assoc, bytesV_append _ [_], show k - 1 - (k - j) = j - 1 by omega]
          rfl
        rw [← e9] at h5
        clear e9
        go_wp2_with (first | go_big_skip | go_big_guard | fail)
        go_roundw
        case rel => exact ⟨j - 1, _, by omega, by go_num, h5⟩
        case measure => simp [intOf]; omega
    · have hj0 : j = 0 := by omega
      subst hj0
      go_wp2_with (first | go_big_skip | go_big_guard | fail)
      go_ret
      exact ⟨rfl, wv, by simpa [length_numB, List.take_of_length_le] using hst⟩
theorem wraw_w {w0 w : World} {M : List Nat} {R : List HA} {gw m n : Nat} {wv bv : Value} {B bs : List UInt8} (hS : St w0 M w (.blk gw 77 [wv] :: .rowP isB wv 5 1 m (bytesV B) :: R)) (hb : Rd w bv 1 n (bytesV bs)) (hm : m ≤ 100000) (hn : n ≤ 100000) :
    Calls Try.prog 42 #[.pointer (some ⟨gw, 0, none⟩), bv] w fun e w' => e = .returned (.pointer (some ⟨gw, 0, none⟩)) ∧ ∃ wv', St w0 M w' (.blk gw 77 [wv'] :: .rowP isB wv' 5 1 (m + n) (bytesV (B ++ bs)) :: R) := by
  have hst := hS
  have HB := hid hb
  clear hS hb
  go_enter Try.func42, Try.ntmps42
  go_wp2_with (first | go_big_skip | go_big_guard | (refine wl_loadE rfl rfl rfl ?_; refine ⟨_, Loads.at [] hst rfl, ?_⟩) | (apply wl_appP [_] hst; rfl; rfl; exact rfl; exact rfl; infer_instance; infer_instance; infer_instance; infer_instance; exact HB.out; exact ones_bytesV _; rfl; exact isB_bytes _; (unfold maxLen; omega); intro v9 w6 hst3 _; obtain ⟨vo, vc, rfl⟩ := rowP_at [_] hst3; clear hst) | (refine wl_store [] hst3 rfl rfl rfl (v := .slice _ _ _) rfl rfl rfl (by show (0 : Nat) + 1 ≤ 1; decide) ?_; intro w7 hst4; clear hst3))
  go_ret
  exact ⟨rfl, _, by rw [bytesV_append]; exact hst4⟩
end Go.Proofs.Ytkpkaoiafppimaa
namespace Go.Proofs.Ytkpkaoiafppimaa
set_option linter.unusedVariables false
set_option linter.unusedSimpArgs false
open Go.RowKit Hp
attribute [local irreducible] Go.Calls Go.wpList
set_option maxRecDepth 100000
set_option maxHeartbeats 4000000
attribute [local go_sem ↓] heldInt heldBool heldBytes
/-- A reader, as cells: the bytes, how far it has come, whether they ended within a field. -/
def rdC (bv : Value) (s : GS) : List Value := [bv, .int .i64 (s.pos : Int), .bool s.short]
theorem graw_was {w0 w : World} {R : List HA} {gr : Nat} (ao : Option Addr) (N c : Nat) (p n : Int) (hS : St w0 [] w (.blk gr 62 [.slice ao N c, .int .i64 p, .bool true] :: R))  :
    Calls Try.prog 63 #[.pointer (some ⟨gr, 0, none⟩), .int .i64 n] w fun e w' => e = .returned (.slice none 0 0) ∧ St w0 [] w' (.blk gr 62 [.slice ao N c, .int .i64 p, .bool true] :: R) := by
  have hst := hS
  clear hS
  go_enter Try.func63, Try.ntmps63
  go_wp2_with (first | go_big_skip | go_big_guard | fail)
  have hX := hst.drew
  clear hst
  refine wp_region_held_drew (S := (fun w' => (loadVarH 22 ⟨gr, 0, none⟩).run Try.prog w' = .ok (.slice ao N c) w' ∧ (loadVarH 3 ⟨gr, 1, none⟩).run Try.prog w' = .ok (.int .i64 p) w' ∧ (loadVarH 4 ⟨gr, 2, none⟩).run Try.prog w' = .ok (.bool true) w')) (by kernel_rfl) (by exact ⟨ldS [] hX rfl, ldS [] hX rfl, ldS [] hX rfl⟩) (fun hHeld => ?_)
  refine tk 0 5 ?_
  (try simp only [Act.put, List.setIfInBounds_toArray, List.set_cons_zero, List.set_cons_succ])
  refine tk 1 6 ?_
  (try simp only [Act.put, List.setIfInBounds_toArray, List.set_cons_zero, List.set_cons_succ])
  refine tk 2 7 ?_
  (try simp only [Act.put, List.setIfInBounds_toArray, List.set_cons_zero, List.set_cons_succ])
  refine tk 3 8 ?_
  (try simp only [Act.put, List.setIfInBounds_toArray, List.set_cons_zero, List.set_cons_succ])
  refine tk 4 9 ?_
  (try simp only [Act.put, List.setIfInBounds_toArray, List.set_cons_zero, List.set_cons_succ])
  refine wpAnyH_take (i := 5) (oi := ⟨some 10, _, _, _, _, _⟩) (v := undef) rfl (by kernel_rfl) (by kernel_rfl) (by kernel_rfl) (fun _ _ _ h => h) (Or.inr ⟨by rfl, rfl⟩) (by assumption) ?_
  (try simp only [Act.put, List.setIfInBounds_toArray, List.set_cons_zero, List.set_cons_succ])
  refine wpAnyH_take (i := 6) (oi := ⟨some 11, _, _, _, _, _⟩) (v := undef) rfl (by kernel_rfl) (by kernel_rfl) (by kernel_rfl) (fun _ _ _ h => h) (Or.inr ⟨by rfl, rfl⟩) (by assumption) ?_
  (try simp only [Act.put, List.setIfInBounds_toArray, List.set_cons_zero, List.set_cons_succ])
  refine wpAnyH_take (i := 11) (oi := ⟨some 16, _, _, _, _, _⟩) (v := undef) rfl (by kernel_rfl) (by kernel_rfl) (by kernel_rfl) (fun _ _ _ h => h) (Or.inr ⟨by rfl, rfl⟩) (by assumption) ?_
  (try simp only [Act.put, List.setIfInBounds_toArray, List.set_cons_zero, List.set_cons_succ])
  refine wpAnyH_take (i := 7) (oi := ⟨some 12, _, _, _, _, _⟩) (v := undef) rfl (by kernel_rfl) (by kernel_rfl) (by kernel_rfl) (fun _ _ _ h => h) (Or.inr ⟨by rfl, rfl⟩) (by assumption) ?_
  (try simp only [Act.put, List.setIfInBounds_toArray, List.set_cons_zero, List.set_cons_succ])
  refine wpAnyH_take (i := 12) (oi := ⟨some 17, _, _, _, _, _⟩) (v := undef) rfl (by kernel_rfl) (by kernel_rfl) (by kernel_rfl) (fun _ _ _ h => h) (Or.inr ⟨by rfl, rfl⟩) (by assumption) ?_
  (try simp only [Act.put, List.setIfInBounds_toArray, List.set_cons_zero, List.set_cons_succ])
  refine wpAnyH_take (i := 8) (oi := ⟨some 13, _, _, _, _, _⟩) (v := undef) rfl (by kernel_rfl) (by kernel_rfl) (by kernel_rfl) (fun _ _ _ h => h) (Or.inr ⟨by rfl, rfl⟩) (by assumption) ?_
  (try simp only [Act.put, List.setIfInBounds_toArray, List.set_cons_zero, List.set_cons_succ])
  refine wpAnyH_take (i := 13) (oi := ⟨some 18, _, _, _, _, _⟩) (v := undef) rfl (by kernel_rfl) (by kernel_rfl) (by kernel_rfl) (fun _ _ _ h => h) (Or.inr ⟨by rfl, rfl⟩) (by assumption) ?_
  (try simp only [Act.put, List.setIfInBounds_toArray, List.set_cons_zero, List.set_cons_succ])
  refine wpAnyH_take (i := 9) (oi := ⟨some 14, _, _, _, _, _⟩) (v := undef) rfl (by kernel_rfl) (by kernel_rfl) (by kernel_rfl) (fun _ _ _ h => h) (Or.inr ⟨by rfl, rfl⟩) (by assumption) ?_
  (try simp only [Act.put, List.setIfInBounds_toArray, List.set_cons_zero, List.set_cons_succ])
  refine wpAnyH_take (i := 14) (oi := ⟨some 19, _, _, _, _, _⟩) (v := undef) rfl (by kernel_rfl) (by kernel_rfl) (by kernel_rfl) (fun _ _ _ h => h) (Or.inr ⟨by rfl, rfl⟩) (by assumption) ?_
  (try simp only [Act.put, List.setIfInBounds_toArray, List.set_cons_zero, List.set_cons_succ])
  refine wpAnyH_take (i := 10) (oi := ⟨some 15, _, _, _, _, _⟩) (v := undef) rfl (by kernel_rfl) (by kernel_rfl) (by kernel_rfl) (fun _ _ _ h => h) (Or.inr ⟨by rfl, rfl⟩) (by assumption) ?_
  (try simp only [Act.put, List.setIfInBounds_toArray, List.set_cons_zero, List.set_cons_succ])
  refine wpAnyH_take (i := 15) (oi := ⟨some 20, _, _, _, _, _⟩) (v := undef) rfl (by kernel_rfl) (by kernel_rfl) (by kernel_rfl) (fun _ _ _ h => h) (Or.inr ⟨by rfl, rfl⟩) (by assumption) ?_
  (try simp only [Act.put, List.setIfInBounds_toArray, List.set_cons_zero, List.set_cons_succ])
  refine wpAnyH_take (i := 16) (oi := ⟨some 21, _, _, _, _, _⟩) (v := undef) rfl (by kernel_rfl) (by kernel_rfl) (by kernel_rfl) (fun _ _ _ h => h) (Or.inr ⟨by rfl, rfl⟩) (by assumption) ?_
  (try simp only [Act.put, List.setIfInBounds_toArray, List.set_cons_zero, List.set_cons_succ])
  refine tk 17 22 ?_
  (try simp only [Act.put, List.setIfInBounds_toArray, List.set_cons_zero, List.set_cons_succ])
  refine wpAnyH_done (by kernel_rfl) ?_ _
  clear hHeld
  go_wp2_with (first | go_big_skip | go_big_guard | (refine wl_store [] hX rfl rfl rfl (v := .bool true) rfl rfl rfl (by show (2 : Nat) + 1 ≤ 3; decide) ?_; intro w7 hst7; clear hX))
  go_ret
  exact ⟨rfl, hst7⟩
theorem graw_ends {w0 w : World} {R : List HA} {gr : Nat} (ao : Option Addr) (N c p n : Nat) (hS : St w0 [] w (.blk gr 62 [.slice ao N c, .int .i64 p, .bool false] :: R)) (hp : p ≤ N) (hN : N ≤ 100000) (hn : n ≤ 100000) (hs : N < p + n) :
    Calls Try.prog 63 #[.pointer (some ⟨gr, 0, none⟩), .int .i64 n] w fun e w' => e = .returned (.slice none 0 0) ∧ St w0 [] w' (.blk gr 62 [.slice ao N c, .int .i64 p, .bool true] :: R) := by
  have hst := hS
  clear hS
  have z1 : IntKind.i64.wrap ((N : Int) - (p : Int)) = (N : Int) - (p : Int) := IntWalk.i64_in _ (by omega)
  have d1 : decide ((n : Int) > (N : Int) - (p : Int)) = true := decide_eq_true (by omega)
  have d2 : decide ((N : Int) - (p : Int) < (n : Int)) = true := d1
  go_enter Try.func63, Try.ntmps63
  go_wp2_with (first | go_big_skip | go_big_guard | fail)
  have hX := hst.drew
  clear hst
  refine wp_region_held_drew (S := (fun w' => (loadVarH 22 ⟨gr, 0, none⟩).run Try.prog w' = .ok (.slice ao N c) w' ∧ (loadVarH 3 ⟨gr, 1, none⟩).run Try.prog w' = .ok (.int .i64 p) w' ∧ (loadVarH 4 ⟨gr, 2, none⟩).run Try.prog w' = .ok (.bool false) w')) (by kernel_rfl) (by exact ⟨ldS [] hX rfl, ldS [] hX rfl, ldS [] hX rfl⟩) (fun hHeld => ?_)
  refine tk 0 5 ?_
  (try simp only [Act.put, List.setIfInBounds_toArray, List.set_cons_zero, List.set_cons_succ])
  refine tk 1 6 ?_
  (try simp only [Act.put, List.setIfInBounds_toArray, List.set_cons_zero, List.set_cons_succ])
  refine tk 2 7 ?_
  (try simp only [Act.put, List.setIfInBounds_toArray, List.set_cons_zero, List.set_cons_succ])
  refine tk 3 8 ?_
  (try simp only [Act.put, List.setIfInBounds_toArray, List.set_cons_zero, List.set_cons_succ])
  refine tk 4 9 ?_
  (try simp only [Act.put, List.setIfInBounds_toArray, List.set_cons_zero, List.set_cons_succ])
  refine tk 5 10 ?_
  (try simp only [Act.put, List.setIfInBounds_toArray, List.set_cons_zero, List.set_cons_succ])
  refine tk 6 11 ?_
  (try simp only [Act.put, List.setIfInBounds_toArray, List.set_cons_zero, List.set_cons_succ])
  refine tk 11 16 ?_
  (try simp only [Act.put, List.setIfInBounds_toArray, List.set_cons_zero, List.set_cons_succ])
  refine tk 7 12 ?_
  (try simp only [Act.put, List.setIfInBounds_toArray, List.set_cons_zero, List.set_cons_succ])
  refine tk 12 17 ?_
  (try simp only [Act.put, List.setIfInBounds_toArray, List.set_cons_zero, List.set_cons_succ])
  refine tk 8 13 ?_
  (try simp only [Act.put, List.setIfInBounds_toArray, List.set_cons_zero, List.set_cons_succ])
  refine tk 13 18 ?_
  (try simp only [Act.put, List.setIfInBounds_toArray, List.set_cons_zero, List.set_cons_succ])
  refine tk 9 14 ?_
  (try simp only [Act.put, List.setIfInBounds_toArray, List.set_cons_zero, List.set_cons_succ])
  refine tk 14 19 ?_
  (try simp only [Act.put, List.setIfInBounds_toArray, List.set_cons_zero, List.set_cons_succ])
  refine tk 10 15 ?_
  (try simp only [Act.put, List.setIfInBounds_toArray, List.set_cons_zero, List.set_cons_succ])
  refine tk 15 20 ?_
  (try simp only [Act.put, List.setIfInBounds_toArray, List.set_cons_zero, List.set_cons_succ])
  refine tk 16 21 ?_
  (try simp only [Act.put, List.setIfInBounds_toArray, List.set_cons_zero, List.set_cons_succ])
  refine tk 17 22 ?_
  (try simp only [Act.put, List.setIfInBounds_toArray, List.set_cons_zero, List.set_cons_succ])
  refine wpAnyH_done (by kernel_rfl) ?_ _
  clear hHeld
  go_wp2_with (first | go_big_skip | go_big_guard | (refine wl_store [] hX rfl rfl rfl (v := .bool true) rfl rfl rfl (by show (2 : Nat) + 1 ≤ 3; decide) ?_; intro w7 hst7; clear hX))
  go_ret
  exact ⟨rfl, hst7⟩
theorem graw_nil {w0 w : World} {R : List HA} {gr : Nat}  (hS : St w0 [] w (.blk gr 62 [.slice none 0 0, .int .i64 0, .bool false] :: R))  :
    Calls Try.prog 63 #[.pointer (some ⟨gr, 0, none⟩), .int .i64 0] w fun e w' => e = .returned (.slice none 0 0) ∧ St w0 [] w' (.blk gr 62 [.slice none 0 0, .int .i64 0, .bool false] :: R) := by
  have hst := hS
  clear hS
  have zw : IntKind.i64.wrap 0 = 0 := rfl
  go_enter Try.func63, Try.ntmps63
  go_wp2_with (first | go_big_skip | go_big_guard | fail)
  have hX := hst.drew
  clear hst
  refine wp_region_held_drew (S := (fun w' => (loadVarH 22 ⟨gr, 0, none⟩).run Try.prog w' = .ok (.slice none 0 0) w' ∧ (loadVarH 3 ⟨gr, 1, none⟩).run Try.prog w' = .ok (.int .i64 0) w' ∧ (loadVarH 4 ⟨gr, 2, none⟩).run Try.prog w' = .ok (.bool false) w')) (by kernel_rfl) (by exact ⟨ldS [] hX rfl, ldS [] hX rfl, ldS [] hX rfl⟩) (fun hHeld => ?_)
  refine tk 0 5 ?_
  (try simp only [Act.put, List.setIfInBounds_toArray, List.set_cons_zero, List.set_cons_succ])
  refine tk 1 6 ?_
  (try simp only [Act.put, List.setIfInBounds_toArray, List.set_cons_zero, List.set_cons_succ])
  refine tk 2 7 ?_
  (try simp only [Act.put, List.setIfInBounds_toArray, List.set_cons_zero, List.set_cons_succ])
  refine tk 3 8 ?_
  (try simp only [Act.put, List.setIfInBounds_toArray, List.set_cons_zero, List.set_cons_succ])
  refine tk 4 9 ?_
  (try simp only [Act.put, List.setIfInBounds_toArray, List.set_cons_zero, List.set_cons_succ])
  refine tk 5 10 ?_
  (try simp only [Act.put, List.setIfInBounds_toArray, List.set_cons_zero, List.set_cons_succ])
  refine tk 6 11 ?_
  (try simp only [Act.put, List.setIfInBounds_toArray, List.set_cons_zero, List.set_cons_succ])
  refine tk 11 16 ?_
  (try simp only [Act.put, List.setIfInBounds_toArray, List.set_cons_zero, List.set_cons_succ])
  refine tk 7 12 ?_
  (try simp only [Act.put, List.setIfInBounds_toArray, List.set_cons_zero, List.set_cons_succ])
  refine tk 12 17 ?_
  (try simp only [Act.put, List.setIfInBounds_toArray, List.set_cons_zero, List.set_cons_succ])
  refine tk 8 13 ?_
  (try simp only [Act.put, List.setIfInBounds_toArray, List.set_cons_zero, List.set_cons_succ])
  refine tk 13 18 ?_
  (try simp only [Act.put, List.setIfInBounds_toArray, List.set_cons_zero, List.set_cons_succ])
  refine tk 9 14 ?_
  (try simp only [Act.put, List.setIfInBounds_toArray, List.set_cons_zero, List.set_cons_succ])
  refine tk 14 19 ?_
  (try simp only [Act.put, List.setIfInBounds_toArray, List.set_cons_zero, List.set_cons_succ])
  refine tk 10 15 ?_
  (try simp only [Act.put, List.setIfInBounds_toArray, List.set_cons_zero, List.set_cons_succ])
  refine tk 15 20 ?_
  (try simp only [Act.put, List.setIfInBounds_toArray, List.set_cons_zero, List.set_cons_succ])
  refine tk 16 21 ?_
  (try simp only [Act.put, List.setIfInBounds_toArray, List.set_cons_zero, List.set_cons_succ])
  refine tk 17 22 ?_
  (try simp only [Act.put, List.setIfInBounds_toArray, List.set_cons_zero, List.set_cons_succ])
  refine wpAnyH_done (by kernel_rfl) ?_ _
  clear hHeld
  go_wp2_with (first | go_big_skip | go_big_guard | (refine wl_loadE rfl rfl rfl ?_; first | refine ⟨_, Loads.at [] hX rfl, ?_⟩) | (refine wl_store [] hX rfl rfl rfl (v := .int .i64 0) rfl rfl rfl (by show (1 : Nat) + 1 ≤ 3; decide) ?_; intro w7 hst7; clear hX))
  have hst8 : St w0 [] w7 (.blk gr 62 [.slice none 0 0, .int .i64 0, .bool false] :: R) := hst7
  clear hst7
  have hY := hst8.drew
  clear hst8
  refine wp_region_held_drew (S := (fun w' => (loadVarH 22 ⟨gr, 0, none⟩).run Try.prog w' = .ok (.slice none 0 0) w' ∧ (loadVarH 3 ⟨gr, 1, none⟩).run Try.prog w' = .ok (.int .i64 0) w' ∧ (loadVarH 4 ⟨gr, 2, none⟩).run Try.prog w' = .ok (.bool false) w')) (by kernel_rfl) (by exact ⟨ldS [] hY rfl, ldS [] hY rfl, ldS [] hY rfl⟩) (fun hHeld => ?_)
  refine tk 0 34 ?_
  (try simp only [Act.put, List.setIfInBounds_toArray, List.set_cons_zero, List.set_cons_succ])
  refine tk 4 38 ?_
  (try simp only [Act.put, List.setIfInBounds_toArray, List.set_cons_zero, List.set_cons_succ])
  refine tk 8 42 ?_
  (try simp only [Act.put, List.setIfInBounds_toArray, List.set_cons_zero, List.set_cons_succ])
  refine tk 10 44 ?_
  (try simp only [Act.put, List.setIfInBounds_toArray, List.set_cons_zero, List.set_cons_succ])
  refine tk 1 35 ?_
  (try simp only [Act.put, List.setIfInBounds_toArray, List.set_cons_zero, List.set_cons_succ])
  refine tk 5 39 ?_
  (try simp only [Act.put, List.setIfInBounds_toArray, List.set_cons_zero, List.set_cons_succ])
  refine tk 11 45 ?_
  (try simp only [Act.put, List.setIfInBounds_toArray, List.set_cons_zero, List.set_cons_succ])
  refine tk 2 36 ?_
  (try simp only [Act.put, List.setIfInBounds_toArray, List.set_cons_zero, List.set_cons_succ])
  refine tk 6 40 ?_
  (try simp only [Act.put, List.setIfInBounds_toArray, List.set_cons_zero, List.set_cons_succ])
  refine tk 12 46 ?_
  (try simp only [Act.put, List.setIfInBounds_toArray, List.set_cons_zero, List.set_cons_succ])
  refine tk 3 37 ?_
  (try simp only [Act.put, List.setIfInBounds_toArray, List.set_cons_zero, List.set_cons_succ])
  refine tk 7 41 ?_
  (try simp only [Act.put, List.setIfInBounds_toArray, List.set_cons_zero, List.set_cons_succ])
  refine tk 13 47 ?_
  (try simp only [Act.put, List.setIfInBounds_toArray, List.set_cons_zero, List.set_cons_succ])
  refine tk 9 43 ?_
  (try simp only [Act.put, List.setIfInBounds_toArray, List.set_cons_zero, List.set_cons_succ])
  refine tk 14 48 ?_
  (try simp only [Act.put, List.setIfInBounds_toArray, List.set_cons_zero, List.set_cons_succ])
  refine tk 15 4 ?_
  (try simp only [Act.put, List.setIfInBounds_toArray, List.set_cons_zero, List.set_cons_succ])
  refine wpAnyH_done (by kernel_rfl) ?_ _
  clear hHeld
  go_wp2_with (first | go_big_skip | go_big_guard | fail)
  go_ret
  exact ⟨rfl, hY⟩
theorem graw_end {w0 w : World} {R : List HA} {gr : Nat} (AA : Addr) (N c : Nat) (hS : St w0 [] w (.blk gr 62 [.slice (some AA) N c, .int .i64 (c : Int), .bool false] :: R)) (hp : c ≤ N) (hN : N ≤ 100000) :
    Calls Try.prog 63 #[.pointer (some ⟨gr, 0, none⟩), .int .i64 0] w fun e w' => e = .returned (.slice (some AA) 0 0) ∧ St w0 [] w' (.blk gr 62 [.slice (some AA) N c, .int .i64 (c : Int), .bool false] :: R) := by
  have hst := hS
  clear hS
  have z0 : IntKind.i64.wrap (c : Int) = (c : Int) := IntWalk.i64_in _ (by omega)
  have z1 : IntKind.i64.wrap ((N : Int) - (c : Int)) = (N : Int) - (c : Int) := IntWalk.i64_in _ (by omega)
  have d1 : decide ((0 : Int) > (N : Int) - (c : Int)) = false := decide_eq_false (by omega)
  have d2 : decide ((N : Int) - (c : Int) < (0 : Int)) = false := d1
  have d3 : decide ((N : Int) < (c : Int)) = false := decide_eq_false (by omega)
  have d4 : decide (N < c) = false := decide_eq_false (by omega)
  have n1 : (c : Int).toNat = c := by omega
  have n5 : 0 ≤ (c : Int) := by omega
  have n8 : (c : Int) ≤ (c : Int) := Int.le_refl _
  have zp0 : IntKind.i64.wrap ((c : Int) + 0) = (c : Int) := by rw [Int.add_zero]; exact z0
  have zp1 : IntKind.i64.wrap ((c : Int) - 0) = (c : Int) := by rw [Int.sub_zero]; exact z0
  go_enter Try.func63, Try.ntmps63
  go_wp2_with (first | go_big_skip | go_big_guard | fail)
  have hX := hst.drew
  clear hst
  refine wp_region_held_drew (S := (fun w' => (loadVarH 22 ⟨gr, 0, none⟩).run Try.prog w' = .ok (.slice (some AA) N c) w' ∧ (loadVarH 3 ⟨gr, 1, none⟩).run Try.prog w' = .ok (.int .i64 (c : Int)) w' ∧ (loadVarH 4 ⟨gr, 2, none⟩).run Try.prog w' = .ok (.bool false) w')) (by kernel_rfl) (by exact ⟨ldS [] hX rfl, ldS [] hX rfl, ldS [] hX rfl⟩) (fun hHeld => ?_)
  refine tk 0 5 ?_
  (try simp only [Act.put, List.setIfInBounds_toArray, List.set_cons_zero, List.set_cons_succ])
  refine tk 1 6 ?_
  (try simp only [Act.put, List.setIfInBounds_toArray, List.set_cons_zero, List.set_cons_succ])
  refine tk 2 7 ?_
  (try simp only [Act.put, List.setIfInBounds_toArray, List.set_cons_zero, List.set_cons_succ])
  refine tk 3 8 ?_
  (try simp only [Act.put, List.setIfInBounds_toArray, List.set_cons_zero, List.set_cons_succ])
  refine tk 4 9 ?_
  (try simp only [Act.put, List.setIfInBounds_toArray, List.set_cons_zero, List.set_cons_succ])
  refine tk 5 10 ?_
  (try simp only [Act.put, List.setIfInBounds_toArray, List.set_cons_zero, List.set_cons_succ])
  refine tk 6 11 ?_
  (try simp only [Act.put, List.setIfInBounds_toArray, List.set_cons_zero, List.set_cons_succ])
  refine tk 11 16 ?_
  (try simp only [Act.put, List.setIfInBounds_toArray, List.set_cons_zero, List.set_cons_succ])
  refine tk 7 12 ?_
  (try simp only [Act.put, List.setIfInBounds_toArray, List.set_cons_zero, List.set_cons_succ])
  refine tk 12 17 ?_
  (try simp only [Act.put, List.setIfInBounds_toArray, List.set_cons_zero, List.set_cons_succ])
  refine tk 8 13 ?_
  (try simp only [Act.put, List.setIfInBounds_toArray, List.set_cons_zero, List.set_cons_succ])
  refine tk 13 18 ?_
  (try simp only [Act.put, List.setIfInBounds_toArray, List.set_cons_zero, List.set_cons_succ])
  refine tk 9 14 ?_
  (try simp only [Act.put, List.setIfInBounds_toArray, List.set_cons_zero, List.set_cons_succ])
  refine tk 14 19 ?_
  (try simp only [Act.put, List.setIfInBounds_toArray, List.set_cons_zero, List.set_cons_succ])
  refine tk 10 15 ?_
  (try simp only [Act.put, List.setIfInBounds_toArray, List.set_cons_zero, List.set_cons_succ])
  refine tk 15 20 ?_
  (try simp only [Act.put, List.setIfInBounds_toArray, List.set_cons_zero, List.set_cons_succ])
  refine tk 16 21 ?_
  (try simp only [Act.put, List.setIfInBounds_toArray, List.set_cons_zero, List.set_cons_succ])
  refine tk 17 22 ?_
  (try simp only [Act.put, List.setIfInBounds_toArray, List.set_cons_zero, List.set_cons_succ])
  refine wpAnyH_done (by kernel_rfl) ?_ _
  clear hHeld
  go_wp2_with (first | go_big_skip | go_big_guard | (refine wl_loadE rfl rfl rfl ?_; first | refine ⟨_, Loads.at [] hX rfl, ?_⟩) | (refine wl_store [] hX rfl rfl rfl (v := .int .i64 (c : Int)) rfl rfl rfl (by show (1 : Nat) + 1 ≤ 3; decide) ?_; intro w7 hst7; clear hX))
  have hst8 : St w0 [] w7 (.blk gr 62 [.slice (some AA) N c, .int .i64 (c : Int), .bool false] :: R) := hst7
  clear hst7
  have hY := hst8.drew
  clear hst8
  refine wp_region_held_drew (S := (fun w' => (loadVarH 22 ⟨gr, 0, none⟩).run Try.prog w' = .ok (.slice (some AA) N c) w' ∧ (loadVarH 3 ⟨gr, 1, none⟩).run Try.prog w' = .ok (.int .i64 (c : Int)) w' ∧ (loadVarH 4 ⟨gr, 2, none⟩).run Try.prog w' = .ok (.bool false) w')) (by kernel_rfl) (by exact ⟨ldS [] hY rfl, ldS [] hY rfl, ldS [] hY rfl⟩) (fun hHeld => ?_)
  refine tk 0 34 ?_
  (try simp only [Act.put, List.setIfInBounds_toArray, List.set_cons_zero, List.set_cons_succ])
  refine tk 4 38 ?_
  (try simp only [Act.put, List.setIfInBounds_toArray, List.set_cons_zero, List.set_cons_succ])
  refine tk 8 42 ?_
  (try simp only [Act.put, List.setIfInBounds_toArray, List.set_cons_zero, List.set_cons_succ])
  refine tk 10 44 ?_
  (try simp only [Act.put, List.setIfInBounds_toArray, List.set_cons_zero, List.set_cons_succ])
  refine tk 1 35 ?_
  (try simp only [Act.put, List.setIfInBounds_toArray, List.set_cons_zero, List.set_cons_succ])
  refine tk 5 39 ?_
  (try simp only [Act.put, List.setIfInBounds_toArray, List.set_cons_zero, List.set_cons_succ])
  refine tk 11 45 ?_
  (try simp only [Act.put, List.setIfInBounds_toArray, List.set_cons_zero, List.set_cons_succ])
  refine tk 2 36 ?_
  (try simp only [Act.put, List.setIfInBounds_toArray, List.set_cons_zero, List.set_cons_succ])
  refine tk 6 40 ?_
  (try simp only [Act.put, List.setIfInBounds_toArray, List.set_cons_zero, List.set_cons_succ])
  refine tk 12 46 ?_
  (try simp only [Act.put, List.setIfInBounds_toArray, List.set_cons_zero, List.set_cons_succ])
  refine tk 3 37 ?_
  (try simp only [Act.put, List.setIfInBounds_toArray, List.set_cons_zero, List.set_cons_succ])
  refine tk 7 41 ?_
  (try simp only [Act.put, List.setIfInBounds_toArray, List.set_cons_zero, List.set_cons_succ])
  refine tk 13 47 ?_
  (try simp only [Act.put, List.setIfInBounds_toArray, List.set_cons_zero, List.set_cons_succ])
  refine tk 9 43 ?_
  (try simp only [Act.put, List.setIfInBounds_toArray, List.set_cons_zero, List.set_cons_succ])
  refine tk 14 48 ?_
  (try simp only [Act.put, List.setIfInBounds_toArray, List.set_cons_zero, List.set_cons_succ])
  refine tk 15 4 ?_
  (try simp only [Act.put, List.setIfInBounds_toArray, List.set_cons_zero, List.set_cons_succ])
  refine wpAnyH_done (by kernel_rfl) ?_ _
  clear hHeld
  go_wp2_with (first | go_big_skip | go_big_guard | fail)
  go_ret
  exact ⟨rfl, hY⟩
theorem graw_ok {w0 w : World} {R : List HA} {gr : Nat} (b off N c p n : Nat) (hS : St w0 [] w (.blk gr 62 [.slice (some ⟨b, off, none⟩) N c, .int .i64 (p : Int), .bool false] :: R)) (hN : N ≤ 100000) (hc : N ≤ c) (hc2 : c ≤ 9223372036854775807) (hs : p + n ≤ N) (hcp : ¬ c = p) :
    Calls Try.prog 63 #[.pointer (some ⟨gr, 0, none⟩), .int .i64 n] w fun e w' => e = .returned (.slice (some ⟨b, off + p, none⟩) n (c - p)) ∧ St w0 [] w' (.blk gr 62 [.slice (some ⟨b, off, none⟩) N c, .int .i64 ((p : Int) + (n : Int)), .bool false] :: R) := by
  have hst := hS
  clear hS
  have z1 : IntKind.i64.wrap ((N : Int) - (p : Int)) = (N : Int) - (p : Int) := IntWalk.i64_in _ (by omega)
  have z2 : IntKind.i64.wrap ((p : Int) + (n : Int)) = (p : Int) + (n : Int) := IntWalk.i64_in _ (by omega)
  have z3 : IntKind.i64.wrap (p : Int) = (p : Int) := IntWalk.i64_in _ (by omega)
  have z4 : IntKind.i64.wrap ((p : Int) + (n : Int) - (n : Int)) = (p : Int) := by rw [show (p : Int) + (n : Int) - (n : Int) = (p : Int) by omega]; exact z3
  have d1 : decide ((n : Int) > (N : Int) - (p : Int)) = false := decide_eq_false (by omega)
  have d2 : decide ((N : Int) - (p : Int) < (n : Int)) = false := d1
  have n1 : (p : Int).toNat = p := by omega
  have n2 : ((p : Int) + (n : Int)).toNat = p + n := by omega
  have n3 : (p : Int) + (n : Int) ≤ (c : Int) := by omega
  have n4 : (p : Int) ≤ (p : Int) + (n : Int) := by omega
  have n5 : 0 ≤ (p : Int) := by omega
  have n6 : 0 ≤ (p : Int) + (n : Int) := by omega
  have n7 : p + n - p = n := by omega
  go_enter Try.func63, Try.ntmps63
  go_wp2_with (first | go_big_skip | go_big_guard | fail)
  have hX := hst.drew
  clear hst
  refine wp_region_held_drew (S := (fun w' => (loadVarH 22 ⟨gr, 0, none⟩).run Try.prog w' = .ok (.slice (some ⟨b, off, none⟩) N c) w' ∧ (loadVarH 3 ⟨gr, 1, none⟩).run Try.prog w' = .ok (.int .i64 (p : Int)) w' ∧ (loadVarH 4 ⟨gr, 2, none⟩).run Try.prog w' = .ok (.bool false) w')) (by kernel_rfl) (by exact ⟨ldS [] hX rfl, ldS [] hX rfl, ldS [] hX rfl⟩) (fun hHeld => ?_)
  refine tk 0 5 ?_
  (try simp only [Act.put, List.setIfInBounds_toArray, List.set_cons_zero, List.set_cons_succ])
  refine tk 1 6 ?_
  (try simp only [Act.put, List.setIfInBounds_toArray, List.set_cons_zero, List.set_cons_succ])
  refine tk 2 7 ?_
  (try simp only [Act.put, List.setIfInBounds_toArray, List.set_cons_zero, List.set_cons_succ])
  refine tk 3 8 ?_
  (try simp only [Act.put, List.setIfInBounds_toArray, List.set_cons_zero, List.set_cons_succ])
  refine tk 4 9 ?_
  (try simp only [Act.put, List.setIfInBounds_toArray, List.set_cons_zero, List.set_cons_succ])
  refine tk 5 10 ?_
  (try simp only [Act.put, List.setIfInBounds_toArray, List.set_cons_zero, List.set_cons_succ])
  refine tk 6 11 ?_
  (try simp only [Act.put, List.setIfInBounds_toArray, List.set_cons_zero, List.set_cons_succ])
  refine tk 11 16 ?_
  (try simp only [Act.put, List.setIfInBounds_toArray, List.set_cons_zero, List.set_cons_succ])
  refine tk 7 12 ?_
  (try simp only [Act.put, List.setIfInBounds_toArray, List.set_cons_zero, List.set_cons_succ])
  refine tk 12 17 ?_
  (try simp only [Act.put, List.setIfInBounds_toArray, List.set_cons_zero, List.set_cons_succ])
  refine tk 8 13 ?_
  (try simp only [Act.put, List.setIfInBounds_toArray, List.set_cons_zero, List.set_cons_succ])
  refine tk 13 18 ?_
  (try simp only [Act.put, List.setIfInBounds_toArray, List.set_cons_zero, List.set_cons_succ])
  refine tk 9 14 ?_
  (try simp only [Act.put, List.setIfInBounds_toArray, List.set_cons_zero, List.set_cons_succ])
  refine tk 14 19 ?_
  (try simp only [Act.put, List.setIfInBounds_toArray, List.set_cons_zero, List.set_cons_succ])
  refine tk 10 15 ?_
  (try simp only [Act.put, List.setIfInBounds_toArray, List.set_cons_zero, List.set_cons_succ])
  refine tk 15 20 ?_
  (try simp only [Act.put, List.setIfInBounds_toArray, List.set_cons_zero, List.set_cons_succ])
  refine tk 16 21 ?_
  (try simp only [Act.put, List.setIfInBounds_toArray, List.set_cons_zero, List.set_cons_succ])
  refine tk 17 22 ?_
  (try simp only [Act.put, List.setIfInBounds_toArray, List.set_cons_zero, List.set_cons_succ])
  refine wpAnyH_done (by kernel_rfl) ?_ _
  clear hHeld
  go_wp2_with (first | go_big_skip | go_big_guard | (refine wl_loadE rfl rfl rfl ?_; first | refine ⟨_, Loads.at [] hX rfl, ?_⟩) | (refine wl_store [] hX rfl rfl rfl (v := .int .i64 ((p : Int) + (n : Int))) rfl rfl rfl (by show (1 : Nat) + 1 ≤ 3; decide) ?_; intro w7 hst7; clear hX))
  have hst8 : St w0 [] w7 (.blk gr 62 [.slice (some ⟨b, off, none⟩) N c, .int .i64 ((p : Int) + (n : Int)), .bool false] :: R) := hst7
  clear hst7
  have hY := hst8.drew
  clear hst8
  refine wp_region_held_drew (S := (fun w' => (loadVarH 22 ⟨gr, 0, none⟩).run Try.prog w' = .ok (.slice (some ⟨b, off, none⟩) N c) w' ∧ (loadVarH 3 ⟨gr, 1, none⟩).run Try.prog w' = .ok (.int .i64 ((p : Int) + (n : Int))) w' ∧ (loadVarH 4 ⟨gr, 2, none⟩).run Try.prog w' = .ok (.bool false) w')) (by kernel_rfl) (by exact ⟨ldS [] hY rfl, ldS [] hY rfl, ldS [] hY rfl⟩) (fun hHeld => ?_)
  refine tk 0 34 ?_
  (try simp only [Act.put, List.setIfInBounds_toArray, List.set_cons_zero, List.set_cons_succ])
  refine tk 4 38 ?_
  (try simp only [Act.put, List.setIfInBounds_toArray, List.set_cons_zero, List.set_cons_succ])
  refine tk 8 42 ?_
  (try simp only [Act.put, List.setIfInBounds_toArray, List.set_cons_zero, List.set_cons_succ])
  refine tk 10 44 ?_
  (try simp only [Act.put, List.setIfInBounds_toArray, List.set_cons_zero, List.set_cons_succ])
  refine tk 1 35 ?_
  (try simp only [Act.put, List.setIfInBounds_toArray, List.set_cons_zero, List.set_cons_succ])
  refine tk 5 39 ?_
  (try simp only [Act.put, List.setIfInBounds_toArray, List.set_cons_zero, List.set_cons_succ])
  refine tk 11 45 ?_
  (try simp only [Act.put, List.setIfInBounds_toArray, List.set_cons_zero, List.set_cons_succ])
  refine tk 2 36 ?_
  (try simp only [Act.put, List.setIfInBounds_toArray, List.set_cons_zero, List.set_cons_succ])
  refine tk 6 40 ?_
  (try simp only [Act.put, List.setIfInBounds_toArray, List.set_cons_zero, List.set_cons_succ])
  refine tk 12 46 ?_
  (try simp only [Act.put, List.setIfInBounds_toArray, List.set_cons_zero, List.set_cons_succ])
  refine tk 3 37 ?_
  (try simp only [Act.put, List.setIfInBounds_toArray, List.set_cons_zero, List.set_cons_succ])
  refine tk 7 41 ?_
  (try simp only [Act.put, List.setIfInBounds_toArray, List.set_cons_zero, List.set_cons_succ])
  refine tk 13 47 ?_
  (try simp only [Act.put, List.setIfInBounds_toArray, List.set_cons_zero, List.set_cons_succ])
  refine tk 9 43 ?_
  (try simp only [Act.put, List.setIfInBounds_toArray, List.set_cons_zero, List.set_cons_succ])
  refine tk 14 48 ?_
  (try simp only [Act.put, List.setIfInBounds_toArray, List.set_cons_zero, List.set_cons_succ])
  refine tk 15 4 ?_
  (try simp only [Act.put, List.setIfInBounds_toArray, List.set_cons_zero, List.set_cons_succ])
  refine wpAnyH_done (by kernel_rfl) ?_ _
  clear hHeld
  go_wp2_with (first | go_big_skip | go_big_guard | fail)
  go_ret
  exact ⟨rfl, hY⟩
theorem graw_any {w0 w : World} {R : List HA} {gr : Nat} (ao : Option Addr) (N c : Nat) (B : List UInt8) (s : GS) (n : Nat) (z : Int) (hz : z = (n : Int)) (hS : St w0 [] w (.blk gr 62 (rdC (.slice ao N c) s) :: R)) (hB : Rd w0 (.slice ao N c) 1 N (bytesV B)) (hL : B.length = N) (hN : N ≤ 100000) (hn : n ≤ 100000) (hp : s.pos ≤ N) :
    Calls Try.prog 63 #[.pointer (some ⟨gr, 0, none⟩), .int .i64 z] w fun e w' => ∃ ao' c', e = .returned (.slice ao' (gotG false B n s).length c') ∧ Rd w0 (.slice ao' (gotG false B n s).length c') 1 (gotG false B n s).length (bytesV (gotG false B n s)) ∧ St w0 [] w' (.blk gr 62 (rdC (.slice ao N c) (s.go N n)) :: R) := by
  subst hz
  obtain ⟨p, sh⟩ := s
  have hp' : p ≤ N := hp
  cases hst : (GS.mk p sh).stop N n with
  | true =>
    have e1 : (GS.mk p sh).go N n = ⟨p, true⟩ := GS.go_stop hst
    have e2 : gotG false B n ⟨p, sh⟩ = [] := by rw [gotG_stop (by rw [hL]; exact hst)]; rfl
    rw [e1, e2]
    cases sh with
    | true => exact (graw_was ao N c p n hS).mono fun e w' ⟨he, h⟩ => ⟨none, 0, he, Rd.nil _ _, h⟩
    | false =>
      have hs : N < p + n := by
        unfold GS.stop at hst
        simpa using hst
      exact (graw_ends ao N c p n hS hp' hN hn hs).mono fun e w' ⟨he, h⟩ => ⟨none, 0, he, Rd.nil _ _, h⟩
  | false =>
    obtain ⟨h0, hs⟩ := GS.stop_yes hst
    have h0' : sh = false := h0
    subst h0'
    have hs' : p + n ≤ N := hs
    have e1 : (GS.mk p false).go N n = ⟨p + n, false⟩ := GS.go_go hst
    have e2 : gotG false B n ⟨p, false⟩ = (B.drop p).take n := gotG_go (by rw [hL]; exact hst)
    have hlen : ((B.drop p).take n).length = n := by rw [List.length_take, List.length_drop]; omega
    rw [e1, e2, hlen]
    rcases hB.casesF with ⟨he, hn0, hb0⟩ | ⟨AA, c', he, hnc9, hcm, _⟩
    · simp only [Value.slice.injEq] at he
      obtain ⟨rfl, rfl, rfl⟩ := he
      have hB0 : B = [] := by simpa [bytesV] using hb0
      subst hB0
      have hp0 : p = 0 := by omega
      have hk0 : n = 0 := by omega
      subst hp0
      subst hk0
      exact (graw_nil hS).mono fun e w' ⟨he, h⟩ => ⟨none, 0, he, Rd.nil _ _, h⟩
    · simp only [Value.slice.injEq, true_and] at he
      obtain ⟨rfl, rfl⟩ := he
      by_cases hcp : c = p
      · subst hcp
        have hk0 : n = 0 := by omega
        subst hk0
        exact (graw_end AA N c hS hp' hN).mono fun e w' ⟨he, h⟩ => ⟨some AA, 0, he, Rd.empty _ _ _, h⟩
      · obtain ⟨b, off, rfl⟩ := hB.addr (by omega)
        unfold maxLen at hcm
        exact (graw_ok b off N c p n hS hN hnc9 hcm hs' hcp).mono fun e w' ⟨he, h⟩ => ⟨_, _, he, Rd.win (m := n) p hB rfl (by omega) (by omega), h⟩
end Go.Proofs.Ytkpkaoiafppimaa
namespace Go.Proofs.Ytkpkaoiafppimaa
set_option linter.unusedVariables false
set_option linter.unusedSimpArgs false
open Go.RowKit Hp
attribute [local irreducible] Go.Calls Go.wpList
set_option maxRecDepth 100000
set_option maxHeartbeats 4000000
theorem gnum_any {w0 w : World} {R : List HA} {gr gx off : Nat} {T : TypeId} {cs : List Value} (ao : Option Addr) (N c : Nat) (B : List UInt8) (s : GS) (n : Nat) (z : Int) (hz : z = (n : Int)) (hS : St w0 [] w (.blk gr 62 (rdC (.slice ao N c) s) :: .blk gx T cs :: R)) (hoff : off + 1 ≤ cs.length) (hB : Rd w0 (.slice ao N c) 1 N (bytesV B)) (hL : B.length = N) (hN : N ≤ 100000) (hn : n ≤ 4) (hp : s.pos ≤ N) :
    Calls Try.prog 32 #[.pointer (some ⟨gr, 0, none⟩), .pointer (some ⟨gx, off, none⟩), .int .i64 z] w fun e w' => e = .returned (.pointer (some ⟨gr, 0, none⟩)) ∧ St w0 [] w' (.blk gr 62 (rdC (.slice ao N c) (s.go N n)) :: .blk gx T (putAt cs off [.int .i64 (numG B n s : Nat)]) :: R) := by
  subst hz
  have hst := hS
  have HB := hid hB
  have HL := hid hL
  have HP := hid hp
  obtain ⟨l, hl⟩ : ∃ l, l = gotG false B n s := ⟨_, rfl⟩
  obtain ⟨m, hm⟩ : ∃ m, m = l.length := ⟨_, rfl⟩
  obtain ⟨q, hq⟩ : ∃ q, q = numG B n s := ⟨_, rfl⟩
  have hm4 : m ≤ 4 := by
    rw [hm, hl]
    unfold gotG
    split
    · simp
    · rw [List.length_take]; omega
  have HLL := hid hl
  have HM := hid hm
  have HQ := hid hq
  have HQ2 := hid (show beN l = q by rw [hq, hl]; rfl)
  rw [← hq]
  clear hS hB hL hp hl hm hq
  go_enter Try.func32, Try.ntmps32
  go_wp2_with (first | go_big_skip | go_big_guard | (go_at_call 63; refine (graw_any ao N c B s n n rfl hst HB.out HL.out hN (by omega) HP.out).mono ?_; rw [← HLL.out, ← HM.out]; rintro _ w3 ⟨ao', c', rfl, hrd, h4⟩; have HRD := hid hrd; have hst2 := h4; clear hrd h4 hst))
  go_loopw [7, 14] (fun v i wr => ∃ j : Nat, j ≤ m ∧ i = .int .i64 (j : Int) ∧ v = .int .i64 (beN (l.take j) : Nat) ∧ St w0 [] wr (.blk gr 62 (rdC (.slice ao N c) (s.go N n)) :: .blk gx T cs :: R)) (fun _ i _ => m - (intOf i).toNat)
  case atStart => exact ⟨0, Nat.zero_le _, rfl, by simp [beN], hst2⟩
  case round =>
    clear hst2
    obtain ⟨j, hj, rfl, rfl, hst⟩ := hrel
    by_cases hlt : j < m
    · have e1 : decide ((j : Int) < (m : Int)) = true := decide_eq_true (by omega)
      have y1 : IntKind.i64.wrap ((j : Int) + 1) = (j : Int) + 1 := IntWalk.i64_in _ (by omega)
      have hjl : j < l.length := by rw [← HM.out]; exact hlt
      obtain ⟨b, o, rfl, hr⟩ := HRD.out.at hlt
      have hx := byte_cell hr (k := j) hjl
      have hsucc := beN_take_succ l j hjl
      have hqlt := beN_lt (l.take j)
      have hq3 : beN (l.take j) < 16777216 := by
        refine Nat.lt_of_lt_of_le hqlt ?_
        have : (l.take j).length ≤ 3 := by rw [List.length_take]; omega
        calc 256 ^ (l.take j).length ≤ 256 ^ 3 := Nat.pow_le_pow_right (by decide) this
          _ = 16777216 := by decide
      obtain ⟨x, hxx⟩ : ∃ x, x = l.getD j 0 := ⟨_, rfl⟩
      rw [← hxx] at hx hsucc
      obtain ⟨q, hqq⟩ : ∃ q, q = beN (l.take j) := ⟨_, rfl⟩
      rw [← hqq] at hsucc hq3
      rw [← hqq]
      have Hs := hid hsucc
      have HX := hid hx
      clear hsucc hqq hxx hqlt hr hjl hx
      have hxb := x.toNat_lt
      have hor := or256 q x.toNat (by omega) (by omega) (by omega) (by omega)
      go_wp2_with (first | go_big_skip | go_big_guard | (refine wl_index rfl rfl rfl rfl hlt ?_) | (refine wl_loadE rfl rfl rfl ?_; first | refine ⟨_, Loads.old hst (by rw [Nat.mul_one]; exact HX.out), ?_⟩))
      go_roundw
      case rel => exact ⟨j + 1, by omega, rfl, by rw [Hs.out]; go_num, hst⟩
      case measure => simp [intOf]; omega
    · have e1 : decide ((j : Int) < (m : Int)) = false := decide_eq_false (by omega)
      have e2 : beN (l.take j) = q := by rw [List.take_of_length_le (by rw [← HM.out]; omega), HQ2.out]
      rw [e2]
      clear e2
      go_wp2_with (first | go_big_skip | go_big_guard | (refine wl_store [_] hst rfl rfl rfl (v := .int .i64 (q : Int)) rfl rfl rfl hoff ?_; intro w7 hst7; clear hst))
      go_ret
      exact ⟨rfl, hst7⟩
end Go.Proofs.Ytkpkaoiafppimaa
namespace Go.Proofs.Ytkpkaoiafppimaa
set_option linter.unusedVariables false
set_option linter.unusedSimpArgs false
open Go.RowKit Hp
attribute [local irreducible] Go.Calls
set_option maxHeartbeats 2000000
theorem loadedI (A : Addr) : loadVar 3 A = loadVarH 3 A := rfl
theorem NV.at_v {x : NV} (h : x.Ln) {k : Nat} (hk : k < 4) : x.cells[1 + k * 35 + 2]? = some (.int .i64 (x.get k).v) := by
  have h1 := NV.at' h hk
  have h2 : ((x.cells.drop (1 + k * 35)).take (x.get k).cells.length)[2]? = (x.get k).cells[2]? := by rw [h1]
  rw [List.getElem?_take_of_lt (by rw [PV.len (h k)]; omega), List.getElem?_drop] at h2
  rw [h2]; rfl
theorem NV.at_sv {x : NV} (h : x.Ln) {k : Nat} (hk : k < 4) : x.cells[1 + k * 35]? = some (x.get k).sv := by
  have h1 := NV.at' h hk
  have h2 : ((x.cells.drop (1 + k * 35)).take (x.get k).cells.length)[0]? = (x.get k).cells[0]? := by rw [h1]
  rw [List.getElem?_take_of_lt (by rw [PV.len (h k)]; omega), List.getElem?_drop, Nat.add_zero] at h2
  rw [h2]; rfl
end Go.Proofs.Ytkpkaoiafppimaa
namespace Go.Proofs.Ytkpkaoiafppimaa
set_option linter.unusedVariables false
set_option linter.unusedSimpArgs false
open Go.RowKit Hp
attribute [local irreducible] Go.Calls
set_option maxHeartbeats 20000000
attribute [local go_sem ↓] loadedP loadedI
theorem NV.err_ok {x : NV} (h : x.ok = true) : x.err = 0 := by simp [NV.err, h]
theorem NV.err_no {x : NV} (h : x.ok = false) : x.err = 2 := by simp [NV.err, h]
theorem NV.ok_lv {x : NV} (h : ¬ (1 ≤ x.lv ∧ x.lv ≤ 3)) : x.ok = false := by simp [NV.ok, h]
theorem NV.ok_fit {x : NV} {k : Nat} (hk : k < 4) (h : (x.get k).fits x.lv = false) : x.ok = false := by
  rw [NV.ok, NV.fitsAll, all4_no (f := fun p => p.fits x.lv) hk h, Bool.and_false]
theorem NV.ok_all {x : NV} (h1 : 1 ≤ x.lv) (h3 : x.lv ≤ 3) (h : ∀ j, j < 4 → (x.get j).fits x.lv = true) : x.ok = true := by
  rw [NV.ok, NV.fitsAll, (all4 (f := fun p => p.fits x.lv)).2 h]
  simp [h1, h3]
end Go.Proofs.Ytkpkaoiafppimaa
