/- A table written over: the verifier's OverTable. -/
import Derived.Test.YtkpkaoiafppimaaJRecordReadse
import Derived.Test.YtkpkaoiafppimaaJRecordReadsc
import Derived.Test.YtkpkaoiafppimaaJRecordReadsb
import Derived.Test.YtkpkaoiafppimaaSepK
import Derived.Test.YtkpkaoiafppimaaJRecordReadsd
import Derived.Test.YtkpkaoiafppimaaJRecordReadsa
import Derived.Test.YtkpkaoiafppimaaSepP
import Derived.Deep.DeepCutAuto
import Derived.Test.YtkpkaoiafppimaaSepQ
namespace Go.Proofs.Ytkpkaoiafppimaa
set_option linter.unusedVariables false
set_option linter.unusedSimpArgs false
open Go.RowKit Hp
attribute [local irreducible] Go.Calls Go.wpList Hp.gvV Hp.gB Hp.gA Hp.bOr Hp.bAnd Hp.bNot PV.same
set_option maxRecDepth 100000
set_option maxHeartbeats 8000000
section
variable {p q : PV} {w : World} (hp : p.In w) (hq : q.In w)
include hp hq
theorem sameP_pv : Calls Try.prog 59 #[.agg p.cells.toArray, .agg q.cells.toArray] w fun e w' => e = .returned (.bool (p.same q)) ∧ St w [] w' [] := by
  obtain ⟨ao, n, c, e, h1, h2⟩ := PV.open hp
  obtain ⟨ao', n', c', e', h1', h2'⟩ := PV.open hq
  rw [e, e', PV.same]
  exact same_any ao ao' n c n' c' p.l q.l p.b p.v q.b q.v p.S q.S w hp.1 hq.1 h1 h2 h1' h2'
theorem refSame_pv : Calls Try.prog 87 #[.agg p.cells.toArray, .agg q.cells.toArray] w fun e w' => e = .returned (.bool (p.same q)) ∧ St w [] w' [] := by
  obtain ⟨ao, n, c, e, h1, h2⟩ := PV.open hp
  obtain ⟨ao', n', c', e', h1', h2'⟩ := PV.open hq
  rw [e, e', PV.same]
  exact refSame_any ao ao' n c n' c' p.l q.l p.b p.v q.b q.v p.S q.S w hp.1 hq.1 h1 h2 h1' h2'
end
theorem sameRec_any (x y : Value × RC) (w : World) (hx : RC.In w x) (hy : RC.In w y) : Calls Try.prog 58 #[.agg (cellsR x).toArray, .agg (cellsR y).toArray] w fun e w' => e = .returned (.bool (x.2.sameB y.2)) ∧ St w [] w' [] := by
  have hst0 := St.refl w
  have HX := hid hx
  have HY := hid hy
  have HLX := hid hx.L
  have HLY := hid hy.L
  have H35x := hid (PV.len (p := x.2.pv x.1) hx.L)
  have H35y := hid (PV.len (p := y.2.pv y.1) hy.L)
  clear hx hy
  go_enter Try.func58, Try.ntmps58
  (try simp only [List.append])
  go_wp2_with (first | go_big_skip | (refine wl_boxA hst0 rfl rfl rfl ?_; intro gx w1 hst1; clear hst0) | (refine wl_boxA hst1 rfl rfl rfl ?_; intro gy w1 hst; clear hst1) | (show wpList _ _ _ (Oper.mk _ (.fieldAddr 47 _ _) _ _ _ (some _) :: _) _ _; refine wl_gfldR rfl (by first | exact wanted_b rfl rfl | exact wanted_g rfl rfl) (by first | exact (fun hg => gvV_on hg) | exact (fun hg => gvV_gA hg) | exact (fun _ => rfl)) rfl ?_; (try simp only [Act.put, List.setIfInBounds_toArray, List.set_cons_zero, List.set_cons_succ])) | (show wpList _ _ _ (Oper.mk _ (.load _ _) _ _ _ (some _) :: _) _ _; refine wl_gloadE rfl (by first | exact wanted_b rfl rfl | exact wanted_g rfl rfl) (by first | exact (fun hg => gvV_on hg) | exact (fun hg => gvV_gA hg) | exact (fun _ => rfl)) ?_; (first | refine ⟨_, Loads.atA ((y.2.pv y.1).cells) [] hst H35y.out (cellsR_root HLY.out), ?_⟩ | refine ⟨_, Loads.at [] hst (cellsR_39 HLY.out), ?_⟩ | refine ⟨_, Loads.at [] hst (cellsR_40 HLY.out), ?_⟩ | refine ⟨_, Loads.at [] hst (cellsR_41 HLY.out), ?_⟩ | refine ⟨_, Loads.at [] hst (cellsR_42 HLY.out), ?_⟩ | refine ⟨_, Loads.at [] hst (cellsR_43 HLY.out), ?_⟩ | refine ⟨_, Loads.at [] hst rfl, ?_⟩ | refine ⟨_, Loads.atA ((x.2.pv x.1).cells) [_] hst H35x.out (cellsR_root HLX.out), ?_⟩ | refine ⟨_, Loads.at [_] hst (cellsR_39 HLX.out), ?_⟩ | refine ⟨_, Loads.at [_] hst (cellsR_40 HLX.out), ?_⟩ | refine ⟨_, Loads.at [_] hst (cellsR_41 HLX.out), ?_⟩ | refine ⟨_, Loads.at [_] hst (cellsR_42 HLX.out), ?_⟩ | refine ⟨_, Loads.at [_] hst (cellsR_43 HLX.out), ?_⟩ | refine ⟨_, Loads.at [_] hst rfl, ?_⟩); (try simp only [Act.put, List.setIfInBounds_toArray, List.set_cons_zero, List.set_cons_succ]); (repeat ((first | (show wpList _ _ _ (Oper.mk _ (.move _) _ _ _ none :: _) _ _; refine wl_mv rfl rfl rfl ?_) | (show wpList _ _ _ (Oper.mk _ (.pick _ _ _) _ _ _ none :: _) _ _; (first | (refine wl_pickOr rfl rfl rfl rfl rfl ?_; intro q hq) | (refine wl_pickAnd rfl rfl rfl rfl rfl ?_; intro q hq))) | (show wpList _ _ _ (Oper.mk _ (.pick _ _ _) _ _ _ (some _) :: _) _ _; (first | (refine wl_gpickOr rfl (by first | exact wanted_b rfl rfl | exact wanted_g rfl rfl) rfl rfl rfl ?_; intro q hq) | (refine wl_gpickAnd rfl (by first | exact wanted_b rfl rfl | exact wanted_g rfl rfl) rfl rfl rfl ?_; intro q hq))) | (show wpList _ _ _ (Oper.mk _ (.move _) _ _ _ (some _) :: _) _ _; refine wl_gmove rfl (by first | exact wanted_b rfl rfl | exact wanted_g rfl rfl) (by first | exact (fun hg => gvV_on hg) | exact (fun hg => gvV_gA hg) | exact (fun _ => rfl)) ?_)); (try simp only [Act.put, List.setIfInBounds_toArray, List.set_cons_zero, List.set_cons_succ])))) | (show wpList _ _ _ (Oper.mk _ (.binOp _ 3 _ _ _) _ _ _ (some _) :: _) _ _; refine wl_gcmp rfl (by first | exact wanted_b rfl rfl | exact wanted_g rfl rfl) (by first | exact (fun hg => gvV_on hg) | exact (fun hg => gvV_gA hg) | exact (fun _ => rfl)) (by first | exact (fun hg => gvV_on hg) | exact (fun hg => gvV_gA hg) | exact (fun _ => rfl)) rfl ?_; (try simp only [Act.put, List.setIfInBounds_toArray, List.set_cons_zero, List.set_cons_succ]); (repeat ((first | (show wpList _ _ _ (Oper.mk _ (.move _) _ _ _ none :: _) _ _; refine wl_mv rfl rfl rfl ?_) | (show wpList _ _ _ (Oper.mk _ (.pick _ _ _) _ _ _ none :: _) _ _; (first | (refine wl_pickOr rfl rfl rfl rfl rfl ?_; intro q hq) | (refine wl_pickAnd rfl rfl rfl rfl rfl ?_; intro q hq))) | (show wpList _ _ _ (Oper.mk _ (.pick _ _ _) _ _ _ (some _) :: _) _ _; (first | (refine wl_gpickOr rfl (by first | exact wanted_b rfl rfl | exact wanted_g rfl rfl) rfl rfl rfl ?_; intro q hq) | (refine wl_gpickAnd rfl (by first | exact wanted_b rfl rfl | exact wanted_g rfl rfl) rfl rfl rfl ?_; intro q hq))) | (show wpList _ _ _ (Oper.mk _ (.move _) _ _ _ (some _) :: _) _ _; refine wl_gmove rfl (by first | exact wanted_b rfl rfl | exact wanted_g rfl rfl) (by first | exact (fun hg => gvV_on hg) | exact (fun hg => gvV_gA hg) | exact (fun _ => rfl)) ?_)); (try simp only [Act.put, List.setIfInBounds_toArray, List.set_cons_zero, List.set_cons_succ])))) | (show wpList _ _ _ (Oper.mk _ (.binOp .neq 9 _ _ _) _ _ _ (some _) :: _) _ _; refine wl_gneqS rfl (by first | exact wanted_b rfl rfl | exact wanted_g rfl rfl) (by first | exact (fun hg => gvV_on hg) | exact (fun hg => gvV_gA hg) | exact (fun _ => rfl)) (by first | exact (fun hg => gvV_on hg) | exact (fun hg => gvV_gA hg) | exact (fun _ => rfl)) ?_; (try simp only [Act.put, List.setIfInBounds_toArray, List.set_cons_zero, List.set_cons_succ]); (repeat ((first | (show wpList _ _ _ (Oper.mk _ (.move _) _ _ _ none :: _) _ _; refine wl_mv rfl rfl rfl ?_) | (show wpList _ _ _ (Oper.mk _ (.pick _ _ _) _ _ _ none :: _) _ _; (first | (refine wl_pickOr rfl rfl rfl rfl rfl ?_; intro q hq) | (refine wl_pickAnd rfl rfl rfl rfl rfl ?_; intro q hq))) | (show wpList _ _ _ (Oper.mk _ (.pick _ _ _) _ _ _ (some _) :: _) _ _; (first | (refine wl_gpickOr rfl (by first | exact wanted_b rfl rfl | exact wanted_g rfl rfl) rfl rfl rfl ?_; intro q hq) | (refine wl_gpickAnd rfl (by first | exact wanted_b rfl rfl | exact wanted_g rfl rfl) rfl rfl rfl ?_; intro q hq))) | (show wpList _ _ _ (Oper.mk _ (.move _) _ _ _ (some _) :: _) _ _; refine wl_gmove rfl (by first | exact wanted_b rfl rfl | exact wanted_g rfl rfl) (by first | exact (fun hg => gvV_on hg) | exact (fun hg => gvV_gA hg) | exact (fun _ => rfl)) ?_)); (try simp only [Act.put, List.setIfInBounds_toArray, List.set_cons_zero, List.set_cons_succ])))) | (show wpList _ _ _ (Oper.mk _ (.binOp .eql 9 _ _ _) _ _ _ (some _) :: _) _ _; refine wl_geqS rfl (by first | exact wanted_b rfl rfl | exact wanted_g rfl rfl) (by first | exact (fun hg => gvV_on hg) | exact (fun hg => gvV_gA hg) | exact (fun _ => rfl)) (by first | exact (fun hg => gvV_on hg) | exact (fun hg => gvV_gA hg) | exact (fun _ => rfl)) ?_; (try simp only [Act.put, List.setIfInBounds_toArray, List.set_cons_zero, List.set_cons_succ]); (repeat ((first | (show wpList _ _ _ (Oper.mk _ (.move _) _ _ _ none :: _) _ _; refine wl_mv rfl rfl rfl ?_) | (show wpList _ _ _ (Oper.mk _ (.pick _ _ _) _ _ _ none :: _) _ _; (first | (refine wl_pickOr rfl rfl rfl rfl rfl ?_; intro q hq) | (refine wl_pickAnd rfl rfl rfl rfl rfl ?_; intro q hq))) | (show wpList _ _ _ (Oper.mk _ (.pick _ _ _) _ _ _ (some _) :: _) _ _; (first | (refine wl_gpickOr rfl (by first | exact wanted_b rfl rfl | exact wanted_g rfl rfl) rfl rfl rfl ?_; intro q hq) | (refine wl_gpickAnd rfl (by first | exact wanted_b rfl rfl | exact wanted_g rfl rfl) rfl rfl rfl ?_; intro q hq))) | (show wpList _ _ _ (Oper.mk _ (.move _) _ _ _ (some _) :: _) _ _; refine wl_gmove rfl (by first | exact wanted_b rfl rfl | exact wanted_g rfl rfl) (by first | exact (fun hg => gvV_on hg) | exact (fun hg => gvV_gA hg) | exact (fun _ => rfl)) ?_)); (try simp only [Act.put, List.setIfInBounds_toArray, List.set_cons_zero, List.set_cons_succ])))) | (show wpList _ _ _ (Oper.mk _ (.binOp .neq 9 _ _ _) _ _ _ none :: _) _ _; refine wl_neqS rfl rfl rfl rfl ?_; (try simp only [Act.put, List.setIfInBounds_toArray, List.set_cons_zero, List.set_cons_succ]); (repeat ((first | (show wpList _ _ _ (Oper.mk _ (.move _) _ _ _ none :: _) _ _; refine wl_mv rfl rfl rfl ?_) | (show wpList _ _ _ (Oper.mk _ (.pick _ _ _) _ _ _ none :: _) _ _; (first | (refine wl_pickOr rfl rfl rfl rfl rfl ?_; intro q hq) | (refine wl_pickAnd rfl rfl rfl rfl rfl ?_; intro q hq))) | (show wpList _ _ _ (Oper.mk _ (.pick _ _ _) _ _ _ (some _) :: _) _ _; (first | (refine wl_gpickOr rfl (by first | exact wanted_b rfl rfl | exact wanted_g rfl rfl) rfl rfl rfl ?_; intro q hq) | (refine wl_gpickAnd rfl (by first | exact wanted_b rfl rfl | exact wanted_g rfl rfl) rfl rfl rfl ?_; intro q hq))) | (show wpList _ _ _ (Oper.mk _ (.move _) _ _ _ (some _) :: _) _ _; refine wl_gmove rfl (by first | exact wanted_b rfl rfl | exact wanted_g rfl rfl) (by first | exact (fun hg => gvV_on hg) | exact (fun hg => gvV_gA hg) | exact (fun _ => rfl)) ?_)); (try simp only [Act.put, List.setIfInBounds_toArray, List.set_cons_zero, List.set_cons_succ])))) | (show wpList _ _ _ (Oper.mk _ (.binOp .eql 9 _ _ _) _ _ _ none :: _) _ _; refine wl_eqS rfl rfl rfl rfl ?_; (try simp only [Act.put, List.setIfInBounds_toArray, List.set_cons_zero, List.set_cons_succ]); (repeat ((first | (show wpList _ _ _ (Oper.mk _ (.move _) _ _ _ none :: _) _ _; refine wl_mv rfl rfl rfl ?_) | (show wpList _ _ _ (Oper.mk _ (.pick _ _ _) _ _ _ none :: _) _ _; (first | (refine wl_pickOr rfl rfl rfl rfl rfl ?_; intro q hq) | (refine wl_pickAnd rfl rfl rfl rfl rfl ?_; intro q hq))) | (show wpList _ _ _ (Oper.mk _ (.pick _ _ _) _ _ _ (some _) :: _) _ _; (first | (refine wl_gpickOr rfl (by first | exact wanted_b rfl rfl | exact wanted_g rfl rfl) rfl rfl rfl ?_; intro q hq) | (refine wl_gpickAnd rfl (by first | exact wanted_b rfl rfl | exact wanted_g rfl rfl) rfl rfl rfl ?_; intro q hq))) | (show wpList _ _ _ (Oper.mk _ (.move _) _ _ _ (some _) :: _) _ _; refine wl_gmove rfl (by first | exact wanted_b rfl rfl | exact wanted_g rfl rfl) (by first | exact (fun hg => gvV_on hg) | exact (fun hg => gvV_gA hg) | exact (fun _ => rfl)) ?_)); (try simp only [Act.put, List.setIfInBounds_toArray, List.set_cons_zero, List.set_cons_succ])))) | (show wpList _ _ _ (Oper.mk _ (.call (Call.mk (.builtin .len) _ #[9])) _ _ _ (some _) :: _) _ _; refine wl_glenS rfl (by first | exact wanted_b rfl rfl | exact wanted_g rfl rfl) (by first | exact (fun hg => gvV_on hg) | exact (fun hg => gvV_gA hg) | exact (fun _ => rfl)) ?_; (try simp only [Act.put, List.setIfInBounds_toArray, List.set_cons_zero, List.set_cons_succ])) | (show wpList _ _ _ (Oper.mk _ (.unOp .not _ _) _ _ _ (some _) :: _) _ _; refine wl_gnot rfl (by first | exact wanted_b rfl rfl | exact wanted_g rfl rfl) (by first | exact (fun hg => gvV_on hg) | exact (fun hg => gvV_gA hg) | exact (fun _ => rfl)) ?_; (try simp only [Act.put, List.setIfInBounds_toArray, List.set_cons_zero, List.set_cons_succ]); (repeat ((first | (show wpList _ _ _ (Oper.mk _ (.move _) _ _ _ none :: _) _ _; refine wl_mv rfl rfl rfl ?_) | (show wpList _ _ _ (Oper.mk _ (.pick _ _ _) _ _ _ none :: _) _ _; (first | (refine wl_pickOr rfl rfl rfl rfl rfl ?_; intro q hq) | (refine wl_pickAnd rfl rfl rfl rfl rfl ?_; intro q hq))) | (show wpList _ _ _ (Oper.mk _ (.pick _ _ _) _ _ _ (some _) :: _) _ _; (first | (refine wl_gpickOr rfl (by first | exact wanted_b rfl rfl | exact wanted_g rfl rfl) rfl rfl rfl ?_; intro q hq) | (refine wl_gpickAnd rfl (by first | exact wanted_b rfl rfl | exact wanted_g rfl rfl) rfl rfl rfl ?_; intro q hq))) | (show wpList _ _ _ (Oper.mk _ (.move _) _ _ _ (some _) :: _) _ _; refine wl_gmove rfl (by first | exact wanted_b rfl rfl | exact wanted_g rfl rfl) (by first | exact (fun hg => gvV_on hg) | exact (fun hg => gvV_gA hg) | exact (fun _ => rfl)) ?_)); (try simp only [Act.put, List.setIfInBounds_toArray, List.set_cons_zero, List.set_cons_succ])))) | (refine wl_loadE rfl rfl rfl ?_; first | refine ⟨_, Loads.atA ((y.2.pv y.1).cells) [] hst H35y.out (cellsR_root HLY.out), ?_⟩ | refine ⟨_, Loads.at [] hst (cellsR_39 HLY.out), ?_⟩ | refine ⟨_, Loads.at [] hst (cellsR_40 HLY.out), ?_⟩ | refine ⟨_, Loads.at [] hst (cellsR_41 HLY.out), ?_⟩ | refine ⟨_, Loads.at [] hst (cellsR_42 HLY.out), ?_⟩ | refine ⟨_, Loads.at [] hst (cellsR_43 HLY.out), ?_⟩ | refine ⟨_, Loads.at [] hst rfl, ?_⟩ | refine ⟨_, Loads.atA ((x.2.pv x.1).cells) [_] hst H35x.out (cellsR_root HLX.out), ?_⟩ | refine ⟨_, Loads.at [_] hst (cellsR_39 HLX.out), ?_⟩ | refine ⟨_, Loads.at [_] hst (cellsR_40 HLX.out), ?_⟩ | refine ⟨_, Loads.at [_] hst (cellsR_41 HLX.out), ?_⟩ | refine ⟨_, Loads.at [_] hst (cellsR_42 HLX.out), ?_⟩ | refine ⟨_, Loads.at [_] hst (cellsR_43 HLX.out), ?_⟩ | refine ⟨_, Loads.at [_] hst rfl, ?_⟩) | (show wpList _ _ _ (Oper.mk _ (.call (Call.mk (.value (.func 59)) _ _)) _ _ _ (some _) :: _) _ _; refine wl_gcall (v := .bool ((x.2.pv x.1).same (y.2.pv y.1))) hst (by first | exact wanted_b rfl rfl | exact wanted_g rfl rfl) ?_ ?_; (intro hg K hK; have Hg := hid hg; clear hg; go_simp; go_at_call 59; (try (conv => (arg 3; simp only [gvV_on Hg.out]))); refine (sameP_pv (p := x.2.pv x.1) (q := y.2.pv y.1) (PV.In.old hst HX.out.1) (PV.In.old hst HY.out.1)).mono ?_; rintro _ w9 ⟨rfl, h4⟩; have hk := hK _ (St.call0 hst h4); simp only [Act.put, List.setIfInBounds_toArray, List.set_cons_zero, List.set_cons_succ] at hk; dsimp only; exact hk); (intro w5 hst5; replace hst := hst5; clear hst5; (try simp only [Act.put, List.setIfInBounds_toArray, List.set_cons_zero, List.set_cons_succ]); (repeat ((first | (show wpList _ _ _ (Oper.mk _ (.move _) _ _ _ none :: _) _ _; refine wl_mv rfl rfl rfl ?_) | (show wpList _ _ _ (Oper.mk _ (.pick _ _ _) _ _ _ none :: _) _ _; (first | (refine wl_pickOr rfl rfl rfl rfl rfl ?_; intro q hq) | (refine wl_pickAnd rfl rfl rfl rfl rfl ?_; intro q hq))) | (show wpList _ _ _ (Oper.mk _ (.pick _ _ _) _ _ _ (some _) :: _) _ _; (first | (refine wl_gpickOr rfl (by first | exact wanted_b rfl rfl | exact wanted_g rfl rfl) rfl rfl rfl ?_; intro q hq) | (refine wl_gpickAnd rfl (by first | exact wanted_b rfl rfl | exact wanted_g rfl rfl) rfl rfl rfl ?_; intro q hq))) | (show wpList _ _ _ (Oper.mk _ (.move _) _ _ _ (some _) :: _) _ _; refine wl_gmove rfl (by first | exact wanted_b rfl rfl | exact wanted_g rfl rfl) (by first | exact (fun hg => gvV_on hg) | exact (fun hg => gvV_gA hg) | exact (fun _ => rfl)) ?_)); (try simp only [Act.put, List.setIfInBounds_toArray, List.set_cons_zero, List.set_cons_succ]))))))
  all_goals go_ret
  all_goals refine ⟨congrArg (fun z => Ending.returned (Value.bool z)) (?_ : (_ : Bool) = x.2.sameB y.2), hst.nil⟩
  all_goals
    have e := RC.sameB_pv x.2 y.2 x.1 y.1
    clear HX HY HLX HLY H35x H35y hst
    rw [e]
    clear e
    simp only [hid_iff, bNot_eq, bAnd_eq] at *
    subst_vars
    ac_rfl
theorem alike_any (x y : Value × RC) (w : World) (hx : RC.In w x) (hy : RC.In w y) : Calls Try.prog 62 #[.agg (cellsR x).toArray, .agg (cellsR y).toArray] w fun e w' => e = .returned (.bool (x.2.sameB y.2)) ∧ St w [] w' [] := by
  have hst0 := St.refl w
  have HX := hid hx
  have HY := hid hy
  have HLX := hid hx.L
  have HLY := hid hy.L
  have H35x := hid (PV.len (p := x.2.pv x.1) hx.L)
  have H35y := hid (PV.len (p := y.2.pv y.1) hy.L)
  clear hx hy
  go_enter Try.func62, Try.ntmps62
  (try simp only [List.append])
  go_wp2_with (first | go_big_skip | (refine wl_boxA hst0 rfl rfl rfl ?_; intro gx w1 hst1; clear hst0) | (refine wl_boxA hst1 rfl rfl rfl ?_; intro gy w1 hst; clear hst1) | (show wpList _ _ _ (Oper.mk _ (.fieldAddr 47 _ _) _ _ _ (some _) :: _) _ _; refine wl_gfldR rfl (by first | exact wanted_b rfl rfl | exact wanted_g rfl rfl) (by first | exact (fun hg => gvV_on hg) | exact (fun hg => gvV_gA hg) | exact (fun _ => rfl)) rfl ?_; (try simp only [Act.put, List.setIfInBounds_toArray, List.set_cons_zero, List.set_cons_succ])) | (show wpList _ _ _ (Oper.mk _ (.load _ _) _ _ _ (some _) :: _) _ _; refine wl_gloadE rfl (by first | exact wanted_b rfl rfl | exact wanted_g rfl rfl) (by first | exact (fun hg => gvV_on hg) | exact (fun hg => gvV_gA hg) | exact (fun _ => rfl)) ?_; (first | refine ⟨_, Loads.atA ((y.2.pv y.1).cells) [] hst H35y.out (cellsR_root HLY.out), ?_⟩ | refine ⟨_, Loads.at [] hst (cellsR_39 HLY.out), ?_⟩ | refine ⟨_, Loads.at [] hst (cellsR_40 HLY.out), ?_⟩ | refine ⟨_, Loads.at [] hst (cellsR_41 HLY.out), ?_⟩ | refine ⟨_, Loads.at [] hst (cellsR_42 HLY.out), ?_⟩ | refine ⟨_, Loads.at [] hst (cellsR_43 HLY.out), ?_⟩ | refine ⟨_, Loads.at [] hst rfl, ?_⟩ | refine ⟨_, Loads.atA ((x.2.pv x.1).cells) [_] hst H35x.out (cellsR_root HLX.out), ?_⟩ | refine ⟨_, Loads.at [_] hst (cellsR_39 HLX.out), ?_⟩ | refine ⟨_, Loads.at [_] hst (cellsR_40 HLX.out), ?_⟩ | refine ⟨_, Loads.at [_] hst (cellsR_41 HLX.out), ?_⟩ | refine ⟨_, Loads.at [_] hst (cellsR_42 HLX.out), ?_⟩ | refine ⟨_, Loads.at [_] hst (cellsR_43 HLX.out), ?_⟩ | refine ⟨_, Loads.at [_] hst rfl, ?_⟩); (try simp only [Act.put, List.setIfInBounds_toArray, List.set_cons_zero, List.set_cons_succ]); (repeat ((first | (show wpList _ _ _ (Oper.mk _ (.move _) _ _ _ none :: _) _ _; refine wl_mv rfl rfl rfl ?_) | (show wpList _ _ _ (Oper.mk _ (.pick _ _ _) _ _ _ none :: _) _ _; (first | (refine wl_pickOr rfl rfl rfl rfl rfl ?_; intro q hq) | (refine wl_pickAnd rfl rfl rfl rfl rfl ?_; intro q hq))) | (show wpList _ _ _ (Oper.mk _ (.pick _ _ _) _ _ _ (some _) :: _) _ _; (first | (refine wl_gpickOr rfl (by first | exact wanted_b rfl rfl | exact wanted_g rfl rfl) rfl rfl rfl ?_; intro q hq) | (refine wl_gpickAnd rfl (by first | exact wanted_b rfl rfl | exact wanted_g rfl rfl) rfl rfl rfl ?_; intro q hq))) | (show wpList _ _ _ (Oper.mk _ (.move _) _ _ _ (some _) :: _) _ _; refine wl_gmove rfl (by first | exact wanted_b rfl rfl | exact wanted_g rfl rfl) (by first | exact (fun hg => gvV_on hg) | exact (fun hg => gvV_gA hg) | exact (fun _ => rfl)) ?_)); (try simp only [Act.put, List.setIfInBounds_toArray, List.set_cons_zero, List.set_cons_succ])))) | (show wpList _ _ _ (Oper.mk _ (.binOp _ 3 _ _ _) _ _ _ (some _) :: _) _ _; refine wl_gcmp rfl (by first | exact wanted_b rfl rfl | exact wanted_g rfl rfl) (by first | exact (fun hg => gvV_on hg) | exact (fun hg => gvV_gA hg) | exact (fun _ => rfl)) (by first | exact (fun hg => gvV_on hg) | exact (fun hg => gvV_gA hg) | exact (fun _ => rfl)) rfl ?_; (try simp only [Act.put, List.setIfInBounds_toArray, List.set_cons_zero, List.set_cons_succ]); (repeat ((first | (show wpList _ _ _ (Oper.mk _ (.move _) _ _ _ none :: _) _ _; refine wl_mv rfl rfl rfl ?_) | (show wpList _ _ _ (Oper.mk _ (.pick _ _ _) _ _ _ none :: _) _ _; (first | (refine wl_pickOr rfl rfl rfl rfl rfl ?_; intro q hq) | (refine wl_pickAnd rfl rfl rfl rfl rfl ?_; intro q hq))) | (show wpList _ _ _ (Oper.mk _ (.pick _ _ _) _ _ _ (some _) :: _) _ _; (first | (refine wl_gpickOr rfl (by first | exact wanted_b rfl rfl | exact wanted_g rfl rfl) rfl rfl rfl ?_; intro q hq) | (refine wl_gpickAnd rfl (by first | exact wanted_b rfl rfl | exact wanted_g rfl rfl) rfl rfl rfl ?_; intro q hq))) | (show wpList _ _ _ (Oper.mk _ (.move _) _ _ _ (some _) :: _) _ _; refine wl_gmove rfl (by first | exact wanted_b rfl rfl | exact wanted_g rfl rfl) (by first | exact (fun hg => gvV_on hg) | exact (fun hg => gvV_gA hg) | exact (fun _ => rfl)) ?_)); (try simp only [Act.put, List.setIfInBounds_toArray, List.set_cons_zero, List.set_cons_succ])))) | (show wpList _ _ _ (Oper.mk _ (.binOp .neq 9 _ _ _) _ _ _ (some _) :: _) _ _; refine wl_gneqS rfl (by first | exact wanted_b rfl rfl | exact wanted_g rfl rfl) (by first | exact (fun hg => gvV_on hg) | exact (fun hg => gvV_gA hg) | exact (fun _ => rfl)) (by first | exact (fun hg => gvV_on hg) | exact (fun hg => gvV_gA hg) | exact (fun _ => rfl)) ?_; (try simp only [Act.put, List.setIfInBounds_toArray, List.set_cons_zero, List.set_cons_succ]); (repeat ((first | (show wpList _ _ _ (Oper.mk _ (.move _) _ _ _ none :: _) _ _; refine wl_mv rfl rfl rfl ?_) | (show wpList _ _ _ (Oper.mk _ (.pick _ _ _) _ _ _ none :: _) _ _; (first | (refine wl_pickOr rfl rfl rfl rfl rfl ?_; intro q hq) | (refine wl_pickAnd rfl rfl rfl rfl rfl ?_; intro q hq))) | (show wpList _ _ _ (Oper.mk _ (.pick _ _ _) _ _ _ (some _) :: _) _ _; (first | (refine wl_gpickOr rfl (by first | exact wanted_b rfl rfl | exact wanted_g rfl rfl) rfl rfl rfl ?_; intro q hq) | (refine wl_gpickAnd rfl (by first | exact wanted_b rfl rfl | exact wanted_g rfl rfl) rfl rfl rfl ?_; intro q hq))) | (show wpList _ _ _ (Oper.mk _ (.move _) _ _ _ (some _) :: _) _ _; refine wl_gmove rfl (by first | exact wanted_b rfl rfl | exact wanted_g rfl rfl) (by first | exact (fun hg => gvV_on hg) | exact (fun hg => gvV_gA hg) | exact (fun _ => rfl)) ?_)); (try simp only [Act.put, List.setIfInBounds_toArray, List.set_cons_zero, List.set_cons_succ])))) | (show wpList _ _ _ (Oper.mk _ (.binOp .eql 9 _ _ _) _ _ _ (some _) :: _) _ _; refine wl_geqS rfl (by first | exact wanted_b rfl rfl | exact wanted_g rfl rfl) (by first | exact (fun hg => gvV_on hg) | exact (fun hg => gvV_gA hg) | exact (fun _ => rfl)) (by first | exact (fun hg => gvV_on hg) | exact (fun hg => gvV_gA hg) | exact (fun _ => rfl)) ?_; (try simp only [Act.put, List.setIfInBounds_toArray, List.set_cons_zero, List.set_cons_succ]); (repeat ((first | (show wpList _ _ _ (Oper.mk _ (.move _) _ _ _ none :: _) _ _; refine wl_mv rfl rfl rfl ?_) | (show wpList _ _ _ (Oper.mk _ (.pick _ _ _) _ _ _ none :: _) _ _; (first | (refine wl_pickOr rfl rfl rfl rfl rfl ?_; intro q hq) | (refine wl_pickAnd rfl rfl rfl rfl rfl ?_; intro q hq))) | (show wpList _ _ _ (Oper.mk _ (.pick _ _ _) _ _ _ (some _) :: _) _ _; (first | (refine wl_gpickOr rfl (by first | exact wanted_b rfl rfl | exact wanted_g rfl rfl) rfl rfl rfl ?_; intro q hq) | (refine wl_gpickAnd rfl (by first | exact wanted_b rfl rfl | exact wanted_g rfl rfl) rfl rfl rfl ?_; intro q hq))) | (show wpList _ _ _ (Oper.mk _ (.move _) _ _ _ (some _) :: _) _ _; refine wl_gmove rfl (by first | exact wanted_b rfl rfl | exact wanted_g rfl rfl) (by first | exact (fun hg => gvV_on hg) | exact (fun hg => gvV_gA hg) | exact (fun _ => rfl)) ?_)); (try simp only [Act.put, List.setIfInBounds_toArray, List.set_cons_zero, List.set_cons_succ])))) | (show wpList _ _ _ (Oper.mk _ (.binOp .neq 9 _ _ _) _ _ _ none :: _) _ _; refine wl_neqS rfl rfl rfl rfl ?_; (try simp only [Act.put, List.setIfInBounds_toArray, List.set_cons_zero, List.set_cons_succ]); (repeat ((first | (show wpList _ _ _ (Oper.mk _ (.move _) _ _ _ none :: _) _ _; refine wl_mv rfl rfl rfl ?_) | (show wpList _ _ _ (Oper.mk _ (.pick _ _ _) _ _ _ none :: _) _ _; (first | (refine wl_pickOr rfl rfl rfl rfl rfl ?_; intro q hq) | (refine wl_pickAnd rfl rfl rfl rfl rfl ?_; intro q hq))) | (show wpList _ _ _ (Oper.mk _ (.pick _ _ _) _ _ _ (some _) :: _) _ _; (first | (refine wl_gpickOr rfl (by first | exact wanted_b rfl rfl | exact wanted_g rfl rfl) rfl rfl rfl ?_; intro q hq) | (refine wl_gpickAnd rfl (by first | exact wanted_b rfl rfl | exact wanted_g rfl rfl) rfl rfl rfl ?_; intro q hq))) | (show wpList _ _ _ (Oper.mk _ (.move _) _ _ _ (some _) :: _) _ _; refine wl_gmove rfl (by first | exact wanted_b rfl rfl | exact wanted_g rfl rfl) (by first | exact (fun hg => gvV_on hg) | exact (fun hg => gvV_gA hg) | exact (fun _ => rfl)) ?_)); (try simp only [Act.put, List.setIfInBounds_toArray, List.set_cons_zero, List.set_cons_succ])))) | (show wpList _ _ _ (Oper.mk _ (.binOp .eql 9 _ _ _) _ _ _ none :: _) _ _; refine wl_eqS rfl rfl rfl rfl ?_; (try simp only [Act.put, List.setIfInBounds_toArray, List.set_cons_zero, List.set_cons_succ]); (repeat ((first | (show wpList _ _ _ (Oper.mk _ (.move _) _ _ _ none :: _) _ _; refine wl_mv rfl rfl rfl ?_) | (show wpList _ _ _ (Oper.mk _ (.pick _ _ _) _ _ _ none :: _) _ _; (first | (refine wl_pickOr rfl rfl rfl rfl rfl ?_; intro q hq) | (refine wl_pickAnd rfl rfl rfl rfl rfl ?_; intro q hq))) | (show wpList _ _ _ (Oper.mk _ (.pick _ _ _) _ _ _ (some _) :: _) _ _; (first | (refine wl_gpickOr rfl (by first | exact wanted_b rfl rfl | exact wanted_g rfl rfl) rfl rfl rfl ?_; intro q hq) | (refine wl_gpickAnd rfl (by first | exact wanted_b rfl rfl | exact wanted_g rfl rfl) rfl rfl rfl ?_; intro q hq))) | (show wpList _ _ _ (Oper.mk _ (.move _) _ _ _ (some _) :: _) _ _; refine wl_gmove rfl (by first | exact wanted_b rfl rfl | exact wanted_g rfl rfl) (by first | exact (fun hg => gvV_on hg) | exact (fun hg => gvV_gA hg) | exact (fun _ => rfl)) ?_)); (try simp only [Act.put, List.setIfInBounds_toArray, List.set_cons_zero, List.set_cons_succ])))) | (show wpList _ _ _ (Oper.mk _ (.call (Call.mk (.builtin .len) _ #[9])) _ _ _ (some _) :: _) _ _; refine wl_glenS rfl (by first | exact wanted_b rfl rfl | exact wanted_g rfl rfl) (by first | exact (fun hg => gvV_on hg) | exact (fun hg => gvV_gA hg) | exact (fun _ => rfl)) ?_; (try simp only [Act.put, List.setIfInBounds_toArray, List.set_cons_zero, List.set_cons_succ])) | (show wpList _ _ _ (Oper.mk _ (.unOp .not _ _) _ _ _ (some _) :: _) _ _; refine wl_gnot rfl (by first | exact wanted_b rfl rfl | exact wanted_g rfl rfl) (by first | exact (fun hg => gvV_on hg) | exact (fun hg => gvV_gA hg) | exact (fun _ => rfl)) ?_; (try simp only [Act.put, List.setIfInBounds_toArray, List.set_cons_zero, List.set_cons_succ]); (repeat ((first | (show wpList _ _ _ (Oper.mk _ (.move _) _ _ _ none :: _) _ _; refine wl_mv rfl rfl rfl ?_) | (show wpList _ _ _ (Oper.mk _ (.pick _ _ _) _ _ _ none :: _) _ _; (first | (refine wl_pickOr rfl rfl rfl rfl rfl ?_; intro q hq) | (refine wl_pickAnd rfl rfl rfl rfl rfl ?_; intro q hq))) | (show wpList _ _ _ (Oper.mk _ (.pick _ _ _) _ _ _ (some _) :: _) _ _; (first | (refine wl_gpickOr rfl (by first | exact wanted_b rfl rfl | exact wanted_g rfl rfl) rfl rfl rfl ?_; intro q hq) | (refine wl_gpickAnd rfl (by first | exact wanted_b rfl rfl | exact wanted_g rfl rfl) rfl rfl rfl ?_; intro q hq))) | (show wpList _ _ _ (Oper.mk _ (.move _) _ _ _ (some _) :: _) _ _; refine wl_gmove rfl (by first | exact wanted_b rfl rfl | exact wanted_g rfl rfl) (by first | exact (fun hg => gvV_on hg) | exact (fun hg => gvV_gA hg) | exact (fun _ => rfl)) ?_)); (try simp only [Act.put, List.setIfInBounds_toArray, List.set_cons_zero, List.set_cons_succ])))) | (refine wl_loadE rfl rfl rfl ?_; first | refine ⟨_, Loads.atA ((y.2.pv y.1).cells) [] hst H35y.out (cellsR_root HLY.out), ?_⟩ | refine ⟨_, Loads.at [] hst (cellsR_39 HLY.out), ?_⟩ | refine ⟨_, Loads.at [] hst (cellsR_40 HLY.out), ?_⟩ | refine ⟨_, Loads.at [] hst (cellsR_41 HLY.out), ?_⟩ | refine ⟨_, Loads.at [] hst (cellsR_42 HLY.out), ?_⟩ | refine ⟨_, Loads.at [] hst (cellsR_43 HLY.out), ?_⟩ | refine ⟨_, Loads.at [] hst rfl, ?_⟩ | refine ⟨_, Loads.atA ((x.2.pv x.1).cells) [_] hst H35x.out (cellsR_root HLX.out), ?_⟩ | refine ⟨_, Loads.at [_] hst (cellsR_39 HLX.out), ?_⟩ | refine ⟨_, Loads.at [_] hst (cellsR_40 HLX.out), ?_⟩ | refine ⟨_, Loads.at [_] hst (cellsR_41 HLX.out), ?_⟩ | refine ⟨_, Loads.at [_] hst (cellsR_42 HLX.out), ?_⟩ | refine ⟨_, Loads.at [_] hst (cellsR_43 HLX.out), ?_⟩ | refine ⟨_, Loads.at [_] hst rfl, ?_⟩) | (show wpList _ _ _ (Oper.mk _ (.call (Call.mk (.value (.func 87)) _ _)) _ _ _ (some _) :: _) _ _; refine wl_gcall (v := .bool ((x.2.pv x.1).same (y.2.pv y.1))) hst (by first | exact wanted_b rfl rfl | exact wanted_g rfl rfl) ?_ ?_; (intro hg K hK; have Hg := hid hg; clear hg; go_simp; go_at_call 87; (try (conv => (arg 3; simp only [gvV_on Hg.out]))); refine (refSame_pv (p := x.2.pv x.1) (q := y.2.pv y.1) (PV.In.old hst HX.out.1) (PV.In.old hst HY.out.1)).mono ?_; rintro _ w9 ⟨rfl, h4⟩; have hk := hK _ (St.call0 hst h4); simp only [Act.put, List.setIfInBounds_toArray, List.set_cons_zero, List.set_cons_succ] at hk; dsimp only; exact hk); (intro w5 hst5; replace hst := hst5; clear hst5; (try simp only [Act.put, List.setIfInBounds_toArray, List.set_cons_zero, List.set_cons_succ]); (repeat ((first | (show wpList _ _ _ (Oper.mk _ (.move _) _ _ _ none :: _) _ _; refine wl_mv rfl rfl rfl ?_) | (show wpList _ _ _ (Oper.mk _ (.pick _ _ _) _ _ _ none :: _) _ _; (first | (refine wl_pickOr rfl rfl rfl rfl rfl ?_; intro q hq) | (refine wl_pickAnd rfl rfl rfl rfl rfl ?_; intro q hq))) | (show wpList _ _ _ (Oper.mk _ (.pick _ _ _) _ _ _ (some _) :: _) _ _; (first | (refine wl_gpickOr rfl (by first | exact wanted_b rfl rfl | exact wanted_g rfl rfl) rfl rfl rfl ?_; intro q hq) | (refine wl_gpickAnd rfl (by first | exact wanted_b rfl rfl | exact wanted_g rfl rfl) rfl rfl rfl ?_; intro q hq))) | (show wpList _ _ _ (Oper.mk _ (.move _) _ _ _ (some _) :: _) _ _; refine wl_gmove rfl (by first | exact wanted_b rfl rfl | exact wanted_g rfl rfl) (by first | exact (fun hg => gvV_on hg) | exact (fun hg => gvV_gA hg) | exact (fun _ => rfl)) ?_)); (try simp only [Act.put, List.setIfInBounds_toArray, List.set_cons_zero, List.set_cons_succ]))))))
  all_goals go_ret
  all_goals refine ⟨congrArg (fun z => Ending.returned (Value.bool z)) (?_ : (_ : Bool) = x.2.sameB y.2), hst.nil⟩
  all_goals
    have e := RC.sameB_pv x.2 y.2 x.1 y.1
    clear HX HY HLX HLY H35x H35y hst
    rw [e]
    clear e
    simp only [hid_iff, bNot_eq, bAnd_eq] at *
    subst_vars
    ac_rfl
theorem kitRec_any (x y : Value × RC) (w : World) (hx : RC.In w x) (hy : RC.In w y) : Calls Try.prog 38 #[.agg (cellsR x).toArray, .agg (cellsR y).toArray] w fun e w' => e = .returned (.bool (x.2.sameB y.2)) ∧ St w [] w' [] := by
  have hst0 := St.refl w
  have HX := hid hx
  have HY := hid hy
  have HLX := hid hx.L
  have HLY := hid hy.L
  have H35x := hid (PV.len (p := x.2.pv x.1) hx.L)
  have H35y := hid (PV.len (p := y.2.pv y.1) hy.L)
  clear hx hy
  go_enter Try.func38, Try.ntmps38
  (try simp only [List.append])
  go_wp2_with (first | go_big_skip | (refine wl_boxA hst0 rfl rfl rfl ?_; intro gx w1 hst1; clear hst0) | (refine wl_boxA hst1 rfl rfl rfl ?_; intro gy w1 hst; clear hst1) | (show wpList _ _ _ (Oper.mk _ (.fieldAddr 47 _ _) _ _ _ (some _) :: _) _ _; refine wl_gfldR rfl (by first | exact wanted_b rfl rfl | exact wanted_g rfl rfl) (by first | exact (fun hg => gvV_on hg) | exact (fun hg => gvV_gA hg) | exact (fun _ => rfl)) rfl ?_; (try simp only [Act.put, List.setIfInBounds_toArray, List.set_cons_zero, List.set_cons_succ])) | (show wpList _ _ _ (Oper.mk _ (.load _ _) _ _ _ (some _) :: _) _ _; refine wl_gloadE rfl (by first | exact wanted_b rfl rfl | exact wanted_g rfl rfl) (by first | exact (fun hg => gvV_on hg) | exact (fun hg => gvV_gA hg) | exact (fun _ => rfl)) ?_; (first | refine ⟨_, Loads.atA ((y.2.pv y.1).cells) [] hst H35y.out (cellsR_root HLY.out), ?_⟩ | refine ⟨_, Loads.at [] hst (cellsR_39 HLY.out), ?_⟩ | refine ⟨_, Loads.at [] hst (cellsR_40 HLY.out), ?_⟩ | refine ⟨_, Loads.at [] hst (cellsR_41 HLY.out), ?_⟩ | refine ⟨_, Loads.at [] hst (cellsR_42 HLY.out), ?_⟩ | refine ⟨_, Loads.at [] hst (cellsR_43 HLY.out), ?_⟩ | refine ⟨_, Loads.at [] hst rfl, ?_⟩ | refine ⟨_, Loads.atA ((x.2.pv x.1).cells) [_] hst H35x.out (cellsR_root HLX.out), ?_⟩ | refine ⟨_, Loads.at [_] hst (cellsR_39 HLX.out), ?_⟩ | refine ⟨_, Loads.at [_] hst (cellsR_40 HLX.out), ?_⟩ | refine ⟨_, Loads.at [_] hst (cellsR_41 HLX.out), ?_⟩ | refine ⟨_, Loads.at [_] hst (cellsR_42 HLX.out), ?_⟩ | refine ⟨_, Loads.at [_] hst (cellsR_43 HLX.out), ?_⟩ | refine ⟨_, Loads.at [_] hst rfl, ?_⟩); (try simp only [Act.put, List.setIfInBounds_toArray, List.set_cons_zero, List.set_cons_succ]); (repeat ((first | (show wpList _ _ _ (Oper.mk _ (.move _) _ _ _ none :: _) _ _; refine wl_mv rfl rfl rfl ?_) | (show wpList _ _ _ (Oper.mk _ (.pick _ _ _) _ _ _ none :: _) _ _; (first | (refine wl_pickOr rfl rfl rfl rfl rfl ?_; intro q hq) | (refine wl_pickAnd rfl rfl rfl rfl rfl ?_; intro q hq))) | (show wpList _ _ _ (Oper.mk _ (.pick _ _ _) _ _ _ (some _) :: _) _ _; (first | (refine wl_gpickOr rfl (by first | exact wanted_b rfl rfl | exact wanted_g rfl rfl) rfl rfl rfl ?_; intro q hq) | (refine wl_gpickAnd rfl (by first | exact wanted_b rfl rfl | exact wanted_g rfl rfl) rfl rfl rfl ?_; intro q hq))) | (show wpList _ _ _ (Oper.mk _ (.move _) _ _ _ (some _) :: _) _ _; refine wl_gmove rfl (by first | exact wanted_b rfl rfl | exact wanted_g rfl rfl) (by first | exact (fun hg => gvV_on hg) | exact (fun hg => gvV_gA hg) | exact (fun _ => rfl)) ?_)); (try simp only [Act.put, List.setIfInBounds_toArray, List.set_cons_zero, List.set_cons_succ])))) | (show wpList _ _ _ (Oper.mk _ (.binOp _ 3 _ _ _) _ _ _ (some _) :: _) _ _; refine wl_gcmp rfl (by first | exact wanted_b rfl rfl | exact wanted_g rfl rfl) (by first | exact (fun hg => gvV_on hg) | exact (fun hg => gvV_gA hg) | exact (fun _ => rfl)) (by first | exact (fun hg => gvV_on hg) | exact (fun hg => gvV_gA hg) | exact (fun _ => rfl)) rfl ?_; (try simp only [Act.put, List.setIfInBounds_toArray, List.set_cons_zero, List.set_cons_succ]); (repeat ((first | (show wpList _ _ _ (Oper.mk _ (.move _) _ _ _ none :: _) _ _; refine wl_mv rfl rfl rfl ?_) | (show wpList _ _ _ (Oper.mk _ (.pick _ _ _) _ _ _ none :: _) _ _; (first | (refine wl_pickOr rfl rfl rfl rfl rfl ?_; intro q hq) | (refine wl_pickAnd rfl rfl rfl rfl rfl ?_; intro q hq))) | (show wpList _ _ _ (Oper.mk _ (.pick _ _ _) _ _ _ (some _) :: _) _ _; (first | (refine wl_gpickOr rfl (by first | exact wanted_b rfl rfl | exact wanted_g rfl rfl) rfl rfl rfl ?_; intro q hq) | (refine wl_gpickAnd rfl (by first | exact wanted_b rfl rfl | exact wanted_g rfl rfl) rfl rfl rfl ?_; intro q hq))) | (show wpList _ _ _ (Oper.mk _ (.move _) _ _ _ (some _) :: _) _ _; refine wl_gmove rfl (by first | exact wanted_b rfl rfl | exact wanted_g rfl rfl) (by first | exact (fun hg => gvV_on hg) | exact (fun hg => gvV_gA hg) | exact (fun _ => rfl)) ?_)); (try simp only [Act.put, List.setIfInBounds_toArray, List.set_cons_zero, List.set_cons_succ])))) | (show wpList _ _ _ (Oper.mk _ (.binOp .neq 9 _ _ _) _ _ _ (some _) :: _) _ _; refine wl_gneqS rfl (by first | exact wanted_b rfl rfl | exact wanted_g rfl rfl) (by first | exact (fun hg => gvV_on hg) | exact (fun hg => gvV_gA hg) | exact (fun _ => rfl)) (by first | exact (fun hg => gvV_on hg) | exact (fun hg => gvV_gA hg) | exact (fun _ => rfl)) ?_; (try simp only [Act.put, List.setIfInBounds_toArray, List.set_cons_zero, List.set_cons_succ]); (repeat ((first | (show wpList _ _ _ (Oper.mk _ (.move _) _ _ _ none :: _) _ _; refine wl_mv rfl rfl rfl ?_) | (show wpList _ _ _ (Oper.mk _ (.pick _ _ _) _ _ _ none :: _) _ _; (first | (refine wl_pickOr rfl rfl rfl rfl rfl ?_; intro q hq) | (refine wl_pickAnd rfl rfl rfl rfl rfl ?_; intro q hq))) | (show wpList _ _ _ (Oper.mk _ (.pick _ _ _) _ _ _ (some _) :: _) _ _; (first | (refine wl_gpickOr rfl (by first | exact wanted_b rfl rfl | exact wanted_g rfl rfl) rfl rfl rfl ?_; intro q hq) | (refine wl_gpickAnd rfl (by first | exact wanted_b rfl rfl | exact wanted_g rfl rfl) rfl rfl rfl ?_; intro q hq))) | (show wpList _ _ _ (Oper.mk _ (.move _) _ _ _ (some _) :: _) _ _; refine wl_gmove rfl (by first | exact wanted_b rfl rfl | exact wanted_g rfl rfl) (by first | exact (fun hg => gvV_on hg) | exact (fun hg => gvV_gA hg) | exact (fun _ => rfl)) ?_)); (try simp only [Act.put, List.setIfInBounds_toArray, List.set_cons_zero, List.set_cons_succ])))) | (show wpList _ _ _ (Oper.mk _ (.binOp .eql 9 _ _ _) _ _ _ (some _) :: _) _ _; refine wl_geqS rfl (by first | exact wanted_b rfl rfl | exact wanted_g rfl rfl) (by first | exact (fun hg => gvV_on hg) | exact (fun hg => gvV_gA hg) | exact (fun _ => rfl)) (by first | exact (fun hg => gvV_on hg) | exact (fun hg => gvV_gA hg) | exact (fun _ => rfl)) ?_; (try simp only [Act.put, List.setIfInBounds_toArray, List.set_cons_zero, List.set_cons_succ]); (repeat ((first | (show wpList _ _ _ (Oper.mk _ (.move _) _ _ _ none :: _) _ _; refine wl_mv rfl rfl rfl ?_) | (show wpList _ _ _ (Oper.mk _ (.pick _ _ _) _ _ _ none :: _) _ _; (first | (refine wl_pickOr rfl rfl rfl rfl rfl ?_; intro q hq) | (refine wl_pickAnd rfl rfl rfl rfl rfl ?_; intro q hq))) | (show wpList _ _ _ (Oper.mk _ (.pick _ _ _) _ _ _ (some _) :: _) _ _; (first | (refine wl_gpickOr rfl (by first | exact wanted_b rfl rfl | exact wanted_g rfl rfl) rfl rfl rfl ?_; intro q hq) | (refine wl_gpickAnd rfl (by first | exact wanted_b rfl rfl | exact wanted_g rfl rfl) rfl rfl rfl ?_; intro q hq))) | (show wpList _ _ _ (Oper.mk _ (.move _) _ _ _ (some _) :: _) _ _; refine wl_gmove rfl (by first | exact wanted_b rfl rfl | exact wanted_g rfl rfl) (by first | exact (fun hg => gvV_on hg) | exact (fun hg => gvV_gA hg) | exact (fun _ => rfl)) ?_)); (try simp only [Act.put, List.setIfInBounds_toArray, List.set_cons_zero, List.set_cons_succ])))) | (show wpList _ _ _ (Oper.mk _ (.binOp .neq 9 _ _ _) _ _ _ none :: _) _ _; refine wl_neqS rfl rfl rfl rfl ?_; (try simp only [Act.put, List.setIfInBounds_toArray, List.set_cons_zero, List.set_cons_succ]); (repeat ((first | (show wpList _ _ _ (Oper.mk _ (.move _) _ _ _ none :: _) _ _; refine wl_mv rfl rfl rfl ?_) | (show wpList _ _ _ (Oper.mk _ (.pick _ _ _) _ _ _ none :: _) _ _; (first | (refine wl_pickOr rfl rfl rfl rfl rfl ?_; intro q hq) | (refine wl_pickAnd rfl rfl rfl rfl rfl ?_; intro q hq))) | (show wpList _ _ _ (Oper.mk _ (.pick _ _ _) _ _ _ (some _) :: _) _ _; (first | (refine wl_gpickOr rfl (by first | exact wanted_b rfl rfl | exact wanted_g rfl rfl) rfl rfl rfl ?_; intro q hq) | (refine wl_gpickAnd rfl (by first | exact wanted_b rfl rfl | exact wanted_g rfl rfl) rfl rfl rfl ?_; intro q hq))) | (show wpList _ _ _ (Oper.mk _ (.move _) _ _ _ (some _) :: _) _ _; refine wl_gmove rfl (by first | exact wanted_b rfl rfl | exact wanted_g rfl rfl) (by first | exact (fun hg => gvV_on hg) | exact (fun hg => gvV_gA hg) | exact (fun _ => rfl)) ?_)); (try simp only [Act.put, List.setIfInBounds_toArray, List.set_cons_zero, List.set_cons_succ])))) | (show wpList _ _ _ (Oper.mk _ (.binOp .eql 9 _ _ _) _ _ _ none :: _) _ _; refine wl_eqS rfl rfl rfl rfl ?_; (try simp only [Act.put, List.setIfInBounds_toArray, List.set_cons_zero, List.set_cons_succ]); (repeat ((first | (show wpList _ _ _ (Oper.mk _ (.move _) _ _ _ none :: _) _ _; refine wl_mv rfl rfl rfl ?_) | (show wpList _ _ _ (Oper.mk _ (.pick _ _ _) _ _ _ none :: _) _ _; (first | (refine wl_pickOr rfl rfl rfl rfl rfl ?_; intro q hq) | (refine wl_pickAnd rfl rfl rfl rfl rfl ?_; intro q hq))) | (show wpList _ _ _ (Oper.mk _ (.pick _ _ _) _ _ _ (some _) :: _) _ _; (first | (refine wl_gpickOr rfl (by first | exact wanted_b rfl rfl | exact wanted_g rfl rfl) rfl rfl rfl ?_; intro q hq) | (refine wl_gpickAnd rfl (by first | exact wanted_b rfl rfl | exact wanted_g rfl rfl) rfl rfl rfl ?_; intro q hq))) | (show wpList _ _ _ (Oper.mk _ (.move _) _ _ _ (some _) :: _) _ _; refine wl_gmove rfl (by first | exact wanted_b rfl rfl | exact wanted_g rfl rfl) (by first | exact (fun hg => gvV_on hg) | exact (fun hg => gvV_gA hg) | exact (fun _ => rfl)) ?_)); (try simp only [Act.put, List.setIfInBounds_toArray, List.set_cons_zero, List.set_cons_succ])))) | (show wpList _ _ _ (Oper.mk _ (.call (Call.mk (.builtin .len) _ #[9])) _ _ _ (some _) :: _) _ _; refine wl_glenS rfl (by first | exact wanted_b rfl rfl | exact wanted_g rfl rfl) (by first | exact (fun hg => gvV_on hg) | exact (fun hg => gvV_gA hg) | exact (fun _ => rfl)) ?_; (try simp only [Act.put, List.setIfInBounds_toArray, List.set_cons_zero, List.set_cons_succ])) | (show wpList _ _ _ (Oper.mk _ (.unOp .not _ _) _ _ _ (some _) :: _) _ _; refine wl_gnot rfl (by first | exact wanted_b rfl rfl | exact wanted_g rfl rfl) (by first | exact (fun hg => gvV_on hg) | exact (fun hg => gvV_gA hg) | exact (fun _ => rfl)) ?_; (try simp only [Act.put, List.setIfInBounds_toArray, List.set_cons_zero, List.set_cons_succ]); (repeat ((first | (show wpList _ _ _ (Oper.mk _ (.move _) _ _ _ none :: _) _ _; refine wl_mv rfl rfl rfl ?_) | (show wpList _ _ _ (Oper.mk _ (.pick _ _ _) _ _ _ none :: _) _ _; (first | (refine wl_pickOr rfl rfl rfl rfl rfl ?_; intro q hq) | (refine wl_pickAnd rfl rfl rfl rfl rfl ?_; intro q hq))) | (show wpList _ _ _ (Oper.mk _ (.pick _ _ _) _ _ _ (some _) :: _) _ _; (first | (refine wl_gpickOr rfl (by first | exact wanted_b rfl rfl | exact wanted_g rfl rfl) rfl rfl rfl ?_; intro q hq) | (refine wl_gpickAnd rfl (by first | exact wanted_b rfl rfl | exact wanted_g rfl rfl) rfl rfl rfl ?_; intro q hq))) | (show wpList _ _ _ (Oper.mk _ (.move _) _ _ _ (some _) :: _) _ _; refine wl_gmove rfl (by first | exact wanted_b rfl rfl | exact wanted_g rfl rfl) (by first | exact (fun hg => gvV_on hg) | exact (fun hg => gvV_gA hg) | exact (fun _ => rfl)) ?_)); (try simp only [Act.put, List.setIfInBounds_toArray, List.set_cons_zero, List.set_cons_succ])))) | (refine wl_loadE rfl rfl rfl ?_; first | refine ⟨_, Loads.atA ((y.2.pv y.1).cells) [] hst H35y.out (cellsR_root HLY.out), ?_⟩ | refine ⟨_, Loads.at [] hst (cellsR_39 HLY.out), ?_⟩ | refine ⟨_, Loads.at [] hst (cellsR_40 HLY.out), ?_⟩ | refine ⟨_, Loads.at [] hst (cellsR_41 HLY.out), ?_⟩ | refine ⟨_, Loads.at [] hst (cellsR_42 HLY.out), ?_⟩ | refine ⟨_, Loads.at [] hst (cellsR_43 HLY.out), ?_⟩ | refine ⟨_, Loads.at [] hst rfl, ?_⟩ | refine ⟨_, Loads.atA ((x.2.pv x.1).cells) [_] hst H35x.out (cellsR_root HLX.out), ?_⟩ | refine ⟨_, Loads.at [_] hst (cellsR_39 HLX.out), ?_⟩ | refine ⟨_, Loads.at [_] hst (cellsR_40 HLX.out), ?_⟩ | refine ⟨_, Loads.at [_] hst (cellsR_41 HLX.out), ?_⟩ | refine ⟨_, Loads.at [_] hst (cellsR_42 HLX.out), ?_⟩ | refine ⟨_, Loads.at [_] hst (cellsR_43 HLX.out), ?_⟩ | refine ⟨_, Loads.at [_] hst rfl, ?_⟩) | (show wpList _ _ _ (Oper.mk _ (.call (Call.mk (.value (.func 67)) _ _)) _ _ _ (some _) :: _) _ _; refine wl_gcall (v := .bool ((x.2.pv x.1).same (y.2.pv y.1))) hst (by first | exact wanted_b rfl rfl | exact wanted_g rfl rfl) ?_ ?_; (intro hg K hK; have Hg := hid hg; clear hg; go_simp; go_at_call 67; (try (conv => (arg 3; simp only [gvV_on Hg.out]))); refine (same_pv (x.2.pv x.1) (y.2.pv y.1) _ (PV.In.old hst HX.out.1) (PV.In.old hst HY.out.1)).mono ?_; rintro _ w9 ⟨rfl, h4⟩; have hk := hK _ (St.call0 hst h4); simp only [Act.put, List.setIfInBounds_toArray, List.set_cons_zero, List.set_cons_succ] at hk; dsimp only; exact hk); (intro w5 hst5; replace hst := hst5; clear hst5; (try simp only [Act.put, List.setIfInBounds_toArray, List.set_cons_zero, List.set_cons_succ]); (repeat ((first | (show wpList _ _ _ (Oper.mk _ (.move _) _ _ _ none :: _) _ _; refine wl_mv rfl rfl rfl ?_) | (show wpList _ _ _ (Oper.mk _ (.pick _ _ _) _ _ _ none :: _) _ _; (first | (refine wl_pickOr rfl rfl rfl rfl rfl ?_; intro q hq) | (refine wl_pickAnd rfl rfl rfl rfl rfl ?_; intro q hq))) | (show wpList _ _ _ (Oper.mk _ (.pick _ _ _) _ _ _ (some _) :: _) _ _; (first | (refine wl_gpickOr rfl (by first | exact wanted_b rfl rfl | exact wanted_g rfl rfl) rfl rfl rfl ?_; intro q hq) | (refine wl_gpickAnd rfl (by first | exact wanted_b rfl rfl | exact wanted_g rfl rfl) rfl rfl rfl ?_; intro q hq))) | (show wpList _ _ _ (Oper.mk _ (.move _) _ _ _ (some _) :: _) _ _; refine wl_gmove rfl (by first | exact wanted_b rfl rfl | exact wanted_g rfl rfl) (by first | exact (fun hg => gvV_on hg) | exact (fun hg => gvV_gA hg) | exact (fun _ => rfl)) ?_)); (try simp only [Act.put, List.setIfInBounds_toArray, List.set_cons_zero, List.set_cons_succ]))))))
  all_goals go_ret
  all_goals refine ⟨congrArg (fun z => Ending.returned (Value.bool z)) (?_ : (_ : Bool) = x.2.sameB y.2), hst.nil⟩
  all_goals
    have e := RC.sameB_pv x.2 y.2 x.1 y.1
    clear HX HY HLX HLY H35x H35y hst
    rw [e]
    clear e
    simp only [hid_iff, bNot_eq, bAnd_eq] at *
    subst_vars
    ac_rfl
end Go.Proofs.Ytkpkaoiafppimaa
namespace Go.Proofs.Ytkpkaoiafppimaa
set_option linter.unusedVariables false
set_option linter.unusedSimpArgs false
open Go.RowKit Hp
attribute [local irreducible] Go.Calls Go.wpList
set_option maxRecDepth 100000
set_option maxHeartbeats 8000000
attribute [local go_sem ↓] heldInt heldInts heldRecs heldRec
theorem eqInts_any (a a' : Option Addr) (n c n' c' : Nat) (l k : List Int) (w : World) (hl : Rd w (.slice a n c) 1 n (numsV l)) (hk : Rd w (.slice a' n' c') 1 n' (numsV k)) (hn : l.length = n) (hn' : k.length = n') (hb : n ≤ 1000000) (hb' : n' ≤ 1000000) :
    Calls Try.prog 60 #[.slice a n c, .slice a' n' c'] w fun e w' => e = .returned (.bool (l == k)) ∧ St w [] w' [] := by
  have hst := St.refl w
  have HL := hid hl
  have HK := hid hk
  have HN := hid hn
  have HN' := hid hn'
  obtain ⟨E, hE⟩ : ∃ E, E = (l == k) := ⟨_, rfl⟩
  rw [← hE]
  have HE := hid hE
  clear hl hk hn hn' hE
  by_cases hnn : n = n'
  · subst hnn
    have d1 : ((n : Int) != (n : Int)) = false := by simp
    go_enter Try.func60, Try.ntmps60
    go_wp2_with (first | go_big_skip | go_big_guard | fail)
    go_loopw [13] (fun i wr => ∃ j : Nat, j ≤ n ∧ i = .int .i64 (j : Int) ∧ St w [] wr [] ∧ Hid (∀ (i : Nat) (x y : Int), i < j → l[i]? = some x → k[i]? = some y → x = y)) (fun i _ => n - (intOf i).toNat)
    case atStart => exact ⟨0, Nat.zero_le _, rfl, hst, hid (fun i x y hi _ _ => by omega)⟩
    case round =>
      clear hst
      obtain ⟨j, hj, rfl, hst, HP⟩ := hrel
      by_cases hlt : j < n
      · have e1 : decide ((j : Int) < (n : Int)) = true := decide_eq_true (by omega)
        have z1 : IntKind.i64.wrap ((j : Int) + 1) = (j : Int) + 1 := IntWalk.i64_in _ (by omega)
        obtain ⟨x, hx⟩ : ∃ x, l[j]? = some x := ⟨_, List.getElem?_eq_getElem (by rw [HN.out]; exact hlt)⟩
        obtain ⟨y, hy⟩ : ∃ y, k[j]? = some y := ⟨_, List.getElem?_eq_getElem (by rw [HN'.out]; exact hlt)⟩
        obtain ⟨lb, lo, rfl, hr⟩ := Rd.at HL.out hlt
        obtain ⟨lb2, lo2, rfl, hr2⟩ := Rd.at HK.out hlt
        have HX := hid hx
        have HY := hid hy
        have HCX := hid (hr j _ (numsV_get hx))
        have HCY := hid (hr2 j _ (numsV_get hy))
        clear hx hy hr hr2
        by_cases hxy : x = y
        · have d2 : (x != y) = false := by rw [hxy]; simp
          have HXY := hid hxy
          clear hxy
          go_wp2_with (first | go_big_skip | go_big_guard | fail)
          have hX := hst.drew
          clear hst
          refine wp_region_held_drew (S := (fun w' => (loadVarH 3 ⟨lb, lo + j, none⟩).run Try.prog w' = .ok (.int .i64 x) w' ∧ (loadVarH 3 ⟨lb2, lo2 + j, none⟩).run Try.prog w' = .ok (.int .i64 y) w')) (by kernel_rfl) (by exact ⟨ldO hX HCX.out, ldO hX HCY.out⟩) (fun hHeld => ?_)
          refine tk 0 16 ?_
          (try simp only [Act.put, List.setIfInBounds_toArray, List.set_cons_zero, List.set_cons_succ])
          refine tk 1 17 ?_
          (try simp only [Act.put, List.setIfInBounds_toArray, List.set_cons_zero, List.set_cons_succ])
          refine tk 4 20 ?_
          (try simp only [Act.put, List.setIfInBounds_toArray, List.set_cons_zero, List.set_cons_succ])
          refine tk 5 21 ?_
          (try simp only [Act.put, List.setIfInBounds_toArray, List.set_cons_zero, List.set_cons_succ])
          refine tk 2 18 ?_
          (try simp only [Act.put, List.setIfInBounds_toArray, List.set_cons_zero, List.set_cons_succ])
          refine tk 6 22 ?_
          (try simp only [Act.put, List.setIfInBounds_toArray, List.set_cons_zero, List.set_cons_succ])
          refine tk 3 19 ?_
          (try simp only [Act.put, List.setIfInBounds_toArray, List.set_cons_zero, List.set_cons_succ])
          refine tk 7 23 ?_
          (try simp only [Act.put, List.setIfInBounds_toArray, List.set_cons_zero, List.set_cons_succ])
          refine tk 8 24 ?_
          (try simp only [Act.put, List.setIfInBounds_toArray, List.set_cons_zero, List.set_cons_succ])
          refine wpAnyH_done (by kernel_rfl) ?_ _
          clear hHeld
          go_wp2_with (first | go_big_skip | go_big_guard | fail)
          go_roundw
          case rel => exact ⟨j + 1, by omega, rfl, hX, hid (fun i a b hi ha hb => by
            by_cases e : i = j
            · subst e
              rw [HX.out] at ha; rw [HY.out] at hb
              cases ha; cases hb
              exact HXY.out
            · exact HP.out i a b (by omega) ha hb)⟩
          case measure => simp [intOf]; omega
        · have d2 : (x != y) = true := by rw [bne_iff_ne]; exact hxy
          have HXY := hid hxy
          clear hxy
          go_wp2_with (first | go_big_skip | go_big_guard | fail)
          have hX := hst.drew
          clear hst
          refine wp_region_held_drew (S := (fun w' => (loadVarH 3 ⟨lb, lo + j, none⟩).run Try.prog w' = .ok (.int .i64 x) w' ∧ (loadVarH 3 ⟨lb2, lo2 + j, none⟩).run Try.prog w' = .ok (.int .i64 y) w')) (by kernel_rfl) (by exact ⟨ldO hX HCX.out, ldO hX HCY.out⟩) (fun hHeld => ?_)
          refine tk 0 16 ?_
          (try simp only [Act.put, List.setIfInBounds_toArray, List.set_cons_zero, List.set_cons_succ])
          refine tk 1 17 ?_
          (try simp only [Act.put, List.setIfInBounds_toArray, List.set_cons_zero, List.set_cons_succ])
          refine tk 4 20 ?_
          (try simp only [Act.put, List.setIfInBounds_toArray, List.set_cons_zero, List.set_cons_succ])
          refine tk 5 21 ?_
          (try simp only [Act.put, List.setIfInBounds_toArray, List.set_cons_zero, List.set_cons_succ])
          refine tk 2 18 ?_
          (try simp only [Act.put, List.setIfInBounds_toArray, List.set_cons_zero, List.set_cons_succ])
          refine tk 6 22 ?_
          (try simp only [Act.put, List.setIfInBounds_toArray, List.set_cons_zero, List.set_cons_succ])
          refine tk 3 19 ?_
          (try simp only [Act.put, List.setIfInBounds_toArray, List.set_cons_zero, List.set_cons_succ])
          refine tk 7 23 ?_
          (try simp only [Act.put, List.setIfInBounds_toArray, List.set_cons_zero, List.set_cons_succ])
          refine tk 8 24 ?_
          (try simp only [Act.put, List.setIfInBounds_toArray, List.set_cons_zero, List.set_cons_succ])
          refine wpAnyH_done (by kernel_rfl) ?_ _
          clear hHeld
          go_wp2_with (first | go_big_skip | go_big_guard | fail)
          go_ret
          exact ⟨by rw [HE.out, ints_no HX.out HY.out HXY.out]; rfl, hX⟩
      · have e1 : decide ((j : Int) < (n : Int)) = false := decide_eq_false (by omega)
        go_wp2_with (first | go_big_skip | go_big_guard | fail)
        go_ret
        exact ⟨by rw [HE.out, ints_all (by rw [HN.out, HN'.out]) (fun i x y hx hy => HP.out i x y (by have := (List.getElem?_eq_some_iff.1 hx).1; have := HN.out; omega) hx hy)]; rfl, hst⟩
  · have d1 : ((n : Int) != (n' : Int)) = true := by rw [bne_iff_ne]; omega
    have HNN := hid hnn
    clear hnn
    go_enter Try.func60, Try.ntmps60
    go_wp2_with (first | go_big_skip | go_big_guard | fail)
    go_ret
    exact ⟨by rw [HE.out, ints_len (by rw [HN.out, HN'.out]; exact HNN.out)]; rfl, hst⟩
theorem kitInts_any (a a' : Option Addr) (n c n' c' : Nat) (l k : List Int) (w : World) (hl : Rd w (.slice a n c) 1 n (numsV l)) (hk : Rd w (.slice a' n' c') 1 n' (numsV k)) (hn : l.length = n) (hn' : k.length = n') (hb : n ≤ 1000000) (hb' : n' ≤ 1000000) :
    Calls Try.prog 37 #[.slice a n c, .slice a' n' c'] w fun e w' => e = .returned (.bool (l == k)) ∧ St w [] w' [] := by
  have hst := St.refl w
  have HL := hid hl
  have HK := hid hk
  have HN := hid hn
  have HN' := hid hn'
  obtain ⟨E, hE⟩ : ∃ E, E = (l == k) := ⟨_, rfl⟩
  rw [← hE]
  have HE := hid hE
  clear hl hk hn hn' hE
  by_cases hnn : n = n'
  · subst hnn
    have d1 : ((n : Int) != (n : Int)) = false := by simp
    go_enter Try.func37, Try.ntmps37
    go_wp2_with (first | go_big_skip | go_big_guard | fail)
    go_loopw [5] (fun i wr => ∃ j : Nat, j ≤ n ∧ i = .int .i64 (j : Int) ∧ St w [] wr [] ∧ Hid (∀ (i : Nat) (x y : Int), i < j → l[i]? = some x → k[i]? = some y → x = y)) (fun i _ => n - (intOf i).toNat)
    case atStart => exact ⟨0, Nat.zero_le _, rfl, hst, hid (fun i x y hi _ _ => by omega)⟩
    case round =>
      clear hst
      obtain ⟨j, hj, rfl, hst, HP⟩ := hrel
      by_cases hlt : j < n
      · have e1 : decide ((j : Int) < (n : Int)) = true := decide_eq_true (by omega)
        have z1 : IntKind.i64.wrap ((j : Int) + 1) = (j : Int) + 1 := IntWalk.i64_in _ (by omega)
        obtain ⟨x, hx⟩ : ∃ x, l[j]? = some x := ⟨_, List.getElem?_eq_getElem (by rw [HN.out]; exact hlt)⟩
        obtain ⟨y, hy⟩ : ∃ y, k[j]? = some y := ⟨_, List.getElem?_eq_getElem (by rw [HN'.out]; exact hlt)⟩
        obtain ⟨lb, lo, rfl, hr⟩ := Rd.at HL.out hlt
        obtain ⟨lb2, lo2, rfl, hr2⟩ := Rd.at HK.out hlt
        have HX := hid hx
        have HY := hid hy
        have HCX := hid (hr j _ (numsV_get hx))
        have HCY := hid (hr2 j _ (numsV_get hy))
        clear hx hy hr hr2
        by_cases hxy : x = y
        · have d2 : (x != y) = false := by rw [hxy]; simp
          have HXY := hid hxy
          clear hxy
          go_wp2_with (first | go_big_skip | go_big_guard | fail)
          have hX := hst.drew
          clear hst
          refine wp_region_held_drew (S := (fun w' => (loadVarH 3 ⟨lb, lo + j, none⟩).run Try.prog w' = .ok (.int .i64 x) w' ∧ (loadVarH 3 ⟨lb2, lo2 + j, none⟩).run Try.prog w' = .ok (.int .i64 y) w')) (by kernel_rfl) (by exact ⟨ldO hX HCX.out, ldO hX HCY.out⟩) (fun hHeld => ?_)
          refine tk 0 17 ?_
          (try simp only [Act.put, List.setIfInBounds_toArray, List.set_cons_zero, List.set_cons_succ])
          refine tk 1 18 ?_
          (try simp only [Act.put, List.setIfInBounds_toArray, List.set_cons_zero, List.set_cons_succ])
          refine tk 4 21 ?_
          (try simp only [Act.put, List.setIfInBounds_toArray, List.set_cons_zero, List.set_cons_succ])
          refine tk 5 22 ?_
          (try simp only [Act.put, List.setIfInBounds_toArray, List.set_cons_zero, List.set_cons_succ])
          refine tk 2 19 ?_
          (try simp only [Act.put, List.setIfInBounds_toArray, List.set_cons_zero, List.set_cons_succ])
          refine tk 6 23 ?_
          (try simp only [Act.put, List.setIfInBounds_toArray, List.set_cons_zero, List.set_cons_succ])
          refine tk 3 20 ?_
          (try simp only [Act.put, List.setIfInBounds_toArray, List.set_cons_zero, List.set_cons_succ])
          refine tk 7 24 ?_
          (try simp only [Act.put, List.setIfInBounds_toArray, List.set_cons_zero, List.set_cons_succ])
          refine tk 8 25 ?_
          (try simp only [Act.put, List.setIfInBounds_toArray, List.set_cons_zero, List.set_cons_succ])
          refine wpAnyH_done (by kernel_rfl) ?_ _
          clear hHeld
          go_wp2_with (first | go_big_skip | go_big_guard | fail)
          go_roundw
          case rel => exact ⟨j + 1, by omega, rfl, hX, hid (fun i a b hi ha hb => by
            by_cases e : i = j
            · subst e
              rw [HX.out] at ha; rw [HY.out] at hb
              cases ha; cases hb
              exact HXY.out
            · exact HP.out i a b (by omega) ha hb)⟩
          case measure => simp [intOf]; omega
        · have d2 : (x != y) = true := by rw [bne_iff_ne]; exact hxy
          have HXY := hid hxy
          clear hxy
          go_wp2_with (first | go_big_skip | go_big_guard | fail)
          have hX := hst.drew
          clear hst
          refine wp_region_held_drew (S := (fun w' => (loadVarH 3 ⟨lb, lo + j, none⟩).run Try.prog w' = .ok (.int .i64 x) w' ∧ (loadVarH 3 ⟨lb2, lo2 + j, none⟩).run Try.prog w' = .ok (.int .i64 y) w')) (by kernel_rfl) (by exact ⟨ldO hX HCX.out, ldO hX HCY.out⟩) (fun hHeld => ?_)
          refine tk 0 17 ?_
          (try simp only [Act.put, List.setIfInBounds_toArray, List.set_cons_zero, List.set_cons_succ])
          refine tk 1 18 ?_
          (try simp only [Act.put, List.setIfInBounds_toArray, List.set_cons_zero, List.set_cons_succ])
          refine tk 4 21 ?_
          (try simp only [Act.put, List.setIfInBounds_toArray, List.set_cons_zero, List.set_cons_succ])
          refine tk 5 22 ?_
          (try simp only [Act.put, List.setIfInBounds_toArray, List.set_cons_zero, List.set_cons_succ])
          refine tk 2 19 ?_
          (try simp only [Act.put, List.setIfInBounds_toArray, List.set_cons_zero, List.set_cons_succ])
          refine tk 6 23 ?_
          (try simp only [Act.put, List.setIfInBounds_toArray, List.set_cons_zero, List.set_cons_succ])
          refine tk 3 20 ?_
          (try simp only [Act.put, List.setIfInBounds_toArray, List.set_cons_zero, List.set_cons_succ])
          refine tk 7 24 ?_
          (try simp only [Act.put, List.setIfInBounds_toArray, List.set_cons_zero, List.set_cons_succ])
          refine tk 8 25 ?_
          (try simp only [Act.put, List.setIfInBounds_toArray, List.set_cons_zero, List.set_cons_succ])
          refine wpAnyH_done (by kernel_rfl) ?_ _
          clear hHeld
          go_wp2_with (first | go_big_skip | go_big_guard | fail)
          go_ret
          exact ⟨by rw [HE.out, ints_no HX.out HY.out HXY.out]; rfl, hX⟩
      · have e1 : decide ((j : Int) < (n : Int)) = false := decide_eq_false (by omega)
        go_wp2_with (first | go_big_skip | go_big_guard | fail)
        go_ret
        exact ⟨by rw [HE.out, ints_all (by rw [HN.out, HN'.out]) (fun i x y hx hy => HP.out i x y (by have := (List.getElem?_eq_some_iff.1 hx).1; have := HN.out; omega) hx hy)]; rfl, hst⟩
  · have d1 : ((n : Int) != (n' : Int)) = true := by rw [bne_iff_ne]; omega
    have HNN := hid hnn
    clear hnn
    go_enter Try.func37, Try.ntmps37
    go_wp2_with (first | go_big_skip | go_big_guard | fail)
    go_ret
    exact ⟨by rw [HE.out, ints_len (by rw [HN.out, HN'.out]; exact HNN.out)]; rfl, hst⟩
theorem eqRecs_any (a a' : Option Addr) (n c n' c' : Nat) (xs ys : List (Value × RC)) (w : World) (hl : RecsIn w (.slice a n c) n xs) (hk : RecsIn w (.slice a' n' c') n' ys) (hb : n ≤ 1000000) (hb' : n' ≤ 1000000) :
    Calls Try.prog 61 #[.slice a n c, .slice a' n' c', .func (.func 58) #[] #[]] w fun e w' => e = .returned (.bool (recsB (xs.map (·.2)) (ys.map (·.2)))) ∧ St w [] w' [] := by
  have hst := St.refl w
  have HL := hid hl
  have HK := hid hk
  obtain ⟨E, hE⟩ : ∃ E, E = recsB (xs.map (·.2)) (ys.map (·.2)) := ⟨_, rfl⟩
  rw [← hE]
  have HE := hid hE
  clear hl hk hE
  by_cases hnn : n = n'
  · subst hnn
    have d1 : ((n : Int) != (n : Int)) = false := by simp
    go_enter Try.func61, Try.ntmps61
    go_wp2_with (first | go_big_skip | go_big_guard | fail)
    go_loopw [17] (fun i wr => ∃ j : Nat, j ≤ n ∧ i = .int .i64 (j : Int) ∧ St w [] wr [] ∧ Hid (∀ (i : Nat) (x y : Value × RC), i < j → xs[i]? = some x → ys[i]? = some y → x.2.sameB y.2 = true)) (fun i _ => n - (intOf i).toNat)
    case atStart => exact ⟨0, Nat.zero_le _, rfl, hst, hid (fun i x y hi _ _ => by omega)⟩
    case round =>
      clear hst
      obtain ⟨j, hj, rfl, hst, HP⟩ := hrel
      by_cases hlt : j < n
      · have e1 : decide ((j : Int) < (n : Int)) = true := decide_eq_true (by omega)
        have z1 : IntKind.i64.wrap ((j : Int) + 1) = (j : Int) + 1 := IntWalk.i64_in _ (by omega)
        obtain ⟨x, lb, lo, hx, rfl, hin, hr⟩ := RecsIn.at HL.out hlt
        obtain ⟨y, lb2, lo2, hy, rfl, hin2, hr2⟩ := RecsIn.at HK.out hlt
        have HX := hid hx
        have HY := hid hy
        have HIX := hid hin
        have HIY := hid hin2
        have HLX := hid (cellsR_len hin.L)
        have HLY := hid (cellsR_len hin2.L)
        have HRX := hid hr
        have HRY := hid hr2
        clear hx hy hr hr2 hin hin2
        obtain ⟨q, hq⟩ : ∃ q, q = x.2.sameB y.2 := ⟨_, rfl⟩
        have HQ := hid hq
        clear hq
        cases q
        all_goals
          go_wp2_with (first | go_big_skip | go_big_guard | (refine wl_index rfl rfl rfl rfl hlt ?_) | (refine wl_loadE rfl rfl rfl ?_; first | refine ⟨_, Loads.oldA (cs := cellsR x) hst HLX.out HRX.out, ?_⟩ | refine ⟨_, Loads.oldA (cs := cellsR y) hst3 HLY.out HRY.out, ?_⟩ | refine ⟨_, Loads.atA (cellsR x) [_] hst5 HLX.out (by simp), ?_⟩ | refine ⟨_, Loads.atA (cellsR y) [] hst5 HLY.out (by simp), ?_⟩) | (refine wl_alloc hst rfl rfl ?_; intro g8 w2 hst2; clear hst) | (refine wl_storeA [] hst2 rfl rfl rfl rfl (by exact HLX.out) (cellsR_ones HIX.out) rfl ?_; intro w3 hst3; clear hst2) | (refine wl_alloc hst3 rfl rfl ?_; intro g9 w4 hst4; clear hst3) | (refine wl_storeA [] hst4 rfl rfl rfl rfl (by exact HLY.out) (cellsR_ones HIY.out) rfl ?_; intro w5 hst5; clear hst4) | (go_at_call 58; refine (sameRec_any x y _ (RC.In.old hst5.nil HIX.out) (RC.In.old hst5.nil HIY.out)).mono ?_; rw [← HQ.out]; rintro _ w9 ⟨rfl, h4⟩; have hst6 := St.call0 hst5 h4; clear h4 hst5))
          first
            | (go_ret; exact ⟨by rw [HE.out, recsB_no (map_at HX.out) (map_at HY.out) HQ.out.symm]; rfl, hst6.nil⟩)
            | (go_roundw; (case rel =>
                exact ⟨j + 1, by omega, rfl, hst6.nil, hid (fun i u v hi hu hv => by
                  by_cases e : i = j
                  · subst e
                    rw [HX.out] at hu; rw [HY.out] at hv
                    cases hu; cases hv
                    exact HQ.out.symm
                  · exact HP.out i u v (by omega) hu hv)⟩); (case measure => simp [intOf]; omega))
      · have e1 : decide ((j : Int) < (n : Int)) = false := decide_eq_false (by omega)
        go_wp2_with (first | go_big_skip | go_big_guard | fail)
        go_ret
        refine ⟨?_, hst⟩
        rw [HE.out, recsB_all (by rw [List.length_map, List.length_map, HL.out.len, HK.out.len]) (fun i x y hx hy => by
          rw [List.getElem?_map] at hx hy
          cases hx' : xs[i]? with
          | none => rw [hx'] at hx; cases hx
          | some u =>
            cases hy' : ys[i]? with
            | none => rw [hy'] at hy; cases hy
            | some v =>
              rw [hx'] at hx; rw [hy'] at hy
              cases hx; cases hy
              exact HP.out i u v (by have := (List.getElem?_eq_some_iff.1 hx').1; have := HL.out.len; omega) hx' hy')]
        rfl
  · have d1 : ((n : Int) != (n' : Int)) = true := by rw [bne_iff_ne]; omega
    have HNN := hid hnn
    clear hnn
    go_enter Try.func61, Try.ntmps61
    go_wp2_with (first | go_big_skip | go_big_guard | fail)
    go_ret
    exact ⟨by rw [HE.out, recsB_len (by rw [List.length_map, List.length_map, HL.out.len, HK.out.len]; exact HNN.out)]; rfl, hst⟩
end Go.Proofs.Ytkpkaoiafppimaa
namespace Go.Proofs.Ytkpkaoiafppimaa
set_option linter.unusedVariables false
set_option linter.unusedSimpArgs false
open Go.RowKit Hp
attribute [local irreducible] Go.Calls Go.wpList
set_option maxRecDepth 100000
set_option maxHeartbeats 8000000
/-- A table lies in memory: its records at ar, its lives at al. -/
structure TabIn (w : World) (t : TC) (ar : Option Addr) (nr cr : Nat) (al : Option Addr) (nl cl : Nat) (xs : List (Value × RC)) : Prop where
  R : RecsIn w (.slice ar nr cr) nr xs
  eq : xs.map (·.2) = t.recs
  L : Rd w (.slice al nl cl) 1 nl (numsV t.lives)
  ln : t.lives.length = nl
  br : nr ≤ 1000000
  bl : nl ≤ 1000000
theorem TabIn.old {w0 w : World} {Ls : List HA} {t : TC} {ar al : Option Addr} {nr cr nl cl : Nat} {xs : List (Value × RC)} (hst : St w0 [] w Ls) (h : TabIn w0 t ar nr cr al nl cl xs) : TabIn w t ar nr cr al nl cl xs := ⟨h.R.old hst, h.eq, Rd.old hst h.L, h.ln, h.br, h.bl⟩
theorem TabIn.len {w : World} {t : TC} {ar al : Option Addr} {nr cr nl cl : Nat} {xs : List (Value × RC)} (h : TabIn w t ar nr cr al nl cl xs) : t.recs.length = nr := by rw [← h.eq, List.length_map, h.R.len]
theorem recs_at {w : World} {t : TC} {ar al : Option Addr} {nr cr nl cl j : Nat} {xs : List (Value × RC)} {x : Value × RC} (h : TabIn w t ar nr cr al nl cl xs) (hx : xs[j]? = some x) : t.recs[j]? = some x.2 := by rw [← h.eq]; exact map_at hx
theorem recs_all {l k : List RC} {xs ys : List (Value × RC)} {n : Nat} (hx : xs.map (·.2) = l) (hy : ys.map (·.2) = k) (hl : l.length = n) (hk : k.length = n) (h : ∀ (i : Nat) (x y : Value × RC), i < n → xs[i]? = some x → ys[i]? = some y → x.2.sameB y.2 = true) : recsB l k = true := by
  subst hx hy
  refine recsB_all (by rw [hl, hk]) (fun i x y hx hy => ?_)
  have hi : i < n := by rw [← hl]; exact (List.getElem?_eq_some_iff.1 hx).1
  rw [List.getElem?_map] at hx hy
  cases hx' : xs[i]? with
  | none => rw [hx'] at hx; cases hx
  | some u =>
    cases hy' : ys[i]? with
    | none => rw [hy'] at hy; cases hy
    | some v =>
      rw [hx'] at hx; rw [hy'] at hy
      cases hx; cases hy
      exact h i u v hi hx' hy'
theorem same12_any (t u : TC) (ar al ar' al' : Option Addr) (nr cr nl cl nr' cr' nl' cl' : Nat) (xs ys : List (Value × RC)) (w : World) (ht : TabIn w t ar nr cr al nl cl xs) (hu : TabIn w u ar' nr' cr' al' nl' cl' ys) :
    Calls Try.prog 28 #[.agg (tabC t (.slice ar nr cr) (.slice al nl cl)).toArray, .agg (tabC u (.slice ar' nr' cr') (.slice al' nl' cl')).toArray] w fun e w' => e = .returned (.bool (t.sameB u)) ∧ St w [] w' [] := by
  have hst0 := St.refl w
  have HT := hid ht
  have HU := hid hu
  have hbr := ht.br
  have hbr' := hu.br
  have hbl := ht.bl
  have hbl' := hu.bl
  obtain ⟨E, hE⟩ : ∃ E, E = t.sameB u := ⟨_, rfl⟩
  rw [← hE]
  have HE := hid hE
  clear ht hu hE
  cases d1 : (t.next == u.next)
  · have d1' : (t.next != u.next) = true := by rw [bne, d1]; rfl
    have hv : E = false := by rw [HE.out]; exact TC.same1 d1
    rw [hv]
    clear hv
    go_enter Try.func28, Try.ntmps28
    go_wp2_with (first | go_big_skip | go_big_guard | (refine wl_boxA hst0 rfl rfl rfl ?_; intro g2 w1 hst1; clear hst0) | (refine wl_boxA hst1 rfl rfl rfl ?_; intro g3 w2 hst; clear hst1) | (refine wl_loadE rfl rfl rfl ?_; first | refine ⟨_, Loads.at [] hst rfl, ?_⟩ | refine ⟨_, Loads.at [_] hst rfl, ?_⟩ | refine ⟨_, Loads.atA [.int .i64 u.kind, .int .i64 u.dev, .int .i64 u.at_, .int .i64 u.txg] [] hst rfl rfl, ?_⟩ | refine ⟨_, Loads.atA [.int .i64 t.kind, .int .i64 t.dev, .int .i64 t.at_, .int .i64 t.txg] [_] hst rfl rfl, ?_⟩))
    go_ret
    exact ⟨rfl, hst.nil⟩
  · have d1' : (t.next != u.next) = false := by rw [bne, d1]; rfl
    cases d2 : ([t.kind, t.dev, t.at_, t.txg] == [u.kind, u.dev, u.at_, u.txg])
    · skip
      have hv : E = false := by rw [HE.out]; exact TC.same2 d2
      rw [hv]
      clear hv
      go_enter Try.func28, Try.ntmps28
      go_wp2_with (first | go_big_skip | go_big_guard | (refine wl_boxA hst0 rfl rfl rfl ?_; intro g2 w1 hst1; clear hst0) | (refine wl_boxA hst1 rfl rfl rfl ?_; intro g3 w2 hst; clear hst1) | (refine wl_loadE rfl rfl rfl ?_; first | refine ⟨_, Loads.at [] hst rfl, ?_⟩ | refine ⟨_, Loads.at [_] hst rfl, ?_⟩ | refine ⟨_, Loads.atA [.int .i64 u.kind, .int .i64 u.dev, .int .i64 u.at_, .int .i64 u.txg] [] hst rfl rfl, ?_⟩ | refine ⟨_, Loads.atA [.int .i64 t.kind, .int .i64 t.dev, .int .i64 t.at_, .int .i64 t.txg] [_] hst rfl rfl, ?_⟩))
      go_ret
      exact ⟨rfl, hst.nil⟩
    · cases h3 : (t.lives == u.lives)
      · have H3 := hid h3
        have hv0 := TC.same3 (u := u) h3
        have HV := hid hv0
        clear h3 hv0
        have hv : E = false := by rw [HE.out]; exact HV.out
        rw [hv]
        clear hv
        go_enter Try.func28, Try.ntmps28
        go_wp2_with (first | go_big_skip | go_big_guard | (refine wl_boxA hst0 rfl rfl rfl ?_; intro g2 w1 hst1; clear hst0) | (refine wl_boxA hst1 rfl rfl rfl ?_; intro g3 w2 hst; clear hst1) | (refine wl_loadE rfl rfl rfl ?_; first | refine ⟨_, Loads.at [] hst rfl, ?_⟩ | refine ⟨_, Loads.at [_] hst rfl, ?_⟩ | refine ⟨_, Loads.atA [.int .i64 u.kind, .int .i64 u.dev, .int .i64 u.at_, .int .i64 u.txg] [] hst rfl rfl, ?_⟩ | refine ⟨_, Loads.atA [.int .i64 t.kind, .int .i64 t.dev, .int .i64 t.at_, .int .i64 t.txg] [_] hst rfl rfl, ?_⟩) | (go_at_call 60; refine (eqInts_any al al' nl cl nl' cl' t.lives u.lives _ (Rd.old hst HT.out.L) (Rd.old hst HU.out.L) HT.out.ln HU.out.ln hbl hbl').mono ?_; rw [H3.out]; rintro _ w9 ⟨rfl, h4⟩; replace hst := St.call0 hst h4; clear h4) | (go_at_call 61; refine (eqRecs_any ar ar' nr cr nr' cr' xs ys _ (HT.out.R.old hst) (HU.out.R.old hst) hbr hbr').mono ?_; rw [HT.out.eq, HU.out.eq, H4.out]; rintro _ w9 ⟨rfl, h4⟩; replace hst := St.call0 hst h4; clear h4))
        go_ret
        exact ⟨rfl, hst.nil⟩
      · have H3 := hid h3
        cases h4 : recsB t.recs u.recs
        · have H4 := hid h4
          have hv0 := TC.same4 (t := t) (u := u) h4
          have HV := hid hv0
          clear h3 h4 hv0
          have hv : E = false := by rw [HE.out]; exact HV.out
          rw [hv]
          clear hv
          go_enter Try.func28, Try.ntmps28
          go_wp2_with (first | go_big_skip | go_big_guard | (refine wl_boxA hst0 rfl rfl rfl ?_; intro g2 w1 hst1; clear hst0) | (refine wl_boxA hst1 rfl rfl rfl ?_; intro g3 w2 hst; clear hst1) | (refine wl_loadE rfl rfl rfl ?_; first | refine ⟨_, Loads.at [] hst rfl, ?_⟩ | refine ⟨_, Loads.at [_] hst rfl, ?_⟩ | refine ⟨_, Loads.atA [.int .i64 u.kind, .int .i64 u.dev, .int .i64 u.at_, .int .i64 u.txg] [] hst rfl rfl, ?_⟩ | refine ⟨_, Loads.atA [.int .i64 t.kind, .int .i64 t.dev, .int .i64 t.at_, .int .i64 t.txg] [_] hst rfl rfl, ?_⟩) | (go_at_call 60; refine (eqInts_any al al' nl cl nl' cl' t.lives u.lives _ (Rd.old hst HT.out.L) (Rd.old hst HU.out.L) HT.out.ln HU.out.ln hbl hbl').mono ?_; rw [H3.out]; rintro _ w9 ⟨rfl, h4⟩; replace hst := St.call0 hst h4; clear h4) | (go_at_call 61; refine (eqRecs_any ar ar' nr cr nr' cr' xs ys _ (HT.out.R.old hst) (HU.out.R.old hst) hbr hbr').mono ?_; rw [HT.out.eq, HU.out.eq, H4.out]; rintro _ w9 ⟨rfl, h4⟩; replace hst := St.call0 hst h4; clear h4))
          go_ret
          exact ⟨rfl, hst.nil⟩
        · have H4 := hid h4
          have HV := hid (TC.same0 d1 d2 h3 h4)
          clear h3 h4
          have hv : E = true := by rw [HE.out]; exact HV.out
          rw [hv]
          clear hv
          go_enter Try.func28, Try.ntmps28
          go_wp2_with (first | go_big_skip | go_big_guard | (refine wl_boxA hst0 rfl rfl rfl ?_; intro g2 w1 hst1; clear hst0) | (refine wl_boxA hst1 rfl rfl rfl ?_; intro g3 w2 hst; clear hst1) | (refine wl_loadE rfl rfl rfl ?_; first | refine ⟨_, Loads.at [] hst rfl, ?_⟩ | refine ⟨_, Loads.at [_] hst rfl, ?_⟩ | refine ⟨_, Loads.atA [.int .i64 u.kind, .int .i64 u.dev, .int .i64 u.at_, .int .i64 u.txg] [] hst rfl rfl, ?_⟩ | refine ⟨_, Loads.atA [.int .i64 t.kind, .int .i64 t.dev, .int .i64 t.at_, .int .i64 t.txg] [_] hst rfl rfl, ?_⟩) | (go_at_call 60; refine (eqInts_any al al' nl cl nl' cl' t.lives u.lives _ (Rd.old hst HT.out.L) (Rd.old hst HU.out.L) HT.out.ln HU.out.ln hbl hbl').mono ?_; rw [H3.out]; rintro _ w9 ⟨rfl, h4⟩; replace hst := St.call0 hst h4; clear h4) | (go_at_call 61; refine (eqRecs_any ar ar' nr cr nr' cr' xs ys _ (HT.out.R.old hst) (HU.out.R.old hst) hbr hbr').mono ?_; rw [HT.out.eq, HU.out.eq, H4.out]; rintro _ w9 ⟨rfl, h4⟩; replace hst := St.call0 hst h4; clear h4))
          go_ret
          exact ⟨rfl, hst.nil⟩
attribute [local go_sem ↓] heldInt heldInts heldRecs heldRec
theorem kitTable_any (t u : TC) (ar al ar' al' : Option Addr) (nr cr nl cl nr' cr' nl' cl' : Nat) (xs ys : List (Value × RC)) (w : World) (ht : TabIn w t ar nr cr al nl cl xs) (hu : TabIn w u ar' nr' cr' al' nl' cl' ys) :
    Calls Try.prog 12 #[.agg (tabC t (.slice ar nr cr) (.slice al nl cl)).toArray, .agg (tabC u (.slice ar' nr' cr') (.slice al' nl' cl')).toArray] w fun e w' => e = .returned (.bool (t.sameB u)) ∧ St w [] w' [] := by
  have hst0 := St.refl w
  have HT := hid ht
  have HU := hid hu
  have hbr := ht.br
  have hbr' := hu.br
  have hbl := ht.bl
  have hbl' := hu.bl
  obtain ⟨E, hE⟩ : ∃ E, E = t.sameB u := ⟨_, rfl⟩
  rw [← hE]
  have HE := hid hE
  clear ht hu hE
  cases d1 : (t.next == u.next)
  · have d1' : (t.next != u.next) = true := by rw [bne, d1]; rfl
    have hv : E = false := by rw [HE.out]; exact TC.same1 d1
    rw [hv]
    clear hv
    go_enter Try.func12, Try.ntmps12
    go_wp2_with (first | go_big_skip | go_big_guard | (refine wl_boxA hst0 rfl rfl rfl ?_; intro g2 w1 hst1; clear hst0) | (refine wl_boxA hst1 rfl rfl rfl ?_; intro g3 w2 hst; clear hst1) | (refine wl_loadE rfl rfl rfl ?_; first | refine ⟨_, Loads.at [] hst rfl, ?_⟩ | refine ⟨_, Loads.at [_] hst rfl, ?_⟩ | refine ⟨_, Loads.atA [.int .i64 u.kind, .int .i64 u.dev, .int .i64 u.at_, .int .i64 u.txg] [] hst rfl rfl, ?_⟩ | refine ⟨_, Loads.atA [.int .i64 t.kind, .int .i64 t.dev, .int .i64 t.at_, .int .i64 t.txg] [_] hst rfl rfl, ?_⟩))
    go_ret
    exact ⟨rfl, hst.nil⟩
  · have d1' : (t.next != u.next) = false := by rw [bne, d1]; rfl
    cases d2 : ([t.kind, t.dev, t.at_, t.txg] == [u.kind, u.dev, u.at_, u.txg])
    · skip
      have hv : E = false := by rw [HE.out]; exact TC.same2 d2
      rw [hv]
      clear hv
      go_enter Try.func12, Try.ntmps12
      go_wp2_with (first | go_big_skip | go_big_guard | (refine wl_boxA hst0 rfl rfl rfl ?_; intro g2 w1 hst1; clear hst0) | (refine wl_boxA hst1 rfl rfl rfl ?_; intro g3 w2 hst; clear hst1) | (refine wl_loadE rfl rfl rfl ?_; first | refine ⟨_, Loads.at [] hst rfl, ?_⟩ | refine ⟨_, Loads.at [_] hst rfl, ?_⟩ | refine ⟨_, Loads.atA [.int .i64 u.kind, .int .i64 u.dev, .int .i64 u.at_, .int .i64 u.txg] [] hst rfl rfl, ?_⟩ | refine ⟨_, Loads.atA [.int .i64 t.kind, .int .i64 t.dev, .int .i64 t.at_, .int .i64 t.txg] [_] hst rfl rfl, ?_⟩))
      go_ret
      exact ⟨rfl, hst.nil⟩
    · by_cases hnn : nr = nr'
      · subst hnn
        have d5 : ((nr : Int) != (nr : Int)) = false := by simp
        cases h3 : (t.lives == u.lives)
        · have H3 := hid h3
          have hv0 := TC.same3 (u := u) h3
          have HV := hid hv0
          clear h3 hv0
          have hv : E = false := by rw [HE.out]; exact HV.out
          rw [hv]
          clear hv
          go_enter Try.func12, Try.ntmps12
          go_wp2_with (first | go_big_skip | go_big_guard | (refine wl_boxA hst0 rfl rfl rfl ?_; intro g2 w1 hst1; clear hst0) | (refine wl_boxA hst1 rfl rfl rfl ?_; intro g3 w2 hst; clear hst1) | (refine wl_loadE rfl rfl rfl ?_; first | refine ⟨_, Loads.at [] hst rfl, ?_⟩ | refine ⟨_, Loads.at [_] hst rfl, ?_⟩ | refine ⟨_, Loads.atA [.int .i64 u.kind, .int .i64 u.dev, .int .i64 u.at_, .int .i64 u.txg] [] hst rfl rfl, ?_⟩ | refine ⟨_, Loads.atA [.int .i64 t.kind, .int .i64 t.dev, .int .i64 t.at_, .int .i64 t.txg] [_] hst rfl rfl, ?_⟩) | (go_at_call 37; refine (kitInts_any al al' nl cl nl' cl' t.lives u.lives _ (Rd.old hst HT.out.L) (Rd.old hst HU.out.L) HT.out.ln HU.out.ln hbl hbl').mono ?_; rw [H3.out]; rintro _ w9 ⟨rfl, h4⟩; replace hst := St.call0 hst h4; clear h4))
          go_ret
          exact ⟨rfl, hst.nil⟩
        · have H3 := hid h3
          have H12 := hid (And.intro d1 (And.intro (show (t.curL == u.curL) = true from d2) h3))
          clear h3
          go_enter Try.func12, Try.ntmps12
          go_wp2_with (first | go_big_skip | go_big_guard | (refine wl_boxA hst0 rfl rfl rfl ?_; intro g2 w1 hst1; clear hst0) | (refine wl_boxA hst1 rfl rfl rfl ?_; intro g3 w2 hst; clear hst1) | (refine wl_loadE rfl rfl rfl ?_; first | refine ⟨_, Loads.at [] hst rfl, ?_⟩ | refine ⟨_, Loads.at [_] hst rfl, ?_⟩ | refine ⟨_, Loads.atA [.int .i64 u.kind, .int .i64 u.dev, .int .i64 u.at_, .int .i64 u.txg] [] hst rfl rfl, ?_⟩ | refine ⟨_, Loads.atA [.int .i64 t.kind, .int .i64 t.dev, .int .i64 t.at_, .int .i64 t.txg] [_] hst rfl rfl, ?_⟩) | (go_at_call 37; refine (kitInts_any al al' nl cl nl' cl' t.lives u.lives _ (Rd.old hst HT.out.L) (Rd.old hst HU.out.L) HT.out.ln HU.out.ln hbl hbl').mono ?_; rw [H3.out]; rintro _ w9 ⟨rfl, h4⟩; replace hst := St.call0 hst h4; clear h4))
          go_loopw [5] (fun i wr => ∃ j : Nat, j ≤ nr ∧ i = .int .i64 (j : Int) ∧ St w [] wr [.blk g3 30 (tabC u (.slice ar' nr cr') (.slice al' nl' cl')), .blk g2 30 (tabC t (.slice ar nr cr) (.slice al nl cl))] ∧ Hid (∀ (i : Nat) (x y : Value × RC), i < j → xs[i]? = some x → ys[i]? = some y → x.2.sameB y.2 = true)) (fun i _ => nr - (intOf i).toNat)
          case atStart => exact ⟨0, Nat.zero_le _, rfl, hst, hid (fun i x y hi _ _ => by omega)⟩
          case round =>
            clear hst
            obtain ⟨j, hj, rfl, hst, HP⟩ := hrel
            by_cases hlt : j < nr
            · have e1 : decide ((j : Int) < (nr : Int)) = true := decide_eq_true (by omega)
              have z1 : IntKind.i64.wrap ((j : Int) + 1) = (j : Int) + 1 := IntWalk.i64_in _ (by omega)
              obtain ⟨x, lb, lo, hx, rfl, hin, hr⟩ := RecsIn.at HT.out.R hlt
              obtain ⟨y, lb2, lo2, hy, rfl, hin2, hr2⟩ := RecsIn.at HU.out.R hlt
              have HX := hid hx
              have HY := hid hy
              have HIX := hid hin
              have HIY := hid hin2
              have HLX := hid (cellsR_len hin.L)
              have HLY := hid (cellsR_len hin2.L)
              have HRX := hid hr
              have HRY := hid hr2
              clear hx hy hr hr2 hin hin2
              obtain ⟨q, hq⟩ : ∃ q, q = x.2.sameB y.2 := ⟨_, rfl⟩
              have HQ := hid hq
              clear hq
              cases q
              · go_wp2_with (first | go_big_skip | go_big_guard | (refine wl_loadE rfl rfl rfl ?_; first | refine ⟨_, Loads.at [] hst rfl, ?_⟩ | refine ⟨_, Loads.at [_] hst rfl, ?_⟩ | refine ⟨_, Loads.atA [.int .i64 u.kind, .int .i64 u.dev, .int .i64 u.at_, .int .i64 u.txg] [] hst rfl rfl, ?_⟩ | refine ⟨_, Loads.atA [.int .i64 t.kind, .int .i64 t.dev, .int .i64 t.at_, .int .i64 t.txg] [_] hst rfl rfl, ?_⟩))
                have hX := hst.drew
                clear hst
                refine wp_region_held_drew (S := (fun w' => (loadVarH 25 ⟨g2, 1, none⟩).run Try.prog w' = .ok (.slice (some ⟨lb, lo, none⟩) nr cr) w' ∧ (loadVarH 25 ⟨g3, 1, none⟩).run Try.prog w' = .ok (.slice (some ⟨lb2, lo2, none⟩) nr cr') w' ∧ (loadVarH 47 ⟨lb, lo + j * 44, none⟩).run Try.prog w' = .ok (.agg (cellsR x).toArray) w' ∧ (loadVarH 47 ⟨lb2, lo2 + j * 44, none⟩).run Try.prog w' = .ok (.agg (cellsR y).toArray) w')) (by kernel_rfl) (by exact ⟨ldS [_] hX rfl, ldS [] hX rfl, ldOA hX HLX.out HRX.out, ldOA hX HLY.out HRY.out⟩) (fun hHeld => ?_)
                refine tk 0 42 ?_
                (try simp only [Act.put, List.setIfInBounds_toArray, List.set_cons_zero, List.set_cons_succ])
                refine tk 2 44 ?_
                (try simp only [Act.put, List.setIfInBounds_toArray, List.set_cons_zero, List.set_cons_succ])
                refine tk 5 47 ?_
                (try simp only [Act.put, List.setIfInBounds_toArray, List.set_cons_zero, List.set_cons_succ])
                refine tk 7 49 ?_
                (try simp only [Act.put, List.setIfInBounds_toArray, List.set_cons_zero, List.set_cons_succ])
                refine tk 1 43 ?_
                (try simp only [Act.put, List.setIfInBounds_toArray, List.set_cons_zero, List.set_cons_succ])
                refine tk 6 48 ?_
                (try simp only [Act.put, List.setIfInBounds_toArray, List.set_cons_zero, List.set_cons_succ])
                refine tk 3 45 ?_
                (try simp only [Act.put, List.setIfInBounds_toArray, List.set_cons_zero, List.set_cons_succ])
                refine tk 8 50 ?_
                (try simp only [Act.put, List.setIfInBounds_toArray, List.set_cons_zero, List.set_cons_succ])
                refine tk 4 46 ?_
                (try simp only [Act.put, List.setIfInBounds_toArray, List.set_cons_zero, List.set_cons_succ])
                refine tk 9 51 ?_
                (try simp only [Act.put, List.setIfInBounds_toArray, List.set_cons_zero, List.set_cons_succ])
                refine wpAnyH_ready (rs := [10]) (by kernel_rfl) (by simp) ?_
                refine (AllReadyH.cons (o := ⟨some 52, _, _, _, _, _⟩) rfl (fun K hK => ?_) AllReadyH.nil)
                rw [if_pos (by rfl)]
                go_simp
                go_at_call 38
                refine (kitRec_any x y _ (RC.In.old hX.nil HIX.out) (RC.In.old hX.nil HIY.out)).mono ?_
                rw [← HQ.out]
                rintro _ w9 ⟨rfl, h4⟩
                have hA6 := St.call0 hX h4
                clear h4
                refine hK.out _ _ ?_ (fun hHeld => ?_)
                · exact ⟨ldS [_] hA6 rfl, ldS [] hA6 rfl, ldOA hA6 HLX.out HRX.out, ldOA hA6 HLY.out HRY.out⟩
                clear hK K
                (try simp only [Act.put, List.setIfInBounds_toArray, List.set_cons_zero, List.set_cons_succ])
                refine tk 11 53 ?_
                (try simp only [Act.put, List.setIfInBounds_toArray, List.set_cons_zero, List.set_cons_succ])
                refine wpAnyH_done (by kernel_rfl) ?_ _
                clear hHeld
                go_wp2_with (first | go_big_skip | go_big_guard | fail)
                go_ret
                exact ⟨by rw [HE.out, TC.same4 (recsB_no (recs_at HT.out HX.out) (recs_at HU.out HY.out) HQ.out.symm)]; rfl, hA6.nil⟩
              · go_wp2_with (first | go_big_skip | go_big_guard | (refine wl_loadE rfl rfl rfl ?_; first | refine ⟨_, Loads.at [] hst rfl, ?_⟩ | refine ⟨_, Loads.at [_] hst rfl, ?_⟩ | refine ⟨_, Loads.atA [.int .i64 u.kind, .int .i64 u.dev, .int .i64 u.at_, .int .i64 u.txg] [] hst rfl rfl, ?_⟩ | refine ⟨_, Loads.atA [.int .i64 t.kind, .int .i64 t.dev, .int .i64 t.at_, .int .i64 t.txg] [_] hst rfl rfl, ?_⟩))
                have hX := hst.drew
                clear hst
                refine wp_region_held_drew (S := (fun w' => (loadVarH 25 ⟨g2, 1, none⟩).run Try.prog w' = .ok (.slice (some ⟨lb, lo, none⟩) nr cr) w' ∧ (loadVarH 25 ⟨g3, 1, none⟩).run Try.prog w' = .ok (.slice (some ⟨lb2, lo2, none⟩) nr cr') w' ∧ (loadVarH 47 ⟨lb, lo + j * 44, none⟩).run Try.prog w' = .ok (.agg (cellsR x).toArray) w' ∧ (loadVarH 47 ⟨lb2, lo2 + j * 44, none⟩).run Try.prog w' = .ok (.agg (cellsR y).toArray) w')) (by kernel_rfl) (by exact ⟨ldS [_] hX rfl, ldS [] hX rfl, ldOA hX HLX.out HRX.out, ldOA hX HLY.out HRY.out⟩) (fun hHeld => ?_)
                refine tk 0 42 ?_
                (try simp only [Act.put, List.setIfInBounds_toArray, List.set_cons_zero, List.set_cons_succ])
                refine tk 2 44 ?_
                (try simp only [Act.put, List.setIfInBounds_toArray, List.set_cons_zero, List.set_cons_succ])
                refine tk 5 47 ?_
                (try simp only [Act.put, List.setIfInBounds_toArray, List.set_cons_zero, List.set_cons_succ])
                refine tk 7 49 ?_
                (try simp only [Act.put, List.setIfInBounds_toArray, List.set_cons_zero, List.set_cons_succ])
                refine tk 1 43 ?_
                (try simp only [Act.put, List.setIfInBounds_toArray, List.set_cons_zero, List.set_cons_succ])
                refine tk 6 48 ?_
                (try simp only [Act.put, List.setIfInBounds_toArray, List.set_cons_zero, List.set_cons_succ])
                refine tk 3 45 ?_
                (try simp only [Act.put, List.setIfInBounds_toArray, List.set_cons_zero, List.set_cons_succ])
                refine tk 8 50 ?_
                (try simp only [Act.put, List.setIfInBounds_toArray, List.set_cons_zero, List.set_cons_succ])
                refine tk 4 46 ?_
                (try simp only [Act.put, List.setIfInBounds_toArray, List.set_cons_zero, List.set_cons_succ])
                refine tk 9 51 ?_
                (try simp only [Act.put, List.setIfInBounds_toArray, List.set_cons_zero, List.set_cons_succ])
                refine wpAnyH_ready (rs := [10]) (by kernel_rfl) (by simp) ?_
                refine (AllReadyH.cons (o := ⟨some 52, _, _, _, _, _⟩) rfl (fun K hK => ?_) AllReadyH.nil)
                rw [if_pos (by rfl)]
                go_simp
                go_at_call 38
                refine (kitRec_any x y _ (RC.In.old hX.nil HIX.out) (RC.In.old hX.nil HIY.out)).mono ?_
                rw [← HQ.out]
                rintro _ w9 ⟨rfl, h4⟩
                have hA6 := St.call0 hX h4
                clear h4
                refine hK.out _ _ ?_ (fun hHeld => ?_)
                · exact ⟨ldS [_] hA6 rfl, ldS [] hA6 rfl, ldOA hA6 HLX.out HRX.out, ldOA hA6 HLY.out HRY.out⟩
                clear hK K
                (try simp only [Act.put, List.setIfInBounds_toArray, List.set_cons_zero, List.set_cons_succ])
                refine tk 11 53 ?_
                (try simp only [Act.put, List.setIfInBounds_toArray, List.set_cons_zero, List.set_cons_succ])
                refine wpAnyH_done (by kernel_rfl) ?_ _
                clear hHeld
                go_wp2_with (first | go_big_skip | go_big_guard | fail)
                go_roundw
                case rel => exact ⟨j + 1, by omega, rfl, hA6, hid (fun i a b hi ha hb => by
                  by_cases e : i = j
                  · subst e
                    rw [HX.out] at ha; rw [HY.out] at hb
                    cases ha; cases hb
                    exact HQ.out.symm
                  · exact HP.out i a b (by omega) ha hb)⟩
                case measure => simp [intOf]; omega
            · have e1 : decide ((j : Int) < (nr : Int)) = false := decide_eq_false (by omega)
              obtain rfl : j = nr := by omega
              have H4 := hid (recs_all HT.out.eq HU.out.eq HT.out.len HU.out.len HP.out)
              clear HP
              go_wp2_with (first | go_big_skip | go_big_guard | (refine wl_loadE rfl rfl rfl ?_; first | refine ⟨_, Loads.at [] hst rfl, ?_⟩ | refine ⟨_, Loads.at [_] hst rfl, ?_⟩ | refine ⟨_, Loads.atA [.int .i64 u.kind, .int .i64 u.dev, .int .i64 u.at_, .int .i64 u.txg] [] hst rfl rfl, ?_⟩ | refine ⟨_, Loads.atA [.int .i64 t.kind, .int .i64 t.dev, .int .i64 t.at_, .int .i64 t.txg] [_] hst rfl rfl, ?_⟩))
              go_ret
              exact ⟨by rw [HE.out, TC.same0 H12.out.1 H12.out.2.1 H12.out.2.2 H4.out]; rfl, hst.nil⟩
      · have d5 : ((nr : Int) != (nr' : Int)) = true := by rw [bne_iff_ne]; omega
        have hv0 := TC.same4 (t := t) (u := u) (recsB_len (by rw [HT.out.len, HU.out.len]; exact hnn))
        have HV := hid hv0
        clear hv0 hnn
        have hv : E = false := by rw [HE.out]; exact HV.out
        rw [hv]
        clear hv
        go_enter Try.func12, Try.ntmps12
        go_wp2_with (first | go_big_skip | go_big_guard | (refine wl_boxA hst0 rfl rfl rfl ?_; intro g2 w1 hst1; clear hst0) | (refine wl_boxA hst1 rfl rfl rfl ?_; intro g3 w2 hst; clear hst1) | (refine wl_loadE rfl rfl rfl ?_; first | refine ⟨_, Loads.at [] hst rfl, ?_⟩ | refine ⟨_, Loads.at [_] hst rfl, ?_⟩ | refine ⟨_, Loads.atA [.int .i64 u.kind, .int .i64 u.dev, .int .i64 u.at_, .int .i64 u.txg] [] hst rfl rfl, ?_⟩ | refine ⟨_, Loads.atA [.int .i64 t.kind, .int .i64 t.dev, .int .i64 t.at_, .int .i64 t.txg] [_] hst rfl rfl, ?_⟩))
        go_ret
        exact ⟨rfl, hst.nil⟩
theorem refSame12_any (t u : TC) (ar al ar' al' : Option Addr) (nr cr nl cl nr' cr' nl' cl' : Nat) (xs ys : List (Value × RC)) (w : World) (ht : TabIn w t ar nr cr al nl cl xs) (hu : TabIn w u ar' nr' cr' al' nl' cl' ys) :
    Calls Try.prog 29 #[.agg (tabC t (.slice ar nr cr) (.slice al nl cl)).toArray, .agg (tabC u (.slice ar' nr' cr') (.slice al' nl' cl')).toArray] w fun e w' => e = .returned (.bool (t.sameB u)) ∧ St w [] w' [] := by
  have hst0 := St.refl w
  have HT := hid ht
  have HU := hid hu
  have hbr := ht.br
  have hbr' := hu.br
  have hbl := ht.bl
  have hbl' := hu.bl
  obtain ⟨E, hE⟩ : ∃ E, E = t.sameB u := ⟨_, rfl⟩
  rw [← hE]
  have HE := hid hE
  clear ht hu hE
  cases d1 : (t.next == u.next)
  · have d1' : (t.next != u.next) = true := by rw [bne, d1]; rfl
    have hv : E = false := by rw [HE.out]; exact TC.same1 d1
    rw [hv]
    clear hv
    go_enter Try.func29, Try.ntmps29
    go_wp2_with (first | go_big_skip | go_big_guard | (refine wl_boxA hst0 rfl rfl rfl ?_; intro g2 w1 hst1; clear hst0) | (refine wl_boxA hst1 rfl rfl rfl ?_; intro g3 w2 hst; clear hst1) | (refine wl_loadE rfl rfl rfl ?_; first | refine ⟨_, Loads.at [] hst rfl, ?_⟩ | refine ⟨_, Loads.at [_] hst rfl, ?_⟩ | refine ⟨_, Loads.atA [.int .i64 u.kind, .int .i64 u.dev, .int .i64 u.at_, .int .i64 u.txg] [] hst rfl rfl, ?_⟩ | refine ⟨_, Loads.atA [.int .i64 t.kind, .int .i64 t.dev, .int .i64 t.at_, .int .i64 t.txg] [_] hst rfl rfl, ?_⟩))
    go_ret
    exact ⟨rfl, hst.nil⟩
  · have d1' : (t.next != u.next) = false := by rw [bne, d1]; rfl
    cases d2 : ([t.kind, t.dev, t.at_, t.txg] == [u.kind, u.dev, u.at_, u.txg])
    · skip
      have hv : E = false := by rw [HE.out]; exact TC.same2 d2
      rw [hv]
      clear hv
      go_enter Try.func29, Try.ntmps29
      go_wp2_with (first | go_big_skip | go_big_guard | (refine wl_boxA hst0 rfl rfl rfl ?_; intro g2 w1 hst1; clear hst0) | (refine wl_boxA hst1 rfl rfl rfl ?_; intro g3 w2 hst; clear hst1) | (refine wl_loadE rfl rfl rfl ?_; first | refine ⟨_, Loads.at [] hst rfl, ?_⟩ | refine ⟨_, Loads.at [_] hst rfl, ?_⟩ | refine ⟨_, Loads.atA [.int .i64 u.kind, .int .i64 u.dev, .int .i64 u.at_, .int .i64 u.txg] [] hst rfl rfl, ?_⟩ | refine ⟨_, Loads.atA [.int .i64 t.kind, .int .i64 t.dev, .int .i64 t.at_, .int .i64 t.txg] [_] hst rfl rfl, ?_⟩))
      go_ret
      exact ⟨rfl, hst.nil⟩
    · by_cases hnn : nr = nr'
      · subst hnn
        have d5 : ((nr : Int) != (nr : Int)) = false := by simp
        by_cases hll : nl = nl'
        · subst hll
          have d6 : ((nl : Int) != (nl : Int)) = false := by simp
          have H12 := hid (And.intro d1 (show (t.curL == u.curL) = true from d2))
          go_enter Try.func29, Try.ntmps29
          go_wp2_with (first | go_big_skip | go_big_guard | (refine wl_boxA hst0 rfl rfl rfl ?_; intro g2 w1 hst1; clear hst0) | (refine wl_boxA hst1 rfl rfl rfl ?_; intro g3 w2 hst; clear hst1) | (refine wl_loadE rfl rfl rfl ?_; first | refine ⟨_, Loads.at [] hst rfl, ?_⟩ | refine ⟨_, Loads.at [_] hst rfl, ?_⟩ | refine ⟨_, Loads.atA [.int .i64 u.kind, .int .i64 u.dev, .int .i64 u.at_, .int .i64 u.txg] [] hst rfl rfl, ?_⟩ | refine ⟨_, Loads.atA [.int .i64 t.kind, .int .i64 t.dev, .int .i64 t.at_, .int .i64 t.txg] [_] hst rfl rfl, ?_⟩))
          go_loopw [5] (fun i wr => ∃ j : Nat, j ≤ nr ∧ i = .int .i64 (j : Int) ∧ St w [] wr [.blk g3 30 (tabC u (.slice ar' nr cr') (.slice al' nl cl')), .blk g2 30 (tabC t (.slice ar nr cr) (.slice al nl cl))] ∧ Hid (∀ (i : Nat) (x y : Value × RC), i < j → xs[i]? = some x → ys[i]? = some y → x.2.sameB y.2 = true)) (fun i _ => nr - (intOf i).toNat)
          case atStart => exact ⟨0, Nat.zero_le _, rfl, hst, hid (fun i x y hi _ _ => by omega)⟩
          case round =>
            clear hst
            obtain ⟨j, hj, rfl, hst, HP⟩ := hrel
            by_cases hlt : j < nr
            · have e1 : decide ((j : Int) < (nr : Int)) = true := decide_eq_true (by omega)
              have z1 : IntKind.i64.wrap ((j : Int) + 1) = (j : Int) + 1 := IntWalk.i64_in _ (by omega)
              obtain ⟨x, lb, lo, hx, rfl, hin, hr⟩ := RecsIn.at HT.out.R hlt
              obtain ⟨y, lb2, lo2, hy, rfl, hin2, hr2⟩ := RecsIn.at HU.out.R hlt
              have HX := hid hx
              have HY := hid hy
              have HIX := hid hin
              have HIY := hid hin2
              have HLX := hid (cellsR_len hin.L)
              have HLY := hid (cellsR_len hin2.L)
              have HRX := hid hr
              have HRY := hid hr2
              clear hx hy hr hr2 hin hin2
              obtain ⟨q, hq⟩ : ∃ q, q = x.2.sameB y.2 := ⟨_, rfl⟩
              have HQ := hid hq
              clear hq
              cases q
              · go_wp2_with (first | go_big_skip | go_big_guard | (refine wl_loadE rfl rfl rfl ?_; first | refine ⟨_, Loads.at [] hst rfl, ?_⟩ | refine ⟨_, Loads.at [_] hst rfl, ?_⟩ | refine ⟨_, Loads.atA [.int .i64 u.kind, .int .i64 u.dev, .int .i64 u.at_, .int .i64 u.txg] [] hst rfl rfl, ?_⟩ | refine ⟨_, Loads.atA [.int .i64 t.kind, .int .i64 t.dev, .int .i64 t.at_, .int .i64 t.txg] [_] hst rfl rfl, ?_⟩))
                have hX := hst.drew
                clear hst
                refine wp_region_held_drew (S := (fun w' => (loadVarH 25 ⟨g2, 1, none⟩).run Try.prog w' = .ok (.slice (some ⟨lb, lo, none⟩) nr cr) w' ∧ (loadVarH 25 ⟨g3, 1, none⟩).run Try.prog w' = .ok (.slice (some ⟨lb2, lo2, none⟩) nr cr') w' ∧ (loadVarH 47 ⟨lb, lo + j * 44, none⟩).run Try.prog w' = .ok (.agg (cellsR x).toArray) w' ∧ (loadVarH 47 ⟨lb2, lo2 + j * 44, none⟩).run Try.prog w' = .ok (.agg (cellsR y).toArray) w')) (by kernel_rfl) (by exact ⟨ldS [_] hX rfl, ldS [] hX rfl, ldOA hX HLX.out HRX.out, ldOA hX HLY.out HRY.out⟩) (fun hHeld => ?_)
                refine tk 0 44 ?_
                (try simp only [Act.put, List.setIfInBounds_toArray, List.set_cons_zero, List.set_cons_succ])
                refine tk 2 46 ?_
                (try simp only [Act.put, List.setIfInBounds_toArray, List.set_cons_zero, List.set_cons_succ])
                refine tk 5 49 ?_
                (try simp only [Act.put, List.setIfInBounds_toArray, List.set_cons_zero, List.set_cons_succ])
                refine tk 7 51 ?_
                (try simp only [Act.put, List.setIfInBounds_toArray, List.set_cons_zero, List.set_cons_succ])
                refine tk 1 45 ?_
                (try simp only [Act.put, List.setIfInBounds_toArray, List.set_cons_zero, List.set_cons_succ])
                refine tk 6 50 ?_
                (try simp only [Act.put, List.setIfInBounds_toArray, List.set_cons_zero, List.set_cons_succ])
                refine tk 3 47 ?_
                (try simp only [Act.put, List.setIfInBounds_toArray, List.set_cons_zero, List.set_cons_succ])
                refine tk 8 52 ?_
                (try simp only [Act.put, List.setIfInBounds_toArray, List.set_cons_zero, List.set_cons_succ])
                refine tk 4 48 ?_
                (try simp only [Act.put, List.setIfInBounds_toArray, List.set_cons_zero, List.set_cons_succ])
                refine tk 9 53 ?_
                (try simp only [Act.put, List.setIfInBounds_toArray, List.set_cons_zero, List.set_cons_succ])
                refine wpAnyH_ready (rs := [10]) (by kernel_rfl) (by simp) ?_
                refine (AllReadyH.cons (o := ⟨some 54, _, _, _, _, _⟩) rfl (fun K hK => ?_) AllReadyH.nil)
                rw [if_pos (by rfl)]
                go_simp
                go_at_call 62
                refine (alike_any x y _ (RC.In.old hX.nil HIX.out) (RC.In.old hX.nil HIY.out)).mono ?_
                rw [← HQ.out]
                rintro _ w9 ⟨rfl, h4⟩
                have hA6 := St.call0 hX h4
                clear h4
                refine hK.out _ _ ?_ (fun hHeld => ?_)
                · exact ⟨ldS [_] hA6 rfl, ldS [] hA6 rfl, ldOA hA6 HLX.out HRX.out, ldOA hA6 HLY.out HRY.out⟩
                clear hK K
                (try simp only [Act.put, List.setIfInBounds_toArray, List.set_cons_zero, List.set_cons_succ])
                refine tk 11 55 ?_
                (try simp only [Act.put, List.setIfInBounds_toArray, List.set_cons_zero, List.set_cons_succ])
                refine wpAnyH_done (by kernel_rfl) ?_ _
                clear hHeld
                go_wp2_with (first | go_big_skip | go_big_guard | fail)
                go_ret
                exact ⟨by rw [HE.out, TC.same4 (recsB_no (recs_at HT.out HX.out) (recs_at HU.out HY.out) HQ.out.symm)]; rfl, hA6.nil⟩
              · go_wp2_with (first | go_big_skip | go_big_guard | (refine wl_loadE rfl rfl rfl ?_; first | refine ⟨_, Loads.at [] hst rfl, ?_⟩ | refine ⟨_, Loads.at [_] hst rfl, ?_⟩ | refine ⟨_, Loads.atA [.int .i64 u.kind, .int .i64 u.dev, .int .i64 u.at_, .int .i64 u.txg] [] hst rfl rfl, ?_⟩ | refine ⟨_, Loads.atA [.int .i64 t.kind, .int .i64 t.dev, .int .i64 t.at_, .int .i64 t.txg] [_] hst rfl rfl, ?_⟩))
                have hX := hst.drew
                clear hst
                refine wp_region_held_drew (S := (fun w' => (loadVarH 25 ⟨g2, 1, none⟩).run Try.prog w' = .ok (.slice (some ⟨lb, lo, none⟩) nr cr) w' ∧ (loadVarH 25 ⟨g3, 1, none⟩).run Try.prog w' = .ok (.slice (some ⟨lb2, lo2, none⟩) nr cr') w' ∧ (loadVarH 47 ⟨lb, lo + j * 44, none⟩).run Try.prog w' = .ok (.agg (cellsR x).toArray) w' ∧ (loadVarH 47 ⟨lb2, lo2 + j * 44, none⟩).run Try.prog w' = .ok (.agg (cellsR y).toArray) w')) (by kernel_rfl) (by exact ⟨ldS [_] hX rfl, ldS [] hX rfl, ldOA hX HLX.out HRX.out, ldOA hX HLY.out HRY.out⟩) (fun hHeld => ?_)
                refine tk 0 44 ?_
                (try simp only [Act.put, List.setIfInBounds_toArray, List.set_cons_zero, List.set_cons_succ])
                refine tk 2 46 ?_
                (try simp only [Act.put, List.setIfInBounds_toArray, List.set_cons_zero, List.set_cons_succ])
                refine tk 5 49 ?_
                (try simp only [Act.put, List.setIfInBounds_toArray, List.set_cons_zero, List.set_cons_succ])
                refine tk 7 51 ?_
                (try simp only [Act.put, List.setIfInBounds_toArray, List.set_cons_zero, List.set_cons_succ])
                refine tk 1 45 ?_
                (try simp only [Act.put, List.setIfInBounds_toArray, List.set_cons_zero, List.set_cons_succ])
                refine tk 6 50 ?_
                (try simp only [Act.put, List.setIfInBounds_toArray, List.set_cons_zero, List.set_cons_succ])
                refine tk 3 47 ?_
                (try simp only [Act.put, List.setIfInBounds_toArray, List.set_cons_zero, List.set_cons_succ])
                refine tk 8 52 ?_
                (try simp only [Act.put, List.setIfInBounds_toArray, List.set_cons_zero, List.set_cons_succ])
                refine tk 4 48 ?_
                (try simp only [Act.put, List.setIfInBounds_toArray, List.set_cons_zero, List.set_cons_succ])
                refine tk 9 53 ?_
                (try simp only [Act.put, List.setIfInBounds_toArray, List.set_cons_zero, List.set_cons_succ])
                refine wpAnyH_ready (rs := [10]) (by kernel_rfl) (by simp) ?_
                refine (AllReadyH.cons (o := ⟨some 54, _, _, _, _, _⟩) rfl (fun K hK => ?_) AllReadyH.nil)
                rw [if_pos (by rfl)]
                go_simp
                go_at_call 62
                refine (alike_any x y _ (RC.In.old hX.nil HIX.out) (RC.In.old hX.nil HIY.out)).mono ?_
                rw [← HQ.out]
                rintro _ w9 ⟨rfl, h4⟩
                have hA6 := St.call0 hX h4
                clear h4
                refine hK.out _ _ ?_ (fun hHeld => ?_)
                · exact ⟨ldS [_] hA6 rfl, ldS [] hA6 rfl, ldOA hA6 HLX.out HRX.out, ldOA hA6 HLY.out HRY.out⟩
                clear hK K
                (try simp only [Act.put, List.setIfInBounds_toArray, List.set_cons_zero, List.set_cons_succ])
                refine tk 11 55 ?_
                (try simp only [Act.put, List.setIfInBounds_toArray, List.set_cons_zero, List.set_cons_succ])
                refine wpAnyH_done (by kernel_rfl) ?_ _
                clear hHeld
                go_wp2_with (first | go_big_skip | go_big_guard | fail)
                go_roundw
                case rel => exact ⟨j + 1, by omega, rfl, hA6, hid (fun i a b hi ha hb => by
                  by_cases e : i = j
                  · subst e
                    rw [HX.out] at ha; rw [HY.out] at hb
                    cases ha; cases hb
                    exact HQ.out.symm
                  · exact HP.out i a b (by omega) ha hb)⟩
                case measure => simp [intOf]; omega
            · have e1 : decide ((j : Int) < (nr : Int)) = false := decide_eq_false (by omega)
              obtain rfl : j = nr := by omega
              have H4 := hid (recs_all HT.out.eq HU.out.eq HT.out.len HU.out.len HP.out)
              clear HP
              go_wp2_with (first | go_big_skip | go_big_guard | (refine wl_loadE rfl rfl rfl ?_; first | refine ⟨_, Loads.at [] hst rfl, ?_⟩ | refine ⟨_, Loads.at [_] hst rfl, ?_⟩ | refine ⟨_, Loads.atA [.int .i64 u.kind, .int .i64 u.dev, .int .i64 u.at_, .int .i64 u.txg] [] hst rfl rfl, ?_⟩ | refine ⟨_, Loads.atA [.int .i64 t.kind, .int .i64 t.dev, .int .i64 t.at_, .int .i64 t.txg] [_] hst rfl rfl, ?_⟩))
              go_loopw [6] (fun i wr => ∃ k : Nat, k ≤ nl ∧ i = .int .i64 (k : Int) ∧ St w [] wr [.blk g3 30 (tabC u (.slice ar' j cr') (.slice al' nl cl')), .blk g2 30 (tabC t (.slice ar j cr) (.slice al nl cl))] ∧ Hid (∀ (i : Nat) (x y : Int), i < k → t.lives[i]? = some x → u.lives[i]? = some y → x = y)) (fun i _ => nl - (intOf i).toNat)
              case atStart => exact ⟨0, Nat.zero_le _, rfl, hst, hid (fun i x y hi _ _ => by omega)⟩
              case round =>
                clear hst
                obtain ⟨k, hk, rfl, hst, HP⟩ := hrel
                by_cases hltk : k < nl
                · have e2 : decide ((k : Int) < (nl : Int)) = true := decide_eq_true (by omega)
                  have z1 : IntKind.i64.wrap ((k : Int) + 1) = (k : Int) + 1 := IntWalk.i64_in _ (by omega)
                  obtain ⟨x, hx⟩ : ∃ x, t.lives[k]? = some x := ⟨_, List.getElem?_eq_getElem (by rw [HT.out.ln]; exact hltk)⟩
                  obtain ⟨y, hy⟩ : ∃ y, u.lives[k]? = some y := ⟨_, List.getElem?_eq_getElem (by rw [HU.out.ln]; exact hltk)⟩
                  obtain ⟨lb, lo, rfl, hr⟩ := Rd.at HT.out.L hltk
                  obtain ⟨lb2, lo2, rfl, hr2⟩ := Rd.at HU.out.L hltk
                  have HX := hid hx
                  have HY := hid hy
                  have HCX := hid (hr k _ (numsV_get hx))
                  have HCY := hid (hr2 k _ (numsV_get hy))
                  clear hx hy hr hr2
                  by_cases hxy : x = y
                  · have d7 : (x != y) = false := by rw [hxy]; simp
                    have HXY := hid hxy
                    clear hxy
                    go_wp2_with (first | go_big_skip | go_big_guard | (refine wl_loadE rfl rfl rfl ?_; first | refine ⟨_, Loads.at [] hst rfl, ?_⟩ | refine ⟨_, Loads.at [_] hst rfl, ?_⟩ | refine ⟨_, Loads.atA [.int .i64 u.kind, .int .i64 u.dev, .int .i64 u.at_, .int .i64 u.txg] [] hst rfl rfl, ?_⟩ | refine ⟨_, Loads.atA [.int .i64 t.kind, .int .i64 t.dev, .int .i64 t.at_, .int .i64 t.txg] [_] hst rfl rfl, ?_⟩))
                    have hX := hst.drew
                    clear hst
                    refine wp_region_held_drew (S := (fun w' => (loadVarH 28 ⟨g2, 6, none⟩).run Try.prog w' = .ok (.slice (some ⟨lb, lo, none⟩) nl cl) w' ∧ (loadVarH 28 ⟨g3, 6, none⟩).run Try.prog w' = .ok (.slice (some ⟨lb2, lo2, none⟩) nl cl') w' ∧ (loadVarH 3 ⟨lb, lo + k, none⟩).run Try.prog w' = .ok (.int .i64 x) w' ∧ (loadVarH 3 ⟨lb2, lo2 + k, none⟩).run Try.prog w' = .ok (.int .i64 y) w')) (by kernel_rfl) (by exact ⟨ldS [_] hX rfl, ldS [] hX rfl, ldO hX HCX.out, ldO hX HCY.out⟩) (fun hHeld => ?_)
                    refine tk 0 63 ?_
                    (try simp only [Act.put, List.setIfInBounds_toArray, List.set_cons_zero, List.set_cons_succ])
                    refine tk 2 65 ?_
                    (try simp only [Act.put, List.setIfInBounds_toArray, List.set_cons_zero, List.set_cons_succ])
                    refine tk 5 68 ?_
                    (try simp only [Act.put, List.setIfInBounds_toArray, List.set_cons_zero, List.set_cons_succ])
                    refine tk 7 70 ?_
                    (try simp only [Act.put, List.setIfInBounds_toArray, List.set_cons_zero, List.set_cons_succ])
                    refine tk 1 64 ?_
                    (try simp only [Act.put, List.setIfInBounds_toArray, List.set_cons_zero, List.set_cons_succ])
                    refine tk 6 69 ?_
                    (try simp only [Act.put, List.setIfInBounds_toArray, List.set_cons_zero, List.set_cons_succ])
                    refine tk 3 66 ?_
                    (try simp only [Act.put, List.setIfInBounds_toArray, List.set_cons_zero, List.set_cons_succ])
                    refine tk 8 71 ?_
                    (try simp only [Act.put, List.setIfInBounds_toArray, List.set_cons_zero, List.set_cons_succ])
                    refine tk 4 67 ?_
                    (try simp only [Act.put, List.setIfInBounds_toArray, List.set_cons_zero, List.set_cons_succ])
                    refine tk 9 72 ?_
                    (try simp only [Act.put, List.setIfInBounds_toArray, List.set_cons_zero, List.set_cons_succ])
                    refine tk 10 73 ?_
                    (try simp only [Act.put, List.setIfInBounds_toArray, List.set_cons_zero, List.set_cons_succ])
                    refine wpAnyH_done (by kernel_rfl) ?_ _
                    clear hHeld
                    go_wp2_with (first | go_big_skip | go_big_guard | fail)
                    go_roundw
                    case rel => exact ⟨k + 1, by omega, rfl, hX, hid (fun i a b hi ha hb => by
                      by_cases e : i = k
                      · subst e
                        rw [HX.out] at ha; rw [HY.out] at hb
                        cases ha; cases hb
                        exact HXY.out
                      · exact HP.out i a b (by omega) ha hb)⟩
                    case measure => simp [intOf]; omega
                  · have d7 : (x != y) = true := by rw [bne_iff_ne]; exact hxy
                    have HXY := hid hxy
                    clear hxy
                    go_wp2_with (first | go_big_skip | go_big_guard | (refine wl_loadE rfl rfl rfl ?_; first | refine ⟨_, Loads.at [] hst rfl, ?_⟩ | refine ⟨_, Loads.at [_] hst rfl, ?_⟩ | refine ⟨_, Loads.atA [.int .i64 u.kind, .int .i64 u.dev, .int .i64 u.at_, .int .i64 u.txg] [] hst rfl rfl, ?_⟩ | refine ⟨_, Loads.atA [.int .i64 t.kind, .int .i64 t.dev, .int .i64 t.at_, .int .i64 t.txg] [_] hst rfl rfl, ?_⟩))
                    have hX := hst.drew
                    clear hst
                    refine wp_region_held_drew (S := (fun w' => (loadVarH 28 ⟨g2, 6, none⟩).run Try.prog w' = .ok (.slice (some ⟨lb, lo, none⟩) nl cl) w' ∧ (loadVarH 28 ⟨g3, 6, none⟩).run Try.prog w' = .ok (.slice (some ⟨lb2, lo2, none⟩) nl cl') w' ∧ (loadVarH 3 ⟨lb, lo + k, none⟩).run Try.prog w' = .ok (.int .i64 x) w' ∧ (loadVarH 3 ⟨lb2, lo2 + k, none⟩).run Try.prog w' = .ok (.int .i64 y) w')) (by kernel_rfl) (by exact ⟨ldS [_] hX rfl, ldS [] hX rfl, ldO hX HCX.out, ldO hX HCY.out⟩) (fun hHeld => ?_)
                    refine tk 0 63 ?_
                    (try simp only [Act.put, List.setIfInBounds_toArray, List.set_cons_zero, List.set_cons_succ])
                    refine tk 2 65 ?_
                    (try simp only [Act.put, List.setIfInBounds_toArray, List.set_cons_zero, List.set_cons_succ])
                    refine tk 5 68 ?_
                    (try simp only [Act.put, List.setIfInBounds_toArray, List.set_cons_zero, List.set_cons_succ])
                    refine tk 7 70 ?_
                    (try simp only [Act.put, List.setIfInBounds_toArray, List.set_cons_zero, List.set_cons_succ])
                    refine tk 1 64 ?_
                    (try simp only [Act.put, List.setIfInBounds_toArray, List.set_cons_zero, List.set_cons_succ])
                    refine tk 6 69 ?_
                    (try simp only [Act.put, List.setIfInBounds_toArray, List.set_cons_zero, List.set_cons_succ])
                    refine tk 3 66 ?_
                    (try simp only [Act.put, List.setIfInBounds_toArray, List.set_cons_zero, List.set_cons_succ])
                    refine tk 8 71 ?_
                    (try simp only [Act.put, List.setIfInBounds_toArray, List.set_cons_zero, List.set_cons_succ])
                    refine tk 4 67 ?_
                    (try simp only [Act.put, List.setIfInBounds_toArray, List.set_cons_zero, List.set_cons_succ])
                    refine tk 9 72 ?_
                    (try simp only [Act.put, List.setIfInBounds_toArray, List.set_cons_zero, List.set_cons_succ])
                    refine tk 10 73 ?_
                    (try simp only [Act.put, List.setIfInBounds_toArray, List.set_cons_zero, List.set_cons_succ])
                    refine wpAnyH_done (by kernel_rfl) ?_ _
                    clear hHeld
                    go_wp2_with (first | go_big_skip | go_big_guard | fail)
                    go_ret
                    exact ⟨by rw [HE.out, TC.same3 (ints_no HX.out HY.out HXY.out)]; rfl, hX.nil⟩
                · have e2 : decide ((k : Int) < (nl : Int)) = false := decide_eq_false (by omega)
                  have H3 := hid (ints_all (by rw [HT.out.ln, HU.out.ln]) (fun i x y hx hy => HP.out i x y (by have := (List.getElem?_eq_some_iff.1 hx).1; have := HT.out.ln; omega) hx hy))
                  go_wp2_with (first | go_big_skip | go_big_guard | (refine wl_loadE rfl rfl rfl ?_; first | refine ⟨_, Loads.at [] hst rfl, ?_⟩ | refine ⟨_, Loads.at [_] hst rfl, ?_⟩ | refine ⟨_, Loads.atA [.int .i64 u.kind, .int .i64 u.dev, .int .i64 u.at_, .int .i64 u.txg] [] hst rfl rfl, ?_⟩ | refine ⟨_, Loads.atA [.int .i64 t.kind, .int .i64 t.dev, .int .i64 t.at_, .int .i64 t.txg] [_] hst rfl rfl, ?_⟩))
                  go_ret
                  exact ⟨by rw [HE.out, TC.same0 H12.out.1 H12.out.2 H3.out H4.out]; rfl, hst.nil⟩
        · have d6 : ((nl : Int) != (nl' : Int)) = true := by rw [bne_iff_ne]; omega
          have hv0 := TC.same3 (t := t) (u := u) (ints_len (by rw [HT.out.ln, HU.out.ln]; exact hll))
          have HV := hid hv0
          clear hv0 hll
          have hv : E = false := by rw [HE.out]; exact HV.out
          rw [hv]
          clear hv
          go_enter Try.func29, Try.ntmps29
          go_wp2_with (first | go_big_skip | go_big_guard | (refine wl_boxA hst0 rfl rfl rfl ?_; intro g2 w1 hst1; clear hst0) | (refine wl_boxA hst1 rfl rfl rfl ?_; intro g3 w2 hst; clear hst1) | (refine wl_loadE rfl rfl rfl ?_; first | refine ⟨_, Loads.at [] hst rfl, ?_⟩ | refine ⟨_, Loads.at [_] hst rfl, ?_⟩ | refine ⟨_, Loads.atA [.int .i64 u.kind, .int .i64 u.dev, .int .i64 u.at_, .int .i64 u.txg] [] hst rfl rfl, ?_⟩ | refine ⟨_, Loads.atA [.int .i64 t.kind, .int .i64 t.dev, .int .i64 t.at_, .int .i64 t.txg] [_] hst rfl rfl, ?_⟩))
          go_ret
          exact ⟨rfl, hst.nil⟩
      · have d5 : ((nr : Int) != (nr' : Int)) = true := by rw [bne_iff_ne]; omega
        have hv0 := TC.same4 (t := t) (u := u) (recsB_len (by rw [HT.out.len, HU.out.len]; exact hnn))
        have HV := hid hv0
        clear hv0 hnn
        have hv : E = false := by rw [HE.out]; exact HV.out
        rw [hv]
        clear hv
        go_enter Try.func29, Try.ntmps29
        go_wp2_with (first | go_big_skip | go_big_guard | (refine wl_boxA hst0 rfl rfl rfl ?_; intro g2 w1 hst1; clear hst0) | (refine wl_boxA hst1 rfl rfl rfl ?_; intro g3 w2 hst; clear hst1) | (refine wl_loadE rfl rfl rfl ?_; first | refine ⟨_, Loads.at [] hst rfl, ?_⟩ | refine ⟨_, Loads.at [_] hst rfl, ?_⟩ | refine ⟨_, Loads.atA [.int .i64 u.kind, .int .i64 u.dev, .int .i64 u.at_, .int .i64 u.txg] [] hst rfl rfl, ?_⟩ | refine ⟨_, Loads.atA [.int .i64 t.kind, .int .i64 t.dev, .int .i64 t.at_, .int .i64 t.txg] [_] hst rfl rfl, ?_⟩))
        go_ret
        exact ⟨rfl, hst.nil⟩
end Go.Proofs.Ytkpkaoiafppimaa
namespace Go.Proofs.Ytkpkaoiafppimaa
set_option linter.unusedVariables false
set_option linter.unusedSimpArgs false
open Go.RowKit Hp
attribute [local irreducible] Go.Calls Go.wpList
set_option maxRecDepth 100000
set_option maxHeartbeats 8000000
instance dP2 : TyP2 Try.prog 33 := ⟨by kernel_rfl⟩
@[go_sem ↓] theorem eqlFaultD (a b c d : Int) (w : World) : (binOp .eql 33 (.agg #[.int .i64 a, .int .i64 b]) (.agg #[.int .i64 c, .int .i64 d])).run Try.prog w = .ok (.bool ((a == c) && (b == d))) w := run_eql_p2 dP2 a b c d .i64 .i64 w
@[go_sem ↓] theorem neqFaultD (a b c d : Int) (w : World) : (binOp .neq 33 (.agg #[.int .i64 a, .int .i64 b]) (.agg #[.int .i64 c, .int .i64 d])).run Try.prog w = .ok (.bool (!((a == c) && (b == d)))) w := run_neq_p2 dP2 a b c d .i64 .i64 w
@[go_sem ↓] theorem guardFaultD (op : BinOp) (x y : Operand) (xs ys : Array Value) (w : World) : (eqGuard op 33 x y (.agg xs) (.agg ys)).run Try.prog w = .ok () w := run_guard_p2 dP2 op x y xs ys w
def bareT : TC := ⟨2, [], 0, 0, 0, 0, [0, 0]⟩
def oneR : RC := { id := 1, kind := 1, size := 1, made := 1, own := 0, origin := 0, quota := 0, reserve := 0, name := [97], l := [], b := 0, v := 0, S := nones }
def oneT : TC := ⟨2, [oneR], 0, 0, 0, 0, [0, 0]⟩
def noT : TC := ⟨0, [], 0, 0, 0, 0, []⟩
theorem bare_ok : bareT.ok = true := by decide +kernel
theorem one_ok : oneT.ok = true := by decide +kernel
def bareB : List UInt8 := [0, 0, 0, 2, 0, 0, 0, 0, 0, 0, 0, 0, 0, 0, 0, 2, 0, 0, 0, 0, 0, 0, 0, 0]
theorem bare_bytes : bareT.bytes = bareB := by decide +kernel
theorem one_len : oneT.bytes.length = 93 := by decide +kernel
theorem one_a : findP [97] oneT.recs = (0, true) := by decide +kernel
theorem one_b : findP [98] oneT.recs = (0, false) := by decide +kernel
theorem nil_err : gErr [] = 4 ∧ gAt [] = 0 ∧ gOK [] = false := by decide +kernel
def oneC : List Value := cellsR (.slice none 0 0, oneR)
theorem bldBare (ao : Option Addr) (n c : Nat) : Try.prog.built 30 [(0, .int .i64 2), (3, .slice ao n c)] = some #[.int .i64 2, .slice none 0 0, .int .i64 0, .int .i64 0, .int .i64 0, .int .i64 0, .slice ao n c] := by kernel_rfl
theorem bldOne : Try.prog.built 47 [(0, .int .i64 1), (1, .string ⟨#[97]⟩), (2, .int .i64 1), (3, .int .i64 1), (5, .int .i64 1)] = some oneC.toArray := by kernel_rfl
theorem oneC_len : oneC.length = 44 := rfl
theorem oneC_ones : oneC.all (·.oneCell') = true := rfl
theorem results_cellD {fn : Func} {p : Tmp} {ty : TypeId} {tmps : Array Value} {P : Program} {w : World} {A : Addr} {v : Value} (h : fn.results = #[.cell p ty]) (hp : tmps.getD p undef = .pointer (some A)) (hl : Loads P w ty A v) :
    (results fn tmps).run P w = .ok v w := by
  have hl' : (loadVar ty A).run P w = .ok v w := hl
  have hp' : tmps[p]?.getD undef = .pointer (some A) := by simpa using hp
  simp [results, h, hp', asAddr, hl', Sem.run_bind]
theorem oneIn (w : World) : RC.In w ((.slice none 0 0 : Value), oneR) := ⟨⟨L32.nones, none, 0, 0, rfl, Rd.nil _ _, rfl⟩, by decide⟩
theorem noIn (w : World) : TabIn w noT none 0 0 none 0 0 [] := ⟨⟨Rd.nil _ _, rfl, fun _ h => by cases h⟩, rfl, Rd.nil _ _, rfl, by decide, by decide⟩
theorem bare_any (w : World) : Calls Try.prog 15 #[] w fun e w' => ∃ g, e = .returned (.agg (tabC bareT (.slice none 0 0) (.slice (some ⟨g, 0, none⟩) 2 2)).toArray) ∧ St w [] w' [.blk g 3 (numsV [0, 0])] := by
  have hst0 := St.refl w
  go_enter Try.func15, Try.ntmps15
  go_wp2_with (first | go_big_skip | go_big_guard | (refine wl_alloc hst0 rfl rfl ?_; intro g0 w1 hst; clear hst0) | (apply wl_bsX [.int .i64 0, .int .i64 0] [.int .i64 0, .int .i64 0] hst; rfl; rfl; exact rfl; exact rfl; infer_instance; infer_instance; rfl; rfl; rfl; intro g w5 hst2; clear hst) | (refine wl_buildX (cs := tabC bareT (.slice none 0 0) (.slice (some ⟨g, 0, none⟩) 2 2)) [(0, .int .i64 2), (3, .slice (some ⟨g, 0, none⟩) 2 2)] rfl rfl (by exact rfl) (bldBare _ _ _) ?_) | (refine wl_storeA [_] hst2 rfl rfl rfl rfl (vs := tabC bareT (.slice none 0 0) (.slice (some ⟨g, 0, none⟩) 2 2)) rfl rfl rfl ?_; intro w7 hst3; clear hst2))
  have hl := Loads.atA (P := Try.prog) (off := 0) (T := 30) (tabC bareT (.slice none 0 0) (.slice (some ⟨g, 0, none⟩) 2 2)) [_] hst3 rfl rfl
  refine bodyPost_ret (results_cellD rfl rfl hl) rfl ?_
  exact ⟨g, rfl, St.sub hst3 (.cons_cons _ (.cons _ .slnil))⟩
theorem one_any (w : World) : Calls Try.prog 16 #[] w fun e w' => ∃ g h, e = .returned (.agg (tabC oneT (.slice (some ⟨g, 0, none⟩) 1 1) (.slice (some ⟨h, 0, none⟩) 2 2)).toArray) ∧ St w [] w' [.blk g 47 oneC, .blk h 3 (numsV [0, 0])] := by
  have hst0 := St.refl w
  go_enter Try.func16, Try.ntmps16
  go_wp2_with (first | go_big_skip | go_big_guard | (refine wl_alloc hst0 rfl rfl ?_; intro g0 w1 hst; clear hst0) | (go_at_call 15; refine (bare_any _).mono ?_; rintro _ w9 ⟨h, rfl, h4⟩; have hst1 := St.call hst h4; clear h4 hst) | (refine wl_alloc hst1 rfl rfl ?_; intro g1 w1 hst2; clear hst1) | (refine wl_storeA [] hst2 rfl rfl rfl rfl (vs := tabC bareT (.slice none 0 0) (.slice (some ⟨h, 0, none⟩) 2 2)) rfl rfl rfl ?_; intro w7 hst3; clear hst2) | (refine wl_buildX (cs := oneC) [(0, .int .i64 1), (1, .string ⟨#[97]⟩), (2, .int .i64 1), (3, .int .i64 1), (5, .int .i64 1)] rfl rfl (by exact rfl) bldOne ?_) | (apply wl_bsX [.agg (List.toArray oneC)] oneC hst3; rfl; rfl; exact rfl; exact (List.append_nil _); infer_instance; infer_instance; rfl; rfl; rfl; intro g w5 hst4; clear hst3) | (refine wl_store [_] hst4 rfl rfl rfl (off := 1) (v := .slice _ _ _) rfl rfl rfl (by show (1 : Nat) + 1 ≤ 7; decide) ?_; intro w7 hst5; clear hst4) | (refine wl_loadE rfl rfl rfl ?_; refine ⟨_, Loads.atA (tabC oneT (.slice (some ⟨g, 0, none⟩) 1 1) (.slice (some ⟨h, 0, none⟩) 2 2)) [_] hst5 rfl rfl, ?_⟩) | (refine wl_storeA [_, _, _] hst5 rfl rfl rfl rfl (vs := tabC oneT (.slice (some ⟨g, 0, none⟩) 1 1) (.slice (some ⟨h, 0, none⟩) 2 2)) rfl rfl rfl ?_; intro w7 hst6; clear hst5))
  have hl := Loads.atA (P := Try.prog) (off := 0) (T := 30) (tabC oneT (.slice (some ⟨g, 0, none⟩) 1 1) (.slice (some ⟨h, 0, none⟩) 2 2)) [_, _, _] hst6 rfl rfl
  refine bodyPost_ret (results_cellD rfl rfl hl) rfl ?_
  exact ⟨g, h, rfl, St.sub hst6 (.cons_cons _ (.cons _ (.cons_cons _ (.cons _ .slnil))))⟩
theorem bareIn {w0 w : World} {M : List Nat} {L : List HA} {h : Nat} (hst : St w0 M w L) (h2 : HA.blk h 3 (numsV [0, 0]) ∈ L) : TabIn w bareT none 0 0 (some ⟨h, 0, none⟩) 2 2 [] :=
  ⟨⟨Rd.nil _ _, rfl, fun _ h => by cases h⟩, rfl, Rd.blk hst h2 (Nat.le_refl _) (by decide) rfl rfl, rfl, by decide, by decide⟩
theorem one2In {w0 w : World} {M : List Nat} {L : List HA} {g h : Nat} (hst : St w0 M w L) (h1 : HA.blk g 47 oneC ∈ L) (h2 : HA.blk h 3 (numsV [0, 0]) ∈ L) : TabIn w oneT (some ⟨g, 0, none⟩) 1 1 (some ⟨h, 0, none⟩) 2 2 [(.slice none 0 0, oneR)] :=
  ⟨⟨Rd.blk hst h1 (Nat.le_refl _) (by decide) rfl rfl, rfl, fun x hx => by
    rw [List.mem_singleton] at hx
    subst hx
    exact oneIn w⟩, rfl, Rd.blk hst h2 (Nat.le_refl _) (by decide) rfl rfl, rfl, by decide, by decide⟩
theorem fails12_no (ao : Option Addr) (c : Nat) (B : List UInt8) (x y : Int) (w : World) (hB : Rd w (.slice ao B.length c) 1 B.length (bytesV B)) (hN : B.length ≤ 100000) (hno : gOK B = false) :
    Calls Try.prog 20 #[.slice ao B.length c, .int .i64 x, .int .i64 y] w fun e w' => e = .returned (.bool ((gErr B == x) && (gAt B == y))) ∧ St w [] w' [] := by
  have hst0 := St.refl w
  have HB := hid hB
  have HNO := hid hno
  obtain ⟨q, hq⟩ : ∃ q, q = ((gErr B == x) && (gAt B == y)) := ⟨_, rfl⟩
  rw [← hq]
  have HS := hid (show noT.sameB noT = true from rfl)
  clear hB hno
  cases q
  all_goals
    have d1 := hq.symm
    clear hq
    go_enter Try.func20, Try.ntmps20
    go_wp2_with (first | go_big_skip | go_big_guard | (go_at_call 10; refine (read12_any ao c B _ (Rd.old hst0 HB.out) hN).mono ?_; intro e9 w9 hr; unfold tabOut at hr; rw [if_neg (by rw [HNO.out]; decide)] at hr; obtain ⟨rfl, h4⟩ := hr; have hst := St.call0 hst0 h4; clear h4 hst0) | (refine wl_alloc hst rfl rfl ?_; intro g7 w1 hst1; clear hst) | (refine wl_alloc hst1 rfl rfl ?_; intro g8 w1 hst2; clear hst1) | (refine wl_storeA [_] hst2 rfl rfl rfl rfl (vs := tab0) rfl rfl rfl ?_; intro w7 hst3; clear hst2) | (refine wl_storeA [] hst3 rfl rfl rfl rfl (vs := [.int .i64 (gErr B), .int .i64 (gAt B)]) rfl rfl rfl ?_; intro w7 hst4; clear hst3) | (refine wl_loadE rfl rfl rfl ?_; first | refine ⟨_, Loads.atA [.int .i64 (gErr B), .int .i64 (gAt B)] [] hst4 rfl rfl, ?_⟩ | refine ⟨_, Loads.atA tab0 [_] hst4 rfl rfl, ?_⟩) | (refine wl_buildX (cs := [.int .i64 x, .int .i64 y]) [(0, .int .i64 x), (1, .int .i64 y)] rfl rfl (by exact rfl) (bldF2 _ _) ?_) | (refine wl_build0 rfl rfl ?_) | (go_at_call 12; refine (kitTable_any noT noT none none none none 0 0 0 0 0 0 0 0 [] [] _ (noIn _) (noIn _)).mono ?_; rw [HS.out]; rintro _ w9 ⟨rfl, h4⟩; have hst5 := St.call0 hst4 h4; clear h4))
    go_ret
    first | exact ⟨rfl, hst5.nil⟩ | exact ⟨rfl, hst4.nil⟩
end Go.Proofs.Ytkpkaoiafppimaa
namespace Go.Proofs.Ytkpkaoiafppimaa
set_option linter.unusedVariables false
set_option linter.unusedSimpArgs false
open Go.RowKit Hp
attribute [local irreducible] Go.Calls
set_option maxHeartbeats 4000000
/-- y is x with address lists of its own (rows of R) for the first k pointers. -/
def NV.isO (E : TypeId) (y x : NV) (R : List HA) (k : Nat) : Prop := ∀ j, j < k → (y.get j).eqd (x.get j) ∧ ∃ ao n c, (y.get j).sv = .slice ao n c ∧ HA.row (.slice ao n c) E 2 n (addrsV (y.get j).l) ∈ R ∧ (y.get j).l.length = n
def ownOut (x : NV) (w : World) (E : TypeId) (e : Ending) (w' : World) : Prop :=
  ∃ (y : NV) (R : List HA), e = .returned (.agg y.cells.toArray) ∧ St w [] w' R ∧ y.lv = x.lv ∧ y.isO E x R 4
theorem put_sv {x : NV} (h : x.Ln) {k : Nat} (hk : k < 4) (v : Value) : putAt x.cells (1 + k * 35) [v] = (x.set k { x.get k with sv := v }).cells := by
  have h0 : x.p0.cells.length = 35 := PV.len (h 0)
  have h1 : x.p1.cells.length = 35 := PV.len (h 1)
  have h2 : x.p2.cells.length = 35 := PV.len (h 2)
  have go : ∀ (a c : List Value) (s : Value) (n : Nat) (X Y : List Value), X = a ++ ([s] ++ c) → Y = a ++ ([v] ++ c) → n = a.length → putAt X n [v] = Y := by
    intro a c s n X Y e1 e2 e3
    rw [e1, e2]
    exact put_at a [s] c [v] rfl e3
  obtain rfl | rfl | rfl | rfl : k = 0 ∨ k = 1 ∨ k = 2 ∨ k = 3 := by omega
  · exact go [.int .i64 x.lv] (x.p0.cells.tail ++ (x.p1.cells ++ (x.p2.cells ++ x.p3.cells))) x.p0.sv _ _ _ rfl rfl rfl
  · exact go (.int .i64 x.lv :: x.p0.cells) (x.p1.cells.tail ++ (x.p2.cells ++ x.p3.cells)) x.p1.sv _ _ _ rfl rfl (by simp [h0])
  · refine go (.int .i64 x.lv :: (x.p0.cells ++ x.p1.cells)) (x.p2.cells.tail ++ x.p3.cells) x.p2.sv _ _ _ ?_ ?_ (by simp [h0, h1])
    · rw [List.cons_append, List.append_assoc]; rfl
    · rw [List.cons_append, List.append_assoc]; rfl
  · refine go (.int .i64 x.lv :: (x.p0.cells ++ (x.p1.cells ++ x.p2.cells))) x.p3.cells.tail x.p3.sv _ _ _ ?_ ?_ (by simp [h0, h1, h2])
    · rw [List.cons_append, List.append_assoc, List.append_assoc]; rfl
    · rw [List.cons_append, List.append_assoc, List.append_assoc]; rfl
theorem set_ln {y : NV} (h : y.Ln) {k : Nat} (hk : k < 4) {p : PV} (hp : L32 p.S) : ∀ j, L32 ((y.set k p).get j).S := by
  have main : ∀ j, j < 4 → L32 ((y.set k p).get j).S := by
    intro j hj
    by_cases e : j = k
    · subst e; rw [NV.get_set_same y hk]; exact hp
    · rw [NV.get_set_other y hk hj e]; exact h j
  intro j
  match j with
  | 0 => exact main 0 (by omega)
  | 1 => exact main 1 (by omega)
  | 2 => exact main 2 (by omega)
  | _ + 3 => exact main 3 (by omega)
theorem PV.ones_of {p : PV} {ao : Option Addr} {n c : Nat} (h : p.sv = .slice ao n c) : p.cells.all (·.oneCell') = true := by
  rw [PV.cells, h]
  exact ptr_ones _ _ _ _ _ _
theorem NV.isO.ones {E : TypeId} {y x : NV} {R : List HA} (h : y.isO E x R 4) (_hl : y.lv = x.lv) : y.cells.all (·.oneCell') = true := by
  have g : ∀ j, j < 4 → (y.get j).cells.all (·.oneCell') = true := fun j hj => by
    obtain ⟨_, ao, n, c, h2, _⟩ := h j hj
    exact PV.ones_of h2
  have h0 : y.p0.cells.all (·.oneCell') = true := g 0 (by omega)
  have h1 : y.p1.cells.all (·.oneCell') = true := g 1 (by omega)
  have h2 : y.p2.cells.all (·.oneCell') = true := g 2 (by omega)
  have h3 : y.p3.cells.all (·.oneCell') = true := g 3 (by omega)
  rw [NV.cells, List.all_cons, List.all_append, List.all_append, List.all_append, h0, h1, h2, h3]
  rfl
theorem addrs_ones (l : List (Int × Int)) : (addrsV l).all (·.oneCell') = true := by
  induction l with
  | nil => rfl
  | cons a l ih =>
    rw [addrsV, List.all_cons, List.all_cons, ih]
    rfl
end Go.Proofs.Ytkpkaoiafppimaa
namespace Go.Proofs.Ytkpkaoiafppimaa
set_option linter.unusedVariables false
set_option linter.unusedSimpArgs false
open Go.RowKit Hp
attribute [local irreducible] Go.Calls
set_option maxHeartbeats 4000000
set_option maxRecDepth 100000
theorem xor_u8 (x y : UInt8) : bits .xor .u8 (x.toNat : Int) (y.toNat : Int) = ((x ^^^ y).toNat : Int) := by
  have hx := x.toNat_lt
  have hy := y.toNat_lt
  have h : x.toNat ^^^ y.toNat < 2 ^ 8 := Nat.xor_lt_two_pow hx hy
  have e : (BitVec.ofInt 8 (x.toNat : Int) ^^^ BitVec.ofInt 8 (y.toNat : Int)).toNat = x.toNat ^^^ y.toNat := by
    rw [BitVec.toNat_xor, BitVec.ofInt_natCast, BitVec.ofInt_natCast, BitVec.toNat_ofNat, BitVec.toNat_ofNat, Nat.mod_eq_of_lt (by omega), Nat.mod_eq_of_lt (by omega)]
  show IntKind.u8.wrap ((BitVec.ofInt 8 (x.toNat : Int) ^^^ BitVec.ofInt 8 (y.toNat : Int)).toNat : Int) = _
  rw [e, UInt8.toNat_xor]
  show ((x.toNat ^^^ y.toNat : Nat) : Int) % 256 = _
  omega
/-- p with other addresses' slice. -/
abbrev PV.re (p : PV) (s : Value) : PV := ⟨s, p.l, p.b, p.v, p.S⟩
theorem copyPtr_any (p : PV) (w : World) (hp : p.In w) (hl : p.l.length ≤ 100000) : Calls Try.prog 50 #[.agg p.cells.toArray] w fun e w' =>
    ∃ ao n c, e = .returned (.agg (PV.cells (p.re (.slice ao n c))).toArray) ∧ St w [] w' [.row (.slice ao n c) 98 2 n (addrsV p.l)] ∧ p.l.length = n := by
  have hst := St.refl w
  have hS := hp.1
  obtain ⟨_, ao, n, c, h2, h3, h4⟩ := hp
  have hPL := hid (PV.len (p := p) hS)
  have H2 := hid h2
  have hn : n ≤ 100000 := by rw [← h4]; exact hl
  have H4 := hid h4
  have hRd := hid h3
  have hat := hid (show p.cells[0]? = some (.slice ao n c) by rw [PV.cells, h2]; rfl)
  clear h2 h3 h4 hl
  go_enter Try.func50, Try.ntmps50
  go_wp2_with (first | go_big_skip | go_big_guard | (refine wl_boxA hst rfl rfl rfl ?_; intro g w1 hst1; clear hst) | (refine wl_alloc hst1 rfl rfl ?_; intro g2 w2 hst2; clear hst1) | (apply wl_bsX [] [] hst2; rfl; rfl; exact rfl; exact rfl; infer_instance; infer_instance; rfl; rfl; rfl; intro g3 w3 hst3; clear hst2; have hst4 := St.toRow (n := 0) (cap := 0) (sz := 2) hst3 rfl (by decide) (by decide); clear hst3) | (refine wl_loadE rfl rfl rfl ?_; refine ⟨_, Loads.at (off := 0) [_, _] hst4 hat.out, ?_⟩) | (apply wl_appX [] hst4; rfl; rfl; exact rfl; exact rfl; infer_instance; infer_instance; infer_instance; exact Rd.old hst4 hRd.out; exact addrs_ones _; (unfold maxLen; omega); intro v9 w9 hst9 _; clear hst4; obtain ⟨ao9, c9, rfl⟩ := St.rowSliceAt [] hst9; rw [Nat.zero_add] at hst9) | (refine wl_store [_, _] hst9 rfl rfl rfl (v := .slice _ _ _) rfl rfl rfl (by show _ + 1 ≤ _; rw [hPL.out]; omega) ?_; intro w10 hst10; clear hst9; have hst11 : St w [] w10 [.row (.slice ao9 n c9) 98 2 n (addrsV p.l), .blk g2 45 (ptrCells (.slice none 0 0) 0 0 nones), .blk g 45 (PV.cells (p.re (.slice ao9 n c9)))] := hst10; clear hst10) | (refine wl_loadE rfl rfl rfl ?_; first | refine ⟨_, Loads.atA (PV.cells (p.re (.slice ao9 n c9))) [_, _] hst11 (PV.len (p := p.re (.slice ao9 n c9)) hS) (by simp), ?_⟩) | (refine wl_storeA [_] hst11 rfl rfl rfl rfl (PV.len (p := p.re (.slice ao9 n c9)) hS) (PV.ones_of (p := p.re (.slice ao9 n c9)) rfl) rfl ?_; intro w12 hst12; clear hst11))
  have hl := Loads.atA (P := Try.prog) (off := 0) (T := 45) (PV.cells (p.re (.slice ao9 n c9))) [_] hst12 (PV.len (p := p.re (.slice ao9 n c9)) hS) (by simp)
  refine bodyPost_ret (results_cellL rfl rfl hl) rfl ?_
  exact ⟨ao9, n, c9, rfl, hst12.sub (.cons_cons _ (List.nil_sublist _)), H4.out⟩
def overB (l : List UInt8) : List UInt8 := l.map (· ^^^ 90)
theorem over_none (w : World) : Calls Try.prog 30 #[.slice none 0 0] w fun e w' => e = .returned (.tuple #[]) ∧ St w [] w' [] := by
  have hst := St.refl w
  go_enter Try.func30, Try.ntmps30
  go_wp2_with (first | go_big_skip | go_big_guard | fail)
  go_loopw [3] (fun i wr => i = .int .i64 0 ∧ St w [] wr []) (fun i _ => 0)
  case atStart => exact ⟨rfl, hst⟩
  case round =>
    clear hst
    obtain ⟨rfl, hst⟩ := hrel
    go_wp2_with (first | go_big_skip | go_big_guard | fail)
    go_end0
    exact ⟨rfl, hst⟩
theorem over_step (bs : List UInt8) {k : Nat} (hk : k < bs.length) (x : UInt8) (hx : x = bs.getD k 0) : putAt (bytesV (overB (bs.take k) ++ bs.drop k)) k [.int .u8 ((x ^^^ 90).toNat : Int)] = bytesV (overB (bs.take (k + 1)) ++ bs.drop (k + 1)) := by
  have e : bs.drop k = bs.getD k 0 :: bs.drop (k + 1) := by rw [List.drop_eq_getElem_cons hk]; simp [List.getD, hk]
  have e2 : bs.take (k + 1) = bs.take k ++ [bs.getD k 0] := by rw [List.take_succ_eq_append_getElem hk]; simp [List.getD, hk]
  have hl : (bytesV (overB (bs.take k))).length = k := by simp [overB]; omega
  rw [e2, bytesV_append]
  have := put_at (bytesV (overB (bs.take k))) (bytesV [bs.getD k 0]) (bytesV (bs.drop (k + 1))) [.int .u8 ((x ^^^ 90).toNat : Int)] rfl hl.symm
  rw [e]
  have h3 : bytesV (bs.getD k 0 :: bs.drop (k + 1)) = bytesV [bs.getD k 0] ++ bytesV (bs.drop (k + 1)) := by simp [bytesV]
  rw [h3, this]
  simp [overB, bytesV, hx]
theorem over_get (bs : List UInt8) {k : Nat} (hk : k < bs.length) : (bytesV (overB (bs.take k) ++ bs.drop k))[k]? = some (.int .u8 ((bs.getD k 0).toNat : Int)) := by
  have hl : (overB (bs.take k)).length = k := by simp [overB]; omega
  rw [bytesV, List.getElem?_map, List.getElem?_append_right (by omega), hl, Nat.sub_self, List.getElem?_drop]
  simp [List.getD, hk]
theorem over_blk (g n : Nat) (bs : List UInt8) (w : World) (hg : w.heap[g]? = some (.cells (bytesV bs).toArray 5 (0, 0))) (hn : n ≤ bs.length) (hb : bs.length ≤ 9223372036854775807) :
    Calls Try.prog 30 #[.slice (some ⟨g, 0, none⟩) n bs.length] w fun e w' => e = .returned (.tuple #[]) ∧ St w [g] w' [.blk g 5 (bytesV (overB bs))] := by
  have hst := St.one w g _ _ hg
  go_enter Try.func30, Try.ntmps30
  go_wp2_with (first | go_big_skip | go_big_guard | fail)
  go_loopw [3] (fun i wr => ∃ k : Nat, k ≤ bs.length ∧ i = .int .i64 k ∧ St w [g] wr [.blk g 5 (bytesV (overB (bs.take k) ++ bs.drop k))]) (fun i _ => bs.length - (intOf i).toNat)
  case atStart => exact ⟨0, by omega, rfl, hst⟩
  case round =>
    clear hst
    obtain ⟨k, hk, rfl, hst⟩ := hrel
    by_cases hlt : k < bs.length
    · obtain ⟨x, hx⟩ : ∃ x, x = bs.getD k 0 := ⟨_, rfl⟩
      have hget := hid (over_get bs hlt)
      rw [← hx] at hget
      have hput := hid (over_step bs hlt x hx)
      have hxor : bits .xor .u8 (x.toNat : Int) 90 = ((x ^^^ 90).toNat : Int) := xor_u8 x 90
      have hlen := hid (show (bytesV (overB (bs.take k) ++ bs.drop k)).length = bs.length by simp [overB]; omega)
      clear hx
      go_wp2_with (first | go_big_skip | go_big_guard | (refine wl_index rfl rfl rfl rfl hlt ?_) | (refine wl_loadE rfl rfl rfl ?_; refine ⟨_, Loads.at [] hst (by simpa using hget.out), ?_⟩) | (refine wl_store [] hst rfl rfl rfl (v := .int _ _) rfl rfl rfl (by rw [hlen.out]; simp [Value.cells]; omega) ?_; intro w5 hst4; clear hst))
      have hst5 : St w [g] w5 [.blk g 5 (bytesV (overB (bs.take (k + 1)) ++ bs.drop (k + 1)))] := by
        rw [← hput.out]
        simpa [Value.cells] using hst4
      clear hst4
      go_roundw
      case rel => exact ⟨k + 1, by omega, by go_num, hst5⟩
      case measure => simp [intOf]; omega
    · have e : k = bs.length := by omega
      subst e
      go_wp2_with (first | go_big_skip | go_big_guard | fail)
      go_end0
      refine ⟨rfl, ?_⟩
      rw [List.take_length, List.drop_length, List.append_nil] at hst
      exact hst
theorem over_addrs (ao : Option Addr) (n c : Nat) (xs : List Value) (w : World) (hv : w.ownsRow 0 98 2 (.slice ao n c) n xs) :
    Calls Try.prog 39 #[.slice ao n c] w fun e w' => ∃ ys, e = .returned (.tuple #[]) ∧ St w (Value.slice ao n c).ownBlock.toList w' [.row (.slice ao n c) 98 2 n ys] := by
  have hst := St.ofRow w hv
  obtain ⟨hl, ho⟩ := hv
  rcases ho with ⟨he, rfl⟩ | ⟨g, cap, cur, he, hg0, hg, hnc, hcm, hcs, htake⟩
  · cases he
    go_enter Try.func39, Try.ntmps39
    go_wp2_with (first | go_big_skip | go_big_guard | fail)
    go_loopw [2] (fun i wr => i = .int .i64 0 ∧ St w (Value.slice none 0 0).ownBlock.toList wr [.row (.slice none 0 0) 98 2 0 xs]) (fun i _ => 0)
    case atStart => exact ⟨rfl, hst⟩
    case round =>
      clear hst
      obtain ⟨rfl, hst⟩ := hrel
      go_wp2_with (first | go_big_skip | go_big_guard | fail)
      go_end0
      exact ⟨xs, rfl, hst⟩
  · cases he
    have hst2 := St.one w g 98 cur.toList hg
    have hc2 : cur.toList.length = c * 2 := by simpa using hcs
    have hcb : c ≤ 9223372036854775807 := hcm
    clear hg hl htake hst hcs hcm
    have Hc2 := hid hc2; clear hc2
    go_enter Try.func39, Try.ntmps39
    go_wp2_with (first | go_big_skip | go_big_guard | fail)
    go_loopw [2] (fun i wr => ∃ k : Nat, k ≤ n ∧ i = .int .i64 k ∧ ∃ cs : List Value, Hid (cs.length = c * 2) ∧ St w [g] wr [.blk g 98 cs]) (fun i _ => n - (intOf i).toNat)
    case atStart => exact ⟨0, by omega, rfl, _, Hc2, hst2⟩
    case round =>
      clear hst2 Hc2
      obtain ⟨k, hk, rfl, cs, hcl, hst⟩ := hrel
      by_cases hlt : k < n
      · go_wp2_with (first | go_big_skip | go_big_guard | (refine wl_buildS (cs := [.int .i64 (-7), .int .i64 (-7)]) rfl rfl (by kernel_rfl) ?_) | (refine wl_index rfl rfl rfl rfl hlt ?_) | (refine wl_store [] hst rfl rfl rfl (v := .agg (List.toArray _)) rfl rfl rfl (by rw [hcl.out]; simp [Value.cells]; omega) ?_; intro w5 hst4; clear hst))
        have hl4 := hid (show (putAt cs (0 + k * 2) [.int .i64 (-7), .int .i64 (-7)]).length = c * 2 by
          have := hcl.out
          simp [putAt]; omega)
        have hst5 : St w [g] w5 [.blk g 98 (putAt cs (0 + k * 2) [.int .i64 (-7), .int .i64 (-7)])] := hst4
        clear hst4
        go_roundw
        case rel => exact ⟨k + 1, by omega, by go_num, _, hl4, hst5⟩
        case measure => simp [intOf]; omega
      · have e : k = n := by omega
        subst e
        go_wp2_with (first | go_big_skip | go_big_guard | fail)
        go_end0
        exact ⟨_, rfl, hst.toRow hcl.out hnc hcb⟩
end Go.Proofs.Ytkpkaoiafppimaa
namespace Go.Proofs.Ytkpkaoiafppimaa
set_option linter.unusedVariables false
set_option linter.unusedSimpArgs false
open Go.RowKit Hp
attribute [local irreducible] Go.Calls Go.wpList
set_option maxRecDepth 100000
set_option maxHeartbeats 8000000
attribute [local go_sem ↓] heldInt heldInts heldCur
theorem bldT3 (z a b c d : Int) (ao : Option Addr) (n k : Nat) : Try.prog.built 30 [(0, .int .i64 z), (2, .agg #[.int .i64 a, .int .i64 b, .int .i64 c, .int .i64 d]), (3, .slice ao n k)] = some #[.int .i64 z, .slice none 0 0, .int .i64 a, .int .i64 b, .int .i64 c, .int .i64 d, .slice ao n k] := by kernel_rfl
theorem put_root (x : Value × RC) (hL : L32 x.2.S) (v : Value) : putAt (cellsR x) 4 (PV.cells ((x.2.pv x.1).re v)) = cellsR (v, x.2) :=
  xC_put4 (p := x.2.pv x.1) (q := (x.2.pv x.1).re v) hL hL
theorem row_sliceC {w0 w : World} {M : List Nat} (L1 : List HA) {L2 : List HA} {v : Value} {T : TypeId} {sz n : Nat} {xs : List Value} (h : St w0 M w (L1 ++ .row v T sz n xs :: L2)) : ∃ ao c, v = .slice ao n c ∧ n ≤ c ∧ c ≤ 9223372036854775807 := by
  obtain ⟨ao, c, e, h1, h2, _⟩ := row_form h (List.mem_append.2 (.inr (.head _)))
  exact ⟨ao, c, e, h1, h2⟩
theorem results_cellC {fn : Func} {p : Tmp} {ty : TypeId} {tmps : Array Value} {P : Program} {w : World} {A : Addr} {v : Value} (h : fn.results = #[.cell p ty]) (hp : tmps.getD p undef = .pointer (some A)) (hl : Loads P w ty A v) :
    (results fn tmps).run P w = .ok v w := by
  have hl' : (loadVar ty A).run P w = .ok v w := hl
  have hp' : tmps[p]?.getD undef = .pointer (some A) := by simpa using hp
  simp [results, h, hp', asAddr, hl', Sem.run_bind]
theorem copyTable_any (t : TC) (ar al : Option Addr) (nr cr nl cl : Nat) (xs : List (Value × RC)) (w : World) (ht : TabIn w t ar nr cr al nl cl xs) (hn : nr ≤ 100) (hl : nl ≤ 100) (ha : ∀ r ∈ t.recs, r.l.length ≤ 100000) :
    Calls Try.prog 22 #[.agg (tabC t (.slice ar nr cr) (.slice al nl cl)).toArray] w fun e w' => ∃ ro rc lo lc ys, e = .returned (.agg (tabC t (.slice ro nr rc) (.slice lo nl lc)).toArray) ∧ ys.map (·.2) = t.recs ∧ St w [] w' (.row (.slice ro nr rc) 47 44 nr (recsV ys) :: .row (.slice lo nl lc) 3 1 nl (numsV t.lives) :: rootRows 98 ys) := by
  have hst0 := St.refl w
  have HT := hid ht
  clear ht
  go_enter Try.func22, Try.ntmps22
  go_upto_region 1 with (first | go_big_skip | go_big_guard | (refine wl_boxA hst0 rfl rfl rfl ?_; intro g1 w1 hst1; clear hst0) | (refine wl_alloc hst1 rfl rfl ?_; intro g2 w2 hst; clear hst1))
  (try simp only [Act.put, List.setIfInBounds_toArray, List.set_cons_zero, List.set_cons_succ])
  go_cut [3, 10, 13, 14] (fun a b c d wx => ∃ g3 lo lc, a = .pointer (some ⟨g3, 0, none⟩) ∧ St w [] wx (.blk g3 30 [.int .i64 t.next, .slice none 0 0, .int .i64 t.kind, .int .i64 t.dev, .int .i64 t.at_, .int .i64 t.txg, .slice lo nl lc] :: .row (.slice none 0 0) 47 44 0 (recsV []) :: .row (.slice lo nl lc) 3 1 nl (numsV t.lives) :: .blk g1 30 (tabC t (.slice ar nr cr) (.slice al nl cl)) :: .blk g2 30 tab0 :: rootRows 98 []))
  case first =>
    have hX := hst.drew
    clear hst
    refine wp_region_held_drew (S := (fun w' => (loadVarH 3 ⟨g1, 0, none⟩).run Try.prog w' = .ok (.int .i64 t.next) w' ∧ (loadVarH 27 ⟨g1, 2, none⟩).run Try.prog w' = .ok (.agg (List.toArray ([.int .i64 t.kind, .int .i64 t.dev, .int .i64 t.at_, .int .i64 t.txg]))) w' ∧ (loadVarH 28 ⟨g1, 6, none⟩).run Try.prog w' = .ok (.slice al nl cl) w')) (by kernel_rfl) (by exact ⟨ldS [_] hX rfl, ldA ([.int .i64 t.kind, .int .i64 t.dev, .int .i64 t.at_, .int .i64 t.txg]) [_] hX (rfl) (rfl), ldS [_] hX rfl⟩) (fun hHeld => ?_)
    refine tk 0 6 ?_
    (try simp only [Act.put, List.setIfInBounds_toArray, List.set_cons_zero, List.set_cons_succ])
    refine tk 2 8 ?_
    (try simp only [Act.put, List.setIfInBounds_toArray, List.set_cons_zero, List.set_cons_succ])
    refine tk 5 11 ?_
    (try simp only [Act.put, List.setIfInBounds_toArray, List.set_cons_zero, List.set_cons_succ])
    refine tk 1 7 ?_
    (try simp only [Act.put, List.setIfInBounds_toArray, List.set_cons_zero, List.set_cons_succ])
    refine tk 3 9 ?_
    (try simp only [Act.put, List.setIfInBounds_toArray, List.set_cons_zero, List.set_cons_succ])
    refine tk 6 12 ?_
    (try simp only [Act.put, List.setIfInBounds_toArray, List.set_cons_zero, List.set_cons_succ])
    refine wpAnyH_ready (rs := [4, 9]) (by kernel_rfl) (by simp) ?_
    refine (AllReadyH.cons (o := ⟨some 10, _, _, _, _, _⟩) rfl (fun K hK => ?_) (AllReadyH.cons (o := ⟨some 3, _, _, _, _, _⟩) rfl (fun K hK => ?_) AllReadyH.nil))
    · rw [if_pos (by rfl)]
      refine ow_of_wl (ops := #[]) (by rfl) ?_
      apply wl_bsX [] [] hX
      · rfl
      · rfl
      · exact rfl
      · exact rfl
      · infer_instance
      · infer_instance
      · rfl
      · rfl
      · rfl
      intro g7 w8 h8
      have hP1 := St.toRow (n := 0) (cap := 0) (sz := 1) h8 rfl (by decide) (by decide)
      clear h8
      refine q0_nil ?_
      refine hK.out _ _ ?_ (fun hHeld => ?_)
      · exact ⟨ldS [_, _] hP1 rfl, ldA ([.int .i64 t.kind, .int .i64 t.dev, .int .i64 t.at_, .int .i64 t.txg]) [_, _] hP1 (rfl) (rfl), ldS [_, _] hP1 rfl⟩
      clear hK K
      (try simp only [Act.put, List.setIfInBounds_toArray, List.set_cons_zero, List.set_cons_succ])
      refine wpAnyH_ready (rs := [7, 9]) (by kernel_rfl) (by simp) ?_
      refine (AllReadyH.cons (o := ⟨some 13, _, _, _, _, _⟩) rfl (fun K hK => ?_) (AllReadyH.cons (o := ⟨some 3, _, _, _, _, _⟩) rfl (fun K hK => ?_) AllReadyH.nil))
      · rw [if_pos (by rfl)]
        refine ow_of_wl (ops := #[]) (by rfl) ?_
        apply wl_appX (m := nl) (ys := numsV t.lives) [] hP1
        · rfl
        · rfl
        · exact rfl
        · exact rfl
        · infer_instance
        · infer_instance
        · infer_instance
        · exact Rd.old hP1 HT.out.L
        · exact ones_numsV _
        · exact ⟨by decide, by unfold maxLen; omega, by omega⟩
        intro lv2 w6 hP2 _
        obtain ⟨lo, lc, rfl, _, _⟩ := row_sliceC [] hP2
        refine q0_nil ?_
        refine hK.out _ _ ?_ (fun hHeld => ?_)
        · exact ⟨ldS [_, _] hP2 rfl, ldA ([.int .i64 t.kind, .int .i64 t.dev, .int .i64 t.at_, .int .i64 t.txg]) [_, _] hP2 (rfl) (rfl), ldS [_, _] hP2 rfl⟩
        clear hK K
        (try simp only [Act.put, List.setIfInBounds_toArray, List.set_cons_zero, List.set_cons_succ])
        refine wpAnyH_ready (rs := [8, 9]) (by kernel_rfl) (by simp) ?_
        refine (AllReadyH.cons (o := ⟨some 14, _, _, _, _, _⟩) rfl (fun K hK => ?_) (AllReadyH.cons (o := ⟨some 3, _, _, _, _, _⟩) rfl (fun K hK => ?_) AllReadyH.nil))
        · rw [if_pos (by rfl)]
          refine ow_of_wl (ops := #[]) (by rfl) ?_
          refine wl_buildX (cs := [.int .i64 t.next, .slice none 0 0, .int .i64 t.kind, .int .i64 t.dev, .int .i64 t.at_, .int .i64 t.txg, .slice lo (0 + nl) lc]) [(0, .int .i64 t.next), (2, .agg #[.int .i64 t.kind, .int .i64 t.dev, .int .i64 t.at_, .int .i64 t.txg]), (3, .slice lo (0 + nl) lc)] rfl rfl (by exact rfl) (bldT3 _ _ _ _ _ _ _ _) ?_
          refine q0_nil ?_
          refine hK.out _ _ ?_ (fun hHeld => ?_)
          · exact ⟨ldS [_, _] hP2 rfl, ldA ([.int .i64 t.kind, .int .i64 t.dev, .int .i64 t.at_, .int .i64 t.txg]) [_, _] hP2 (rfl) (rfl), ldS [_, _] hP2 rfl⟩
          clear hK K
          (try simp only [Act.put, List.setIfInBounds_toArray, List.set_cons_zero, List.set_cons_succ])
          refine wpAnyH_ready (rs := [9]) (by kernel_rfl) (by simp) ?_
          refine (AllReadyH.cons (o := ⟨some 3, _, _, _, _, _⟩) rfl (fun K hK => ?_) AllReadyH.nil)
          rw [if_pos (by rfl)]
          refine ow_of_wl (ops := #[]) (by rfl) ?_
          refine wl_alloc hP2 rfl rfl ?_
          intro g3 w7 hP3
          refine q0_nil ?_
          refine hK.out _ _ ?_ (fun hHeld => ?_)
          · exact ⟨ldS [_, _, _] hP3 rfl, ldA ([.int .i64 t.kind, .int .i64 t.dev, .int .i64 t.at_, .int .i64 t.txg]) [_, _, _] hP3 (rfl) (rfl), ldS [_, _, _] hP3 rfl⟩
          clear hK K
          (try simp only [Act.put, List.setIfInBounds_toArray, List.set_cons_zero, List.set_cons_succ])
          refine wpAnyH_ready (rs := [10]) (by kernel_rfl) (by simp) ?_
          refine (AllReadyH.cons (o := ⟨none, _, _, _, _, _⟩) rfl (fun K hK => ?_) AllReadyH.nil)
          rw [if_pos (by rfl)]
          refine ow_of_wl (ops := #[]) (by rfl) ?_
          refine wl_storeA [] hP3 rfl rfl rfl rfl rfl rfl rfl ?_
          intro w7 hP4
          refine q0_nil ?_
          refine hK.out _ _ ?_ (fun hHeld => ?_)
          · exact ⟨ldS [_, _, _] hP4 rfl, ldA ([.int .i64 t.kind, .int .i64 t.dev, .int .i64 t.at_, .int .i64 t.txg]) [_, _, _] hP4 (rfl) (rfl), ldS [_, _, _] hP4 rfl⟩
          clear hK K
          (try simp only [Act.put, List.setIfInBounds_toArray, List.set_cons_zero, List.set_cons_succ])
          refine wpAnyH_done (by kernel_rfl) ?_ _
          clear hHeld
          have hQ0 := St.nilRow 47 44 hP4
          have hQ1 : St w [] w7 (.blk g3 30 [.int .i64 t.next, .slice none 0 0, .int .i64 t.kind, .int .i64 t.dev, .int .i64 t.at_, .int .i64 t.txg, .slice lo nl lc] :: .row (.slice none 0 0) 47 44 0 (recsV []) :: .row (.slice lo nl lc) 3 1 nl (numsV t.lives) :: .blk g1 30 (tabC t (.slice ar nr cr) (.slice al nl cl)) :: .blk g2 30 tab0 :: rootRows 98 []) := by
            have h := (St.front (L1 := [_, _, _, _]) (St.front (L1 := [_, _, _]) (St.front (L1 := [_, _, _, _]) (St.front (L1 := [_, _, _, _]) (St.front (L1 := [_, _, _]) hQ0)))))
            rw [Nat.zero_add, List.take_zero, List.nil_append] at h
            exact h
          clear hQ0 hP4
          rw [Nat.zero_add]
          go_wp2_with (first | go_big_skip | go_big_guard | fail)
          go_meet
          exact ⟨g3, lo, lc, rfl, hQ1⟩
        · rw [if_pos (by rfl)]
          refine ow_of_wl (ops := #[]) (by rfl) ?_
          refine wl_alloc hP2 rfl rfl ?_
          intro g3 w7 hP5
          refine q0_nil ?_
          refine hK.out _ _ ?_ (fun hHeld => ?_)
          · exact ⟨ldS [_, _, _] hP5 rfl, ldA ([.int .i64 t.kind, .int .i64 t.dev, .int .i64 t.at_, .int .i64 t.txg]) [_, _, _] hP5 (rfl) (rfl), ldS [_, _, _] hP5 rfl⟩
          clear hK K
          (try simp only [Act.put, List.setIfInBounds_toArray, List.set_cons_zero, List.set_cons_succ])
          refine wpAnyH_ready (rs := [8]) (by kernel_rfl) (by simp) ?_
          refine (AllReadyH.cons (o := ⟨some 14, _, _, _, _, _⟩) rfl (fun K hK => ?_) AllReadyH.nil)
          rw [if_pos (by rfl)]
          refine ow_of_wl (ops := #[]) (by rfl) ?_
          refine wl_buildX (cs := [.int .i64 t.next, .slice none 0 0, .int .i64 t.kind, .int .i64 t.dev, .int .i64 t.at_, .int .i64 t.txg, .slice lo (0 + nl) lc]) [(0, .int .i64 t.next), (2, .agg #[.int .i64 t.kind, .int .i64 t.dev, .int .i64 t.at_, .int .i64 t.txg]), (3, .slice lo (0 + nl) lc)] rfl rfl (by exact rfl) (bldT3 _ _ _ _ _ _ _ _) ?_
          refine q0_nil ?_
          refine hK.out _ _ ?_ (fun hHeld => ?_)
          · exact ⟨ldS [_, _, _] hP5 rfl, ldA ([.int .i64 t.kind, .int .i64 t.dev, .int .i64 t.at_, .int .i64 t.txg]) [_, _, _] hP5 (rfl) (rfl), ldS [_, _, _] hP5 rfl⟩
          clear hK K
          (try simp only [Act.put, List.setIfInBounds_toArray, List.set_cons_zero, List.set_cons_succ])
          refine wpAnyH_ready (rs := [10]) (by kernel_rfl) (by simp) ?_
          refine (AllReadyH.cons (o := ⟨none, _, _, _, _, _⟩) rfl (fun K hK => ?_) AllReadyH.nil)
          rw [if_pos (by rfl)]
          refine ow_of_wl (ops := #[]) (by rfl) ?_
          refine wl_storeA [] hP5 rfl rfl rfl rfl rfl rfl rfl ?_
          intro w7 hP6
          refine q0_nil ?_
          refine hK.out _ _ ?_ (fun hHeld => ?_)
          · exact ⟨ldS [_, _, _] hP6 rfl, ldA ([.int .i64 t.kind, .int .i64 t.dev, .int .i64 t.at_, .int .i64 t.txg]) [_, _, _] hP6 (rfl) (rfl), ldS [_, _, _] hP6 rfl⟩
          clear hK K
          (try simp only [Act.put, List.setIfInBounds_toArray, List.set_cons_zero, List.set_cons_succ])
          refine wpAnyH_done (by kernel_rfl) ?_ _
          clear hHeld
          have hQ0 := St.nilRow 47 44 hP6
          have hQ1 : St w [] w7 (.blk g3 30 [.int .i64 t.next, .slice none 0 0, .int .i64 t.kind, .int .i64 t.dev, .int .i64 t.at_, .int .i64 t.txg, .slice lo nl lc] :: .row (.slice none 0 0) 47 44 0 (recsV []) :: .row (.slice lo nl lc) 3 1 nl (numsV t.lives) :: .blk g1 30 (tabC t (.slice ar nr cr) (.slice al nl cl)) :: .blk g2 30 tab0 :: rootRows 98 []) := by
            have h := (St.front (L1 := [_, _, _, _]) (St.front (L1 := [_, _, _]) (St.front (L1 := [_, _, _, _]) (St.front (L1 := [_, _, _, _]) (St.front (L1 := [_, _, _]) hQ0)))))
            rw [Nat.zero_add, List.take_zero, List.nil_append] at h
            exact h
          clear hQ0 hP6
          rw [Nat.zero_add]
          go_wp2_with (first | go_big_skip | go_big_guard | fail)
          go_meet
          exact ⟨g3, lo, lc, rfl, hQ1⟩
      · rw [if_pos (by rfl)]
        refine ow_of_wl (ops := #[]) (by rfl) ?_
        refine wl_alloc hP1 rfl rfl ?_
        intro g3 w7 hP7
        refine q0_nil ?_
        refine hK.out _ _ ?_ (fun hHeld => ?_)
        · exact ⟨ldS [_, _, _] hP7 rfl, ldA ([.int .i64 t.kind, .int .i64 t.dev, .int .i64 t.at_, .int .i64 t.txg]) [_, _, _] hP7 (rfl) (rfl), ldS [_, _, _] hP7 rfl⟩
        clear hK K
        (try simp only [Act.put, List.setIfInBounds_toArray, List.set_cons_zero, List.set_cons_succ])
        refine wpAnyH_ready (rs := [7]) (by kernel_rfl) (by simp) ?_
        refine (AllReadyH.cons (o := ⟨some 13, _, _, _, _, _⟩) rfl (fun K hK => ?_) AllReadyH.nil)
        rw [if_pos (by rfl)]
        refine ow_of_wl (ops := #[]) (by rfl) ?_
        apply wl_appX (m := nl) (ys := numsV t.lives) [_] hP7
        · rfl
        · rfl
        · exact rfl
        · exact rfl
        · infer_instance
        · infer_instance
        · infer_instance
        · exact Rd.old hP7 HT.out.L
        · exact ones_numsV _
        · exact ⟨by decide, by unfold maxLen; omega, by omega⟩
        intro lv2 w6 hP8 _
        obtain ⟨lo, lc, rfl, _, _⟩ := row_sliceC [_] hP8
        refine q0_nil ?_
        refine hK.out _ _ ?_ (fun hHeld => ?_)
        · exact ⟨ldS [_, _, _] hP8 rfl, ldA ([.int .i64 t.kind, .int .i64 t.dev, .int .i64 t.at_, .int .i64 t.txg]) [_, _, _] hP8 (rfl) (rfl), ldS [_, _, _] hP8 rfl⟩
        clear hK K
        (try simp only [Act.put, List.setIfInBounds_toArray, List.set_cons_zero, List.set_cons_succ])
        refine wpAnyH_ready (rs := [8]) (by kernel_rfl) (by simp) ?_
        refine (AllReadyH.cons (o := ⟨some 14, _, _, _, _, _⟩) rfl (fun K hK => ?_) AllReadyH.nil)
        rw [if_pos (by rfl)]
        refine ow_of_wl (ops := #[]) (by rfl) ?_
        refine wl_buildX (cs := [.int .i64 t.next, .slice none 0 0, .int .i64 t.kind, .int .i64 t.dev, .int .i64 t.at_, .int .i64 t.txg, .slice lo (0 + nl) lc]) [(0, .int .i64 t.next), (2, .agg #[.int .i64 t.kind, .int .i64 t.dev, .int .i64 t.at_, .int .i64 t.txg]), (3, .slice lo (0 + nl) lc)] rfl rfl (by exact rfl) (bldT3 _ _ _ _ _ _ _ _) ?_
        refine q0_nil ?_
        refine hK.out _ _ ?_ (fun hHeld => ?_)
        · exact ⟨ldS [_, _, _] hP8 rfl, ldA ([.int .i64 t.kind, .int .i64 t.dev, .int .i64 t.at_, .int .i64 t.txg]) [_, _, _] hP8 (rfl) (rfl), ldS [_, _, _] hP8 rfl⟩
        clear hK K
        (try simp only [Act.put, List.setIfInBounds_toArray, List.set_cons_zero, List.set_cons_succ])
        refine wpAnyH_ready (rs := [10]) (by kernel_rfl) (by simp) ?_
        refine (AllReadyH.cons (o := ⟨none, _, _, _, _, _⟩) rfl (fun K hK => ?_) AllReadyH.nil)
        rw [if_pos (by rfl)]
        refine ow_of_wl (ops := #[]) (by rfl) ?_
        refine wl_storeA [] hP8 rfl rfl rfl rfl rfl rfl rfl ?_
        intro w7 hP9
        refine q0_nil ?_
        refine hK.out _ _ ?_ (fun hHeld => ?_)
        · exact ⟨ldS [_, _, _] hP9 rfl, ldA ([.int .i64 t.kind, .int .i64 t.dev, .int .i64 t.at_, .int .i64 t.txg]) [_, _, _] hP9 (rfl) (rfl), ldS [_, _, _] hP9 rfl⟩
        clear hK K
        (try simp only [Act.put, List.setIfInBounds_toArray, List.set_cons_zero, List.set_cons_succ])
        refine wpAnyH_done (by kernel_rfl) ?_ _
        clear hHeld
        have hQ0 := St.nilRow 47 44 hP9
        have hQ1 : St w [] w7 (.blk g3 30 [.int .i64 t.next, .slice none 0 0, .int .i64 t.kind, .int .i64 t.dev, .int .i64 t.at_, .int .i64 t.txg, .slice lo nl lc] :: .row (.slice none 0 0) 47 44 0 (recsV []) :: .row (.slice lo nl lc) 3 1 nl (numsV t.lives) :: .blk g1 30 (tabC t (.slice ar nr cr) (.slice al nl cl)) :: .blk g2 30 tab0 :: rootRows 98 []) := by
          have h := (St.front (L1 := [_, _, _, _]) (St.front (L1 := [_, _, _]) (St.front (L1 := [_, _, _, _]) (St.front (L1 := [_, _, _, _]) (St.front (L1 := [_, _, _]) hQ0)))))
          rw [Nat.zero_add, List.take_zero, List.nil_append] at h
          exact h
        clear hQ0 hP9
        rw [Nat.zero_add]
        go_wp2_with (first | go_big_skip | go_big_guard | fail)
        go_meet
        exact ⟨g3, lo, lc, rfl, hQ1⟩
    · rw [if_pos (by rfl)]
      refine ow_of_wl (ops := #[]) (by rfl) ?_
      refine wl_alloc hX rfl rfl ?_
      intro g3 w7 hP10
      refine q0_nil ?_
      refine hK.out _ _ ?_ (fun hHeld => ?_)
      · exact ⟨ldS [_, _] hP10 rfl, ldA ([.int .i64 t.kind, .int .i64 t.dev, .int .i64 t.at_, .int .i64 t.txg]) [_, _] hP10 (rfl) (rfl), ldS [_, _] hP10 rfl⟩
      clear hK K
      (try simp only [Act.put, List.setIfInBounds_toArray, List.set_cons_zero, List.set_cons_succ])
      refine wpAnyH_ready (rs := [4]) (by kernel_rfl) (by simp) ?_
      refine (AllReadyH.cons (o := ⟨some 10, _, _, _, _, _⟩) rfl (fun K hK => ?_) AllReadyH.nil)
      rw [if_pos (by rfl)]
      refine ow_of_wl (ops := #[]) (by rfl) ?_
      apply wl_bsX [] [] hP10
      · rfl
      · rfl
      · exact rfl
      · exact rfl
      · infer_instance
      · infer_instance
      · rfl
      · rfl
      · rfl
      intro g7 w8 h8
      have hP11 := St.toRow (n := 0) (cap := 0) (sz := 1) h8 rfl (by decide) (by decide)
      clear h8
      refine q0_nil ?_
      refine hK.out _ _ ?_ (fun hHeld => ?_)
      · exact ⟨ldS [_, _, _] hP11 rfl, ldA ([.int .i64 t.kind, .int .i64 t.dev, .int .i64 t.at_, .int .i64 t.txg]) [_, _, _] hP11 (rfl) (rfl), ldS [_, _, _] hP11 rfl⟩
      clear hK K
      (try simp only [Act.put, List.setIfInBounds_toArray, List.set_cons_zero, List.set_cons_succ])
      refine wpAnyH_ready (rs := [7]) (by kernel_rfl) (by simp) ?_
      refine (AllReadyH.cons (o := ⟨some 13, _, _, _, _, _⟩) rfl (fun K hK => ?_) AllReadyH.nil)
      rw [if_pos (by rfl)]
      refine ow_of_wl (ops := #[]) (by rfl) ?_
      apply wl_appX (m := nl) (ys := numsV t.lives) [] hP11
      · rfl
      · rfl
      · exact rfl
      · exact rfl
      · infer_instance
      · infer_instance
      · infer_instance
      · exact Rd.old hP11 HT.out.L
      · exact ones_numsV _
      · exact ⟨by decide, by unfold maxLen; omega, by omega⟩
      intro lv2 w6 hP12 _
      obtain ⟨lo, lc, rfl, _, _⟩ := row_sliceC [] hP12
      refine q0_nil ?_
      refine hK.out _ _ ?_ (fun hHeld => ?_)
      · exact ⟨ldS [_, _, _] hP12 rfl, ldA ([.int .i64 t.kind, .int .i64 t.dev, .int .i64 t.at_, .int .i64 t.txg]) [_, _, _] hP12 (rfl) (rfl), ldS [_, _, _] hP12 rfl⟩
      clear hK K
      (try simp only [Act.put, List.setIfInBounds_toArray, List.set_cons_zero, List.set_cons_succ])
      refine wpAnyH_ready (rs := [8]) (by kernel_rfl) (by simp) ?_
      refine (AllReadyH.cons (o := ⟨some 14, _, _, _, _, _⟩) rfl (fun K hK => ?_) AllReadyH.nil)
      rw [if_pos (by rfl)]
      refine ow_of_wl (ops := #[]) (by rfl) ?_
      refine wl_buildX (cs := [.int .i64 t.next, .slice none 0 0, .int .i64 t.kind, .int .i64 t.dev, .int .i64 t.at_, .int .i64 t.txg, .slice lo (0 + nl) lc]) [(0, .int .i64 t.next), (2, .agg #[.int .i64 t.kind, .int .i64 t.dev, .int .i64 t.at_, .int .i64 t.txg]), (3, .slice lo (0 + nl) lc)] rfl rfl (by exact rfl) (bldT3 _ _ _ _ _ _ _ _) ?_
      refine q0_nil ?_
      refine hK.out _ _ ?_ (fun hHeld => ?_)
      · exact ⟨ldS [_, _, _] hP12 rfl, ldA ([.int .i64 t.kind, .int .i64 t.dev, .int .i64 t.at_, .int .i64 t.txg]) [_, _, _] hP12 (rfl) (rfl), ldS [_, _, _] hP12 rfl⟩
      clear hK K
      (try simp only [Act.put, List.setIfInBounds_toArray, List.set_cons_zero, List.set_cons_succ])
      refine wpAnyH_ready (rs := [10]) (by kernel_rfl) (by simp) ?_
      refine (AllReadyH.cons (o := ⟨none, _, _, _, _, _⟩) rfl (fun K hK => ?_) AllReadyH.nil)
      rw [if_pos (by rfl)]
      refine ow_of_wl (ops := #[]) (by rfl) ?_
      refine wl_storeA [_] hP12 rfl rfl rfl rfl rfl rfl rfl ?_
      intro w7 hP13
      refine q0_nil ?_
      refine hK.out _ _ ?_ (fun hHeld => ?_)
      · exact ⟨ldS [_, _, _] hP13 rfl, ldA ([.int .i64 t.kind, .int .i64 t.dev, .int .i64 t.at_, .int .i64 t.txg]) [_, _, _] hP13 (rfl) (rfl), ldS [_, _, _] hP13 rfl⟩
      clear hK K
      (try simp only [Act.put, List.setIfInBounds_toArray, List.set_cons_zero, List.set_cons_succ])
      refine wpAnyH_done (by kernel_rfl) ?_ _
      clear hHeld
      have hQ0 := St.nilRow 47 44 hP13
      have hQ1 : St w [] w7 (.blk g3 30 [.int .i64 t.next, .slice none 0 0, .int .i64 t.kind, .int .i64 t.dev, .int .i64 t.at_, .int .i64 t.txg, .slice lo nl lc] :: .row (.slice none 0 0) 47 44 0 (recsV []) :: .row (.slice lo nl lc) 3 1 nl (numsV t.lives) :: .blk g1 30 (tabC t (.slice ar nr cr) (.slice al nl cl)) :: .blk g2 30 tab0 :: rootRows 98 []) := by
        have h := (St.front (L1 := [_, _, _, _]) (St.front (L1 := [_, _, _]) (St.front (L1 := [_, _, _]) (St.front (L1 := [_, _, _, _]) (St.front (L1 := [_, _, _]) hQ0)))))
        rw [Nat.zero_add, List.take_zero, List.nil_append] at h
        exact h
      clear hQ0 hP13
      rw [Nat.zero_add]
      go_wp2_with (first | go_big_skip | go_big_guard | fail)
      go_meet
      exact ⟨g3, lo, lc, rfl, hQ1⟩
  case rest =>
    clear hst
    obtain ⟨g3, lo, lc, rfl, hQ1⟩ := hcut
    go_wp2_with (first | go_big_skip | go_big_guard | fail)
    go_loopw [4] (fun i wr => ∃ (j : Nat) (rv : Value) (ys : List (Value × RC)), j ≤ nr ∧ i = .int .i64 (j : Int) ∧ ys.map (·.2) = t.recs.take j ∧ St w [] wr (.blk g3 30 [.int .i64 t.next, rv, .int .i64 t.kind, .int .i64 t.dev, .int .i64 t.at_, .int .i64 t.txg, .slice lo nl lc] :: .row rv 47 44 j (recsV ys) :: .row (.slice lo nl lc) 3 1 nl (numsV t.lives) :: .blk g1 30 (tabC t (.slice ar nr cr) (.slice al nl cl)) :: .blk g2 30 tab0 :: rootRows 98 ys)) (fun i _ => nr - (intOf i).toNat)
    case atStart => exact ⟨0, _, [], Nat.zero_le _, rfl, rfl, hQ1⟩
    case round =>
      clear hQ1
      obtain ⟨j, rv, ys, hj, rfl, hy, hst⟩ := hrel
      have HY := hid hy
      clear hy
      by_cases hlt : j < nr
      · have e1 : decide ((j : Int) < (nr : Int)) = true := decide_eq_true (by omega)
        have z1 : IntKind.i64.wrap ((j : Int) + 1) = (j : Int) + 1 := IntWalk.i64_in _ (by omega)
        obtain ⟨x, lb, lo3, hx, har, hin, hr⟩ := RecsIn.at HT.out.R hlt
        subst har
        have HXJ := hid (recs_at HT.out hx)
        have HIN := hid hin
        have HL := hid hin.L
        have HL44 := hid (cellsR_len hin.L)
        have H35 := hid (PV.len (p := x.2.pv x.1) hin.L)
        have HRX := hid hr
        have HLQ := hid (show ∀ v : Value, (cellsR (v, x.2)).length = 44 from fun _ => cellsR_len hin.L)
        have HAD := hid (ha x.2 (List.mem_of_getElem? HXJ.out))
        clear hx hr hin
        go_wp2_with (first | go_big_skip | go_big_guard | (refine wl_loadE rfl rfl rfl ?_; first | refine ⟨_, Loads.at [_, _, _] hst rfl, ?_⟩ | refine ⟨_, Loads.oldA (cs := cellsR x) hst HL44.out HRX.out, ?_⟩ | refine ⟨_, Loads.atA ((x.2.pv x.1).cells) [] hst3 H35.out (cellsR_root HL.out), ?_⟩ | refine ⟨_, Loads.at [_, _] hst5 rfl, ?_⟩ | refine ⟨_, Loads.atA (cellsR (.slice ao9 (x.2.pv x.1).l.length c9, x.2)) [_] hst5 (HLQ.out _) (cellsR_all _), ?_⟩) | (refine wl_index rfl rfl rfl rfl hlt ?_) | (refine wl_alloc hst rfl rfl ?_; intro g5 w2 hst2; clear hst) | (refine wl_storeA [] hst2 rfl rfl rfl rfl (by exact HL44.out) (cellsR_ones HIN.out) rfl ?_; intro w3 hst3; clear hst2) | (go_at_call 50; refine (copyPtr_any (x.2.pv x.1) _ (PV.In.old hst3.nil HIN.out.1) HAD.out).mono ?_; rintro _ w9 ⟨ao9, n9, c9, rfl, h4, hl4⟩; subst hl4; have hst4 := St.call hst3 h4; clear h4 hst3) | (refine wl_storeO [_] hst4 rfl rfl rfl rfl (off := 4) (vs := PV.cells ((x.2.pv x.1).re (.slice ao9 (x.2.pv x.1).l.length c9))) (by exact H35.out) (PV.ones_of rfl) (by rw [HL44.out]; decide) (put_root x HL.out _) ?_; intro w5 hst5; clear hst4) | (apply wl_bsX [.agg (List.toArray (cellsR (.slice ao9 (x.2.pv x.1).l.length c9, x.2)))] (cellsR (.slice ao9 (x.2.pv x.1).l.length c9, x.2)) hst5; rfl; rfl; exact rfl; exact (List.append_nil _); infer_instance; infer_instance; (show (((List.toArray (cellsR (.slice ao9 (x.2.pv x.1).l.length c9, x.2))).size == 44) && true) = true; rw [List.size_toArray, HLQ.out _]; rfl); rfl; rfl; intro gb w5 hst6; have HINR := hid (root_in (x := (.slice ao9 (x.2.pv x.1).l.length c9, x.2)) hst6 (.tail _ (.head _)) HL.out HIN.out.2); clear hst5) | (apply wl_appX (m := 1) (ys := cellsR (.slice ao9 (x.2.pv x.1).l.length c9, x.2)) [_, _, _, _] hst6; rfl; rfl; exact rfl; exact rfl; infer_instance; infer_instance; infer_instance; exact Rd.blk (n := 1) hst6 (.head _) (Nat.le_refl _) (by decide) (by rw [HLQ.out _]) (by rw [List.drop_zero, List.take_length]); exact cellsR_ones HINR.out; exact ⟨by decide, by unfold maxLen; omega, by omega⟩; intro rv2 w6 hst7 _; obtain ⟨ro, rc, rfl, _, _⟩ := row_sliceC [_, _, _, _] hst7; clear hst6) | (refine wl_store [_, _, _] hst7 rfl rfl rfl (off := 1) (v := .slice _ _ _) rfl rfl rfl (by show (1 : Nat) + 1 ≤ 7; decide) ?_; intro w7 hst8; clear hst7))
        have hst9 := Hp.St.root (A := [_, _, _, _]) (sv := .slice ao9 (x.2.pv x.1).l.length c9) (x := x.2) (St.perm (St.sub hst8 (.cons _ (.cons_cons _ (.cons _ (List.Sublist.refl _))))) (.swap _ _ _))
        clear hst8
        go_roundw
        case rel =>
          have hD7 : St w [] w7 (.blk g3 30 [.int .i64 t.next, .slice ro (j + 1) rc, .int .i64 t.kind, .int .i64 t.dev, .int .i64 t.at_, .int .i64 t.txg, .slice lo nl lc] :: .row (.slice ro (j + 1) rc) 47 44 (j + 1) (recsV (ys ++ [(.slice ao9 (x.2.pv x.1).l.length c9, x.2)])) :: .row (.slice lo nl lc) 3 1 nl (numsV t.lives) :: .blk g1 30 (tabC t (.slice (some ⟨lb, lo3, none⟩) nr cr) (.slice al nl cl)) :: .blk g2 30 tab0 :: rootRows 98 (ys ++ [(.slice ao9 (x.2.pv x.1).l.length c9, x.2)])) := by
            rw [recsV_append, show recsV [((.slice ao9 (x.2.pv x.1).l.length c9 : Value), x.2)] = cellsR (.slice ao9 (x.2.pv x.1).l.length c9, x.2) from List.append_nil _]
            exact hst9
          refine ⟨j + 1, .slice ro (j + 1) rc, ys ++ [(.slice ao9 (x.2.pv x.1).l.length c9, x.2)], by omega, rfl, ?_, hD7⟩
          rw [List.map_append, HY.out, List.take_add_one, HXJ.out]; rfl
        case measure => simp [intOf]; omega
      · have e1 : decide ((j : Int) < (nr : Int)) = false := decide_eq_false (by omega)
        obtain rfl : j = nr := by omega
        obtain ⟨ro, rc, rfl, _, _⟩ := row_sliceC [_] hst
        have HYT := hid (show ys.map (·.2) = t.recs by rw [HY.out, List.take_of_length_le (by have := HT.out.len; omega)])
        go_wp2_with (first | go_big_skip | go_big_guard | (refine wl_loadE rfl rfl rfl ?_; first | refine ⟨_, Loads.at [_, _, _] hst rfl, ?_⟩ | refine ⟨_, Loads.atA (tabC t (.slice ro j rc) (.slice lo nl lc)) [] hst rfl rfl, ?_⟩) | (refine wl_storeA [_, _, _, _] hst rfl rfl rfl rfl (vs := tabC t (.slice ro j rc) (.slice lo nl lc)) rfl rfl rfl ?_; intro w7 hst8; clear hst))
        have hl := Loads.atA (P := Try.prog) (off := 0) (T := 30) (tabC t (.slice ro j rc) (.slice lo nl lc)) [_, _, _, _] hst8 rfl rfl
        refine bodyPost_ret (results_cellC rfl rfl hl) rfl ?_
        refine ⟨ro, rc, lo, lc, ys, rfl, HYT.out, ?_⟩
        exact St.sub hst8 (.cons _ (.cons_cons _ (.cons_cons _ (.cons _ (.cons _ (List.Sublist.refl _))))))
end Go.Proofs.Ytkpkaoiafppimaa
namespace Go.Proofs.Ytkpkaoiafppimaa
set_option linter.unusedVariables false
set_option linter.unusedSimpArgs false
open Go.RowKit
namespace Hp
variable {P : Program}
theorem row_openV {w0 w : World} {M : List Nat} {L1 L2 : List HA} {v : Value} {T : TypeId} {sz n : Nat} {xs : List Value} (h : St w0 M w (L1 ++ .row v T sz n xs :: L2)) (hn : 0 < n) : ∃ g c rest, v = .slice (some ⟨g, 0, none⟩) n c ∧ n ≤ c ∧ c ≤ 9223372036854775807 ∧ (xs ++ rest).length = c * sz ∧ xs.length = n * sz ∧ St w0 M w (L1 ++ .blk g T (xs ++ rest) :: L2) := by
  obtain ⟨hl, h2⟩ := h.owns (v := v) (T := T) (sz := sz) (n := n) (xs := xs) (by simp)
  rcases h2 with ⟨_, hz⟩ | ⟨g, cap, cur, rfl, _, hh, hnc, hcm, hs, hp⟩
  · omega
  · have e : xs ++ cur.toList.drop (n * sz) = cur.toList := by rw [← hp, List.take_append_drop]
    refine ⟨g, cap, cur.toList.drop (n * sz), rfl, hnc, hcm, by rw [e]; simpa using hs, hl, h.rep (y := .blk g T (xs ++ cur.toList.drop (n * sz))) rfl fun _ => ?_⟩
    show w.heap[g]? = _
    rw [hh, e]
/-- A slice of one's own that is not empty: where it lies. -/
theorem row_spot {w0 w : World} {M : List Nat} {L : List HA} {v : Value} {T : TypeId} {sz n : Nat} {xs : List Value} (h : St w0 M w L) (hm : HA.row v T sz n xs ∈ L) (hn : 0 < n) : ∃ g c, v = .slice (some ⟨g, 0, none⟩) n c ∧ w.rangeAt g 0 xs := by
  have hr := Rd.row h hm
  obtain ⟨L1, L2, rfl⟩ := List.append_of_mem hm
  obtain ⟨g, c, rest, rfl, _⟩ := row_openV h hn
  exact ⟨g, c, rfl, hr.range⟩
theorem put_left {l r vs : List Value} {k : Nat} (h : k + vs.length ≤ l.length) : putAt (l ++ r) k vs = putAt l k vs ++ r := by
  unfold putAt
  rw [List.take_append_of_le_length (by omega), List.drop_append_of_le_length (by omega), List.append_assoc, List.append_assoc]
theorem length_putAt {l vs : List Value} {k : Nat} (h : k + vs.length ≤ l.length) : (putAt l k vs).length = l.length := by
  unfold putAt
  simp
  omega
theorem wl_storeRow {ops : Array Oper} {rest : List Oper} {o : Oper} {a : Act} {w0 w : World} {M : List Nat} {Q : Exit → Act → World → Prop} {T T' : TypeId} {x y : Operand} {g sz n m c off : Nat} {vs xs : List Value} (L1 : List HA) {L2 : List HA} (hst : St w0 M w (L1 ++ .row (.slice (some ⟨g, 0, none⟩) n c) T' sz n xs :: L2)) (hop : o.op = .store T x y)
    (hw : Region.wanted o (yielded ops a.tmps) = true) (hx : a.eval x = .pointer (some ⟨g, off, none⟩)) (hy : a.eval y = .agg vs.toArray) [hi : TyN P T m] (hm : vs.length = m)
    (h1 : vs.all (·.oneCell') = true) (hf : off + m ≤ n * sz) (hn0 : 0 < n)
    (h : ∀ w', St w0 M w' (L1 ++ .row (.slice (some ⟨g, 0, none⟩) n c) T' sz n (putAt xs off vs) :: L2) → wpList P ops Q rest (a.put o.dst undef) w') : wpList P ops Q (o :: rest) a w := by
  obtain ⟨g', c', rs, e, hnc, hcm, hl, hxl, h2⟩ := row_openV hst hn0
  cases e
  refine wl_storeO L1 h2 hop hw hx hy (n := m) hm h1 (by rw [List.length_append, hxl]; omega) rfl fun w' h3 => h w' ?_
  rw [put_left (by rw [hm, hxl]; exact hf)] at h3
  have hpl : (putAt xs off vs).length = xs.length := length_putAt (by rw [hm, hxl]; exact hf)
  have h4 := St.toRow (n := n) (cap := c) (sz := sz) (St.front L1 h3) (by rw [List.length_append, hpl, ← List.length_append, hl]) hnc hcm
  rw [List.take_append_of_le_length (by rw [hpl, hxl]; exact Nat.le_refl _), List.take_of_length_le (by rw [hpl, hxl]; exact Nat.le_refl _)] at h4
  exact St.perm h4 List.perm_middle.symm
theorem wl_storeRow1 {ops : Array Oper} {rest : List Oper} {o : Oper} {a : Act} {w0 w : World} {M : List Nat} {Q : Exit → Act → World → Prop} {T T' : TypeId} {x y : Operand} {g sz n c off : Nat} {v : Value} {xs : List Value} (L1 : List HA) {L2 : List HA} (hst : St w0 M w (L1 ++ .row (.slice (some ⟨g, 0, none⟩) n c) T' sz n xs :: L2)) (hop : o.op = .store T x y)
    (hw : Region.wanted o (yielded ops a.tmps) = true) (hx : a.eval x = .pointer (some ⟨g, off, none⟩)) (hy : a.eval y = v) [hi : TyN P T 1] (hv : v.cells = #[v]) (h1 : v.oneCell' = true) (hf : off + 1 ≤ n * sz) (hn0 : 0 < n)
    (h : ∀ w', St w0 M w' (L1 ++ .row (.slice (some ⟨g, 0, none⟩) n c) T' sz n (putAt xs off [v]) :: L2) → wpList P ops Q rest (a.put o.dst undef) w') : wpList P ops Q (o :: rest) a w := by
  obtain ⟨g', c', rs, e, hnc, hcm, hl, hxl, h2⟩ := row_openV hst hn0
  cases e
  refine wl_store L1 h2 hop hw hx hy (n := 1) (by rw [hv]; rfl) (by rw [hv]; simpa using h1) (by rw [hv, List.length_append, hxl]; show off + 1 ≤ _; omega) fun w' h3 => h w' ?_
  rw [hv, show (#[v] : Array Value).toList = [v] from rfl, put_left (by rw [hxl]; exact hf)] at h3
  have hpl : (putAt xs off [v]).length = xs.length := length_putAt (by rw [hxl]; exact hf)
  have h4 := St.toRow (n := n) (cap := c) (sz := sz) (St.front L1 h3) (by rw [List.length_append, hpl, ← List.length_append, hl]) hnc hcm
  rw [List.take_append_of_le_length (by rw [hpl, hxl]; exact Nat.le_refl _), List.take_of_length_le (by rw [hpl, hxl]; exact Nat.le_refl _)] at h4
  exact St.perm h4 List.perm_middle.symm
theorem Loads.inRow {w0 w : World} {M : List Nat} {L : List HA} {T T' : TypeId} {g n sz c k : Nat} {v : Value} {xs : List Value} (h : St w0 M w L) (hm : HA.row (.slice (some ⟨g, 0, none⟩) n c) T' sz n xs ∈ L) [ht : TyS P T] (hk : xs[k]? = some v) : Loads P w T ⟨g, k, none⟩ v := by
  have hr := (Rd.row h hm).range
  have := hr k v hk
  rw [Nat.zero_add] at this
  exact Loads.cell ht.out this
theorem drop_putAt {l vs : List Value} {k d : Nat} (h : k + vs.length ≤ l.length) (hd : k + vs.length ≤ d) : (putAt l k vs).drop d = l.drop d := by
  unfold putAt
  have e1 : (l.take k).length = k := by rw [List.length_take]; omega
  rw [← List.append_assoc, List.drop_append, List.drop_of_length_le (by simp; omega), List.nil_append, List.drop_drop]
  congr 1
  simp
  omega
end Hp
end Go.Proofs.Ytkpkaoiafppimaa
namespace Go.Proofs.Ytkpkaoiafppimaa
set_option linter.unusedVariables false
set_option linter.unusedSimpArgs false
open Go.RowKit Hp
attribute [local irreducible] Go.Calls Go.wpList
set_option maxRecDepth 100000
set_option maxHeartbeats 8000000
def overR : List Value := xC (-7) [111, 118, 101, 114] 0 0 zP 0 0 0 0 0
theorem bldOver : Try.prog.built 47 [(0, .int .i64 (-7)), (1, .string ⟨#[111, 118, 101, 114]⟩)] = some overR.toArray := by kernel_rfl
theorem overR_len : overR.length = 44 := rfl
theorem overR_ones : overR.all (·.oneCell') = true := rfl
def rowOf (E : TypeId) (x : Value × RC) : HA := .row x.1 E 2 x.2.l.length (addrsV x.2.l)
theorem rootRows_perm (E : TypeId) (xs : List (Value × RC)) : (rootRows E xs).Perm (xs.map (rowOf E)) := by
  unfold rootRows
  exact (List.reverse_perm xs).map _
theorem drop_recs {xs : List (Value × RC)} {zs : List Value} {j : Nat} {x : Value × RC} (hx : xs[j]? = some x) (hL : (cellsR x).length = 44) (h : zs.drop (j * 44) = recsV (xs.drop j)) : zs[j * 44 + 4]? = some x.1 ∧ zs.drop ((j + 1) * 44) = recsV (xs.drop (j + 1)) ∧ xs.drop j = x :: xs.drop (j + 1) := by
  have hd : xs.drop j = x :: xs.drop (j + 1) := by
    obtain ⟨hlt, hg⟩ := List.getElem?_eq_some_iff.1 hx
    rw [List.drop_eq_getElem_cons hlt, hg]
  have hr : recsV (xs.drop j) = cellsR x ++ recsV (xs.drop (j + 1)) := by rw [hd]; rfl
  refine ⟨?_, ?_, hd⟩
  · rw [← List.getElem?_drop, h, hr, List.getElem?_append_left (by omega)]
    rfl
  · rw [show (j + 1) * 44 = j * 44 + 44 by omega, ← List.drop_drop, h, hr, List.drop_left' hL]
theorem overTable_any {w0 w : World} {M : List Nat} {R : List HA} (t : TC) (ro lo : Option Addr) (nr rc nl lc : Nat) (xs : List (Value × RC)) (zs : List Value) (hS : St w0 M w (.row (.slice ro nr rc) 47 44 nr (recsV xs) :: .row (.slice lo nl lc) 3 1 nl zs :: (rootRows 98 xs ++ R))) (hx : ∀ x ∈ xs, L32 x.2.S) (hlen : xs.length = nr) (hnr : nr ≤ 100000) (hnl : nl ≤ 100000) :
    Calls Try.prog 13 #[.agg (tabC t (.slice ro nr rc) (.slice lo nl lc)).toArray] w fun e w' => e = .returned (.tuple #[]) ∧ St w0 M w' R := by
  have hst0 : St w0 M w (.row (.slice ro nr rc) 47 44 nr (recsV xs) :: .row (.slice lo nl lc) 3 1 nl zs :: (xs.map (rowOf 98) ++ R)) := St.perm hS (.cons _ (.cons _ ((rootRows_perm _ xs).append_right R)))
  have HLN := hid hlen
  have HXL := hid hx
  clear hS hx hlen
  go_enter Try.func13, Try.ntmps13
  go_wp2_with (first | go_big_skip | go_big_guard | (refine wl_boxA hst0 rfl rfl rfl ?_; intro g1 w1 hst; clear hst0))
  go_loopw [2] (fun i wr => ∃ (j : Nat) (ys : List Value), j ≤ nr ∧ i = .int .i64 (j : Int) ∧ Hid (ys.drop (j * 44) = recsV (xs.drop j)) ∧ St w0 M wr (.blk g1 30 (tabC t (.slice ro nr rc) (.slice lo nl lc)) :: .row (.slice ro nr rc) 47 44 nr ys :: .row (.slice lo nl lc) 3 1 nl zs :: ((xs.drop j).map (rowOf 98) ++ R))) (fun i _ => nr - (intOf i).toNat)
  case atStart => exact ⟨0, _, Nat.zero_le _, rfl, hid (by rw [Nat.zero_mul, List.drop_zero, List.drop_zero]), hst⟩
  case round =>
    clear hst
    obtain ⟨j, ys, hj, rfl, HY, hst⟩ := hrel
    by_cases hlt : j < nr
    · have e1 : decide ((j : Int) < (nr : Int)) = true := decide_eq_true (by omega)
      have z1 : IntKind.i64.wrap ((j : Int) + 1) = (j : Int) + 1 := IntWalk.i64_in _ (by omega)
      obtain ⟨⟨xv, xr⟩, hxj⟩ : ∃ x, xs[j]? = some x := ⟨_, List.getElem?_eq_getElem (by rw [HLN.out]; exact hlt)⟩
      obtain ⟨q1, q2, q3⟩ := drop_recs hxj (cellsR_len (HXL.out _ (List.mem_of_getElem? hxj))) HY.out
      rw [q3, List.map_cons, List.cons_append] at hst
      obtain ⟨g, c, he, _⟩ := row_spot hst (.tail _ (.head _)) (by omega)
      cases he
      obtain ⟨xo, xc, hxe, _, _, _⟩ := row_form hst (.tail _ (.tail _ (.tail _ (.head _))))
      have hxe' : xv = .slice xo xr.l.length xc := hxe
      subst hxe'
      have HC := hid q1
      obtain ⟨_, _, _, _, _, hyl⟩ := row_form hst (.tail _ (.head _))
      have HYL := hid hyl
      clear hyl
      have HD := hid q2
      clear q1 q2 q3 hxe hxj
      go_wp2_with (first | go_big_skip | go_big_guard | (refine wl_loadE rfl rfl rfl ?_; first | refine ⟨_, Loads.at [] hst rfl, ?_⟩ | refine ⟨_, Loads.inRow (k := j * 44 + 4) hst (.tail _ (.head _)) HC.out, ?_⟩ | refine ⟨_, (by rw [Nat.zero_add]; exact Loads.inRow (k := j * 44 + 4) hst (.tail _ (.head _)) HC.out), ?_⟩ | refine ⟨_, Loads.at [_] hst2 rfl, ?_⟩) | (refine wl_index rfl rfl rfl rfl hlt ?_) | (go_at_call 39; refine (over_addrs xo xr.l.length xc (addrsV xr.l) _ (hst.owns (.tail _ (.tail _ (.tail _ (.head _)))))).mono ?_; rintro _ w9 ⟨ys9, rfl, h4⟩; have hst2 := St.callRow (St.front (L1 := [_, _, _]) hst) h4; clear h4 hst) | (refine wl_buildX (cs := overR) [(0, .int .i64 (-7)), (1, .string ⟨#[111, 118, 101, 114]⟩)] rfl rfl (by exact rfl) bldOver ?_) | (refine wl_storeRow [_, _] hst2 rfl rfl rfl rfl (vs := overR) overR_len overR_ones (by omega) (by omega) ?_; intro w7 hst3; clear hst2))
      have HD2 := hid (show (putAt ys (0 + j * 44) overR).drop ((j + 1) * 44) = recsV (xs.drop (j + 1)) by
        rw [drop_putAt (by rw [overR_len, HYL.out]; omega) (by rw [overR_len]; omega), HD.out])
      go_roundw
      case rel => exact ⟨j + 1, _, by omega, rfl, HD2, St.drop (L1 := []) hst3⟩
      case measure => simp [intOf]; omega
    · have e1 : decide ((j : Int) < (nr : Int)) = false := decide_eq_false (by omega)
      have hst5 : St w0 M wr (.blk g1 30 (tabC t (.slice ro nr rc) (.slice lo nl lc)) :: .row (.slice lo nl lc) 3 1 nl zs :: R) := by
        have h0 : xs.drop j = [] := List.drop_eq_nil_of_le (by rw [HLN.out]; omega)
        rw [h0] at hst
        exact St.sub hst (.cons_cons _ (.cons _ (.cons_cons _ (List.Sublist.refl _))))
      clear hst
      go_wp2_with (first | go_big_skip | go_big_guard | (refine wl_loadE rfl rfl rfl ?_; refine ⟨_, Loads.at [] hst5 rfl, ?_⟩))
      go_loopw [3] (fun i wr => ∃ (k : Nat) (ys : List Value), k ≤ nl ∧ i = .int .i64 (k : Int) ∧ St w0 M wr (.blk g1 30 (tabC t (.slice ro nr rc) (.slice lo nl lc)) :: .row (.slice lo nl lc) 3 1 nl ys :: R)) (fun i _ => nl - (intOf i).toNat)
      case atStart => exact ⟨0, _, Nat.zero_le _, rfl, hst5⟩
      case round =>
        clear hst5
        obtain ⟨k, ys, hk, rfl, hst⟩ := hrel
        by_cases hltk : k < nl
        · have e2 : decide ((k : Int) < (nl : Int)) = true := decide_eq_true (by omega)
          have z1 : IntKind.i64.wrap ((k : Int) + 1) = (k : Int) + 1 := IntWalk.i64_in _ (by omega)
          obtain ⟨g, c, he, _⟩ := row_spot hst (.tail _ (.head _)) (by omega)
          cases he
          go_wp2_with (first | go_big_skip | go_big_guard | (refine wl_loadE rfl rfl rfl ?_; refine ⟨_, Loads.at [] hst rfl, ?_⟩) | (refine wl_index rfl rfl rfl rfl hltk ?_) | (refine wl_storeRow1 [_] hst rfl rfl rfl rfl (v := .int .i64 (-7)) rfl rfl (by omega) (by omega) ?_; intro w7 hst3; clear hst))
          go_roundw
          case rel => exact ⟨k + 1, _, by omega, rfl, hst3⟩
          case measure => simp [intOf]; omega
        · have e2 : decide ((k : Int) < (nl : Int)) = false := decide_eq_false (by omega)
          go_wp2_with (first | go_big_skip | go_big_guard | (refine wl_loadE rfl rfl rfl ?_; refine ⟨_, Loads.at [] hst rfl, ?_⟩))
          go_end0
          exact ⟨rfl, St.sub hst (.cons _ (.cons _ (List.Sublist.refl _)))⟩
end Go.Proofs.Ytkpkaoiafppimaa
