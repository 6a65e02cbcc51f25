/- PROVED: the law OrderBack returns true at any input, and nothing that was there has turned. No condition. -/
import Derived.Test.YtalfdcfcaamnbaaJOrderBackd
import Derived.Test.YtalfdcfcaamnbaaSepX
import Derived.Test.YtalfdcfcaamnbaaPost
import Derived.Lib.SmallJoins
import Derived.Deep.SlicePairs
import Derived.Test.YtalfdcfcaamnbaaJOrderBackb
import Derived.Deep.Slices
namespace Go.Proofs.Ytalfdcfcaamnbaa
set_option linter.unusedVariables false
set_option linter.unusedSimpArgs false
open Go.RowKit Hp
attribute [local irreducible] Go.Calls Go.wpList Hp.gvV Hp.gB Hp.gA Hp.bOr Hp.bAnd Hp.bNot Hp.bNe us
set_option maxRecDepth 100000
set_option maxHeartbeats 4000000
theorem oback_bx (o : OV) (al ab : Option Addr) (nl cl nb cb : Nat) (ao : Option Addr) (m c : Nat) (bs : List UInt8) (w : World) (hl : Rd w (.slice al nl cl) 1 nl (strsV o.l)) (hb : Rd w (.slice ab nb cb) 1 nb (bytesV o.b)) (hnl : o.l.length = nl) (hnb : o.b.length = nb) (hA : Rd w (.slice ao m c) 1 m (bytesV bs)) (hm : bs.length = m) (hop : -9223372036854775808 ≤ o.op ∧ o.op ≤ 9223372036854775807) (hn : -9223372036854775808 ≤ o.n ∧ o.n ≤ 9223372036854775807) (hmm : -9223372036854775808 ≤ o.m ∧ o.m ≤ 9223372036854775807) (hq : o.long nl nb = false) (d1 : decide ((20000 : Int) < (m : Int)) = false) (h0 : o.check = 2) (e1 p1 : Int) (hR : getO bs = (OV.none, e1, p1)) (h1 : e1 ≠ 0) :
    Calls Try.prog 7 #[.agg (o.cells (.slice al nl cl) (.slice ab nb cb)).toArray, .slice ao m c] w fun e w' => e = .returned (.bool true) ∧ St w [] w' [] := by
  have hst0 := St.refl w
  obtain ⟨q1, q2, q3, q4, q5⟩ := OV.short hnl hq
  have b3 : m ≤ 20000 := by have := of_decide_eq_false d1; omega
  have b4 : m ≤ 100000 := by omega
  have OK := hid (show o.Ok from ⟨hop, hn, hmm, by omega, by omega, by omega, fun t ht => Nat.le_trans (q5 t ht) (by decide), by omega⟩)
  have HLl := hid (show nl ≤ 1000000 by omega)
  have HBAD := hid (show (((o.bare nl nb && (o.small nl nb != (o.check == 0))) && ((nl : Int) == 0)) || (!o.bare nl nb && (o.check == 0))) = false by rw [← hnl, ← hnb]; exact o.sound)
  have hsz : ∀ x : List UInt8, (⟨x.toArray⟩ : ByteArray).size = x.length := fun x => by simp [ByteArray.size]
  have HL := hid hl
  have HB := hid hb
  have HNL := hid hnl
  have HNB := hid hnb
  have HA := hid hA
  have HM := hid hm
  have HQ := hid hq
  have H0 := hid h0
  have HR := hid hR
  rw [h0] at HBAD
  have dF : (e1 != 0) = true := by simpa using h1
  have HP := hid (show putO o = (2, []) by unfold putO; rw [if_neg (by rw [h0]; decide), h0])
  clear q1 q2 q5 hl hb hnl hnb hA hm hop hn hmm hq hR h0 h1
  show Calls Try.prog 7 #[.agg (List.toArray [.int .i64 o.op, .string ⟨o.name.toArray⟩, .string ⟨o.dest.toArray⟩, .int .i64 o.n, .int .i64 o.m, .slice al nl cl, .slice ab nb cb]), .slice ao m c] w _
  go_enter Try.func7, Try.ntmps7
  go_wp2_with (first | go_big_skip | (refine wl_boxA hst0 rfl rfl rfl ?_; intro g1 _ hst1; clear hst0) | (go_at_call 6; refine (oknown_any _).mono ?_; rintro _ w3 ⟨rfl, h4⟩; have hst2 := St.call0 hst1 h4; clear h4 hst1) | (go_at_call 9; refine (longOrder_any o al ab nl cl nb cb _ (Rd.old hst2 HL.out) HNL.out).mono ?_; rw [HQ.out]; rintro _ w4 ⟨rfl, h4⟩; have hst3 := St.call0 hst2 h4; clear h4 hst2) | (go_at_call 12; refine (oput_any o OK.out al ab nl cl nb cb _ (Rd.old hst3 HL.out) (Rd.old hst3 HB.out) HNL.out HNB.out).mono ?_; rw [HP.out]; rintro _ w5 ⟨u, rfl, h4⟩; have h5 : St _ [] w5 [.rowP isB u 5 1 0 (bytesV [])] := h4; have hst4 := St.call hst3 h5; clear h4 h5 hst3; obtain ⟨au, cu, rfl⟩ := St.rowPSliceF [] hst4) | (go_at_call 15; refine (check_any o al ab nl cl nb cb _ (Rd.old hst4 HL.out) HNL.out HNB.out HLl.out).mono ?_; rw [H0.out]; rintro _ w6 ⟨rfl, h4⟩; have hst5 := St.call0 hst4 h4; clear h4 hst4) | (go_at_call 17; refine (uses_any o.op _).mono ?_; rintro _ w12 ⟨rfl, h4⟩; have hst12 := St.call0 hst5 h4; clear h4 hst5) | (refine wl_alloc (T := 35) hst12 rfl rfl ?_; intro c10 _ hst13; clear hst12) | (refine wl_storeA (T := 35) [] hst13 rfl rfl rfl rfl rfl rfl rfl ?_; intro w14 hst; clear hst13) | (go_at_call 22; refine (oget_any ao m c bs _ (Rd.old hst HA.out) HM.out b4).mono ?_; rw [HR.out]; rintro _ w15 ⟨lv, bv, rfl, h4⟩; have hst15 := St.call hst h4; clear h4 hst; obtain ⟨bl, dl, rfl⟩ := St.rowPSliceF [] hst15; obtain ⟨bb, db, rfl⟩ := St.rowPSliceF [_] hst15) | (refine wl_alloc (T := 25) hst15 rfl rfl ?_; intro c13 _ hst16; clear hst15) | (refine wl_alloc (T := 42) hst16 rfl rfl ?_; intro c14 _ hst17; clear hst16) | (refine wl_storeA (T := 25) (vs := [.int .i64 OV.none.op, strV OV.none.name, strV OV.none.dest, .int .i64 OV.none.n, .int .i64 OV.none.m, .slice bl 0 dl, .slice bb 0 db]) [_] hst17 rfl rfl rfl rfl rfl rfl rfl ?_; intro w18 hst18; clear hst17) | (refine wl_storeA (T := 42) [] hst18 rfl rfl rfl rfl rfl rfl rfl ?_; intro w19 hst19; clear hst18) | (refine wl_build0 rfl rfl ?_) | (go_at_call 20; refine (sameOrder_eq OV.none bl none bb none dl 0 db 0 _ (Rd.rowP hst19 (.tail _ (.tail _ (.head _)))) (Rd.nil _ _) (Rd.rowP hst19 (.tail _ (.tail _ (.tail _ (.head _))))) (Rd.nil _ _)).mono ?_; rintro _ w20 ⟨rfl, h4⟩; have hst20 := St.call0 hst19 h4; clear h4 hst19) | (refine wl_loadE rfl rfl rfl ?_; first | refine ⟨_, Loads.whole (T := 25) [] hst2 rfl, ?_⟩ | refine ⟨_, Loads.whole (T := 25) [] hst3 rfl, ?_⟩ | refine ⟨_, Loads.whole (T := 25) [_] hst4 rfl, ?_⟩ | refine ⟨_, Loads.whole (T := 25) [_] hst19 rfl, ?_⟩) | (refine wl_loadE rfl rfl rfl ?_; first | refine ⟨_, Loads.at [_] hst5 rfl, ?_⟩ | refine ⟨_, Loads.at [] hst rfl, ?_⟩ | refine ⟨_, Loads.at [_, _] hst rfl, ?_⟩ | refine ⟨_, Loads.at [] hst19 rfl, ?_⟩) | go_big_want | (show wpList _ _ _ (Oper.mk _ (.fieldAddr _ _ _) _ _ _ (some _) :: _) _ _; refine wl_gfld1 rfl (by first | exact wanted_b rfl rfl | exact wanted_g rfl rfl) (by first | exact (fun hg => gvV_on hg) | exact (fun hg => gvV_gA hg) | exact (fun _ => rfl)) (by kernel_rfl) ?_; (try simp only [Act.put, List.setIfInBounds_toArray, List.set_cons_zero, List.set_cons_succ])) | (show wpList _ _ _ (Oper.mk _ (.load _ _) _ _ _ (some _) :: _) _ _; refine wl_gloadE rfl (by first | exact wanted_b rfl rfl | exact wanted_g rfl rfl) (by first | exact (fun hg => gvV_on hg) | exact (fun hg => gvV_gA hg) | exact (fun _ => rfl)) ?_; (first | refine ⟨_, Loads.at [] hst rfl, ?_⟩ | refine ⟨_, Loads.at [_, _] hst rfl, ?_⟩); (try simp only [Act.put, List.setIfInBounds_toArray, List.set_cons_zero, List.set_cons_succ]); (repeat ((first | (show wpList _ _ _ (Oper.mk _ (.move _) _ _ _ none :: _) _ _; refine wl_mv rfl rfl rfl ?_) | (show wpList _ _ _ (Oper.mk _ (.pick _ _ _) _ _ _ none :: _) _ _; (first | (refine wl_pickOr rfl rfl rfl rfl rfl ?_; intro q hq) | (refine wl_pickAnd rfl rfl rfl rfl rfl ?_; intro q hq))) | (show wpList _ _ _ (Oper.mk _ (.pick _ _ _) _ _ _ (some _) :: _) _ _; (first | (refine wl_gpickOr rfl (by first | exact wanted_b rfl rfl | exact wanted_g rfl rfl) rfl rfl rfl ?_; intro q hq) | (refine wl_gpickAnd rfl (by first | exact wanted_b rfl rfl | exact wanted_g rfl rfl) rfl rfl rfl ?_; intro q hq))) | (show wpList _ _ _ (Oper.mk _ (.move _) _ _ _ (some _) :: _) _ _; refine wl_gmove rfl (by first | exact wanted_b rfl rfl | exact wanted_g rfl rfl) (by first | exact (fun hg => gvV_on hg) | exact (fun hg => gvV_gA hg) | exact (fun _ => rfl)) ?_)); (try simp only [Act.put, List.setIfInBounds_toArray, List.set_cons_zero, List.set_cons_succ])))) | (show wpList _ _ _ (Oper.mk _ (.binOp _ 3 _ _ _) _ _ _ (some _) :: _) _ _; refine wl_gcmp rfl (by first | exact wanted_b rfl rfl | exact wanted_g rfl rfl) (by first | exact (fun hg => gvV_on hg) | exact (fun hg => gvV_gA hg) | exact (fun _ => rfl)) (by first | exact (fun hg => gvV_on hg) | exact (fun hg => gvV_gA hg) | exact (fun _ => rfl)) rfl ?_; (try simp only [Act.put, List.setIfInBounds_toArray, List.set_cons_zero, List.set_cons_succ]); (repeat ((first | (show wpList _ _ _ (Oper.mk _ (.move _) _ _ _ none :: _) _ _; refine wl_mv rfl rfl rfl ?_) | (show wpList _ _ _ (Oper.mk _ (.pick _ _ _) _ _ _ none :: _) _ _; (first | (refine wl_pickOr rfl rfl rfl rfl rfl ?_; intro q hq) | (refine wl_pickAnd rfl rfl rfl rfl rfl ?_; intro q hq))) | (show wpList _ _ _ (Oper.mk _ (.pick _ _ _) _ _ _ (some _) :: _) _ _; (first | (refine wl_gpickOr rfl (by first | exact wanted_b rfl rfl | exact wanted_g rfl rfl) rfl rfl rfl ?_; intro q hq) | (refine wl_gpickAnd rfl (by first | exact wanted_b rfl rfl | exact wanted_g rfl rfl) rfl rfl rfl ?_; intro q hq))) | (show wpList _ _ _ (Oper.mk _ (.move _) _ _ _ (some _) :: _) _ _; refine wl_gmove rfl (by first | exact wanted_b rfl rfl | exact wanted_g rfl rfl) (by first | exact (fun hg => gvV_on hg) | exact (fun hg => gvV_gA hg) | exact (fun _ => rfl)) ?_)); (try simp only [Act.put, List.setIfInBounds_toArray, List.set_cons_zero, List.set_cons_succ])))) | (show wpList _ _ _ (Oper.mk _ (.binOp _ 29 _ _ _) _ _ _ (some _) :: _) _ _; refine wl_gcmp rfl (by first | exact wanted_b rfl rfl | exact wanted_g rfl rfl) (by first | exact (fun hg => gvV_on hg) | exact (fun hg => gvV_gA hg) | exact (fun _ => rfl)) (by first | exact (fun hg => gvV_on hg) | exact (fun hg => gvV_gA hg) | exact (fun _ => rfl)) rfl ?_; (try simp only [Act.put, List.setIfInBounds_toArray, List.set_cons_zero, List.set_cons_succ]); (repeat ((first | (show wpList _ _ _ (Oper.mk _ (.move _) _ _ _ none :: _) _ _; refine wl_mv rfl rfl rfl ?_) | (show wpList _ _ _ (Oper.mk _ (.pick _ _ _) _ _ _ none :: _) _ _; (first | (refine wl_pickOr rfl rfl rfl rfl rfl ?_; intro q hq) | (refine wl_pickAnd rfl rfl rfl rfl rfl ?_; intro q hq))) | (show wpList _ _ _ (Oper.mk _ (.pick _ _ _) _ _ _ (some _) :: _) _ _; (first | (refine wl_gpickOr rfl (by first | exact wanted_b rfl rfl | exact wanted_g rfl rfl) rfl rfl rfl ?_; intro q hq) | (refine wl_gpickAnd rfl (by first | exact wanted_b rfl rfl | exact wanted_g rfl rfl) rfl rfl rfl ?_; intro q hq))) | (show wpList _ _ _ (Oper.mk _ (.move _) _ _ _ (some _) :: _) _ _; refine wl_gmove rfl (by first | exact wanted_b rfl rfl | exact wanted_g rfl rfl) (by first | exact (fun hg => gvV_on hg) | exact (fun hg => gvV_gA hg) | exact (fun _ => rfl)) ?_)); (try simp only [Act.put, List.setIfInBounds_toArray, List.set_cons_zero, List.set_cons_succ])))) | (show wpList _ _ _ (Oper.mk _ (.binOp .neq 9 _ _ _) _ _ _ (some _) :: _) _ _; refine wl_gneqS rfl (by first | exact wanted_b rfl rfl | exact wanted_g rfl rfl) (by first | exact (fun hg => gvV_on hg) | exact (fun hg => gvV_gA hg) | exact (fun _ => rfl)) (by first | exact (fun hg => gvV_on hg) | exact (fun hg => gvV_gA hg) | exact (fun _ => rfl)) ?_; (try simp only [Act.put, List.setIfInBounds_toArray, List.set_cons_zero, List.set_cons_succ]); (repeat ((first | (show wpList _ _ _ (Oper.mk _ (.move _) _ _ _ none :: _) _ _; refine wl_mv rfl rfl rfl ?_) | (show wpList _ _ _ (Oper.mk _ (.pick _ _ _) _ _ _ none :: _) _ _; (first | (refine wl_pickOr rfl rfl rfl rfl rfl ?_; intro q hq) | (refine wl_pickAnd rfl rfl rfl rfl rfl ?_; intro q hq))) | (show wpList _ _ _ (Oper.mk _ (.pick _ _ _) _ _ _ (some _) :: _) _ _; (first | (refine wl_gpickOr rfl (by first | exact wanted_b rfl rfl | exact wanted_g rfl rfl) rfl rfl rfl ?_; intro q hq) | (refine wl_gpickAnd rfl (by first | exact wanted_b rfl rfl | exact wanted_g rfl rfl) rfl rfl rfl ?_; intro q hq))) | (show wpList _ _ _ (Oper.mk _ (.move _) _ _ _ (some _) :: _) _ _; refine wl_gmove rfl (by first | exact wanted_b rfl rfl | exact wanted_g rfl rfl) (by first | exact (fun hg => gvV_on hg) | exact (fun hg => gvV_gA hg) | exact (fun _ => rfl)) ?_)); (try simp only [Act.put, List.setIfInBounds_toArray, List.set_cons_zero, List.set_cons_succ])))) | (show wpList _ _ _ (Oper.mk _ (.binOp .eql 9 _ _ _) _ _ _ (some _) :: _) _ _; refine wl_geqS rfl (by first | exact wanted_b rfl rfl | exact wanted_g rfl rfl) (by first | exact (fun hg => gvV_on hg) | exact (fun hg => gvV_gA hg) | exact (fun _ => rfl)) (by first | exact (fun hg => gvV_on hg) | exact (fun hg => gvV_gA hg) | exact (fun _ => rfl)) ?_; (try simp only [Act.put, List.setIfInBounds_toArray, List.set_cons_zero, List.set_cons_succ]); (repeat ((first | (show wpList _ _ _ (Oper.mk _ (.move _) _ _ _ none :: _) _ _; refine wl_mv rfl rfl rfl ?_) | (show wpList _ _ _ (Oper.mk _ (.pick _ _ _) _ _ _ none :: _) _ _; (first | (refine wl_pickOr rfl rfl rfl rfl rfl ?_; intro q hq) | (refine wl_pickAnd rfl rfl rfl rfl rfl ?_; intro q hq))) | (show wpList _ _ _ (Oper.mk _ (.pick _ _ _) _ _ _ (some _) :: _) _ _; (first | (refine wl_gpickOr rfl (by first | exact wanted_b rfl rfl | exact wanted_g rfl rfl) rfl rfl rfl ?_; intro q hq) | (refine wl_gpickAnd rfl (by first | exact wanted_b rfl rfl | exact wanted_g rfl rfl) rfl rfl rfl ?_; intro q hq))) | (show wpList _ _ _ (Oper.mk _ (.move _) _ _ _ (some _) :: _) _ _; refine wl_gmove rfl (by first | exact wanted_b rfl rfl | exact wanted_g rfl rfl) (by first | exact (fun hg => gvV_on hg) | exact (fun hg => gvV_gA hg) | exact (fun _ => rfl)) ?_)); (try simp only [Act.put, List.setIfInBounds_toArray, List.set_cons_zero, List.set_cons_succ])))) | (show wpList _ _ _ (Oper.mk _ (.binOp .neq 9 _ _ _) _ _ _ none :: _) _ _; refine wl_neqS rfl rfl rfl rfl ?_; (try simp only [Act.put, List.setIfInBounds_toArray, List.set_cons_zero, List.set_cons_succ]); (repeat ((first | (show wpList _ _ _ (Oper.mk _ (.move _) _ _ _ none :: _) _ _; refine wl_mv rfl rfl rfl ?_) | (show wpList _ _ _ (Oper.mk _ (.pick _ _ _) _ _ _ none :: _) _ _; (first | (refine wl_pickOr rfl rfl rfl rfl rfl ?_; intro q hq) | (refine wl_pickAnd rfl rfl rfl rfl rfl ?_; intro q hq))) | (show wpList _ _ _ (Oper.mk _ (.pick _ _ _) _ _ _ (some _) :: _) _ _; (first | (refine wl_gpickOr rfl (by first | exact wanted_b rfl rfl | exact wanted_g rfl rfl) rfl rfl rfl ?_; intro q hq) | (refine wl_gpickAnd rfl (by first | exact wanted_b rfl rfl | exact wanted_g rfl rfl) rfl rfl rfl ?_; intro q hq))) | (show wpList _ _ _ (Oper.mk _ (.move _) _ _ _ (some _) :: _) _ _; refine wl_gmove rfl (by first | exact wanted_b rfl rfl | exact wanted_g rfl rfl) (by first | exact (fun hg => gvV_on hg) | exact (fun hg => gvV_gA hg) | exact (fun _ => rfl)) ?_)); (try simp only [Act.put, List.setIfInBounds_toArray, List.set_cons_zero, List.set_cons_succ])))) | (show wpList _ _ _ (Oper.mk _ (.binOp .eql 9 _ _ _) _ _ _ none :: _) _ _; refine wl_eqS rfl rfl rfl rfl ?_; (try simp only [Act.put, List.setIfInBounds_toArray, List.set_cons_zero, List.set_cons_succ]); (repeat ((first | (show wpList _ _ _ (Oper.mk _ (.move _) _ _ _ none :: _) _ _; refine wl_mv rfl rfl rfl ?_) | (show wpList _ _ _ (Oper.mk _ (.pick _ _ _) _ _ _ none :: _) _ _; (first | (refine wl_pickOr rfl rfl rfl rfl rfl ?_; intro q hq) | (refine wl_pickAnd rfl rfl rfl rfl rfl ?_; intro q hq))) | (show wpList _ _ _ (Oper.mk _ (.pick _ _ _) _ _ _ (some _) :: _) _ _; (first | (refine wl_gpickOr rfl (by first | exact wanted_b rfl rfl | exact wanted_g rfl rfl) rfl rfl rfl ?_; intro q hq) | (refine wl_gpickAnd rfl (by first | exact wanted_b rfl rfl | exact wanted_g rfl rfl) rfl rfl rfl ?_; intro q hq))) | (show wpList _ _ _ (Oper.mk _ (.move _) _ _ _ (some _) :: _) _ _; refine wl_gmove rfl (by first | exact wanted_b rfl rfl | exact wanted_g rfl rfl) (by first | exact (fun hg => gvV_on hg) | exact (fun hg => gvV_gA hg) | exact (fun _ => rfl)) ?_)); (try simp only [Act.put, List.setIfInBounds_toArray, List.set_cons_zero, List.set_cons_succ])))) | (show wpList _ _ _ (Oper.mk _ (.call (Call.mk (.builtin .len) _ #[9])) _ _ _ (some _) :: _) _ _; refine wl_glenS rfl (by first | exact wanted_b rfl rfl | exact wanted_g rfl rfl) (by first | exact (fun hg => gvV_on hg) | exact (fun hg => gvV_gA hg) | exact (fun _ => rfl)) ?_; (try simp only [Act.put, List.setIfInBounds_toArray, List.set_cons_zero, List.set_cons_succ])) | (show wpList _ _ _ (Oper.mk _ (.call (Call.mk (.builtin .len) _ #[23])) _ _ _ (some _) :: _) _ _; refine wl_glen rfl (by first | exact wanted_b rfl rfl | exact wanted_g rfl rfl) (by first | exact (fun hg => gvV_on hg) | exact (fun hg => gvV_gA hg) | exact (fun _ => rfl)) ?_; (try simp only [Act.put, List.setIfInBounds_toArray, List.set_cons_zero, List.set_cons_succ])) | (show wpList _ _ _ (Oper.mk _ (.call (Call.mk (.builtin .len) _ #[22])) _ _ _ (some _) :: _) _ _; refine wl_glen rfl (by first | exact wanted_b rfl rfl | exact wanted_g rfl rfl) (by first | exact (fun hg => gvV_on hg) | exact (fun hg => gvV_gA hg) | exact (fun _ => rfl)) ?_; (try simp only [Act.put, List.setIfInBounds_toArray, List.set_cons_zero, List.set_cons_succ])) | (show wpList _ _ _ (Oper.mk _ (.unOp .not _ _) _ _ _ (some _) :: _) _ _; refine wl_gnot rfl (by first | exact wanted_b rfl rfl | exact wanted_g rfl rfl) (by first | exact (fun hg => gvV_on hg) | exact (fun hg => gvV_gA hg) | exact (fun _ => rfl)) ?_; (try simp only [Act.put, List.setIfInBounds_toArray, List.set_cons_zero, List.set_cons_succ]); (repeat ((first | (show wpList _ _ _ (Oper.mk _ (.move _) _ _ _ none :: _) _ _; refine wl_mv rfl rfl rfl ?_) | (show wpList _ _ _ (Oper.mk _ (.pick _ _ _) _ _ _ none :: _) _ _; (first | (refine wl_pickOr rfl rfl rfl rfl rfl ?_; intro q hq) | (refine wl_pickAnd rfl rfl rfl rfl rfl ?_; intro q hq))) | (show wpList _ _ _ (Oper.mk _ (.pick _ _ _) _ _ _ (some _) :: _) _ _; (first | (refine wl_gpickOr rfl (by first | exact wanted_b rfl rfl | exact wanted_g rfl rfl) rfl rfl rfl ?_; intro q hq) | (refine wl_gpickAnd rfl (by first | exact wanted_b rfl rfl | exact wanted_g rfl rfl) rfl rfl rfl ?_; intro q hq))) | (show wpList _ _ _ (Oper.mk _ (.move _) _ _ _ (some _) :: _) _ _; refine wl_gmove rfl (by first | exact wanted_b rfl rfl | exact wanted_g rfl rfl) (by first | exact (fun hg => gvV_on hg) | exact (fun hg => gvV_gA hg) | exact (fun _ => rfl)) ?_)); (try simp only [Act.put, List.setIfInBounds_toArray, List.set_cons_zero, List.set_cons_succ])))) | (show wpList _ _ _ (Oper.mk _ (.binOp .neq 4 _ _ _) _ _ _ (some _) :: _) _ _; refine wl_gneqB rfl rfl (by first | exact wanted_b rfl rfl | exact wanted_g rfl rfl) (by first | exact (fun hg => gvV_on hg) | exact (fun hg => gvV_gA hg) | exact (fun _ => rfl)) (by first | exact (fun hg => gvV_on hg) | exact (fun hg => gvV_gA hg) | exact (fun _ => rfl)) ?_; (try simp only [Act.put, List.setIfInBounds_toArray, List.set_cons_zero, List.set_cons_succ]); (repeat ((first | (show wpList _ _ _ (Oper.mk _ (.move _) _ _ _ none :: _) _ _; refine wl_mv rfl rfl rfl ?_) | (show wpList _ _ _ (Oper.mk _ (.pick _ _ _) _ _ _ none :: _) _ _; (first | (refine wl_pickOr rfl rfl rfl rfl rfl ?_; intro q hq) | (refine wl_pickAnd rfl rfl rfl rfl rfl ?_; intro q hq))) | (show wpList _ _ _ (Oper.mk _ (.pick _ _ _) _ _ _ (some _) :: _) _ _; (first | (refine wl_gpickOr rfl (by first | exact wanted_b rfl rfl | exact wanted_g rfl rfl) rfl rfl rfl ?_; intro q hq) | (refine wl_gpickAnd rfl (by first | exact wanted_b rfl rfl | exact wanted_g rfl rfl) rfl rfl rfl ?_; intro q hq))) | (show wpList _ _ _ (Oper.mk _ (.move _) _ _ _ (some _) :: _) _ _; refine wl_gmove rfl (by first | exact wanted_b rfl rfl | exact wanted_g rfl rfl) (by first | exact (fun hg => gvV_on hg) | exact (fun hg => gvV_gA hg) | exact (fun _ => rfl)) ?_)); (try simp only [Act.put, List.setIfInBounds_toArray, List.set_cons_zero, List.set_cons_succ])))))
  all_goals try (
    exfalso
    have hb := HBAD.out
    unfold OV.bare OV.small at hb
    clear HBAD OK HLl hsz HL HB HNL HNB HA HM HQ H0 HR HP
    try clear hst
    have z2 : ((2 : Int) == 0) = false := rfl
    have z0 : ((0 : Int) == 0) = true := rfl
    simp only [hid_iff, bNot_eq, Hp.bNe_eq] at *
    simp_all only [Bool.true_eq_false, Bool.false_eq_true, Bool.true_and, Bool.and_true, Bool.or_false, Bool.false_or, Bool.and_false, Bool.false_and, Bool.not_true, Bool.not_false, Bool.bne_false, Bool.bne_true]
    done)
  all_goals go_ret
  all_goals exact ⟨rfl, hst20.nil⟩
end Go.Proofs.Ytalfdcfcaamnbaa
namespace Go.Proofs.Ytalfdcfcaamnbaa
set_option linter.unusedVariables false
set_option linter.unusedSimpArgs false
open Go.RowKit Hp
attribute [local irreducible] Go.Calls Go.wpList Hp.gvV Hp.gB Hp.gA Hp.bOr Hp.bAnd Hp.bNot Hp.bNe us
set_option maxRecDepth 100000
set_option maxHeartbeats 4000000
theorem oback_bo (o : OV) (al ab : Option Addr) (nl cl nb cb : Nat) (ao : Option Addr) (m c : Nat) (bs : List UInt8) (w : World) (hl : Rd w (.slice al nl cl) 1 nl (strsV o.l)) (hb : Rd w (.slice ab nb cb) 1 nb (bytesV o.b)) (hnl : o.l.length = nl) (hnb : o.b.length = nb) (hA : Rd w (.slice ao m c) 1 m (bytesV bs)) (hm : bs.length = m) (hop : -9223372036854775808 ≤ o.op ∧ o.op ≤ 9223372036854775807) (hn : -9223372036854775808 ≤ o.n ∧ o.n ≤ 9223372036854775807) (hmm : -9223372036854775808 ≤ o.m ∧ o.m ≤ 9223372036854775807) (hq : o.long nl nb = false) (d1 : decide ((20000 : Int) < (m : Int)) = false) (h0 : o.check = 2) (od : OV) (p1 : Int) (hR : getO bs = (od, 0, p1)) (h1 : od.check = 0) (h2 : putO od = (0, bs)) :
    Calls Try.prog 7 #[.agg (o.cells (.slice al nl cl) (.slice ab nb cb)).toArray, .slice ao m c] w fun e w' => e = .returned (.bool true) ∧ St w [] w' [] := by
  have hst0 := St.refl w
  obtain ⟨q1, q2, q3, q4, q5⟩ := OV.short hnl hq
  have b3 : m ≤ 20000 := by have := of_decide_eq_false d1; omega
  have b4 : m ≤ 100000 := by omega
  have OK := hid (show o.Ok from ⟨hop, hn, hmm, by omega, by omega, by omega, fun t ht => Nat.le_trans (q5 t ht) (by decide), by omega⟩)
  have HLl := hid (show nl ≤ 1000000 by omega)
  have HBAD := hid (show (((o.bare nl nb && (o.small nl nb != (o.check == 0))) && ((nl : Int) == 0)) || (!o.bare nl nb && (o.check == 0))) = false by rw [← hnl, ← hnb]; exact o.sound)
  have hsz : ∀ x : List UInt8, (⟨x.toArray⟩ : ByteArray).size = x.length := fun x => by simp [ByteArray.size]
  have HL := hid hl
  have HB := hid hb
  have HNL := hid hnl
  have HNB := hid hnb
  have HA := hid hA
  have HM := hid hm
  have HQ := hid hq
  have H0 := hid h0
  have HR := hid hR
  rw [h0] at HBAD
  have HP2 := hid h2
  have HQO := hid (OV.fits_ok (OV.fits h1))
  have HP := hid (show putO o = (2, []) by unfold putO; rw [if_neg (by rw [h0]; decide), h0])
  clear q1 q2 q5 hl hb hnl hnb hA hm hop hn hmm hq hR h0 h1 h2
  show Calls Try.prog 7 #[.agg (List.toArray [.int .i64 o.op, .string ⟨o.name.toArray⟩, .string ⟨o.dest.toArray⟩, .int .i64 o.n, .int .i64 o.m, .slice al nl cl, .slice ab nb cb]), .slice ao m c] w _
  go_enter Try.func7, Try.ntmps7
  go_wp2_with (first | go_big_skip | (refine wl_boxA hst0 rfl rfl rfl ?_; intro g1 _ hst1; clear hst0) | (go_at_call 6; refine (oknown_any _).mono ?_; rintro _ w3 ⟨rfl, h4⟩; have hst2 := St.call0 hst1 h4; clear h4 hst1) | (go_at_call 9; refine (longOrder_any o al ab nl cl nb cb _ (Rd.old hst2 HL.out) HNL.out).mono ?_; rw [HQ.out]; rintro _ w4 ⟨rfl, h4⟩; have hst3 := St.call0 hst2 h4; clear h4 hst2) | (go_at_call 12; refine (oput_any o OK.out al ab nl cl nb cb _ (Rd.old hst3 HL.out) (Rd.old hst3 HB.out) HNL.out HNB.out).mono ?_; rw [HP.out]; rintro _ w5 ⟨u, rfl, h4⟩; have h5 : St _ [] w5 [.rowP isB u 5 1 0 (bytesV [])] := h4; have hst4 := St.call hst3 h5; clear h4 h5 hst3; obtain ⟨au, cu, rfl⟩ := St.rowPSliceF [] hst4) | (go_at_call 15; refine (check_any o al ab nl cl nb cb _ (Rd.old hst4 HL.out) HNL.out HNB.out HLl.out).mono ?_; rw [H0.out]; rintro _ w6 ⟨rfl, h4⟩; have hst5 := St.call0 hst4 h4; clear h4 hst4) | (go_at_call 17; refine (uses_any o.op _).mono ?_; rintro _ w12 ⟨rfl, h4⟩; have hst12 := St.call0 hst5 h4; clear h4 hst5) | (refine wl_alloc (T := 35) hst12 rfl rfl ?_; intro c10 _ hst13; clear hst12) | (refine wl_storeA (T := 35) [] hst13 rfl rfl rfl rfl rfl rfl rfl ?_; intro w14 hst; clear hst13) | (go_at_call 22; refine (oget_any ao m c bs _ (Rd.old hst HA.out) HM.out b4).mono ?_; rw [HR.out]; rintro _ w15 ⟨lv, bv, rfl, h4⟩; have hst15 := St.call hst h4; clear h4 hst; obtain ⟨bl, dl, rfl⟩ := St.rowPSliceF [] hst15; obtain ⟨bb, db, rfl⟩ := St.rowPSliceF [_] hst15) | (refine wl_alloc (T := 25) hst15 rfl rfl ?_; intro c13 _ hst16; clear hst15) | (refine wl_alloc (T := 42) hst16 rfl rfl ?_; intro c14 _ hst17; clear hst16) | (refine wl_storeA (T := 25) (vs := od.cells (.slice bl od.l.length dl) (.slice bb od.b.length db)) [_] hst17 rfl rfl rfl rfl rfl rfl rfl ?_; intro w18 hst18; clear hst17) | (refine wl_storeA (T := 42) [] hst18 rfl rfl rfl rfl rfl rfl rfl ?_; intro w19 hst19; clear hst18) | (go_at_call 12; refine (oput_any od HQO.out bl bb od.l.length dl od.b.length db _ (Rd.rowP hst19 (.tail _ (.tail _ (.head _)))) (Rd.rowP hst19 (.tail _ (.tail _ (.tail _ (.head _))))) rfl rfl).mono ?_; rw [HP2.out]; rintro _ w20 ⟨u2, rfl, h4⟩; have h5 : St _ [] w20 [.rowP isB u2 5 1 m (bytesV bs)] := (by rw [← HM.out]; exact h4); have hst20 := St.call hst19 h5; clear h4 h5 hst19) | (go_at_call 14; refine (sameBytes_any u2 _ m m bs bs _ (Rd.rowP hst20 (.head _)) (Rd.old hst20 HA.out)).mono ?_; rw [beq_self_eq_true]; rintro _ w21 ⟨rfl, h4⟩; have hst21 := St.call0 hst20 h4; clear h4 hst20) | (refine wl_loadE rfl rfl rfl ?_; first | refine ⟨_, Loads.whole (T := 25) [] hst2 rfl, ?_⟩ | refine ⟨_, Loads.whole (T := 25) [] hst3 rfl, ?_⟩ | refine ⟨_, Loads.whole (T := 25) [_] hst4 rfl, ?_⟩ | refine ⟨_, Loads.whole (T := 25) [_] hst19 rfl, ?_⟩) | (refine wl_loadE rfl rfl rfl ?_; first | refine ⟨_, Loads.at [_] hst5 rfl, ?_⟩ | refine ⟨_, Loads.at [] hst rfl, ?_⟩ | refine ⟨_, Loads.at [_, _] hst rfl, ?_⟩ | refine ⟨_, Loads.at [] hst19 rfl, ?_⟩) | go_big_want | (show wpList _ _ _ (Oper.mk _ (.fieldAddr _ _ _) _ _ _ (some _) :: _) _ _; refine wl_gfld1 rfl (by first | exact wanted_b rfl rfl | exact wanted_g rfl rfl) (by first | exact (fun hg => gvV_on hg) | exact (fun hg => gvV_gA hg) | exact (fun _ => rfl)) (by kernel_rfl) ?_; (try simp only [Act.put, List.setIfInBounds_toArray, List.set_cons_zero, List.set_cons_succ])) | (show wpList _ _ _ (Oper.mk _ (.load _ _) _ _ _ (some _) :: _) _ _; refine wl_gloadE rfl (by first | exact wanted_b rfl rfl | exact wanted_g rfl rfl) (by first | exact (fun hg => gvV_on hg) | exact (fun hg => gvV_gA hg) | exact (fun _ => rfl)) ?_; (first | refine ⟨_, Loads.at [] hst rfl, ?_⟩ | refine ⟨_, Loads.at [_, _] hst rfl, ?_⟩); (try simp only [Act.put, List.setIfInBounds_toArray, List.set_cons_zero, List.set_cons_succ]); (repeat ((first | (show wpList _ _ _ (Oper.mk _ (.move _) _ _ _ none :: _) _ _; refine wl_mv rfl rfl rfl ?_) | (show wpList _ _ _ (Oper.mk _ (.pick _ _ _) _ _ _ none :: _) _ _; (first | (refine wl_pickOr rfl rfl rfl rfl rfl ?_; intro q hq) | (refine wl_pickAnd rfl rfl rfl rfl rfl ?_; intro q hq))) | (show wpList _ _ _ (Oper.mk _ (.pick _ _ _) _ _ _ (some _) :: _) _ _; (first | (refine wl_gpickOr rfl (by first | exact wanted_b rfl rfl | exact wanted_g rfl rfl) rfl rfl rfl ?_; intro q hq) | (refine wl_gpickAnd rfl (by first | exact wanted_b rfl rfl | exact wanted_g rfl rfl) rfl rfl rfl ?_; intro q hq))) | (show wpList _ _ _ (Oper.mk _ (.move _) _ _ _ (some _) :: _) _ _; refine wl_gmove rfl (by first | exact wanted_b rfl rfl | exact wanted_g rfl rfl) (by first | exact (fun hg => gvV_on hg) | exact (fun hg => gvV_gA hg) | exact (fun _ => rfl)) ?_)); (try simp only [Act.put, List.setIfInBounds_toArray, List.set_cons_zero, List.set_cons_succ])))) | (show wpList _ _ _ (Oper.mk _ (.binOp _ 3 _ _ _) _ _ _ (some _) :: _) _ _; refine wl_gcmp rfl (by first | exact wanted_b rfl rfl | exact wanted_g rfl rfl) (by first | exact (fun hg => gvV_on hg) | exact (fun hg => gvV_gA hg) | exact (fun _ => rfl)) (by first | exact (fun hg => gvV_on hg) | exact (fun hg => gvV_gA hg) | exact (fun _ => rfl)) rfl ?_; (try simp only [Act.put, List.setIfInBounds_toArray, List.set_cons_zero, List.set_cons_succ]); (repeat ((first | (show wpList _ _ _ (Oper.mk _ (.move _) _ _ _ none :: _) _ _; refine wl_mv rfl rfl rfl ?_) | (show wpList _ _ _ (Oper.mk _ (.pick _ _ _) _ _ _ none :: _) _ _; (first | (refine wl_pickOr rfl rfl rfl rfl rfl ?_; intro q hq) | (refine wl_pickAnd rfl rfl rfl rfl rfl ?_; intro q hq))) | (show wpList _ _ _ (Oper.mk _ (.pick _ _ _) _ _ _ (some _) :: _) _ _; (first | (refine wl_gpickOr rfl (by first | exact wanted_b rfl rfl | exact wanted_g rfl rfl) rfl rfl rfl ?_; intro q hq) | (refine wl_gpickAnd rfl (by first | exact wanted_b rfl rfl | exact wanted_g rfl rfl) rfl rfl rfl ?_; intro q hq))) | (show wpList _ _ _ (Oper.mk _ (.move _) _ _ _ (some _) :: _) _ _; refine wl_gmove rfl (by first | exact wanted_b rfl rfl | exact wanted_g rfl rfl) (by first | exact (fun hg => gvV_on hg) | exact (fun hg => gvV_gA hg) | exact (fun _ => rfl)) ?_)); (try simp only [Act.put, List.setIfInBounds_toArray, List.set_cons_zero, List.set_cons_succ])))) | (show wpList _ _ _ (Oper.mk _ (.binOp _ 29 _ _ _) _ _ _ (some _) :: _) _ _; refine wl_gcmp rfl (by first | exact wanted_b rfl rfl | exact wanted_g rfl rfl) (by first | exact (fun hg => gvV_on hg) | exact (fun hg => gvV_gA hg) | exact (fun _ => rfl)) (by first | exact (fun hg => gvV_on hg) | exact (fun hg => gvV_gA hg) | exact (fun _ => rfl)) rfl ?_; (try simp only [Act.put, List.setIfInBounds_toArray, List.set_cons_zero, List.set_cons_succ]); (repeat ((first | (show wpList _ _ _ (Oper.mk _ (.move _) _ _ _ none :: _) _ _; refine wl_mv rfl rfl rfl ?_) | (show wpList _ _ _ (Oper.mk _ (.pick _ _ _) _ _ _ none :: _) _ _; (first | (refine wl_pickOr rfl rfl rfl rfl rfl ?_; intro q hq) | (refine wl_pickAnd rfl rfl rfl rfl rfl ?_; intro q hq))) | (show wpList _ _ _ (Oper.mk _ (.pick _ _ _) _ _ _ (some _) :: _) _ _; (first | (refine wl_gpickOr rfl (by first | exact wanted_b rfl rfl | exact wanted_g rfl rfl) rfl rfl rfl ?_; intro q hq) | (refine wl_gpickAnd rfl (by first | exact wanted_b rfl rfl | exact wanted_g rfl rfl) rfl rfl rfl ?_; intro q hq))) | (show wpList _ _ _ (Oper.mk _ (.move _) _ _ _ (some _) :: _) _ _; refine wl_gmove rfl (by first | exact wanted_b rfl rfl | exact wanted_g rfl rfl) (by first | exact (fun hg => gvV_on hg) | exact (fun hg => gvV_gA hg) | exact (fun _ => rfl)) ?_)); (try simp only [Act.put, List.setIfInBounds_toArray, List.set_cons_zero, List.set_cons_succ])))) | (show wpList _ _ _ (Oper.mk _ (.binOp .neq 9 _ _ _) _ _ _ (some _) :: _) _ _; refine wl_gneqS rfl (by first | exact wanted_b rfl rfl | exact wanted_g rfl rfl) (by first | exact (fun hg => gvV_on hg) | exact (fun hg => gvV_gA hg) | exact (fun _ => rfl)) (by first | exact (fun hg => gvV_on hg) | exact (fun hg => gvV_gA hg) | exact (fun _ => rfl)) ?_; (try simp only [Act.put, List.setIfInBounds_toArray, List.set_cons_zero, List.set_cons_succ]); (repeat ((first | (show wpList _ _ _ (Oper.mk _ (.move _) _ _ _ none :: _) _ _; refine wl_mv rfl rfl rfl ?_) | (show wpList _ _ _ (Oper.mk _ (.pick _ _ _) _ _ _ none :: _) _ _; (first | (refine wl_pickOr rfl rfl rfl rfl rfl ?_; intro q hq) | (refine wl_pickAnd rfl rfl rfl rfl rfl ?_; intro q hq))) | (show wpList _ _ _ (Oper.mk _ (.pick _ _ _) _ _ _ (some _) :: _) _ _; (first | (refine wl_gpickOr rfl (by first | exact wanted_b rfl rfl | exact wanted_g rfl rfl) rfl rfl rfl ?_; intro q hq) | (refine wl_gpickAnd rfl (by first | exact wanted_b rfl rfl | exact wanted_g rfl rfl) rfl rfl rfl ?_; intro q hq))) | (show wpList _ _ _ (Oper.mk _ (.move _) _ _ _ (some _) :: _) _ _; refine wl_gmove rfl (by first | exact wanted_b rfl rfl | exact wanted_g rfl rfl) (by first | exact (fun hg => gvV_on hg) | exact (fun hg => gvV_gA hg) | exact (fun _ => rfl)) ?_)); (try simp only [Act.put, List.setIfInBounds_toArray, List.set_cons_zero, List.set_cons_succ])))) | (show wpList _ _ _ (Oper.mk _ (.binOp .eql 9 _ _ _) _ _ _ (some _) :: _) _ _; refine wl_geqS rfl (by first | exact wanted_b rfl rfl | exact wanted_g rfl rfl) (by first | exact (fun hg => gvV_on hg) | exact (fun hg => gvV_gA hg) | exact (fun _ => rfl)) (by first | exact (fun hg => gvV_on hg) | exact (fun hg => gvV_gA hg) | exact (fun _ => rfl)) ?_; (try simp only [Act.put, List.setIfInBounds_toArray, List.set_cons_zero, List.set_cons_succ]); (repeat ((first | (show wpList _ _ _ (Oper.mk _ (.move _) _ _ _ none :: _) _ _; refine wl_mv rfl rfl rfl ?_) | (show wpList _ _ _ (Oper.mk _ (.pick _ _ _) _ _ _ none :: _) _ _; (first | (refine wl_pickOr rfl rfl rfl rfl rfl ?_; intro q hq) | (refine wl_pickAnd rfl rfl rfl rfl rfl ?_; intro q hq))) | (show wpList _ _ _ (Oper.mk _ (.pick _ _ _) _ _ _ (some _) :: _) _ _; (first | (refine wl_gpickOr rfl (by first | exact wanted_b rfl rfl | exact wanted_g rfl rfl) rfl rfl rfl ?_; intro q hq) | (refine wl_gpickAnd rfl (by first | exact wanted_b rfl rfl | exact wanted_g rfl rfl) rfl rfl rfl ?_; intro q hq))) | (show wpList _ _ _ (Oper.mk _ (.move _) _ _ _ (some _) :: _) _ _; refine wl_gmove rfl (by first | exact wanted_b rfl rfl | exact wanted_g rfl rfl) (by first | exact (fun hg => gvV_on hg) | exact (fun hg => gvV_gA hg) | exact (fun _ => rfl)) ?_)); (try simp only [Act.put, List.setIfInBounds_toArray, List.set_cons_zero, List.set_cons_succ])))) | (show wpList _ _ _ (Oper.mk _ (.binOp .neq 9 _ _ _) _ _ _ none :: _) _ _; refine wl_neqS rfl rfl rfl rfl ?_; (try simp only [Act.put, List.setIfInBounds_toArray, List.set_cons_zero, List.set_cons_succ]); (repeat ((first | (show wpList _ _ _ (Oper.mk _ (.move _) _ _ _ none :: _) _ _; refine wl_mv rfl rfl rfl ?_) | (show wpList _ _ _ (Oper.mk _ (.pick _ _ _) _ _ _ none :: _) _ _; (first | (refine wl_pickOr rfl rfl rfl rfl rfl ?_; intro q hq) | (refine wl_pickAnd rfl rfl rfl rfl rfl ?_; intro q hq))) | (show wpList _ _ _ (Oper.mk _ (.pick _ _ _) _ _ _ (some _) :: _) _ _; (first | (refine wl_gpickOr rfl (by first | exact wanted_b rfl rfl | exact wanted_g rfl rfl) rfl rfl rfl ?_; intro q hq) | (refine wl_gpickAnd rfl (by first | exact wanted_b rfl rfl | exact wanted_g rfl rfl) rfl rfl rfl ?_; intro q hq))) | (show wpList _ _ _ (Oper.mk _ (.move _) _ _ _ (some _) :: _) _ _; refine wl_gmove rfl (by first | exact wanted_b rfl rfl | exact wanted_g rfl rfl) (by first | exact (fun hg => gvV_on hg) | exact (fun hg => gvV_gA hg) | exact (fun _ => rfl)) ?_)); (try simp only [Act.put, List.setIfInBounds_toArray, List.set_cons_zero, List.set_cons_succ])))) | (show wpList _ _ _ (Oper.mk _ (.binOp .eql 9 _ _ _) _ _ _ none :: _) _ _; refine wl_eqS rfl rfl rfl rfl ?_; (try simp only [Act.put, List.setIfInBounds_toArray, List.set_cons_zero, List.set_cons_succ]); (repeat ((first | (show wpList _ _ _ (Oper.mk _ (.move _) _ _ _ none :: _) _ _; refine wl_mv rfl rfl rfl ?_) | (show wpList _ _ _ (Oper.mk _ (.pick _ _ _) _ _ _ none :: _) _ _; (first | (refine wl_pickOr rfl rfl rfl rfl rfl ?_; intro q hq) | (refine wl_pickAnd rfl rfl rfl rfl rfl ?_; intro q hq))) | (show wpList _ _ _ (Oper.mk _ (.pick _ _ _) _ _ _ (some _) :: _) _ _; (first | (refine wl_gpickOr rfl (by first | exact wanted_b rfl rfl | exact wanted_g rfl rfl) rfl rfl rfl ?_; intro q hq) | (refine wl_gpickAnd rfl (by first | exact wanted_b rfl rfl | exact wanted_g rfl rfl) rfl rfl rfl ?_; intro q hq))) | (show wpList _ _ _ (Oper.mk _ (.move _) _ _ _ (some _) :: _) _ _; refine wl_gmove rfl (by first | exact wanted_b rfl rfl | exact wanted_g rfl rfl) (by first | exact (fun hg => gvV_on hg) | exact (fun hg => gvV_gA hg) | exact (fun _ => rfl)) ?_)); (try simp only [Act.put, List.setIfInBounds_toArray, List.set_cons_zero, List.set_cons_succ])))) | (show wpList _ _ _ (Oper.mk _ (.call (Call.mk (.builtin .len) _ #[9])) _ _ _ (some _) :: _) _ _; refine wl_glenS rfl (by first | exact wanted_b rfl rfl | exact wanted_g rfl rfl) (by first | exact (fun hg => gvV_on hg) | exact (fun hg => gvV_gA hg) | exact (fun _ => rfl)) ?_; (try simp only [Act.put, List.setIfInBounds_toArray, List.set_cons_zero, List.set_cons_succ])) | (show wpList _ _ _ (Oper.mk _ (.call (Call.mk (.builtin .len) _ #[23])) _ _ _ (some _) :: _) _ _; refine wl_glen rfl (by first | exact wanted_b rfl rfl | exact wanted_g rfl rfl) (by first | exact (fun hg => gvV_on hg) | exact (fun hg => gvV_gA hg) | exact (fun _ => rfl)) ?_; (try simp only [Act.put, List.setIfInBounds_toArray, List.set_cons_zero, List.set_cons_succ])) | (show wpList _ _ _ (Oper.mk _ (.call (Call.mk (.builtin .len) _ #[22])) _ _ _ (some _) :: _) _ _; refine wl_glen rfl (by first | exact wanted_b rfl rfl | exact wanted_g rfl rfl) (by first | exact (fun hg => gvV_on hg) | exact (fun hg => gvV_gA hg) | exact (fun _ => rfl)) ?_; (try simp only [Act.put, List.setIfInBounds_toArray, List.set_cons_zero, List.set_cons_succ])) | (show wpList _ _ _ (Oper.mk _ (.unOp .not _ _) _ _ _ (some _) :: _) _ _; refine wl_gnot rfl (by first | exact wanted_b rfl rfl | exact wanted_g rfl rfl) (by first | exact (fun hg => gvV_on hg) | exact (fun hg => gvV_gA hg) | exact (fun _ => rfl)) ?_; (try simp only [Act.put, List.setIfInBounds_toArray, List.set_cons_zero, List.set_cons_succ]); (repeat ((first | (show wpList _ _ _ (Oper.mk _ (.move _) _ _ _ none :: _) _ _; refine wl_mv rfl rfl rfl ?_) | (show wpList _ _ _ (Oper.mk _ (.pick _ _ _) _ _ _ none :: _) _ _; (first | (refine wl_pickOr rfl rfl rfl rfl rfl ?_; intro q hq) | (refine wl_pickAnd rfl rfl rfl rfl rfl ?_; intro q hq))) | (show wpList _ _ _ (Oper.mk _ (.pick _ _ _) _ _ _ (some _) :: _) _ _; (first | (refine wl_gpickOr rfl (by first | exact wanted_b rfl rfl | exact wanted_g rfl rfl) rfl rfl rfl ?_; intro q hq) | (refine wl_gpickAnd rfl (by first | exact wanted_b rfl rfl | exact wanted_g rfl rfl) rfl rfl rfl ?_; intro q hq))) | (show wpList _ _ _ (Oper.mk _ (.move _) _ _ _ (some _) :: _) _ _; refine wl_gmove rfl (by first | exact wanted_b rfl rfl | exact wanted_g rfl rfl) (by first | exact (fun hg => gvV_on hg) | exact (fun hg => gvV_gA hg) | exact (fun _ => rfl)) ?_)); (try simp only [Act.put, List.setIfInBounds_toArray, List.set_cons_zero, List.set_cons_succ])))) | (show wpList _ _ _ (Oper.mk _ (.binOp .neq 4 _ _ _) _ _ _ (some _) :: _) _ _; refine wl_gneqB rfl rfl (by first | exact wanted_b rfl rfl | exact wanted_g rfl rfl) (by first | exact (fun hg => gvV_on hg) | exact (fun hg => gvV_gA hg) | exact (fun _ => rfl)) (by first | exact (fun hg => gvV_on hg) | exact (fun hg => gvV_gA hg) | exact (fun _ => rfl)) ?_; (try simp only [Act.put, List.setIfInBounds_toArray, List.set_cons_zero, List.set_cons_succ]); (repeat ((first | (show wpList _ _ _ (Oper.mk _ (.move _) _ _ _ none :: _) _ _; refine wl_mv rfl rfl rfl ?_) | (show wpList _ _ _ (Oper.mk _ (.pick _ _ _) _ _ _ none :: _) _ _; (first | (refine wl_pickOr rfl rfl rfl rfl rfl ?_; intro q hq) | (refine wl_pickAnd rfl rfl rfl rfl rfl ?_; intro q hq))) | (show wpList _ _ _ (Oper.mk _ (.pick _ _ _) _ _ _ (some _) :: _) _ _; (first | (refine wl_gpickOr rfl (by first | exact wanted_b rfl rfl | exact wanted_g rfl rfl) rfl rfl rfl ?_; intro q hq) | (refine wl_gpickAnd rfl (by first | exact wanted_b rfl rfl | exact wanted_g rfl rfl) rfl rfl rfl ?_; intro q hq))) | (show wpList _ _ _ (Oper.mk _ (.move _) _ _ _ (some _) :: _) _ _; refine wl_gmove rfl (by first | exact wanted_b rfl rfl | exact wanted_g rfl rfl) (by first | exact (fun hg => gvV_on hg) | exact (fun hg => gvV_gA hg) | exact (fun _ => rfl)) ?_)); (try simp only [Act.put, List.setIfInBounds_toArray, List.set_cons_zero, List.set_cons_succ])))))
  all_goals try (
    exfalso
    have hb := HBAD.out
    unfold OV.bare OV.small at hb
    clear HBAD OK HLl hsz HL HB HNL HNB HA HM HQ H0 HR HP
    try clear hst
    have z2 : ((2 : Int) == 0) = false := rfl
    have z0 : ((0 : Int) == 0) = true := rfl
    simp only [hid_iff, bNot_eq, Hp.bNe_eq] at *
    simp_all only [Bool.true_eq_false, Bool.false_eq_true, Bool.true_and, Bool.and_true, Bool.or_false, Bool.false_or, Bool.and_false, Bool.false_and, Bool.not_true, Bool.not_false, Bool.bne_false, Bool.bne_true]
    done)
  all_goals go_ret
  all_goals exact ⟨rfl, hst21.nil⟩
end Go.Proofs.Ytalfdcfcaamnbaa
namespace Go.Proofs.Ytalfdcfcaamnbaa
set_option linter.unusedVariables false
set_option linter.unusedSimpArgs false
open Go.RowKit Hp
attribute [local irreducible] Go.Calls Go.wpList Hp.gvV Hp.gB Hp.gA Hp.bOr Hp.bAnd Hp.bNot Hp.bNe us
set_option maxRecDepth 100000
set_option maxHeartbeats 4000000
theorem oback_law (o : OV) (al ab : Option Addr) (nl cl nb cb : Nat) (ao : Option Addr) (m c : Nat) (bs : List UInt8) (w : World) (hl : Rd w (.slice al nl cl) 1 nl (strsV o.l)) (hb : Rd w (.slice ab nb cb) 1 nb (bytesV o.b)) (hnl : o.l.length = nl) (hnb : o.b.length = nb) (hA : Rd w (.slice ao m c) 1 m (bytesV bs)) (hm : bs.length = m) (hop : -9223372036854775808 ≤ o.op ∧ o.op ≤ 9223372036854775807) (hn : -9223372036854775808 ≤ o.n ∧ o.n ≤ 9223372036854775807) (hmm : -9223372036854775808 ≤ o.m ∧ o.m ≤ 9223372036854775807) :
    Calls Try.prog 7 #[.agg (o.cells (.slice al nl cl) (.slice ab nb cb)).toArray, .slice ao m c] w fun e w' => e = .returned (.bool true) ∧ St w [] w' [] := by
  cases hq : o.long nl nb
  · by_cases k1 : 20000 < m
    · exact oback_far2 o al ab nl cl nb cb ao m c w hl hnl hq (decide_eq_true (by omega))
    have d1 : decide ((20000 : Int) < (m : Int)) = false := decide_eq_false (by omega)
    by_cases h0 : o.check = 0
    · rcases getO_ways bs with ⟨e1, p1, hR, h1⟩ | ⟨od, p1, hR, h1, h2⟩
      · exact oback_gx o al ab nl cl nb cb ao m c bs w hl hb hnl hnb hA hm hop hn hmm hq d1 h0 e1 p1 hR h1
      · exact oback_go o al ab nl cl nb cb ao m c bs w hl hb hnl hnb hA hm hop hn hmm hq d1 h0 od p1 hR h1 h2
    · have h0 := OV.check_two h0
      rcases getO_ways bs with ⟨e1, p1, hR, h1⟩ | ⟨od, p1, hR, h1, h2⟩
      · exact oback_bx o al ab nl cl nb cb ao m c bs w hl hb hnl hnb hA hm hop hn hmm hq d1 h0 e1 p1 hR h1
      · exact oback_bo o al ab nl cl nb cb ao m c bs w hl hb hnl hnb hA hm hop hn hmm hq d1 h0 od p1 hR h1 h2
  · exact oback_far1 o al ab nl cl nb cb ao m c w hl hnl hq
end Go.Proofs.Ytalfdcfcaamnbaa
namespace Go.Proofs.Ytalfdcfcaamnbaa
set_option linter.unusedVariables false
set_option linter.unusedSimpArgs false
open Hp
structure Ptr where
  addrs : List (Int × Int)
  birth : Int
  level : Int
  sum : List UInt8
deriving DecidableEq
def nones : List UInt8 := List.replicate 32 0
def ptrCells (sv : Value) (b l : Int) (S : List UInt8) : List Value := sv :: .int .i64 b :: .int .i64 l :: bytesV S
def nothingB (b l : Int) (S : List UInt8) : Bool := decide (b = 0) && (decide (l = 0) && (S == nones))
/-- 32 bytes: hidden from the walk's rewriting. -/
def L32 (S : List UInt8) : Prop := S.length = 32
theorem L32.out {S : List UInt8} (h : L32 S) : S.length = 32 := h
theorem L32.v {S : List UInt8} (h : L32 S) : (bytesV S).length = 32 := by simp [h.out]
theorem L32.nones : L32 nones := rfl
theorem L32.two {S R : List UInt8} (h : L32 S) (h' : L32 R) : S.length = 32 ∧ R.length = 32 := ⟨h, h'⟩
theorem ptr_sum (sv : Value) (b l : Int) (S : List UInt8) : ((ptrCells sv b l S).drop 3).take (bytesV S).length = bytesV S := by
  show (bytesV S).take (bytesV S).length = bytesV S
  exact List.take_length
theorem ptr_all (sv : Value) (b l : Int) (S : List UInt8) : ((ptrCells sv b l S).drop 0).take (ptrCells sv b l S).length = ptrCells sv b l S := by
  simp
theorem ptr_len {S : List UInt8} (h : L32 S) (sv : Value) (b l : Int) : (ptrCells sv b l S).length = 35 := by simp [ptrCells, h.out]
theorem ret_bool {a b : Bool} (h : a = b) : Ending.returned (.bool a) = .returned (.bool b) := by rw [h]
theorem ret_int {k : IntKind} {a b : Int} (h : a = b) : Ending.returned (.int k a) = .returned (.int k b) := by rw [h]
def addrsV : List (Int × Int) → List Value
  | [] => []
  | x :: l => .int .i64 x.1 :: .int .i64 x.2 :: addrsV l
theorem length_addrsV (l : List (Int × Int)) : (addrsV l).length = l.length * 2 := by
  induction l with
  | nil => rfl
  | cons x l ih => simp [addrsV, ih]; omega
theorem addrsV_get (l : List (Int × Int)) (k : Nat) (hk : k < l.length) : (addrsV l)[k * 2]? = some (.int .i64 (l.getD k (0, 0)).1) ∧ (addrsV l)[k * 2 + 1]? = some (.int .i64 (l.getD k (0, 0)).2) := by
  induction l generalizing k with
  | nil => simp at hk
  | cons x l ih =>
    cases k with
    | zero => simp [addrsV]
    | succ k =>
      have := ih k (by simpa using hk)
      simp only [addrsV, show (k + 1) * 2 = k * 2 + 1 + 1 by omega, show k * 2 + 1 + 1 + 1 = (k * 2 + 1) + 1 + 1 by omega, List.getElem?_cons_succ, List.getD_cons_succ]
      exact this
section
open Go.RowKit
variable {w : World} {b off : Nat} {l : List (Int × Int)}
theorem addr_dev (h : w.rangeAt b off (addrsV l)) {k : Nat} (hk : k < l.length) : w.cell? ⟨b, off + k * 2, none⟩ = some (.int .i64 (l.getD k (0, 0)).1) := h _ _ (addrsV_get l k hk).1
theorem addr_at (h : w.rangeAt b off (addrsV l)) {k : Nat} (hk : k < l.length) : w.cell? ⟨b, off + k * 2 + 1, none⟩ = some (.int .i64 (l.getD k (0, 0)).2) := h _ _ (addrsV_get l k hk).2
theorem addr_both (h : w.rangeAt b off (addrsV l)) {k : Nat} (hk : k < l.length) : w.rangeAt b (off + k * 2) [.int .i64 (l.getD k (0, 0)).1, .int .i64 (l.getD k (0, 0)).2] := by
  intro j v hv
  match j, hv with
  | 0, hv => simp at hv; subst hv; exact addr_dev h hk
  | 1, hv => simp at hv; subst hv; exact addr_at h hk
end
def holeB (n : Nat) (b l : Int) (S : List UInt8) : Bool := decide (n = 0) && nothingB b l S
def likeB (n m : Nat) (b l b' l' : Int) (S S' : List UInt8) : Bool := decide (b = b') && (decide (l = l') && ((S == S') && (decide (0 < n) == decide (0 < m))))
def seenB (l : List (Int × Int)) (d : Nat) : Bool := decide ((d : Int) ∈ l.map (·.1))
def seenV (l : List (Int × Int)) : List Value := (List.range 8).map fun d => .bool (seenB l d)
def validA (a : Int × Int) : Bool := decide (0 ≤ a.1 ∧ a.1 < 8 ∧ 5 ≤ a.2 ∧ a.2 < 4096)
/-- Each address may be, and no two are of one device. -/
def okA : List (Int × Int) → Bool
  | [] => true
  | x :: l => okA l && validA x && !(l.any fun y => y.1 == x.1)
def mayB (l : List (Int × Int)) : Bool := okA l.reverse && decide (1 ≤ l.length ∧ l.length ≤ 3)
def checkB (l : List (Int × Int)) (b v : Int) (S : List UInt8) : Bool := holeB l.length b v S || (mayB l && decide (1 ≤ b ∧ b ≤ 2147483648 ∧ 0 ≤ v ∧ v ≤ 3))
def checkE (l : List (Int × Int)) (b v : Int) (S : List UInt8) : Int := if checkB l b v S then 0 else 2
/-- Of the first k addresses. -/
def okP (l : List (Int × Int)) (k : Nat) : Bool := okA (l.take k).reverse
theorem take_rev_succ (l : List (Int × Int)) (k : Nat) (hk : k < l.length) : (l.take (k + 1)).reverse = l.getD k (0, 0) :: (l.take k).reverse := by
  rw [List.take_succ_eq_append_getElem hk, List.reverse_append]
  simp [List.getD, hk]
theorem okP_succ (l : List (Int × Int)) (k : Nat) (hk : k < l.length) : okP l (k + 1) = (okP l k && validA (l.getD k (0, 0)) && !((l.take k).any fun y => y.1 == (l.getD k (0, 0)).1)) := by
  unfold okP
  rw [take_rev_succ l k hk, okA, List.any_reverse]
theorem okA_append : ∀ (a b : List (Int × Int)), okA (a ++ b) = true → okA b = true
  | [], _, h => h
  | x :: a, b, h => okA_append a b (by simp only [List.cons_append, okA, Bool.and_eq_true] at h; exact h.1.1)
theorem okP_false (l : List (Int × Int)) (k : Nat) (h : okP l k = false) : okA l.reverse = false := by
  rw [← Bool.not_eq_true]
  intro ht
  rw [← List.take_append_drop k l, List.reverse_append] at ht
  have := okA_append _ _ ht
  unfold okP at h
  simp [h] at this
theorem okP_all (l : List (Int × Int)) (k : Nat) (hk : l.length ≤ k) : okP l k = okA l.reverse := by unfold okP; rw [List.take_of_length_le hk]
theorem okP_zero (l : List (Int × Int)) : okP l 0 = true := by simp [okP, okA]
theorem seenV_get (l : List (Int × Int)) {d : Nat} (hd : d < 8) : (seenV l)[d]? = some (.bool (seenB l d)) := by
  unfold seenV
  simp [hd]
theorem length_seenV (l : List (Int × Int)) : (seenV l).length = 8 := by simp [seenV]
theorem seenB_any (l : List (Int × Int)) (x : Int) (hx : 0 ≤ x) : seenB l x.toNat = l.any fun y => y.1 == x := by
  unfold seenB
  rw [Bool.eq_iff_iff]
  simp only [decide_eq_true_eq, List.mem_map, List.any_eq_true, beq_iff_eq]
  constructor
  · rintro ⟨a, ha, h⟩; exact ⟨a, ha, by omega⟩
  · rintro ⟨a, ha, h⟩; exact ⟨a, ha, by omega⟩
theorem seenV_put (l : List (Int × Int)) (x : Int × Int) (h0 : 0 ≤ x.1) (h8 : x.1 < 8) : putAt (seenV l) x.1.toNat [.bool true] = seenV (l ++ [x]) := by
  apply List.ext_getElem?
  intro j
  unfold putAt
  have hl := length_seenV l
  by_cases hj : j < 8
  · rw [seenV_get _ hj]
    rcases Nat.lt_trichotomy j x.1.toNat with h | h | h
    · rw [List.getElem?_append_left (by simp; omega), List.getElem?_take, if_pos h, seenV_get _ hj]
      have : seenB (l ++ [x]) j = seenB l j := by
        unfold seenB
        simp only [List.map_append, List.map_cons, List.map_nil, List.mem_append, List.mem_singleton]
        congr 1
        simp only [eq_iff_iff, or_iff_left_iff_imp]
        intro e; omega
      rw [this]
    · rw [List.getElem?_append_right (by simp; omega)]
      have h1 : j - (List.take x.1.toNat (seenV l)).length = 0 := by simp; omega
      rw [h1]
      have : seenB (l ++ [x]) j = true := by
        unfold seenB
        simp only [decide_eq_true_eq, List.map_append, List.map_cons, List.map_nil, List.mem_append, List.mem_singleton]
        right; omega
      simp [this]
    · rw [List.getElem?_append_right (by simp; omega)]
      have h1 : j - (List.take x.1.toNat (seenV l)).length = (j - x.1.toNat - 1) + 1 := by simp; omega
      rw [h1]
      simp only [List.cons_append, List.nil_append, List.getElem?_cons_succ, List.getElem?_drop, List.length_singleton]
      rw [show x.1.toNat + 1 + (j - x.1.toNat - 1) = j by omega, seenV_get _ hj]
      have : seenB (l ++ [x]) j = seenB l j := by
        unfold seenB
        simp only [List.map_append, List.map_cons, List.map_nil, List.mem_append, List.mem_singleton]
        congr 1
        simp only [eq_iff_iff, or_iff_left_iff_imp]
        intro e; omega
      rw [this]
  · rw [List.getElem?_eq_none (by simp [hl]; omega), List.getElem?_eq_none (by rw [length_seenV]; omega)]
theorem take_snoc' (l : List (Int × Int)) (k : Nat) (hk : k < l.length) : l.take k ++ [l.getD k (0, 0)] = l.take (k + 1) := by
  rw [List.take_succ_eq_append_getElem hk]
  simp [List.getD, hk]
section
variable {l : List (Int × Int)} {k : Nat} {x : Int × Int}
theorem may_stop1 (hk : k < l.length) (hx : x = l.getD k (0, 0)) (h : ¬ (0 ≤ x.1 ∧ x.1 < 8 ∧ 5 ≤ x.2 ∧ x.2 < 4096)) : mayB l = false := by
  have h1 := okP_succ l k hk
  rw [← hx] at h1
  have : validA x = false := by simpa [validA] using h
  simp only [this, Bool.and_false, Bool.false_and] at h1
  simp [mayB, okP_false l _ h1]
theorem may_stop2 (hk : k < l.length) (hx : x = l.getD k (0, 0)) (h0 : 0 ≤ x.1) (h : seenB (l.take k) x.1.toNat = true) : mayB l = false := by
  have h1 := okP_succ l k hk
  rw [← hx] at h1
  rw [seenB_any _ _ h0] at h
  simp only [h, Bool.not_true, Bool.and_false] at h1
  simp [mayB, okP_false l _ h1]
theorem may_go (hk : k < l.length) (hx : x = l.getD k (0, 0)) (hok : okP l k = true) (h0 : 0 ≤ x.1) (h8 : x.1 < 8) (h5 : 5 ≤ x.2) (h4 : x.2 < 4096) (h : seenB (l.take k) x.1.toNat = false) :
    okP l (k + 1) = true ∧ putAt (seenV (l.take k)) x.1.toNat [.bool true] = seenV (l.take (k + 1)) := by
  rw [seenB_any _ _ h0] at h
  refine ⟨?_, ?_⟩
  · rw [okP_succ l k hk, ← hx, hok, h]
    simp [validA, h0, h8, h5, h4]
  · rw [seenV_put _ _ h0 h8, hx, take_snoc' l k hk]
theorem may_end (hk : l.length ≤ k) (hok : okP l k = true) : mayB l = decide (1 ≤ l.length ∧ l.length ≤ 3) := by
  rw [okP_all l k hk] at hok
  simp [mayB, hok]
end
section
variable {l : List (Int × Int)} {k : Nat} {x : Int × Int}
theorem addrs_stop (hk : k < l.length) (hx : x = l.getD k (0, 0)) {j : Nat} (hj : j < k) (h : (l.getD j (0, 0)).1 = x.1) : mayB l = false := by
  have h1 := okP_succ l k hk
  rw [← hx] at h1
  have : ((l.take k).any fun y => y.1 == x.1) = true := by
    rw [List.any_eq_true]
    refine ⟨l.getD j (0, 0), ?_, by simpa using h⟩
    rw [List.mem_iff_getElem?]
    refine ⟨j, ?_⟩
    rw [List.getElem?_take, if_pos hj]
    simp [List.getD, show j < l.length by omega]
  simp only [this, Bool.not_true, Bool.and_false] at h1
  simp [mayB, okP_false l _ h1]
theorem addrs_go (hk : k < l.length) (hx : x = l.getD k (0, 0)) (hok : okP l k = true) (h0 : 0 ≤ x.1) (h8 : x.1 < 8) (h5 : 5 ≤ x.2) (h4 : x.2 < 4096) (h : ∀ t, t < k → (l.getD t (0, 0)).1 ≠ x.1) : okP l (k + 1) = true := by
  rw [okP_succ l k hk, ← hx, hok]
  have : ((l.take k).any fun y => y.1 == x.1) = false := by
    rw [List.any_eq_false]
    intro y hy
    obtain ⟨t, ht⟩ := List.mem_iff_getElem?.1 hy
    rw [List.getElem?_take] at ht
    split at ht
    · rename_i htk
      have := h t htk
      simp only [List.getD, ht, Option.getD_some] at this
      simpa using this
    · simp at ht
  simp [this, validA, h0, h8, h5, h4]
end
theorem addrs_ext {l k : List (Int × Int)} (h : l.length = k.length) (hq : ∀ q, q < l.length → l.getD q (0, 0) = k.getD q (0, 0)) : l = k := by
  apply List.ext_getElem h
  intro i h1 h2
  have := hq i h1
  simpa [List.getD, h1, h2] using this
theorem addrs_len_ne {l k : List (Int × Int)} (h : l.length ≠ k.length) : (l == k) = false := by
  rw [beq_eq_false_iff_ne]; intro e; exact h (by rw [e])
theorem addrs_ne {l k : List (Int × Int)} {q : Nat} (h : l.getD q (0, 0) ≠ k.getD q (0, 0)) : (l == k) = false := by
  rw [beq_eq_false_iff_ne]; intro e; exact h (by rw [e])
section
open Go.RowKit
theorem byte_cell {w : World} {b off : Nat} {l : List UInt8} (h : w.rangeAt b off (bytesV l)) {k : Nat} (hk : k < l.length) : w.cell? ⟨b, off + k, none⟩ = some (.int .u8 (l.getD k 0).toNat) := by
  refine h _ _ ?_
  simp [bytesV, List.getD, hk]
theorem bytes_ext {l k : List UInt8} (h : l.length = k.length) (hq : ∀ q, q < l.length → l.getD q 0 = k.getD q 0) : l = k := by
  apply List.ext_getElem h
  intro i h1 h2
  have := hq i h1
  simpa [List.getD, h1, h2] using this
theorem bytes_len_ne {l k : List UInt8} (h : l.length ≠ k.length) : (l == k) = false := by
  rw [beq_eq_false_iff_ne]; intro e; exact h (by rw [e])
theorem bytes_ne {l k : List UInt8} {q : Nat} (h : l.getD q 0 ≠ k.getD q 0) : (l == k) = false := by
  rw [beq_eq_false_iff_ne]; intro e; exact h (by rw [e])
theorem pair_ext {x y : Int × Int} (h : (!x.1 == y.1) = false ∧ (!x.2 == y.2) = false) : x = y := by
  simp only [Bool.not_eq_false', beq_iff_eq] at h
  exact Prod.ext h.1 h.2
theorem pair_ne {x y : Int × Int} (h : (!x.1 == y.1) = true ∨ (!x.2 == y.2) = true) : x ≠ y := by
  rintro rfl
  simp at h
end
def sameB (l r : List (Int × Int)) (b v b' v' : Int) (S S' : List UInt8) : Bool := (l == r) && (decide (b = b') && (decide (v = v') && (S == S')))
theorem sameB_eq (l r : List (Int × Int)) (b v b' v' : Int) (S S' : List UInt8) : (likeB l.length r.length b v b' v' S S' && (l == r)) = sameB l r b v b' v' S S' := by
  unfold likeB sameB
  by_cases h : l = r
  · subst h
    cases (S == S') <;> simp
  · have : (l == r) = false := by rw [beq_eq_false_iff_ne]; exact h
    simp [this]
end Go.Proofs.Ytalfdcfcaamnbaa
namespace Go.Proofs.Ytalfdcfcaamnbaa
set_option linter.unusedVariables false
set_option linter.unusedSimpArgs false
open Go.ChangeShapes Go.WideShapes Go.ChangeAt Go.RowKit Hp
theorem bytes_of_cells : ∀ (L : List Value), (∀ v ∈ L, ∃ k : Int, v = .int .u8 k ∧ 0 ≤ k ∧ k < 256) → ∃ S : List UInt8, L = bytesV S ∧ S.length = L.length
  | [], _ => ⟨[], rfl, rfl⟩
  | v :: L, h => by
    obtain ⟨S, hS, hl⟩ := bytes_of_cells L fun x hx => h x (List.mem_cons_of_mem _ hx)
    obtain ⟨k, rfl, h0, h1⟩ := h v (List.mem_cons_self)
    refine ⟨UInt8.ofNat k.toNat :: S, ?_, by simp [hl]⟩
    have : ((UInt8.ofNat k.toNat).toNat : Int) = k := by rw [UInt8.toNat_ofNat']; omega
    simp only [bytesV, List.map_cons] at hS ⊢
    rw [hS, this]
theorem addrsV_at : ∀ (l : List (Int × Int)) (k : Nat) (v : Value), (addrsV l)[k]? = some v → ∃ i x, l[i]? = some x ∧ ((k = i * 2 ∧ v = .int .i64 x.1) ∨ (k = i * 2 + 1 ∧ v = .int .i64 x.2))
  | [], k, v, h => by simp [addrsV] at h
  | x :: l, 0, v, h => by simp [addrsV] at h; exact ⟨0, x, rfl, .inl ⟨rfl, h.symm⟩⟩
  | x :: l, 1, v, h => by simp [addrsV] at h; exact ⟨0, x, rfl, .inr ⟨rfl, h.symm⟩⟩
  | x :: l, k + 2, v, h => by
    obtain ⟨i, y, hi, hk⟩ := addrsV_at l k v (by simpa [addrsV] using h)
    rcases hk with ⟨rfl, rfl⟩ | ⟨rfl, rfl⟩
    · exact ⟨i + 1, y, hi, .inl ⟨by omega, rfl⟩⟩
    · exact ⟨i + 1, y, hi, .inr ⟨by omega, rfl⟩⟩
theorem rd_pairs {w : World} {b off len cap : Nat} (f : Nat → Int × Int) (hl : len ≤ cap) (hc : cap ≤ maxLen) (h : ∀ i, i < len → w.cell? ⟨b, off + i * 2, none⟩ = some (.int .i64 (f i).1) ∧ w.cell? ⟨b, off + i * 2 + 1, none⟩ = some (.int .i64 (f i).2)) :
    Rd w (.slice (some ⟨b, off, none⟩) len cap) 2 len (addrsV ((List.range len).map f)) := by
  refine Rd.mk hl hc (by simp [length_addrsV]) ?_
  intro k v hk
  obtain ⟨i, x, hi, hx⟩ := addrsV_at _ k v hk
  have hi' : i < len := by
    have := (List.getElem?_eq_some_iff.1 hi).1
    simpa using this
  have hxi : x = f i := by
    rw [List.getElem?_map, List.getElem?_range hi'] at hi
    simpa using hi.symm
  subst hxi
  rcases hx with ⟨rfl, rfl⟩ | ⟨rfl, rfl⟩
  · exact (h i hi').1
  · exact (h i hi').2
end Go.Proofs.Ytalfdcfcaamnbaa
namespace Go.Proofs.Ytalfdcfcaamnbaa
set_option linter.unusedVariables false
set_option linter.unusedSimpArgs false
open Go.ChangeShapes Go.WideShapes Go.ChangeAt Go.RowKit Go.Deep Go.Lib Go.Joins Hp
set_option maxRecDepth 100000
theorem slice_spotV {P : Program} {W : World} {base n c : Nat} {t e : TypeId} {a : Addr} (ht : P.underlying t = some (.slice e)) (h : Value.okWide P W .any base t (.slice (some a) n c)) : a.spot = none := by
  unfold Value.okWide at h
  rw [ht] at h
  simp only [Cell.okWide, ht] at h
  simp [Cell.ok, ht, World.has] at h
  exact h.2.2.2.1
theorem rd_ints {w : World} {b off len cap : Nat} (f : Nat → UInt8) (hl : len ≤ cap) (hc : cap ≤ maxLen) (h : ∀ i, i < len → w.cell? ⟨b, off + i, none⟩ = some (.int .u8 (f i).toNat)) :
    Rd w (.slice (some ⟨b, off, none⟩) len cap) 1 len (bytesV ((List.range len).map f)) := by
  refine Rd.mk hl hc (by simp) ?_
  intro k v hk
  rw [bytesV, List.getElem?_map, List.getElem?_map] at hk
  by_cases hi : k < len
  · rw [List.getElem?_range hi] at hk
    simp at hk
    subst hk
    exact h k hi
  · rw [List.getElem?_eq_none (by simpa using hi)] at hk
    simp at hk
theorem open_bytes {H : Type} {enc : TypeId × Value → H} {W : World} {base fuel : Nat} {v : Value} {x : DataW H × List MemPlace} (hv : Value.okWide Try.prog W .any base 23 v)
    (h : DataW.trod enc Try.prog W 0 (fun _ => true) true fuel 23 v.cells.toList = some x) : ∃ ao n c bs, v = .slice ao n c ∧ Rd W (.slice ao n c) 1 n (bytesV bs) ∧ bs.length = n := by
  obtain ⟨a, len, cap, rfl⟩ := okWide_slice Try.underlying23 hv
  rcases open_ints Try.underlying23 Try.underlying5 (by kernel_rfl) h with ⟨hc, _⟩ | ⟨a', len', cap', zs, hc, _, hl, hm, hz, _, hcell, hw⟩
  · simp [Value.cells] at hc
    obtain ⟨rfl, rfl, rfl⟩ := hc
    exact ⟨none, 0, 0, [], rfl, Rd.nil _ _, rfl⟩
  · simp [Value.cells] at hc
    obtain ⟨rfl, rfl, rfl⟩ := hc
    have hs := slice_spotV Try.underlying23 hv
    obtain ⟨b, off, rfl⟩ : ∃ b off, a' = ⟨b, off, none⟩ := ⟨a'.block, a'.off, by cases a'; simp_all⟩
    simp only [if_true] at hz
    refine ⟨_, len, cap, (List.range len).map fun i => UInt8.ofNat (zs.getD i 0).toNat, rfl, rd_ints _ hl hm fun i hi => ?_, by simp⟩
    have h1 := hcell i (by omega)
    rw [Addr.add_mid] at h1
    rw [h1]
    have h2 := hw (zs.getD i 0) (by rw [List.getD_eq_getElem?_getD, List.getElem?_eq_getElem (by omega)]; exact List.getElem_mem _)
    simp only [Lit.wf, Bool.and_eq_true, decide_eq_true_eq] at h2
    have h3 : IntKind.u8.min = 0 := rfl
    have h4 : IntKind.u8.max = 255 := rfl
    have h5 : ((UInt8.ofNat (zs.getD i 0).toNat).toNat : Int) = zs.getD i 0 := by rw [UInt8.toNat_ofNat']; omega
    rw [h5]
theorem open_int {H : Type} {enc : TypeId × Value → H} {W : World} {base fuel : Nat} {v : Value} {x : DataW H × List MemPlace} (hv : Value.okWide Try.prog W .any base 3 v)
    (h : DataW.trod enc Try.prog W 0 (fun _ => true) true fuel 3 v.cells.toList = some x) : ∃ z : Int, v = .int .i64 z ∧ -9223372036854775808 ≤ z ∧ z ≤ 9223372036854775807 := by
  obtain ⟨z, e, _, hw⟩ := DataW.trod_int Try.underlying3 h
  have hv' : ∃ z', v = .int .i64 z' := by
    unfold Value.okWide at hv
    rw [Try.underlying3] at hv
    simp only [Cell.okWide, Try.underlying3] at hv
    cases v <;> simp_all [Cell.ok]
  obtain ⟨z', rfl⟩ := hv'
  simp [Value.cells] at e
  subst e
  simp only [Lit.wf, Bool.and_eq_true, decide_eq_true_eq] at hw
  have h3 : IntKind.i64.min = -9223372036854775808 := rfl
  have h4 : IntKind.i64.max = 9223372036854775807 := rfl
  exact ⟨_, rfl, by omega, by omega⟩
end Go.Proofs.Ytalfdcfcaamnbaa
namespace Go.Proofs.Ytalfdcfcaamnbaa
set_option linter.unusedVariables false
set_option linter.unusedSimpArgs false
open Go.ChangeShapes Go.WideShapes Go.ChangeAt Go.RowKit Go.Deep Go.Lib Go.Joins Hp
set_option maxRecDepth 100000
theorem cellsOo : Try.prog.cellsOf 25 = 7 := by kernel_rfl
theorem cellsOi : Try.prog.cellsOf 3 = 1 := by kernel_rfl
theorem cellsOs : Try.prog.cellsOf 9 = 1 := by kernel_rfl
theorem cellsOb : Try.prog.cellsOf 23 = 1 := by kernel_rfl
theorem cellsOl : Try.prog.cellsOf 22 = 1 := by kernel_rfl
theorem i64_wfO {z : Int} (hw : (Lit.int .i64 z).wf = true) : -9223372036854775808 ≤ z ∧ z ≤ 9223372036854775807 := by
  simp only [Lit.wf, Bool.and_eq_true, decide_eq_true_eq] at hw
  have h3 : IntKind.i64.min = -9223372036854775808 := rfl
  have h4 : IntKind.i64.max = 9223372036854775807 := rfl
  omega
theorem spot_add {a : Addr} (h : (a.add 0).spot = none) : a.spot = none := by
  simpa [Addr.add] using h
theorem spot_cell {W : World} {a : Addr} {v : Value} (h1 : W.cell? a = some v) : a.spot = none := by
  unfold World.cell? at h1
  split at h1
  · by_cases hs : a.spot = none
    · exact hs
    · have : (a.spot).isSome = true := by
        cases hq : a.spot with
        | none => exact absurd hq hs
        | some q => rfl
      rw [if_pos this] at h1
      cases h1
  · cases h1
theorem open_bytesO {H : Type} {enc : TypeId × Value → H} {W : World} {fuel : Nat} {cs : List Value} {x : DataW H × List MemPlace}
    (h : DataW.trod enc Try.prog W 0 (fun _ => true) true fuel 23 cs = some x) : ∃ ao n c bs, cs = [.slice ao n c] ∧ Rd W (.slice ao n c) 1 n (bytesV bs) ∧ bs.length = n := by
  rcases open_ints Try.underlying23 Try.underlying5 (by kernel_rfl) h with ⟨hc, _⟩ | ⟨a', len', cap', zs, hc, _, hl, hm, hz, _, hcell, hw⟩
  · exact ⟨none, 0, 0, [], hc, Rd.nil _ _, rfl⟩
  · by_cases h0 : cap' = 0
    · subst h0
      obtain rfl : len' = 0 := by omega
      exact ⟨some a', 0, 0, [], hc, Rd.empty _ _ _, rfl⟩
    · simp only [if_true] at hz
      have hspot : a'.spot = none := spot_add (spot_cell (hcell 0 (by omega)))
      obtain ⟨b, off, rfl⟩ : ∃ b off, a' = ⟨b, off, none⟩ := ⟨a'.block, a'.off, by cases a'; simp_all⟩
      refine ⟨_, len', cap', (List.range len').map fun i => UInt8.ofNat (zs.getD i 0).toNat, hc, rd_ints _ hl hm fun i hi => ?_, by simp⟩
      have h1 := hcell i (by omega)
      rw [Addr.add_mid] at h1
      rw [h1]
      have h2 := hw (zs.getD i 0) (by rw [List.getD_eq_getElem?_getD, List.getElem?_eq_getElem (by omega)]; exact List.getElem_mem _)
      simp only [Lit.wf, Bool.and_eq_true, decide_eq_true_eq] at h2
      have h3 : IntKind.u8.min = 0 := rfl
      have h4 : IntKind.u8.max = 255 := rfl
      have h5 : ((UInt8.ofNat (zs.getD i 0).toNat).toNat : Int) = zs.getD i 0 := by rw [UInt8.toNat_ofNat']; omega
      rw [h5]
theorem open_strsO {H : Type} {enc : TypeId × Value → H} {W : World} {fuel : Nat} {cs : List Value} {x : DataW H × List MemPlace}
    (h : DataW.trod enc Try.prog W 0 (fun _ => true) true fuel 22 cs = some x) : ∃ ao n c l, cs = [.slice ao n c] ∧ Rd W (.slice ao n c) 1 n (strsV l) ∧ l.length = n := by
  rcases open_slice Try.underlying22 h with ⟨hc, _⟩ | ⟨a', len, cap, m, n, D, Pl, hc, _, hl, hm, hmm, _, hx⟩
  · exact ⟨none, 0, 0, [], hc, Rd.nil _ _, rfl⟩
  · by_cases h0 : cap = 0
    · subst h0
      obtain rfl : len = 0 := by omega
      exact ⟨some a', 0, 0, [], hc, Rd.empty _ _ _, rfl⟩
    · simp only [if_true] at hmm
      rw [cellsOs] at hx
      have one : ∀ i, i < m → ∃ t : List UInt8, W.cell? ((a'.add (i * 1)).add 0) = some (strV t) := by
        intro i hi
        obtain ⟨cs', h1, h2⟩ := hx i hi
        obtain ⟨_, hlen, hcell⟩ := World.cells?_some h1
        obtain ⟨s, e, _⟩ := DataW.trod_string Try.underlying9 h2
        subst e
        exact ⟨s.data.toList, hcell 0 (by decide)⟩
      obtain ⟨t0, ht0⟩ := one 0 (by omega)
      have hspot : a'.spot = none := spot_add (spot_add (spot_cell ht0))
      obtain ⟨b, off, rfl⟩ : ∃ b off, a' = ⟨b, off, none⟩ := ⟨a'.block, a'.off, by cases a'; simp_all⟩
      obtain ⟨K, hK⟩ := choose_lt (α := List UInt8) (p := fun i t => W.cell? ⟨b, off + i, none⟩ = some (strV t)) (fun i hi => by
        obtain ⟨t, ht⟩ := one i hi
        rw [Addr.add_mid, Addr.add_mid, Nat.mul_one, Nat.add_zero] at ht
        exact ⟨t, ht⟩)
      refine ⟨_, len, cap, (List.range len).map K, hc, Rd.mk hl hm (by simp [strsV]) (fun k v hk => ?_), by simp⟩
      rw [strsV, List.getElem?_map, List.getElem?_map] at hk
      by_cases hi : k < len
      · rw [List.getElem?_range hi] at hk
        simp at hk
        subst hk
        exact hK k (by omega)
      · rw [List.getElem?_eq_none (by simpa using hi)] at hk
        simp at hk
/-- What is known of an order that was handed in. -/
def OV.In (o : OV) (W : World) (al ab : Option Addr) (nl cl nb cb : Nat) : Prop := Rd W (.slice al nl cl) 1 nl (strsV o.l) ∧ Rd W (.slice ab nb cb) 1 nb (bytesV o.b) ∧ o.l.length = nl ∧ o.b.length = nb ∧
  (-9223372036854775808 ≤ o.op ∧ o.op ≤ 9223372036854775807) ∧ (-9223372036854775808 ≤ o.n ∧ o.n ≤ 9223372036854775807) ∧ (-9223372036854775808 ≤ o.m ∧ o.m ≤ 9223372036854775807)
theorem open_order {H : Type} {enc : TypeId × Value → H} {W : World} {base fuel : Nat} {v : Value} {x : DataW H × List MemPlace} (hv : Value.okWide Try.prog W .any base 25 v)
    (h : DataW.trod enc Try.prog W 0 (fun _ => true) true fuel 25 v.cells.toList = some x) : ∃ (o : OV) (al ab : Option Addr) (nl cl nb cb : Nat), v = .agg (o.cells (.slice al nl cl) (.slice ab nb cb)).toArray ∧ o.In W al ab nl cl nb cb := by
  unfold Value.okWide at hv
  rw [Try.underlying25] at hv
  obtain ⟨cs, rfl, hsz, _⟩ := hv
  rw [cellsOo] at hsz
  obtain ⟨L, rfl⟩ : ∃ L : List Value, cs = L.toArray := ⟨cs.toList, rfl⟩
  have hL : L.length = 7 := by simpa using hsz
  match L, hL with
  | [a, b, c, d, e, f, g], _ =>
    obtain ⟨xs, n, _, _, _, hlen, hf⟩ := DataW.trod_struct Try.underlying25 h
    match xs, hlen with
    | [y0, y1, y2, y3, y4, y5, y6], _ =>
      have h0 := hf 0 _ rfl
      have h1 := hf 1 _ rfl
      have h2 := hf 2 _ rfl
      have h3 := hf 3 _ rfl
      have h4 := hf 4 _ rfl
      have h5 := hf 5 _ rfl
      have h6 := hf 6 _ rfl
      simp only [Value.cells, cellsOi, cellsOs, cellsOb, cellsOl, List.drop_zero, List.drop_succ_cons, List.take_succ_cons, List.take_zero] at h0 h1 h2 h3 h4 h5 h6
      obtain ⟨z0, e0, _, w0⟩ := DataW.trod_int Try.underlying3 h0
      obtain ⟨s1, e1, _⟩ := DataW.trod_string Try.underlying9 h1
      obtain ⟨s2, e2, _⟩ := DataW.trod_string Try.underlying9 h2
      obtain ⟨z3, e3, _, w3⟩ := DataW.trod_int Try.underlying3 h3
      obtain ⟨z4, e4, _, w4⟩ := DataW.trod_int Try.underlying3 h4
      obtain ⟨al, nl, cl, l, e5, hl, hnl⟩ := open_strsO h5
      obtain ⟨ab, nb, cb, bs, e6, hb, hnb⟩ := open_bytesO h6
      cases e0; cases e1; cases e2; cases e3; cases e4; cases e5; cases e6
      exact ⟨⟨z0, z3, z4, s1.data.toList, s2.data.toList, l, bs⟩, al, ab, nl, cl, nb, cb, rfl, hl, hb, hnl, hnb, i64_wfO w0, i64_wfO w3, i64_wfO w4⟩
end Go.Proofs.Ytalfdcfcaamnbaa
namespace Go.Proofs.Ytalfdcfcaamnbaa
set_option linter.unusedVariables false
set_option linter.unusedSimpArgs false
open Go.ChangeShapes Go.WideShapes Go.ChangeAt Go.RowKit Hp
set_option maxRecDepth 100000 in
theorem orderBack_lifted (os : Os) (started : os.Started) (H : Type) (enc : TypeId × Value → H) :
    ReturnsInHanded {} Try.checked os 7 .any (Rows.orderBackSpec.pre6 enc Try.prog Try.f7 Rows.orderBackRow.domain false) (Rows.orderBackSpec.post enc Try.prog Try.f7 false true false false) := by
  refine returnsInHanded_of_change (C := Try.checked) own started (by kernel_rfl) Try.func7
    (ChangeSpec.witness6 (enc := enc) (C := Try.checked) false ⟨#[], #[.agg #[.int .i64 0, .string ⟨#[]⟩, .string ⟨#[]⟩, .int .i64 0, .int .i64 0, .slice none 0 0, .slice none 0 0], .slice none 0 0], []⟩ 8 (by kernel_rfl) (by kernel_rfl) (by kernel_rfl) (by kernel_rfl)) ?_
  intro W base args ds gs before hval0 hW hcnd _
  have hval : ∀ (j : Nat) t v, Try.f7.params[j]? = some t → args[j]? = some v → Value.okWide Try.prog W .any base t v := hval0
  have hW' := hW
  obtain ⟨p, q, hAA0, hV, rfl, hfz, hnd⟩ := hW
  have hA : DataW.TrodAll enc Try.prog W 0 (fun _ => true) true Try.f7.params.toList args.toList ds p := hAA0
  rw [Try.params7] at hA hval
  have hk := hA
  obtain ⟨v0, v1, d0, d1, p0, p1, rfl, rfl, rfl, h0, h1⟩ := trodAll_two hA
  obtain ⟨rfl, rfl⟩ := trodVars_none hV
  obtain ⟨n0, h0⟩ := h0
  obtain ⟨o0, al0, ab0, nl0, cl0, nb0, cb0, rfl, hA0⟩ := open_order (hval 0 _ v0 rfl rfl) h0
  obtain ⟨n1, h1⟩ := h1
  obtain ⟨ao1, n1, c1, bs1, rfl, hA1, hn1⟩ := open_bytes (hval 1 _ v1 rfl rfl) h1
  clear hAA0 hval0
  simp only [List.append_nil] at hW'
  refine (oback_law o0 al0 ab0 nl0 cl0 nb0 cb0 ao1 n1 c1 bs1 W hA0.1 hA0.2.1 hA0.2.2.1 hA0.2.2.2.1 hA1 hn1 hA0.2.2.2.2.1 hA0.2.2.2.2.2.1 hA0.2.2.2.2.2.2).mono fun e W' ⟨he, hg⟩ => ?_
  subst he
  exact ⟨_, rfl, post_of_kept (pv := []) hW' (fun _ _ _ => (trodAll_cons_mk (shut_bool Try.underlying4 _) trodAll_mk0)) (fun sp hsp => by
      rw [Try.params7]
      exact args_kept (by decide) hk hg.below (fun p hp => hW'.lt p hp) sp hsp) (fun _ _ => rfl) (by simp)
    (hg.below.frame _)⟩
theorem orderBack_over : Rows.orderBackRow.holds Try.pinned (OpenSpec.ofChange Rows.orderBackSpec) :=
  OpenClaim.holds_of_wide 7 Try.f7 rfl rfl rfl rfl rfl rfl rfl ⟨rfl, rfl, rfl, rfl, rfl⟩ rfl rfl rfl rfl rfl (by kernel_rfl) Try.func7 (by kernel_rfl)
    (of_decide_eq_true (by kernel_rfl)) (by unfold Func.isWrapper; first | (rw [if_pos (by decide +kernel)]; kernel_rfl) | (rw [if_neg (by decide +kernel)]; exact ⟨rfl, rfl⟩))
    (fun os started H enc _ => orderBack_lifted os started H enc)

theorem orderBack_proved : Rows.OrderBackSaid :=
  orderBack_over
end Go.Proofs.Ytalfdcfcaamnbaa
