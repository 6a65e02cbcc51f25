import Derived.Test.YtmdfbdfijnmhkaaGreatJMirrorScripth
import Derived.Test.YtmdfbdfijnmhkaaGreatJMirrorScripte
import Derived.Test.YtmdfbdfijnmhkaaGreatJMirrorScripta
import Derived.Test.YtmdfbdfijnmhkaaGreatJMirrorScriptd
namespace Go.Proofs.YtmdfbdfijnmhkaaGreat
set_option linter.unusedVariables false
set_option linter.unusedSimpArgs false
set_option maxRecDepth 100000
set_option maxHeartbeats 8000000
section
open Go.RowKit Hp
attribute [local irreducible] Go.Calls Go.wpList
def SR.cells (s : SR) : List Value := [.int .i64 s.good, .int .i64 s.he, .int .i64 s.bad, .int .i64 s.lost]
theorem lies_dev {m : MV} {l : List (Int × Int)} (h : m.lies l = true) {k : Nat} (hk : k < l.length) : (l.getD k (0, 0)).1 ≠ -1 := by
 unfold MV.lies at h; rw [List.all_eq_true] at h; have := h _ (List.getElem_mem hk); rw [in_parts] at this; have h2 := of_decide_eq_true this; rw [List.getD_eq_getElem?_getD, List.getElem?_eq_getElem hk]; show (l[k]).1 ≠ -1; omega
theorem ask_lies {m : MV} {p : PV} (h : m.askE p = 0) : m.lies p.l = true := by
 unfold MV.askE at h; split at h
 ·rename_i h1
  exact (Bool.and_eq_true_iff.1 h1).2
 ·cases h
section
attribute [local go_sem ↓] loadedBs8 loadedAs8
attribute [local go_sem] Oper.semAt_some
section
variable {w0 w : World} {M : List Nat} {R : List HA} {gm ga : Nat} {x : GA} {m : MV} {N : Nat} (hS : St w0 M w (mP gm ga x m ++ R)) (hg : MGood m N) (ao : Option Addr) (n c : Nat) (l : List (Int × Int)) (b v : Int) (S : List UInt8) (hL : L32 S) (hn : l.length = n) (hA : ∀ w, St w0 M w R → Rd w (.slice ao n c) 2 n (yu l)) (hN : N + 2 * n ≤ 900000)
include hS hg ao n c l b v S hL hn hA hN
theorem scan_odd (h1 : m.askE (yq ao n c l b v S) ≠ 0) :
  Calls Tryz.prog 27 #[PM gm, .agg (yd (.slice ao n c) b v S).toArray] w fun e w' => ∃ x', e = .returned (.tuple #[.agg (List.toArray (m.scan (yq ao n c l b v S)).cells), .int .i64 (m.scan (yq ao n c l b v S)).er]) ∧ St w0 M w' (mP gm ga x' (m.scan (yq ao n c l b v S)).m ++ R) := by
 have _ := hN; have hr : m.scan (yq ao n c l b v S) = ⟨m.askE (yq ao n c l b v S), 0, 0, 0, 0, m⟩ := by unfold MV.scan; rw [if_pos h1]
 rw [hr]; have hst := hS; have HG := ya hg; have HL := ya hL; have Hn := ya hn; have HA := ya hA; obtain ⟨E, hE⟩ : ∃ E, E = m.askE (yq ao n c l b v S) := ⟨_, rfl⟩; rw [← hE] at h1 ⊢; have HAS : Hid (m.askE ⟨.slice ao n c, l, b, v, S⟩ = E) := ya hE.symm; have d1 : (E != 0) = true := by simpa using h1
 clear hS hg hL hn hA hr hE h1; unfold PM; go_enter Tryz.func27, Tryz.ntmps27; go_wp2_with (first | (refine zj hst fun g3 w1 hst1 => ?_; clear hst) | (refine yN (T := 59) hst1 fun g4 w2 hst2 => ?_; clear hst1) | (refine yN (T := 37) hst2 fun g5 w3 hst3 => ?_; clear hst2) | (refine jl (yl (yd (.slice ao n c) b v S) [_, _] hst3 (yo HL.out _ _ _) (yz _ _ _ _)) ?_) | (go_at_call 41; refine (ql (zw (St.perm hst3 (List.perm_append_comm_assoc [_, _, _] (mP gm ga x m) R)) HG.out.sc.ok.d0) ao n c l b v S HL.out (HA.out _ (St.sub hst3 (.cons _ (.cons _ (.cons _ zA))))) Hn.out).mono ?_; rw [HAS]; rintro _ w4 ⟨rfl, h4⟩; replace hst3 := St.call0 hst3 h4; clear h4) | (refine jP rfl rfl ?_) | (refine ji [_] hst3 fun _ hst6 => ?_; clear hst3) | (refine ye [] hst6 rfl rfl rfl (v := .int _ _) rfl rfl rfl ?_ ?_; (exact Nat.le_refl _); intro _ hst7; clear hst6)); have l1 := yl (P := Tryz.prog) (T := 59) (off := 0) [.int .i64 0, .int .i64 0, .int .i64 0, .int .i64 0] [_] hst7 rfl rfl; have l2 := Loads.at (P := Tryz.prog) (T := 37) (off := 0) [] hst7 rfl; refine bodyPost_ret (yaS rfl rfl rfl l1 l2) rfl ⟨x, rfl, St.sub hst7 (.cons _ (.cons _ (.cons _ (List.Sublist.refl _))))⟩
theorem scan_ok (h1 : m.askE (yq ao n c l b v S) = 0) :
  Calls Tryz.prog 27 #[PM gm, .agg (yd (.slice ao n c) b v S).toArray] w fun e w' => ∃ x', e = .returned (.tuple #[.agg (List.toArray (m.scan (yq ao n c l b v S)).cells), .int .i64 (m.scan (yq ao n c l b v S)).er]) ∧ St w0 M w' (mP gm ga x' (m.scan (yq ao n c l b v S)).m ++ R) := by
 obtain ⟨F, hF⟩ : ∃ F, F = l.foldl (CR.next S) (c0of m) := ⟨_, rfl⟩; have hlook : m.look (yq ao n c l b v S) = F := hF.symm; have hr : m.scan (yq ao n c l b v S) = if F.out then ⟨10, 0, 0, 0, 0, F.m⟩ else ⟨0, F.good, F.mend.he, F.mend.bad, F.lost, F.mend.m⟩ := by
  unfold MV.scan; rw [if_neg (by rw [h1]; decide), hlook]
 rw [hr]; obtain ⟨RES, hRES⟩ : ∃ RES : SR, RES = if F.out then ⟨10, 0, 0, 0, 0, F.m⟩ else ⟨0, F.good, F.mend.he, F.mend.bad, F.lost, F.mend.m⟩ := ⟨_, rfl⟩
 rw [← hRES]; have HRES := ya hRES; have hst := hS; have HG := ya hg; have HL := ya hL; have Hn := ya hn; have HA := ya hA; have HAS : Hid (m.askE ⟨.slice ao n c, l, b, v, S⟩ = 0) := ya h1; have HF := ya hF; have HLI : Hid (m.lies l = true) := ya (ask_lies h1); clear hS hg hL hn hA hr h1 hlook hF hRES; refine (callsIn_wide (n := 5)).1 ?_; refine callsIn_of_wp_marks Tryz.func27 rfl trivial ?_ rfl; simp only [PM, Tryz.ntmps27, List.size_toArray, List.length_cons, List.length_nil, Nat.reduceAdd, Nat.reduceSub, Array.replicate_succ, Array.replicate_zero, List.push_toArray, List.append_toArray, List.nil_append, List.cons_append]; refine wpIn_wide.2 ?_; go_wp2_with (first | (refine zj hst fun g3 w1 hst1 => ?_; clear hst) | (refine yN (T := 59) hst1 fun g4 w2 hst2 => ?_; clear hst1) | (refine yN (T := 37) hst2 fun g5 w3 hst3 => ?_; clear hst2) | (refine jl (yl (yd (.slice ao n c) b v S) [_, _] hst3 (yo HL.out _ _ _) (yz _ _ _ _)) ?_) | (refine jl (yl (yd (.slice ao n c) b v S) [_, _, _, _, _] hst6 (yo HL.out _ _ _) (yz _ _ _ _)) ?_) | (go_at_call 41; refine (ql (zw (St.perm hst3 (List.perm_append_comm_assoc [_, _, _] (mP gm ga x m) R)) HG.out.sc.ok.d0) ao n c l b v S HL.out (HA.out _ (St.sub hst3 (.cons _ (.cons _ (.cons _ zA))))) Hn.out).mono ?_; rw [HAS]; rintro _ w4 ⟨rfl, h4⟩; replace hst3 := St.call0 hst3 h4; clear h4) | (refine yN (T := 59) hst3 fun g7 w5 hst4 => ?_; clear hst3) | (refine yN (T := 30) hst4 fun g8 w6 hst5 => ?_; clear hst4) | (refine yN (T := 28) hst5 fun g9 w7 hst6 => ?_; clear hst5) | (go_at_call 68; refine (copies_any hst6 gm (-1) ao n c b v S).mono ?_; rintro _ w8 ⟨q3, q4, q5, rfl, h4⟩; have hst7 := h4; clear h4 hst6)); have hst9 : St w0 M w8 (mP gm ga x m ++ (bxP q3 q4 q5 gm (-1) (yd (.slice ao n c) b v S) ++ sX g9 g8 g7 g5 g4 g3 (yd (.slice ao n c) b v S) R (.slice none 0 0) (.slice none 0 0) (c0of m))) := by
  have e1 := qo yP 5 1 (jY 83 2 hst7); refine St.perm e1 ?_; have p1 := List.perm_append_comm_assoc [Hp.HA.rowP yP (.slice none 0 0) 5 1 0 [], .row (.slice none 0 0) 83 2 0 []] (bxP q3 q4 q5 gm (-1) (yd (.slice ao n c) b v S)) (.blk g9 28 [.slice none 0 0] :: .blk g8 30 [.slice none 0 0] :: .blk g7 59 [.int .i64 0, .int .i64 0, .int .i64 0, .int .i64 0] :: .blk g5 37 [.int .i64 0] :: .blk g4 59 [.int .i64 0, .int .i64 0, .int .i64 0, .int .i64 0] :: .blk g3 34 (yd (.slice ao n c) b v S) :: (mP gm ga x m ++ R)); refine p1.trans ?_; refine (List.Perm.append_left _ ((List.Perm.swap _ _ _).trans (List.Perm.cons _ (List.Perm.swap _ _ _)))).trans ?_; exact List.perm_append_comm_assoc (bxP q3 q4 q5 gm (-1) (yd (.slice ao n c) b v S) ++ [.row (.slice none 0 0) 83 2 0 [], .blk g9 28 [.slice none 0 0], .rowP yP (.slice none 0 0) 5 1 0 [], .blk g8 30 [.slice none 0 0], .blk g7 59 [.int .i64 0, .int .i64 0, .int .i64 0, .int .i64 0], .blk g5 37 [.int .i64 0], .blk g4 59 [.int .i64 0, .int .i64 0, .int .i64 0, .int .i64 0], .blk g3 34 (yd (.slice ao n c) b v S)]) (mP gm ga x m) R
 clear hst7; have HSZ := ya hst9.size; have hI0 : cI w0 M gm ga x (bxP q3 q4 q5 gm (-1) (yd (.slice ao n c) b v S)) l N (sXp g9 g8 g7 g5 g4 g3 (yd (.slice ao n c) b v S) R S l (c0of m)) (0, m) w8 := ⟨Nat.zero_le _, HG.out, _, ⟨_, _, c0of m, ⟨Nat.zero_le _, Nat.zero_le _, Nat.zero_le _⟩, rfl, rfl, rfl, rfl⟩, hst9⟩; clear hst9; refine wp_rangeM 24 25 (gf := 117) rfl (enters_of Tryz.func117 (by kernel_rfl) rfl) (enc := fun y => cE l S y) _ _ (sB w0 M gm ga x (bxP q3 q4 q5 gm (-1) (yd (.slice ao n c) b v S)) l (-1) S N (sXp g9 g8 g7 g5 g4 g3 (yd (.slice ao n c) b v S) R S l (c0of m))) (sIx w0 M gm ga x g5 g4 R F) _ _ _
  (copies1_seq l ao n c b v S (-1) N m HL.out Hn.out (by omega) (sXp g9 g8 g7 g5 g4 g3 (yd (.slice ao n c) b v S) R S l (c0of m)) ?rd ?skip) ?ownI ?ownB ?ownX hI0 ?assign ?body ?done ?stop
 case rd =>
  rintro k m' X W ⟨wv, bv, cc, _, _, _, _, rfl⟩ hst; exact HA.out W (St.sub hst (.cons _ (.cons _ (.cons _ (.cons _ (.cons _ (.cons _ (.cons _ (.cons _ (List.Sublist.refl _))))))))))
 case skip =>
  rintro k m' X hk he _; exact absurd he (lies_dev HLI.out (by rw [Hn]; exact hk))
 case ownI =>
  rintro s A B row ⟨h1, h2, X, hX, hst⟩ hg hr; exact ⟨h1, h2, X, hX, qD HSZ.out hst hg hr⟩
 case ownB =>
  rintro y a' _ A B row ⟨g10, g11, h0, h1, h2, h3, X, hX, hst⟩ hg hr; exact ⟨g10, g11, h0, h1, h2, h3, X, hX, qD HSZ.out hst hg hr⟩
 case ownX =>
  rintro cc A B row ⟨h1, h2, hst⟩ hg hr; exact ⟨h1, h2, qD HSZ.out hst hg hr⟩
 case assign =>
  rintro lq y W K ⟨h1, h2, h3, X, hX, hst⟩ hK; have hs := hst.selfM; have HK := ya hK; have HX := ya hX; have HST := ya hst; clear hK hX hst hI0; obtain ⟨V1, hV1⟩ : ∃ V1, V1 = cE l S y := ⟨_, rfl⟩; have e1 : V1.1 = .agg (List.toArray [.int .i64 (y.pl l).1, .int .i64 (y.pl l).2]) := by rw [hV1]; rfl
  have e2 : V1.2 = .agg (List.toArray [.int .i64 (y.m.kind (y.pl l).1 (y.pl l).2 S), y.v]) := by rw [hV1]; rfl
  have HV1 := ya hV1; rw [← hV1]; clear hV1; obtain ⟨v1, hv1⟩ : ∃ v1, v1 = V1.1 := ⟨_, rfl⟩; obtain ⟨v2, hv2⟩ : ∃ v2, v2 = V1.2 := ⟨_, rfl⟩; rw [← hv1, ← hv2]; have E1 := ya (hv1.trans e1); have E2 := ya (hv2.trans e2); have HV2 := ya (show V1 = (v1, v2) by rw [hv1, hv2]); clear e1 e2 hv1 hv2; have hone : Hid (y.v.oneCell' = true ∧ y.v.cells.size = 1) := ya (by
   obtain ⟨ua, uc, hu⟩ := St.rowPSlice [] HST.out; rw [hu]; exact ⟨rfl, rfl⟩)
  simp only [List.setIfInBounds_toArray, List.set_cons_zero, List.set_cons_succ]
  gi_upto_region 8 with (fail)
  apply wpIn_region_lit; refine jb rfl ?_; go_wp2_with (first | (refine yN (T := 83) hs fun g10 w1 hs1 => ?_; clear hs) | (refine yx [] hs1 rfl rfl rfl E1.out rfl rfl rfl ?_; intro w2 hs2; clear hs1)); refine jp ?_
  gi_upto_region 9 with (fail)
  apply wpIn_region_lit; refine jb rfl ?_; go_wp2_with (first | (refine yN (T := 128) hs2 fun g11 w3 hs3 => ?_; clear hs2) | (refine yx [] hs3 rfl rfl rfl E2.out rfl (by simp [List.all, hone.out.1]; rfl) rfl ?_; intro w4 hs4; clear hs3)); refine jp ?_; gi_wp2; refine HK.out _ _ (zP HST.out hs4) ⟨g10, g11, ?_, h1, h2, h3, X, HX.out, zm HST.out hs4⟩; rw [← HV1, HV2]; simp only [List.setIfInBounds_toArray, List.set_cons_zero, List.set_cons_succ]
 case body =>
  rintro lq ⟨yk, ym, yv⟩ a' W ⟨g10, g11, rfl, h1, h2, h3, X, ⟨wv, bv, ⟨gd, lo, ill, cb, cm, co⟩, ⟨hb1, hb2, hb3⟩, hcf, hco, hcm, rfl⟩, hst⟩; unfold YV.pl at h2; dsimp only at h1 h2 h3 hb1 hb2 hb3 hco hcm; subst hcm hco; obtain ⟨⟨wa, wc, rfl⟩, ba, bc, rfl⟩ := mbytes_slice (A := [_, _, _]) (P := mP gm ga x _) (B := bxP q3 q4 q5 gm (-1) (yd (.slice ao n c) b v S)) hst; have hls := look_succ (S := S) (c := c0of m) h1; rw [← hcf] at hls; obtain ⟨z, hz⟩ : ∃ z, z = l.getD yk (0, 0) := ⟨_, rfl⟩; have HZ := ya hz; have HKL := ya h1; have HST := ya hst; have HCF := ya hcf; have HB3 := ya (show gd ≤ yk ∧ lo ≤ yk ∧ ill.length ≤ yk from ⟨hb1, hb2, hb3⟩); have HNX := ya (h3.looked z.1 z.2 S); have HLS := ya hls; obtain ⟨V1, hV1⟩ : ∃ V1, V1 = cE l S ⟨yk, cm, yv⟩ := ⟨_, rfl⟩; rw [← hV1]; have hs := St.perm hst.selfM (pull4 [_, _, _] (mP gm ga x _) (bxP q3 q4 q5 gm (-1) (yd (.slice ao n c) b v S)) (sX g9 g8 g7 g5 g4 g3 (yd (.slice ao n c) b v S) [] (.slice wa ill.length wc) (.slice ba cb.length bc) ⟨gd, lo, ill, cb, cm, false⟩) R); change St W _ W (.row (.slice wa ill.length wc) 83 2 ill.length (yu ill) :: .blk g9 28 [.slice ba cb.length bc] :: .rowP yP (.slice ba cb.length bc) 5 1 cb.length (yb cb) :: .blk g8 30 [.slice wa ill.length wc] :: .blk g7 59 [.int .i64 (gd : Int), .int .i64 0, .int .i64 0, .int .i64 (lo : Int)] :: .blk g5 37 [.int .i64 0] :: .blk g4 59 [.int .i64 0, .int .i64 0, .int .i64 0, .int .i64 0] :: .blk g3 34 (yd (.slice ao n c) b v S) :: (.blk g11 128 [.int .i64 (cm.kind (l.getD yk (0, 0)).1 (l.getD yk (0, 0)).2 S), yv] :: .blk g10 83 [.int .i64 (l.getD yk (0, 0)).1, .int .i64 (l.getD yk (0, 0)).2] :: .rowP yP yv 5 1 (cm.lookB (l.getD yk (0, 0)).1 (l.getD yk (0, 0)).2 S).length (yb (cm.lookB (l.getD yk (0, 0)).1 (l.getD yk (0, 0)).2 S)) :: (mP gm ga x (cm.looked (l.getD yk (0, 0)).1 (l.getD yk (0, 0)).2 S) ++ (bxP q3 q4 q5 gm (-1) (yd (.slice ao n c) b v S) ++ R)))) at hs; rw [← hz] at hs; obtain ⟨ua, uc, rfl⟩ := St.rowPSlice [_, _, _, _, _, _, _, _, _, _] hs; have c11 : W.cell? ⟨g11, 0, none⟩ = some (.int .i64 (cm.kind z.1 z.2 S)) := hs.cell (T := 128) (cs := [.int .i64 (cm.kind z.1 z.2 S), .slice ua (cm.lookB z.1 z.2 S).length uc]) (zT (zT (zT (zT (zT (zT (zT (zT zH)))))))) rfl; have hgd : gd ≤ 900000 := by have := Hn.out; omega
  have hlo : lo ≤ 900000 := by have := Hn.out; omega
  clear hz h1 h2 h3 hb1 hb2 hb3 hcf hst hV1 hI0 hls; simp only [List.setIfInBounds_toArray, List.set_cons_zero, List.set_cons_succ]; rcases kind_ways cm z.1 z.2 S with hk | hk | hk | hk
  ·rw [hk] at hs c11; have HC9 := ya (show CR.next S ⟨gd, lo, ill, cb, cm, false⟩ z = ⟨gd + 1, lo, ill, if gd = 0 then cm.lookB z.1 z.2 S else cb, cm.looked z.1 z.2 S, false⟩ by unfold CR.next; rw [if_neg Bool.false_ne_true, if_pos hk]); clear hk; by_cases h0 : gd = 0
   ·subst h0; rw [if_pos rfl] at HC9; rw [show ((0 : Nat) : Int) = 0 from rfl] at hs
    gi_upto_region 12 with (fail)
    apply wpIn_region_lit; refine jb rfl ?_; go_wp2_with (first | (refine jl (Loads.at [_, _, _, _] hs rfl) ?_) | (refine ye [_, _, _, _] hs rfl rfl rfl (off := 0) (v := .int .i64 1) rfl rfl rfl ?_ ?_; (show (0 : Nat) + 1 ≤ 4; decide); intro _ hs2; clear hs)); refine jp ?_
    gi_upto_region 13 with (fail)
    apply wpIn_region_lit; refine jb rfl ?_; go_wp2_with (first | (refine jl (Loads.at [_, _, _, _] hs2 rfl) ?_)); refine jp ?_
    gi_upto_region 14 with (fail)
    apply wpIn_region_lit; refine jb rfl ?_; go_wp2_with (first | (refine jl (Loads.at [_, _, _, _, _, _, _, _] hs2 rfl) ?_) | (refine ye [_] hs2 rfl rfl rfl (off := 0) (v := .slice _ _ _) rfl rfl rfl ?_ ?_; (show (0 : Nat) + 1 ≤ 1; decide); intro _ hs3; clear hs2)); refine jp ?_; gi_wp2; refine ⟨zP HST.out hs3, (yk + 1, cm.looked z.1 z.2 S), by unfold cN YV.next YV.pl; dsimp only; rw [← HZ], by show yk + 1 ≤ _; have := HKL.out; omega, HNX.out, _, ⟨.slice wa ill.length wc, .slice ua (cm.lookB z.1 z.2 S).length uc, ⟨1, lo, ill, cm.lookB z.1 z.2 S, cm.looked z.1 z.2 S, false⟩, ⟨by have := HB3.out; dsimp only; omega, by have := HB3.out; dsimp only; omega, by have := HB3.out; dsimp only; omega⟩, (by rw [HLS, ← HZ, HC9]), rfl, rfl, rfl⟩, ?_⟩; exact s_new (zm HST.out hs3)
   ·rw [if_neg h0] at HC9; have z1 : IntKind.i64.wrap ((gd : Int) + 1) = (gd : Int) + 1 := IntWalk.i64_in _ (by omega); have e1 : ((gd : Int) + 1 == 1) = false := by simp; omega
    clear h0
    gi_upto_region 12 with (fail)
    apply wpIn_region_lit; refine jb rfl ?_; go_wp2_with (first | (refine jl (Loads.at [_, _, _, _] hs rfl) ?_) | (refine ye [_, _, _, _] hs rfl rfl rfl (off := 0) (v := .int .i64 ((gd : Int) + 1)) rfl rfl rfl ?_ ?_; (show (0 : Nat) + 1 ≤ 4; decide); intro _ hs2; clear hs)); refine jp ?_
    gi_upto_region 13 with (fail)
    apply wpIn_region_lit; refine jb rfl ?_; go_wp2_with (first | (refine jl (Loads.at [_, _, _, _] hs2 rfl) ?_)); refine jp ?_; gi_wp2; refine ⟨zP HST.out hs2, (yk + 1, cm.looked z.1 z.2 S), by unfold cN YV.next YV.pl; dsimp only; rw [← HZ], by show yk + 1 ≤ _; have := HKL.out; omega, HNX.out, _, ⟨.slice wa ill.length wc, .slice ba cb.length bc, ⟨gd + 1, lo, ill, cb, cm.looked z.1 z.2 S, false⟩, ⟨by have := HB3.out; dsimp only; omega, by have := HB3.out; dsimp only; omega, by have := HB3.out; dsimp only; omega⟩, (by rw [HLS, ← HZ, HC9]), rfl, rfl, rfl⟩, ?_⟩; exact s_back (T := [_, _, _]) (zm HST.out hs2)
  ·rw [hk] at hs c11; have HC9 := ya (show CR.next S ⟨gd, lo, ill, cb, cm, false⟩ z = ⟨gd, lo, ill ++ [z], cb, cm.looked z.1 z.2 S, false⟩ by unfold CR.next; rw [if_neg Bool.false_ne_true, if_neg (by rw [hk]; decide), if_pos hk]); clear hk
   gi_upto_region 16 with (fail)
   apply wpIn_region_lit; refine jb rfl ?_; go_wp2_with (first | (refine jl (Loads.at [_, _, _] hs rfl) ?_) | (refine jl (yl [.int .i64 z.1, .int .i64 z.2] [_, _, _, _, _, _, _, _, _] hs rfl rfl) ?_) | (refine za [.agg (List.toArray [.int .i64 z.1, .int .i64 z.2])] [.int .i64 z.1, .int .i64 z.2] hs (h:=fun g12 w2 hs2 => ?_); clear hs) | (refine jf [_] hs2 (hr:=j3 hs2 rfl (by decide)) (hb:=by have := HB3.out; have := HKL.out; have := Hn.out; unfold maxLen; omega) (h:=fun v1 w3 hs3 _ => ?_); clear hs2; obtain ⟨a4, c4, rfl⟩ := yZ [_] hs3) | (refine ye [_, _, _, _] hs3 rfl rfl rfl (off := 0) (v := .slice _ _ _) rfl rfl rfl ?_ ?_; (show (0 : Nat) + 1 ≤ 1; decide); intro _ hs4; clear hs3)); refine jp ?_; gi_wp2; refine ⟨zP HST.out hs4, (yk + 1, cm.looked z.1 z.2 S), by unfold cN YV.next YV.pl; dsimp only; rw [← HZ], by show yk + 1 ≤ _; have := HKL.out; omega, HNX.out, _, ⟨.slice a4 (ill.length + 1) c4, .slice ba cb.length bc, ⟨gd, lo, ill ++ [z], cb, cm.looked z.1 z.2 S, false⟩, ⟨by have := HB3.out; simp only [List.length_append, List.length_singleton]; omega, by have := HB3.out; simp only [List.length_append, List.length_singleton]; omega, by have := HB3.out; simp only [List.length_append, List.length_singleton]; omega⟩, (by rw [HLS, ← HZ, HC9]), rfl, rfl, rfl⟩, ?_⟩; have h8 := zm HST.out hs4; have h9 := s_back (T := [_, _, _]) (P := mP gm ga x (cm.looked z.1 z.2 S)) (B := bxP q3 q4 q5 gm (-1) (yd (.slice ao n c) b v S)) (R := R) (ze h8); unfold sX; dsimp only; rw [yaV, List.length_append]; exact h9
  ·rw [hk] at hs c11; have HC9 := ya (show CR.next S ⟨gd, lo, ill, cb, cm, false⟩ z = ⟨gd, lo + 1, ill, cb, cm.looked z.1 z.2 S, false⟩ by unfold CR.next; rw [if_neg Bool.false_ne_true, if_neg (by rw [hk]; decide), if_neg (by rw [hk]; decide), if_pos hk]); clear hk; have z1 : IntKind.i64.wrap ((lo : Int) + 1) = (lo : Int) + 1 := IntWalk.i64_in _ (by omega)
   gi_upto_region 18 with (fail)
   apply wpIn_region_lit; refine jb rfl ?_; go_wp2_with (first | (refine jl (Loads.at [_, _, _, _] hs rfl) ?_) | (refine ye [_, _, _, _] hs rfl rfl rfl (off := 3) (v := .int .i64 ((lo : Int) + 1)) rfl rfl rfl ?_ ?_; (show (3 : Nat) + 1 ≤ 4; decide); intro _ hs2; clear hs)); refine jp ?_; gi_wp2; refine ⟨zP HST.out hs2, (yk + 1, cm.looked z.1 z.2 S), by unfold cN YV.next YV.pl; dsimp only; rw [← HZ], by show yk + 1 ≤ _; have := HKL.out; omega, HNX.out, _, ⟨.slice wa ill.length wc, .slice ba cb.length bc, ⟨gd, lo + 1, ill, cb, cm.looked z.1 z.2 S, false⟩, ⟨by have := HB3.out; dsimp only; omega, by have := HB3.out; dsimp only; omega, by have := HB3.out; dsimp only; omega⟩, (by rw [HLS, ← HZ, HC9]), rfl, rfl, rfl⟩, ?_⟩; exact s_back (T := [_, _, _]) (zm HST.out hs2)
  ·rw [hk] at hs c11; have HC9 := ya (show CR.next S ⟨gd, lo, ill, cb, cm, false⟩ z = ⟨gd, lo, ill, cb, cm.looked z.1 z.2 S, true⟩ by unfold CR.next; rw [if_neg Bool.false_ne_true, if_neg (by rw [hk]; decide), if_neg (by rw [hk]; decide), if_neg (by rw [hk]; decide)]); clear hk; have HFE := ya (show F = ⟨gd, lo, ill, cb, cm.looked z.1 z.2 S, true⟩ by
    have hw := scan_stop (S := S) (c := c0of m) HKL.out (by rw [← HCF, ← HZ, HC9]); rw [HF, hw, ← HCF, ← HZ, HC9])
   gi_upto_region 20 with (fail)
   apply wpIn_region_lit; refine jb rfl ?_; go_wp2_with (first | (refine jP rfl rfl ?_) | (refine ji [_, _, _, _, _, _] hs fun _ hs2 => ?_; clear hs) | (refine ye [_, _, _, _, _] hs2 rfl rfl rfl (off := 0) (v := .int _ _) rfl rfl rfl ?_ ?_; (show (0 : Nat) + 1 ≤ 1; decide); intro _ hs3; clear hs2)); refine jp ?_; gi_wp2; exact ⟨zP HST.out hs3, rfl, by rw [HFE], by rw [HFE]; exact s_out (T := [_, _, _]) (zm HST.out hs3)⟩
 case done =>
  rintro D ⟨sk, sm⟩ W hD hE ⟨h1, h2, X, ⟨wv, bv, ⟨gd, lo, ill, cb, cm, co⟩, ⟨hb1, hb2, hb3⟩, hcf, hco, hcm, rfl⟩, hst⟩ hK; dsimp only at hE hb1 hb2 hb3 hco hcm h2; subst hcm hco; obtain ⟨⟨wa, wc, rfl⟩, ba, bc, rfl⟩ := mbytes_slice (A := []) (P := mP gm ga x _) (B := bxP q3 q4 q5 gm (-1) (yd (.slice ao n c) b v S)) hst; rw [hE, List.take_length] at hcf; have HFE := ya (HF.trans hcf.symm); have hs0 : St w0 M W (.row (.slice wa ill.length wc) 83 2 ill.length (yu ill) :: .blk g9 28 [.slice ba cb.length bc] :: .rowP yP (.slice ba cb.length bc) 5 1 cb.length (yb cb) :: .blk g8 30 [.slice wa ill.length wc] :: .blk g7 59 [.int .i64 (gd : Int), .int .i64 0, .int .i64 0, .int .i64 lo] :: .blk g5 37 [.int .i64 0] :: .blk g4 59 [.int .i64 0, .int .i64 0, .int .i64 0, .int .i64 0] :: .blk g3 34 (yd (.slice ao n c) b v S) ::  (mP gm ga x cm ++ R)) := by
   have h9 := St.perm hst (pull4 [] (mP gm ga x cm) (bxP q3 q4 q5 gm (-1) (yd (.slice ao n c) b v S)) (sX g9 g8 g7 g5 g4 g3 (yd (.slice ao n c) b v S) [] (.slice wa ill.length wc) (.slice ba cb.length bc) ⟨gd, lo, ill, cb, cm, false⟩) R); have h10 := St.sub h9 (List.Sublist.append_left (List.Sublist.append_left (List.Sublist.append_left (List.sublist_append_right (bxP q3 q4 q5 gm (-1) (yd (.slice ao n c) b v S)) R) (mP gm ga x cm)) []) (sX g9 g8 g7 g5 g4 g3 (yd (.slice ao n c) b v S) [] (.slice wa ill.length wc) (.slice ba cb.length bc) ⟨gd, lo, ill, cb, cm, false⟩)); exact h10
  have HG2 := ya (show MGood cm (N + n) from by rw [← Hn, ← hE]; exact h2); have HD := ya hD; have HKD := ya hK; have hcn : ill.length ≤ n := by have := Hn.out; omega
  obtain ⟨cnt, hcnt⟩ : ∃ cnt, cnt = ill.length := ⟨_, rfl⟩; have HCN := ya hcnt; rw [← hcnt] at hs0 hcn; clear hst hK hD hcf hE h1 h2 hb1 hb2 hb3 hI0 hcnt; by_cases h0 : gd = 0
  ·have HANY := ya (show decide (0 < gd) = false from zF (by omega)); have HME : Hid (F.mend = ill.foldl (HR.next false cb) ⟨0, 0, cm⟩) := ya (by rw [HFE]; unfold CR.mend; dsimp only; rw [HANY]); subst h0; rw [show ((0 : Nat) : Int) = 0 from rfl] at hs0; go_wp2_with (first | (refine jl (Loads.at [_, _, _] hs0 rfl) ?_)); go_loopw [56] (fun i wr => ∃ (k : Nat) (x' : GA) (h : HR), k ≤ cnt ∧ i = .int .i64 k ∧ Hid (h.he ≤ k ∧ h.bad ≤ k) ∧ Hid (h = (ill.take k).foldl (HR.next false cb) ⟨0, 0, cm⟩) ∧ Hid (MGood h.m (N + n + k)) ∧ Hid (wr.heap[D]? = some (.deferred (some []))) ∧ St w0 M wr (.row (.slice wa cnt wc) 83 2 cnt (yu ill) :: .blk g9 28 [.slice ba cb.length bc] :: .rowP yP (.slice ba cb.length bc) 5 1 cb.length (yb cb) :: .blk g8 30 [.slice wa cnt wc] :: .blk g7 59 [.int .i64 0, .int .i64 h.he, .int .i64 h.bad, .int .i64 lo] :: .blk g5 37 [.int .i64 0] :: .blk g4 59 [.int .i64 0, .int .i64 0, .int .i64 0, .int .i64 0] :: .blk g3 34 (yd (.slice ao n c) b v S) ::  (mP gm ga x' h.m ++ R))) (fun i _ => cnt - (intOf i).toNat)
   case atStart => exact ⟨0, x, ⟨0, 0, cm⟩, Nat.zero_le _, rfl, ya ⟨Nat.zero_le _, Nat.zero_le _⟩, ya rfl, HG2, HKD, hs0⟩
   case round =>
    clear hs0; obtain ⟨k, x1, h, hk, rfl, HB, HH, HGK, HKW, hst⟩ := hrel; by_cases hlt : k < cnt
    ·have d0 : decide ((k : Int) < (cnt : Int)) = true := zD (by omega); obtain ⟨bb, off, rfl, hr⟩ := (Rd.row hst zH).at hlt; obtain ⟨z, hz⟩ : ∃ z, z = ill.getD k (0, 0) := ⟨_, rfl⟩; have hb := z7 hr (k := k) (by rw [← HCN]; exact hlt); rw [← hz] at hb; have HAD := ya hb; have HFS := ya (fold_succ (f := HR.next false cb) (c := ⟨0, 0, cm⟩) (l := ill) (k := k) (by rw [← HCN]; exact hlt)); rw [← hz, ← HH] at HFS; have HST := ya hst; have hs := hst.selfM; have zh : IntKind.i64.wrap ((h.he : Int) + 1) = (h.he : Int) + 1 := IntWalk.i64_in _ (by have := HB.out; omega); have zb : IntKind.i64.wrap ((h.bad : Int) + 1) = (h.bad : Int) + 1 := IntWalk.i64_in _ (by have := HB.out; omega); clear hz hb hr hst; have HN9 := ya (show HR.next false cb h z = ⟨h.he, h.bad + 1, h.m⟩ from rfl); have HG3 := ya (HGK.out.mono (show N + n + k ≤ N + n + (k + 1) by omega)); go_wp2_with (first | (refine yA (hlt) ?_) | (refine jl (Loads.range (cs := [.int .i64 z.1, .int .i64 z.2]) (TyA.out (n := 2)) HAD.out) ?_) | (refine jl (Loads.at [_, _, _, _, _] hs2 rfl) ?_) | (refine jl (Loads.at [_, _, _, _, _] hs3 rfl) ?_) | (refine jl (Loads.at [_, _] hs2 rfl) ?_) | (refine jl (yl [.int .i64 z.1, .int .i64 z.2] [] hs2 rfl rfl) ?_) | (refine yN hs fun g13 w4 hs1 => ?_; clear hs) | (refine ji [] hs1 fun w5 hs2 => ?_; clear hs1) | (refine ye [_, _, _, _, _] hs2 rfl rfl rfl (off := 2) (v := .int .i64 ((h.bad : Int) + 1)) rfl rfl rfl ?_ ?_; (show (2 : Nat) + 1 ≤ 4; decide); intro _ hs4; clear hs2)); go_roundw
     case rel => exact ⟨k + 1, x1, ⟨h.he, h.bad + 1, h.m⟩, by omega, by go_num, ya (by have := HB.out; dsimp only; omega), ya (by rw [HFS, HN9]), HG3, ya ((zP HST.out hs4).same _ _ HKW.out rfl), ze (zm HST.out hs4)⟩
     case measure => simp [intOf]; omega
    ·obtain rfl : k = cnt := by omega
     have d0 : decide ((k : Int) < (k : Int)) = false := zF (by omega); have HMF : Hid (F.mend = h) := ya (by rw [HME, HH, HCN, List.take_length]); have HST := ya hst; have hs := hst.selfM; clear hst; go_wp2_with (first | (refine jl (yl (T := 59) [.int .i64 0, .int .i64 h.he, .int .i64 h.bad, .int .i64 lo] [_, _, _, _] hs rfl rfl) ?_) | (refine ji [_, _, _, _, _, _] hs fun _ hs2 => ?_; clear hs) | (refine ye [_, _, _, _, _] hs2 rfl rfl rfl (off := 0) (v := .int _ _) rfl rfl rfl ?_ ?_; (show (0 : Nat) + 1 ≤ 1; decide); intro _ hs3; clear hs2)); have hK2 := (zP HST.out hs3).same _ _ HKW.out rfl; refine ⟨by simp, .inl ⟨_, _, rfl, run_takeDeferred hK2, ?_⟩⟩; have hs7 := St.putObj (o' := .deferred none) (Nat.le_trans HSZ.out HD.out) (zm HST.out hs3) hK2 rfl; have l1 := yl (P := Tryz.prog) (T := 59) (off := 0) [.int .i64 0, .int .i64 h.he, .int .i64 h.bad, .int .i64 lo] [_, _, _, _, _, _] hs7 rfl rfl; have l2 := Loads.at (P := Tryz.prog) (T := 37) (off := 0) [_, _, _, _, _] hs7 rfl; have hres : RES = ⟨0, 0, h.he, h.bad, lo, h.m⟩ := by
      rw [HRES, HMF, HFE]; rfl
     rw [hres]; exact ⟨_, yaS rfl rfl rfl l1 l2, x1, rfl, St.sub hs7 (.cons _ (.cons _ (.cons _ (.cons _ (.cons _ (.cons _ (.cons _ (.cons _ (List.Sublist.refl _)))))))))⟩
  ·have HANY := ya (show decide (0 < gd) = true from zD (by omega)); have hpos : 0 < gd := by omega
   have d1 : decide ((gd : Int) > 0) = true := zD (by omega); have HME : Hid (F.mend = ill.foldl (HR.next true cb) ⟨0, 0, cm⟩) := ya (by rw [HFE]; unfold CR.mend; dsimp only; rw [HANY]); clear h0; go_wp2_with (first | (refine jl (Loads.at [_, _, _] hs0 rfl) ?_)); go_loopw [56] (fun i wr => ∃ (k : Nat) (x' : GA) (h : HR), k ≤ cnt ∧ i = .int .i64 k ∧ Hid (h.he ≤ k ∧ h.bad ≤ k) ∧ Hid (h = (ill.take k).foldl (HR.next true cb) ⟨0, 0, cm⟩) ∧ Hid (MGood h.m (N + n + k)) ∧ Hid (wr.heap[D]? = some (.deferred (some []))) ∧ St w0 M wr (.row (.slice wa cnt wc) 83 2 cnt (yu ill) :: .blk g9 28 [.slice ba cb.length bc] :: .rowP yP (.slice ba cb.length bc) 5 1 cb.length (yb cb) :: .blk g8 30 [.slice wa cnt wc] :: .blk g7 59 [.int .i64 (gd : Int), .int .i64 h.he, .int .i64 h.bad, .int .i64 lo] :: .blk g5 37 [.int .i64 0] :: .blk g4 59 [.int .i64 0, .int .i64 0, .int .i64 0, .int .i64 0] :: .blk g3 34 (yd (.slice ao n c) b v S) ::  (mP gm ga x' h.m ++ R))) (fun i _ => cnt - (intOf i).toNat)
   case atStart => exact ⟨0, x, ⟨0, 0, cm⟩, Nat.zero_le _, rfl, ya ⟨Nat.zero_le _, Nat.zero_le _⟩, ya rfl, HG2, HKD, hs0⟩
   case round =>
    clear hs0; obtain ⟨k, x1, h, hk, rfl, HB, HH, HGK, HKW, hst⟩ := hrel; by_cases hlt : k < cnt
    ·have d0 : decide ((k : Int) < (cnt : Int)) = true := zD (by omega); obtain ⟨bb, off, rfl, hr⟩ := (Rd.row hst zH).at hlt; obtain ⟨z, hz⟩ : ∃ z, z = ill.getD k (0, 0) := ⟨_, rfl⟩; have hb := z7 hr (k := k) (by rw [← HCN]; exact hlt); rw [← hz] at hb; have HAD := ya hb; have HFS := ya (fold_succ (f := HR.next true cb) (c := ⟨0, 0, cm⟩) (l := ill) (k := k) (by rw [← HCN]; exact hlt)); rw [← hz, ← HH] at HFS; have HST := ya hst; have hs := hst.selfM; have zh : IntKind.i64.wrap ((h.he : Int) + 1) = (h.he : Int) + 1 := IntWalk.i64_in _ (by have := HB.out; omega); have zb : IntKind.i64.wrap ((h.bad : Int) + 1) = (h.bad : Int) + 1 := IntWalk.i64_in _ (by have := HB.out; omega); clear hz hb hr hst; have HG3 := ya (HGK.out.healed z.1 z.2 cb); by_cases e0 : h.m.a.writeE z.1 z.2 cb = 0
     ·have HQ := ya (show (h.m.a.writeE z.1 z.2 cb == 0) = true from beq_iff_eq.2 e0); have HN9 := ya (show HR.next true cb h z = ⟨h.he + 1, h.bad, h.m.healed z.1 z.2 cb⟩ by unfold HR.next; rw [HQ]; rfl); clear e0; go_wp2_with (first | (refine yA (hlt) ?_) | (refine jl (Loads.range (cs := [.int .i64 z.1, .int .i64 z.2]) (TyA.out (n := 2)) HAD.out) ?_) | (refine jl (Loads.at [_, _, _, _, _] hs2 rfl) ?_) | (refine jl (Loads.at [_, _, _, _, _] hs3 rfl) ?_) | (refine jl (Loads.at [_, _] hs2 rfl) ?_) | (refine jl (yl [.int .i64 z.1, .int .i64 z.2] [] hs2 rfl rfl) ?_) | (refine yN hs fun g13 w4 hs1 => ?_; clear hs) | (refine ji [] hs1 fun w5 hs2 => ?_; clear hs1) | (go_at_call 58; have HC := heal_any (St.perm hs2 (List.perm_append_comm_assoc ([.blk g13 83 [.int .i64 z.1, .int .i64 z.2], .row (.slice (some ⟨bb, off, none⟩) cnt wc) 83 2 cnt (yu ill), .blk g9 28 [.slice ba cb.length bc], .rowP yP (.slice ba cb.length bc) 5 1 cb.length (yb cb), .blk g8 30 [.slice (some ⟨bb, off, none⟩) cnt wc], .blk g7 59 [.int .i64 (gd : Int), .int .i64 h.he, .int .i64 h.bad, .int .i64 lo], .blk g5 37 [.int .i64 0], .blk g4 59 [.int .i64 0, .int .i64 0, .int .i64 0, .int .i64 0], .blk g3 34 (yd (.slice ao n c) b v S)] : List Hp.HA) (mP gm ga x1 h.m) R)) HGK.out (by omega) z.1 z.2 ba cb.length bc cb (GB.row (zT (zT (zT zH))) rfl); rw [HQ] at HC; refine HC.mono ?_; clear HC; rintro _ w6 ⟨x2, rfl, h4⟩; have hs3 := St.perm h4 (List.perm_append_comm_assoc (mP gm ga x2 (h.m.healed z.1 z.2 cb)) ([.blk g13 83 [.int .i64 z.1, .int .i64 z.2], .row (.slice (some ⟨bb, off, none⟩) cnt wc) 83 2 cnt (yu ill), .blk g9 28 [.slice ba cb.length bc], .rowP yP (.slice ba cb.length bc) 5 1 cb.length (yb cb), .blk g8 30 [.slice (some ⟨bb, off, none⟩) cnt wc], .blk g7 59 [.int .i64 (gd : Int), .int .i64 h.he, .int .i64 h.bad, .int .i64 lo], .blk g5 37 [.int .i64 0], .blk g4 59 [.int .i64 0, .int .i64 0, .int .i64 0, .int .i64 0], .blk g3 34 (yd (.slice ao n c) b v S)] : List Hp.HA) R); clear h4 hs2) | (refine ye [_, _, _, _, _] hs3 rfl rfl rfl (off := 1) (v := .int .i64 ((h.he : Int) + 1)) rfl rfl rfl ?_ ?_; (show (1 : Nat) + 1 ≤ 4; decide); intro _ hs4; clear hs3)); go_roundw
      case rel => exact ⟨k + 1, x2, ⟨h.he + 1, h.bad, h.m.healed z.1 z.2 cb⟩, by omega, by go_num, ya (by have := HB.out; dsimp only; omega), ya (by rw [HFS, HN9]), HG3, ya ((zP HST.out hs4).same _ _ HKW.out rfl), ze (zm HST.out hs4)⟩
      case measure => simp [intOf]; omega
     ·have HQ := ya (show (h.m.a.writeE z.1 z.2 cb == 0) = false from beq_eq_false_iff_ne.2 e0); have HN9 := ya (show HR.next true cb h z = ⟨h.he, h.bad + 1, h.m.healed z.1 z.2 cb⟩ by unfold HR.next; rw [HQ]; rfl); clear e0; go_wp2_with (first | (refine yA (hlt) ?_) | (refine jl (Loads.range (cs := [.int .i64 z.1, .int .i64 z.2]) (TyA.out (n := 2)) HAD.out) ?_) | (refine jl (Loads.at [_, _, _, _, _] hs2 rfl) ?_) | (refine jl (Loads.at [_, _, _, _, _] hs3 rfl) ?_) | (refine jl (Loads.at [_, _] hs2 rfl) ?_) | (refine jl (yl [.int .i64 z.1, .int .i64 z.2] [] hs2 rfl rfl) ?_) | (refine yN hs fun g13 w4 hs1 => ?_; clear hs) | (refine ji [] hs1 fun w5 hs2 => ?_; clear hs1) | (go_at_call 58; have HC := heal_any (St.perm hs2 (List.perm_append_comm_assoc ([.blk g13 83 [.int .i64 z.1, .int .i64 z.2], .row (.slice (some ⟨bb, off, none⟩) cnt wc) 83 2 cnt (yu ill), .blk g9 28 [.slice ba cb.length bc], .rowP yP (.slice ba cb.length bc) 5 1 cb.length (yb cb), .blk g8 30 [.slice (some ⟨bb, off, none⟩) cnt wc], .blk g7 59 [.int .i64 (gd : Int), .int .i64 h.he, .int .i64 h.bad, .int .i64 lo], .blk g5 37 [.int .i64 0], .blk g4 59 [.int .i64 0, .int .i64 0, .int .i64 0, .int .i64 0], .blk g3 34 (yd (.slice ao n c) b v S)] : List Hp.HA) (mP gm ga x1 h.m) R)) HGK.out (by omega) z.1 z.2 ba cb.length bc cb (GB.row (zT (zT (zT zH))) rfl); rw [HQ] at HC; refine HC.mono ?_; clear HC; rintro _ w6 ⟨x2, rfl, h4⟩; have hs3 := St.perm h4 (List.perm_append_comm_assoc (mP gm ga x2 (h.m.healed z.1 z.2 cb)) ([.blk g13 83 [.int .i64 z.1, .int .i64 z.2], .row (.slice (some ⟨bb, off, none⟩) cnt wc) 83 2 cnt (yu ill), .blk g9 28 [.slice ba cb.length bc], .rowP yP (.slice ba cb.length bc) 5 1 cb.length (yb cb), .blk g8 30 [.slice (some ⟨bb, off, none⟩) cnt wc], .blk g7 59 [.int .i64 (gd : Int), .int .i64 h.he, .int .i64 h.bad, .int .i64 lo], .blk g5 37 [.int .i64 0], .blk g4 59 [.int .i64 0, .int .i64 0, .int .i64 0, .int .i64 0], .blk g3 34 (yd (.slice ao n c) b v S)] : List Hp.HA) R); clear h4 hs2) | (refine ye [_, _, _, _, _] hs3 rfl rfl rfl (off := 2) (v := .int .i64 ((h.bad : Int) + 1)) rfl rfl rfl ?_ ?_; (show (2 : Nat) + 1 ≤ 4; decide); intro _ hs4; clear hs3)); go_roundw
      case rel => exact ⟨k + 1, x2, ⟨h.he, h.bad + 1, h.m.healed z.1 z.2 cb⟩, by omega, by go_num, ya (by have := HB.out; dsimp only; omega), ya (by rw [HFS, HN9]), HG3, ya ((zP HST.out hs4).same _ _ HKW.out rfl), ze (zm HST.out hs4)⟩
      case measure => simp [intOf]; omega
    ·obtain rfl : k = cnt := by omega
     have d0 : decide ((k : Int) < (k : Int)) = false := zF (by omega); have HMF : Hid (F.mend = h) := ya (by rw [HME, HH, HCN, List.take_length]); have HST := ya hst; have hs := hst.selfM; clear hst; go_wp2_with (first | (refine jl (yl (T := 59) [.int .i64 (gd : Int), .int .i64 h.he, .int .i64 h.bad, .int .i64 lo] [_, _, _, _] hs rfl rfl) ?_) | (refine ji [_, _, _, _, _, _] hs fun _ hs2 => ?_; clear hs) | (refine ye [_, _, _, _, _] hs2 rfl rfl rfl (off := 0) (v := .int _ _) rfl rfl rfl ?_ ?_; (show (0 : Nat) + 1 ≤ 1; decide); intro _ hs3; clear hs2)); have hK2 := (zP HST.out hs3).same _ _ HKW.out rfl; refine ⟨by simp, .inl ⟨_, _, rfl, run_takeDeferred hK2, ?_⟩⟩; have hs7 := St.putObj (o' := .deferred none) (Nat.le_trans HSZ.out HD.out) (zm HST.out hs3) hK2 rfl; have l1 := yl (P := Tryz.prog) (T := 59) (off := 0) [.int .i64 (gd : Int), .int .i64 h.he, .int .i64 h.bad, .int .i64 lo] [_, _, _, _, _, _] hs7 rfl rfl; have l2 := Loads.at (P := Tryz.prog) (T := 37) (off := 0) [_, _, _, _, _] hs7 rfl; have hres : RES = ⟨0, gd, h.he, h.bad, lo, h.m⟩ := by
      rw [HRES, HMF, HFE]; rfl
     rw [hres]; exact ⟨_, yaS rfl rfl rfl l1 l2, x1, rfl, St.sub hs7 (.cons _ (.cons _ (.cons _ (.cons _ (.cons _ (.cons _ (.cons _ (.cons _ (List.Sublist.refl _)))))))))⟩
 case stop =>
  rintro D cc W hD ⟨rfl, hFo, hst⟩ hK; have HD := ya hD; clear hD hI0; go_wp2; refine ⟨by simp, .inl ⟨_, _, rfl, run_takeDeferred hK, ?_⟩⟩; have hs7 := St.putObj (o' := .deferred none) (Nat.le_trans HSZ.out HD.out) hst hK rfl; have l1 := yl (P := Tryz.prog) (T := 59) (off := 0) [.int .i64 0, .int .i64 0, .int .i64 0, .int .i64 0] [_] hs7 rfl rfl; have l2 := Loads.at (P := Tryz.prog) (T := 37) (off := 0) [] hs7 rfl; rw [show RES = ⟨10, 0, 0, 0, 0, F.m⟩ from HRES.trans (if_pos hFo)]; exact ⟨_, yaS rfl rfl rfl l1 l2, x, rfl, St.sub hs7 (.cons _ (.cons _ (List.Sublist.refl _)))⟩
theorem scan_any :
  Calls Tryz.prog 27 #[PM gm, .agg (yd (.slice ao n c) b v S).toArray] w fun e w' => ∃ x', e = .returned (.tuple #[.agg (List.toArray (m.scan (yq ao n c l b v S)).cells), .int .i64 (m.scan (yq ao n c l b v S)).er]) ∧ St w0 M w' (mP gm ga x' (m.scan (yq ao n c l b v S)).m ++ R) := by
 by_cases h1 : m.askE (yq ao n c l b v S) = 0
 ·exact scan_ok hS hg ao n c l b v S hL hn hA hN h1
 ·exact scan_odd hS hg ao n c l b v S hL hn hA hN h1
end
end
structure MC where
 k : Int
 dev : Int
 p : PV
 bo : Option Addr
 bn : Nat
 bc : Nat
 B : List UInt8
 x : AC
def MC.cells (y : MC) : List Value := .int .i64 y.k :: .int .i64 y.dev :: (y.p.cells ++ (.slice y.bo y.bn y.bc :: y.x.cells))
structure MC.Ok (y : MC) (w : World) : Prop where
 k : in64 y.k
 dev : in64 y.dev
 p : y.p.In w
 rb : Rd w (.slice y.bo y.bn y.bc) 1 y.bn (yb y.B)
 lb : y.B.length = y.bn
 x : y.x.Ok w
theorem MC.Ok.old {w0 w : World} {L : List HA} {y : MC} (hst : St w0 [] w L) (h : y.Ok w0) : y.Ok w := ⟨h.k, h.dev, PV.In.old hst h.p, Rd.old hst h.rb, h.lb, h.x.old hst⟩
theorem MC.len {y : MC} (h : L32 y.p.S) : y.cells.length = 45 := by
 unfold MC.cells; simp only [List.length_cons, List.length_append, PV.len h]; rfl
theorem MC.pc {y : MC} (h : L32 y.p.S) {j : Nat} {v : Value} (hj : y.p.cells[j]? = some v) : y.cells[j + 2]? = some v := by
 unfold MC.cells; rw [List.getElem?_cons_succ, List.getElem?_cons_succ, List.getElem?_append_left (List.getElem?_eq_some_iff.1 hj).1]; exact hj
theorem MC.qc {y : MC} (h : L32 y.p.S) (j : Nat) : y.cells[37 + j]? = (.slice y.bo y.bn y.bc :: y.x.cells)[j]? := by
 have e : 37 + j = 35 + j + 1 + 1 := by omega
 unfold MC.cells; rw [e, List.getElem?_cons_succ, List.getElem?_cons_succ, List.getElem?_append_right (by rw [PV.len h]; omega), PV.len h, Nat.add_sub_cancel_left]
theorem mcs_at : ∀ {xs : List MC} {k : Nat} {x : MC}, (∀ y ∈ xs, L32 y.p.S) → xs[k]? = some x → ∀ j v, x.cells[j]? = some v → (xs.flatMap MC.cells)[k * 45 + j]? = some v
 | y :: xs, 0, x, _, h, j, v, hj => by
  cases h; rw [List.flatMap_cons, Nat.zero_mul, Nat.zero_add, List.getElem?_append_left (List.getElem?_eq_some_iff.1 hj).1]; exact hj
 | y :: xs, k + 1, x, hl0, h, j, v, hj => by
  have hl : y.cells.length = 45 := MC.len (hl0 y List.mem_cons_self); rw [List.flatMap_cons, List.getElem?_append_right (by rw [hl]; omega), hl, show (k + 1) * 45 + j - 45 = k * 45 + j by omega]; exact mcs_at (fun y hy => hl0 y (List.mem_cons_of_mem _ hy)) (by simpa using h) j v hj
 | [], _, _, _, h, _, _, _ => by cases h
theorem mcs_range {w : World} {b off n c k : Nat} {xs : List MC} {x : MC} (hl : ∀ y ∈ xs, L32 y.p.S) (h : Rd w (.slice (some ⟨b, off, none⟩) n c) 45 n (xs.flatMap MC.cells)) (hk : xs[k]? = some x) : w.rangeAt b (off + k * 45) x.cells := by
 intro j v hj; have := h.range (k * 45 + j) v (mcs_at hl hk j v hj); rwa [← Nat.add_assoc] at this
def shortM (ys : List MC) (N : Nat) : Prop := N ≤ 100 ∧ ∀ y ∈ ys, y.p.l.length ≤ 20 ∧ y.bn ≤ 300 ∧ y.x.bn ≤ 300 ∧ y.x.kn ≤ 200
theorem accs_snoc (ys : List MC) (k : Nat) (x : MC) (h : ys[k]? = some x) : ((ys.take (k + 1)).map MC.x).flatMap AC.cells = ((ys.take k).map MC.x).flatMap AC.cells ++ x.x.cells := by
 obtain ⟨hk, rfl⟩ := List.getElem?_eq_some_iff.1 h; rw [List.take_succ_eq_append_getElem hk, List.map_append, List.flatMap_append]; simp
instance acE16 : TyE Tryz.prog 49 7 88 := ⟨by kernel_rfl⟩
section
theorem loadedAc (A : Addr) : loadVar 49 A = yn 49 A := rfl
attribute [local go_sem ↓] loadedAc
attribute [local irreducible] Hp.Loads
theorem longM_any (ao : Option Addr) (N c : Nat) (ys : List MC) (w : World) (hv : Rd w (.slice ao N c) 45 N (ys.flatMap MC.cells)) (hN : ys.length = N) (hy : ∀ y ∈ ys, y.Ok w) :
  Calls Tryz.prog 29 #[.slice ao N c] w fun e w' => (∃ b, e = .returned (.bool b) ∧ (b = false ↔ shortM ys N)) ∧ St w [] w' [] := by
 have hst0 := jY 49 7 (St.refl w); have HN := ya hN; have HYY := ya hy; have hb1 := hv.bd.1; have hb2 := hv.bd.2.1; clear hN hy; go_enter Tryz.func29, Tryz.ntmps29; go_wp2; go_loopw [3, 4] (fun qv q wr => ∃ k : Nat, k ≤ N ∧ k ≤ 101 ∧ q = .int .i64 k ∧ Hid (∀ j y, j < k → ys[j]? = some y → y.p.l.length ≤ 20 ∧ y.bn ≤ 300) ∧ St w [] wr [.row qv 49 7 k (((ys.take k).map MC.x).flatMap AC.cells)]) (fun _ q _ => 101 - (intOf q).toNat)
 case atStart => exact ⟨0, by omega, by omega, rfl, ya (fun j x hj => absurd hj (Nat.not_lt_zero _)), hst0⟩
 case round =>
  clear hst0; obtain ⟨k, hk, hk1, rfl, hall, hst⟩ := hrel; obtain ⟨va, vc, rfl⟩ := yZ [] hst; have HK := ya hk; by_cases hkN : k < N
  ·by_cases hk2 : k < 101
   ·obtain ⟨y, hyk⟩ : ∃ y, ys[k]? = some y := ⟨_, List.getElem?_eq_getElem (by rw [HN]; exact hkN)⟩; obtain ⟨b, off, rfl, _⟩ := hv.at hkN; have hok := HYY.out y (List.mem_of_getElem? hyk); have hra := mcs_range (fun y hy => (HYY.out y hy).p.1) hv hyk; obtain ⟨hL, po, pn, pc, he, hpr, hpl⟩ := hok.p; have h3 := ya (show w.cell? ⟨b, off + k * 45 + 2, none⟩ = some (.slice po pn pc) from by have := hra 2 _ (MC.pc hL (j := 0) rfl); rw [he] at this; exact this); have h4 := ya (show w.cell? ⟨b, off + k * 45 + 37, none⟩ = some (.slice y.bo y.bn y.bc) from hra 37 _ (MC.qc hL 0)); have h5 := ya (show w.rangeAt b (off + k * 45 + 38) y.x.cells from fun j v hj => by have := hra (38 + j) v (by rw [show 38 + j = 37 + (j + 1) by omega, MC.qc hL]; exact hj); rwa [← Nat.add_assoc] at this); have L3 : Loads Tryz.prog wr 30 ⟨b, off + k * 45 + 2, none⟩ (.slice po pn pc) := Loads.old hst h3.out; have L4 : Loads Tryz.prog wr 28 ⟨b, off + k * 45 + 37, none⟩ (.slice y.bo y.bn y.bc) := Loads.old hst h4.out; have L5 : Loads Tryz.prog wr 49 ⟨b, off + k * 45 + 38, none⟩ (.agg (List.toArray y.x.cells)) := zf hst rfl h5.out; have HYK := ya hyk; have HPL := ya hpl; have hm1 := hok.rb.bd.1; have hm2 := hok.rb.bd.2.1; have hm3 := hpr.bd.1; have hm4 := hpr.bd.2.1; have d1 : decide ((k : Int) < (N : Int)) = true := zD (by omega); have d0 : decide ((k : Int) < 101) = true := zD (by omega); clear hra hyk hok he hpr hpl; by_cases g1 : 20 < pn
    ·have d2 : decide (20 < (pn : Int)) = true := zD (by omega); go_wp2_with (first | (refine jl L3 ?_) | (refine jl L4 ?_)); go_ret; exact ⟨⟨true, rfl, ⟨fun h => (by cases h), fun h => by have := (h.2 y (List.mem_of_getElem? HYK.out)).1; have := HPL.out; omega⟩⟩, hst.nil⟩
    ·have d2 : decide (20 < (pn : Int)) = false := zF (by omega); by_cases g2 : 300 < y.bn
     ·have d3 : decide (300 < (y.bn : Int)) = true := zD (by omega); go_wp2_with (first | (refine jl L3 ?_) | (refine jl L4 ?_)); go_ret; exact ⟨⟨true, rfl, ⟨fun h => (by cases h), fun h => by have := (h.2 y (List.mem_of_getElem? HYK.out)).2.1; omega⟩⟩, hst.nil⟩
     ·have d3 : decide (300 < (y.bn : Int)) = false := zF (by omega); have z1 : IntKind.i64.wrap ((k : Int) + 1) = (k : Int) + 1 := IntWalk.i64_in _ (by omega); go_wp2_with (first | (refine jl L3 ?_) | (refine jl L4 ?_) | (refine jl L5 ?_) | (refine za [.agg (List.toArray y.x.cells)] y.x.cells hst (h:=fun g12 w2 hs2 => ?_); clear hst) | (refine jf [_] hs2 (hr:=j3 hs2 rfl (by decide)) (hb:=by unfold maxLen; omega) (h:=fun v1 w3 hs3 _ => ?_); clear hs2; obtain ⟨a4, c4, rfl⟩ := yZ [_] hs3)); go_roundw
      case rel =>
       refine ⟨k + 1, by omega, by omega, rfl, ya (fun j z hj hz => ?_), ?_⟩
       ·rcases Nat.lt_or_ge j k with h9 | h9
        ·exact hall.out j z h9 hz
        ·obtain rfl : j = k := by omega
         rw [HYK] at hz; cases hz; exact ⟨by rw [HPL]; omega, by omega⟩
       ·rw [accs_snoc ys k y HYK.out]; exact ze hs3
      case measure => simp [intOf]; omega
   ·have d1 : decide ((k : Int) < (N : Int)) = true := zD (by omega); have d0 : decide ((k : Int) < 101) = false := zF (by omega); go_wp2_with (first | (go_at_call 20; refine (longC_any va k vc _ _ (Rd.row hst zH) (by rw [List.length_map, List.length_take, HN]; omega) (fun z hz => by obtain ⟨y, hy, rfl⟩ := List.mem_map.1 hz; exact ((HYY.out y (List.mem_of_mem_take hy)).x).old hst)).mono ?_; rintro _ w9 ⟨⟨bb, rfl, hbb⟩, h4⟩; have hst9 := St.call0 hst h4; have HBB := ya hbb; clear h4 hst hbb)); go_ret; exact ⟨⟨bb, rfl, ⟨fun h => absurd (HBB.1 h).1 (by omega), fun h => absurd h.1 (by omega)⟩⟩, hst9.nil⟩
  ·have e : N = k := by omega
   subst e; have d1 : decide ((N : Int) < (N : Int)) = false := by simp
   go_wp2_with (first | (go_at_call 20; refine (longC_any va N vc _ _ (Rd.row hst zH) (by rw [List.length_map, List.length_take, HN]; omega) (fun z hz => by obtain ⟨y, hy, rfl⟩ := List.mem_map.1 hz; exact ((HYY.out y (List.mem_of_mem_take hy)).x).old hst)).mono ?_; rintro _ w9 ⟨⟨bb, rfl, hbb⟩, h4⟩; have hst9 := St.call0 hst h4; have HBB := ya hbb; clear h4 hst hbb)); go_ret; refine ⟨⟨bb, rfl, HBB.trans ?_⟩, hst9.nil⟩; rw [List.take_of_length_le (by rw [HN.out]; exact Nat.le_refl _)]; constructor
   ·rintro ⟨h1, h2⟩; refine ⟨h1, fun y hy => ?_⟩; obtain ⟨j, hj, rfl⟩ := List.getElem_of_mem hy; have h3 := hall.out j _ (by rw [← HN]; exact hj) (List.getElem?_eq_getElem hj); have h4 := h2 _ (List.mem_map_of_mem hy); exact ⟨h3.1, h3.2, h4.1, h4.2⟩
   ·rintro ⟨h1, h2⟩; refine ⟨h1, fun z hz => ?_⟩; obtain ⟨y, hy, rfl⟩ := List.mem_map.1 hz; exact (h2 y hy).2.2
end
end
section
open Go.ChangeShapes Go.WideShapes Go.ChangeAt Go.RowKit Go.Deep Go.Lib Go.Joins Hp
theorem cellsMa : Tryz.prog.cellsOf 69 = 45 := by kernel_rfl
def MCL : Type := { x : MC // L32 x.p.S }
instance inhMCL : Inhabited MCL := ⟨⟨⟨0, 0, ⟨.slice none 0 0, [], 0, 0, nones⟩, none, 0, 0, [], ⟨0, 0, 0, 0, 0, none, 0, 0, [], none, 0, 0, []⟩⟩, L32.nones⟩⟩
theorem open_actM {H : Type} {enc : TypeId × Value → H} {W : World} (fuel : Nat) (cs : List Value) (x : DataW H × List MemPlace) (hl : cs.length = 45)
  (h : DataW.trod enc Tryz.prog W 0 (fun _ => true) true fuel 69 cs = some x) : ∃ k : MCL, cs = k.1.cells ∧ k.1.Ok W := by
 obtain ⟨xs, n, _, _, _, hlen, hf⟩ := DataW.trod_struct Tryz.underlying69 h; have hlen' : xs.length = 5 := hlen; have g0 := hf 0 _ rfl; have g1 := hf 1 _ rfl; have g2 := hf 2 _ rfl; have g3 := hf 3 _ rfl; have g4 := hf 4 _ rfl; clear hf h
 match xs, hlen' with
 | [y0, y1, y2, y3, y4], _ =>
  match cs, hl with
  | a :: b :: C, hl =>
   have hCl : C.length = 43 := by simpa using hl
   have f0 : DataW.trod enc Tryz.prog W 0 (fun _ => true) true n 3 (List.take (Tryz.prog.cellsOf 3) (List.drop 0 (a :: b :: C))) = some y0 := g0; have f1 : DataW.trod enc Tryz.prog W 0 (fun _ => true) true n 3 (List.take (Tryz.prog.cellsOf 3) (List.drop 1 (a :: b :: C))) = some y1 := g1; have f2 : DataW.trod enc Tryz.prog W 0 (fun _ => true) true n 34 (List.take (Tryz.prog.cellsOf 34) (List.drop 2 (a :: b :: C))) = some y2 := g2; have f3 : DataW.trod enc Tryz.prog W 0 (fun _ => true) true n 28 (List.take (Tryz.prog.cellsOf 28) (List.drop 37 (a :: b :: C))) = some y3 := g3; have f4 : DataW.trod enc Tryz.prog W 0 (fun _ => true) true n 49 (List.take (Tryz.prog.cellsOf 49) (List.drop 38 (a :: b :: C))) = some y4 := g4; obtain ⟨z0, w0, _, u0⟩ := DataW.trod_int Tryz.underlying3 (show DataW.trod enc Tryz.prog W 0 (fun _ => true) true n 3 [a] = some y0 from by rw [cellsI] at f0; exact f0); obtain ⟨z1, w1, _, u1⟩ := DataW.trod_int Tryz.underlying3 (show DataW.trod enc Tryz.prog W 0 (fun _ => true) true n 3 [b] = some y1 from by rw [cellsI] at f1; exact f1); obtain ⟨p, w2, hp⟩ := open_ptrD (W := W) (x := y2) (L := C.take 35) (by rw [List.length_take]; omega) (by
    rw [cellsP] at f2; simpa only [List.drop_succ_cons, List.drop_zero] using f2)
   rw [cellsLub] at f3; rw [cellsAct] at f4; simp only [List.drop_succ_cons] at f3 f4; obtain ⟨bo, bn, bc, B, w3, r3, l3⟩ := open_bytesN f3; obtain ⟨y, w4, hy⟩ := open_act n _ _ (by rw [List.length_take, List.length_drop]; omega) f4; have e : C = p.cells ++ (.slice bo bn bc :: y.cells) := by
    have e1 : C.drop 35 = (C.drop 35).take 1 ++ C.drop 36 := by
     conv => lhs; rw [← List.take_append_drop 1 (C.drop 35)]
     rw [List.drop_drop]
    have e2 : (C.drop 36).take 7 = C.drop 36 := List.take_of_length_le (by rw [List.length_drop]; omega); rw [e2] at w4; rw [w3, w4] at e1; rw [← List.take_append_drop 35 C, w2, e1]; rfl
   cases w0; cases w1; subst e; exact ⟨⟨⟨z0, z1, p, bo, bn, bc, B, y⟩, hp.1⟩, rfl, ⟨i64_wfL u0, i64_wfL u1, hp, r3, l3, hy⟩⟩
theorem open_actsM {H : Type} {enc : TypeId × Value → H} {W : World} {fuel : Nat} {cs : List Value} {x : DataW H × List MemPlace}
  (h : DataW.trod enc Tryz.prog W 0 (fun _ => true) true fuel 62 cs = some x) : ∃ ao n c, ∃ ks : List MCL, cs = [.slice ao n c] ∧ Rd W (.slice ao n c) 45 n (ks.flatMap fun k => k.1.cells) ∧ ks.length = n ∧ ∀ x ∈ ks, x.1.Ok W :=
 open_structsD (α := MCL) (f := fun k => k.1.cells) (sz := 45) (fun a => MC.len a.2) (by decide) (fun k W => k.1.Ok W) Tryz.underlying62 cellsMa open_actM h
theorem open_ys {W : World} {v : Value} {n : Nat} {ks : List MCL} (h : Rd W v 45 n (ks.flatMap fun k => k.1.cells)) (hn : ks.length = n) (hk : ∀ x ∈ ks, x.1.Ok W) : ∃ ys : List MC, Rd W v 45 n (ys.flatMap MC.cells) ∧ ys.length = n ∧ ∀ y ∈ ys, y.Ok W := by
 refine ⟨ks.map (·.1), ?_, by rw [List.length_map, hn], fun y hy => ?_⟩
 ·rw [List.flatMap_map]; exact h
 ·obtain ⟨k, hm, rfl⟩ := List.mem_map.1 hy; exact hk k hm
theorem open_actsMV {H : Type} {enc : TypeId × Value → H} {W : World} {base fuel : Nat} {v : Value} {x : DataW H × List MemPlace} (hv : Value.okWide Tryz.prog W .any base 62 v)
  (h : DataW.trod enc Tryz.prog W 0 (fun _ => true) true fuel 62 v.cells.toList = some x) : ∃ ao n c, ∃ ys : List MC, v = .slice ao n c ∧ Rd W (.slice ao n c) 45 n (ys.flatMap MC.cells) ∧ ys.length = n ∧ ∀ y ∈ ys, y.Ok W := by
 obtain ⟨aq, nq, cq, rfl⟩ := okWide_slice Tryz.underlying62 hv; obtain ⟨ao, n, c, ks, e, hA, hn, hk⟩ := open_actsM h; simp [Value.cells] at e; obtain ⟨rfl, rfl, rfl⟩ := e; obtain ⟨ys, h1, h2, h3⟩ := open_ys hA hn hk; exact ⟨_, _, _, ys, rfl, h1, h2, h3⟩
end
section
open Go.RowKit Hp
attribute [local irreducible] Go.Calls Go.wpList

end
section
open Go.RowKit Hp
instance sSD : TySl Tryz.prog 177 182 := ⟨by kernel_rfl⟩
instance sSsD : TyS Tryz.prog 177 := ⟨by kernel_rfl⟩
instance sNsD : TyN Tryz.prog 177 1 := ⟨by kernel_rfl⟩
instance sAD : TyA Tryz.prog 182 5 := ⟨by kernel_rfl⟩
instance sND : TyN Tryz.prog 182 5 := ⟨by kernel_rfl⟩
instance sED : TyE Tryz.prog 182 5 56 := ⟨by kernel_rfl⟩
instance sZD : TyZ Tryz.prog 182 [.slice none 0 0, .bool false, .int .i64 0, .int .i64 0, .bool false] := ⟨by kernel_rfl⟩
instance sSW : TySl Tryz.prog 178 201 := ⟨by kernel_rfl⟩
instance sSsW : TyS Tryz.prog 178 := ⟨by kernel_rfl⟩
instance sNsW : TyN Tryz.prog 178 1 := ⟨by kernel_rfl⟩
instance sAW : TyA Tryz.prog 201 3 := ⟨by kernel_rfl⟩
instance sNW : TyN Tryz.prog 201 3 := ⟨by kernel_rfl⟩
instance sEW : TyE Tryz.prog 201 3 40 := ⟨by kernel_rfl⟩
instance sZW : TyZ Tryz.prog 201 [.int .i64 0, .int .i64 0, .slice none 0 0] := ⟨by kernel_rfl⟩
instance sAA : TyA Tryz.prog 180 6 := ⟨by kernel_rfl⟩
instance sNA : TyN Tryz.prog 180 6 := ⟨by kernel_rfl⟩
instance sZA : TyZ Tryz.prog 180 [.slice none 0 0, .int .i64 0, .slice none 0 0, .int .i64 0, .bool false, .int .i64 0] := ⟨by kernel_rfl⟩
instance sSS : TySl Tryz.prog 119 28 := ⟨by kernel_rfl⟩
instance sSsS : TyS Tryz.prog 119 := ⟨by kernel_rfl⟩
instance sNsS : TyN Tryz.prog 119 1 := ⟨by kernel_rfl⟩
instance sEB : TyE Tryz.prog 28 1 24 := ⟨by kernel_rfl⟩
instance sSB : TyS Tryz.prog 28 := ⟨by kernel_rfl⟩
instance sNB : TyN Tryz.prog 28 1 := ⟨by kernel_rfl⟩
instance sSp : TyS Tryz.prog 129 := ⟨by kernel_rfl⟩
structure FV where
 g : Nat
 cap : Nat
 sv : List Value
 rest : List Value
structure RDv where
 f : FV
 lo : Bool
 ay : Int
 fail : Int
 gone : Bool
structure RWv where
 dev : Nat
 pl : Nat
 bv : Value
structure RX where
 devs : List RDv
 many : Nat
 loose : List RWv
 left : Int
 out : Bool
 steps : Int
 gd : Nat
 cd : Nat
 rest : List Value
 lv : Value
 pool : List HA
def RDv.zero : RDv := ⟨⟨0, 0, [], []⟩, false, 0, 0, false⟩
def RDv.cells (d : RDv) : List Value := [.slice (some ⟨d.f.g, 0, none⟩) d.f.sv.length d.f.cap, .bool d.lo, .int .i64 d.ay, .int .i64 d.fail, .bool d.gone]
def RWv.cells (v : RWv) : List Value := [.int .i64 (v.dev : Int), .int .i64 (v.pl : Int), v.bv]
def RX.dv (x : RX) (k : Nat) : RDv := x.devs.getD k RDv.zero
def RX.upd (x : RX) (k : Nat) (f : RDv → RDv) : RX := { x with devs := x.devs.modify k f }
def zE (d : RDv) : HA := .blk d.f.g 28 (d.f.sv ++ d.f.rest)
def RX.hdr (x : RX) : List Value := [.slice (some ⟨x.gd, 0, none⟩) x.devs.length x.cd, .int .i64 (x.many : Int), x.lv, .int .i64 x.left, .bool x.out, .int .i64 x.steps]
def RX.dc (x : RX) : List Value := x.devs.flatMap RDv.cells ++ x.rest
def RX.lc (x : RX) : List Value := x.loose.flatMap RWv.cells
def RX.tail (x : RX) : List HA := x.devs.map zE ++ x.pool
def yg (gr : Nat) (x : RX) : List HA := .blk gr 180 x.hdr :: .blk x.gd 182 x.dc :: .row x.lv 201 3 x.loose.length x.lc :: x.tail
def Sec (pool : List HA) (v : Value) (B : List UInt8) : Prop := HA.row v 5 1 256 (yb B) ∈ pool
structure DOk (pool : List HA) (d : DV) (r : RDv) : Prop where
 lo : r.lo = d.lo
 ay : r.ay = if d.st then d.to else -1
 fail : r.fail = d.fail
 gone : r.gone = d.gone
 len : r.f.sv.length = d.firm.length
 sec : ∀ s, s < d.firm.length → ∃ v, r.f.sv[s]? = some v ∧ Sec pool v (d.firm.getD s [])
structure RefOk (a : AR) (x : RX) : Prop where
 dn : x.devs.length = a.devs.length
 dv : ∀ k : Nat, k < a.devs.length → DOk x.pool (a.dv (k : Int)) (x.dv k)
 mn : x.many = a.secs
 ln : x.loose.length = a.loose.length
 lw : ∀ (i : Nat) (v : LW), a.loose[i]? = some v → ∃ r, x.loose[i]? = some r ∧ r.dev = v.dev ∧ r.pl = v.pl ∧ Sec x.pool r.bv v.b
 left : x.left = a.fuse
 out : x.out = a.out
 steps : x.steps = a.steps
theorem RX.dget {x : RX} {k : Nat} (h : k < x.devs.length) : x.devs[k]? = some (x.dv k) := by
 unfold RX.dv; rw [List.getD_eq_getElem?_getD, List.getElem?_eq_getElem h]; rfl
theorem RX.dcell {x : RX} {k : Nat} (h : k < x.devs.length) {i : Nat} {v : Value} (hv : (x.dv k).cells[i]? = some v) (hi : i < 5) : x.dc[k * 5 + i]? = some v := by
 have h1 : (x.devs.flatMap RDv.cells)[k * 5 + i]? = some v := by rw [yaf (sz := 5) (fun d => rfl) (RX.dget h) i hi]; exact hv
 unfold RX.dc; rw [List.getElem?_append_left (List.getElem?_eq_some_iff.1 h1).1]; exact h1
theorem yat {x : RX} {k : Nat} (h : k < x.devs.length) {f : RDv → RDv} {i : Nat} {v : Value} (hi : i < 5) (hf : yw (x.dv k).cells i [v] = (f (x.dv k)).cells) : yw x.dc (k * 5 + i) [v] = (x.upd k f).dc := by
 have hd := RX.dget h; have := flat_put (sz := 5) (fun d => rfl) hd hi hf x.rest; unfold RX.dc; rw [this]; show _ = (x.devs.modify k f).flatMap RDv.cells ++ x.rest
 congr 2
 apply List.ext_getElem?; intro j; rw [yS, List.getElem?_set]; by_cases hj : k = j
 ·subst hj; rw [if_pos rfl, if_pos rfl, hd, if_pos h, Option.map_some]
 ·rw [if_neg hj, if_neg hj]
theorem qR {x : RX} {k i : Nat} (h : k < x.devs.length) (hi : i < 5) : k * 5 + i + 1 ≤ x.dc.length := by
 have h1 := RX.dcell (x := x) h (i := i) (v := (x.dv k).cells[i]'(by show i < 5; exact hi)) (List.getElem?_eq_getElem _) hi; exact (List.getElem?_eq_some_iff.1 h1).1
theorem RX.upd_len (x : RX) (k : Nat) (f : RDv → RDv) : (x.upd k f).devs.length = x.devs.length := by unfold RX.upd; exact List.length_modify _ _ _
theorem RX.upd_dv {x : RX} {k j : Nat} {f : RDv → RDv} (hk : k < x.devs.length) : (x.upd k f).dv j = if k = j then f (x.dv k) else x.dv j := by
 unfold RX.dv RX.upd; simp only [List.getD_eq_getElem?_getD, yS]; by_cases h : k = j
 ·subst h; rw [if_pos rfl, if_pos rfl, List.getElem?_eq_getElem hk]; rfl
 ·rw [if_neg h, if_neg h]
theorem RX.upd_tail {x : RX} {k : Nat} {f : RDv → RDv} (hf : ∀ d, (f d).f = d.f) : (x.upd k f).tail = x.tail := by
 unfold RX.tail RX.upd
 congr 1
 apply List.ext_getElem?; intro j; rw [List.getElem?_map, List.getElem?_map, yS]; split
 ·cases x.devs[j]? with
  | none => rfl
  | some d => simp [zE, hf]
 ·rfl
theorem yah {x : RX} {gr k : Nat} {f : RDv → RDv} (hf : ∀ d, (f d).f = d.f) : yg gr (x.upd k f) = .blk gr 180 x.hdr :: .blk x.gd 182 (x.upd k f).dc :: .row x.lv 201 3 x.loose.length x.lc :: x.tail := by
 unfold yg; rw [RX.upd_tail hf]; unfold RX.hdr; rw [RX.upd_len]; rfl
theorem dv_mod {a : AR} {k j : Nat} {f : DV → DV} (hk : k < a.devs.length) : (a.upd (k : Int) f).dv (j : Int) = if k = j then f (a.dv (k : Int)) else a.dv (j : Int) := by
 unfold AR.dv AR.upd; simp only [Int.toNat_natCast, List.getD_eq_getElem?_getD, yS]; by_cases h : k = j
 ·subst h; rw [if_pos rfl, if_pos rfl, List.getElem?_eq_getElem hk]; rfl
 ·rw [if_neg h, if_neg h]
theorem RefOk.upd {a : AR} {x : RX} (h : RefOk a x) {k : Nat} (hk : k < a.devs.length) {f : DV → DV} {r : RDv → RDv} (hd : DOk x.pool (f (a.dv (k : Int))) (r (x.dv k))) (hs : (a.upd (k : Int) f).secs = a.secs) : RefOk (a.upd (k : Int) f) (x.upd k r) := by
 have hkx : k < x.devs.length := by rw [h.dn]; exact hk
 refine ⟨?_, fun j hj => ?_, ?_, h.ln, h.lw, h.left, h.out, h.steps⟩
 ·rw [RX.upd_len, Go.Proofs.YtmdfbdfijnmhkaaGreat.upd_len, h.dn]
 ·rw [Go.Proofs.YtmdfbdfijnmhkaaGreat.upd_len] at hj; rw [dv_mod hk, RX.upd_dv hkx]; by_cases hkj : k = j
  ·subst hkj; rw [if_pos rfl, if_pos rfl]; exact hd
  ·rw [if_neg hkj, if_neg hkj]; exact h.dv j hj
 ·rw [hs]; exact h.mn
theorem Sec.mono {p q : List HA} {v : Value} {B : List UInt8} (h : Sec p v B) (hq : ∀ y ∈ p, y ∈ q) : Sec q v B := hq _ h
theorem DOk.mono {p q : List HA} {d : DV} {r : RDv} (h : DOk p d r) (hq : ∀ y ∈ p, y ∈ q) : DOk q d r :=
 ⟨h.lo, h.ay, h.fail, h.gone, h.len, fun s hs => by obtain ⟨v, h1, h2⟩ := h.sec s hs; exact ⟨v, h1, h2.mono hq⟩⟩
theorem RefOk.more {a : AR} {x : RX} (h : RefOk a x) {q : List HA} (hq : ∀ y ∈ x.pool, y ∈ q) : RefOk a { x with pool := q } :=
 ⟨h.dn, fun k hk => (h.dv k hk).mono hq, h.mn, h.ln, fun i v hv => by obtain ⟨r, h1, h2, h3, h4⟩ := h.lw i v hv; exact ⟨r, h1, h2, h3, h4.mono hq⟩, h.left, h.out, h.steps⟩
theorem St.pool {w0 w : World} {M : List Nat} {R : List HA} {gr : Nat} {x : RX} {p : HA} (h : St w0 M w (p :: (yg gr x ++ R))) : St w0 M w (yg gr { x with pool := x.pool ++ [p] } ++ R) := by
 have e : yg gr { x with pool := x.pool ++ [p] } = yg gr x ++ [p] := by
  unfold yg RX.tail; rw [← List.append_assoc]; rfl
 rw [e, List.append_assoc]; exact St.perm h List.perm_middle.symm
end
section
open Go.RowKit Hp
attribute [local irreducible] Go.Calls Go.wpList
theorem RefOk.cells {a : AR} {x : RX} (h : RefOk a x) {k : Nat} (hk : k < a.devs.length) : x.dc[k * 5]? = some (.slice (some ⟨(x.dv k).f.g, 0, none⟩) (a.dv (k : Int)).firm.length (x.dv k).f.cap) ∧ x.dc[k * 5 + 1]? = some (.bool (a.dv (k : Int)).lo) ∧
  x.dc[k * 5 + 2]? = some (.int .i64 (if (a.dv (k : Int)).st then (a.dv (k : Int)).to else -1)) ∧ x.dc[k * 5 + 3]? = some (.int .i64 (a.dv (k : Int)).fail) ∧ x.dc[k * 5 + 4]? = some (.bool (a.dv (k : Int)).gone) := by
 have hx : k < x.devs.length := by rw [h.dn]; exact hk
 have hd := h.dv k hk; refine ⟨?_, ?_, ?_, ?_, ?_⟩
 ·rw [← hd.len]; exact RX.dcell hx (i := 0) rfl (by decide)
 ·rw [← hd.lo]; exact RX.dcell hx (i := 1) rfl (by decide)
 ·rw [← hd.ay]; exact RX.dcell hx (i := 2) rfl (by decide)
 ·rw [← hd.fail]; exact RX.dcell hx (i := 3) rfl (by decide)
 ·rw [← hd.gone]; exact RX.dcell hx (i := 4) rfl (by decide)
theorem RefOk.sect {a : AR} {x : RX} (h : RefOk a x) {k p : Nat} (hk : k < a.devs.length) (hp : p < (a.dv (k : Int)).firm.length) : ∃ v, ((x.dv k).f.sv ++ (x.dv k).f.rest)[p]? = some v ∧ Sec x.pool v ((a.dv (k : Int)).firm.getD p []) := by
 obtain ⟨v, h1, h2⟩ := (h.dv k hk).sec p hp; exact ⟨v, by rw [List.getElem?_append_left (List.getElem?_eq_some_iff.1 h1).1]; exact h1, h2⟩
theorem RX.ftail {x : RX} {k : Nat} (h : k < x.devs.length) : HA.blk (x.dv k).f.g 28 ((x.dv k).f.sv ++ (x.dv k).f.rest) ∈ x.tail :=
 List.mem_append_left _ (List.mem_map.2 ⟨x.dv k, List.mem_of_getElem? (RX.dget h), rfl⟩)
section
variable {w0 w : World} {M : List Nat} {R : List HA} {gr : Nat} {a : AR} {x : RX} (hS : St w0 M w (yg gr x ++ R)) (ro : RefOk a x)
include hS ro
theorem zN (dev : Int) : Calls Tryz.prog 154 #[.pointer (some ⟨gr, 0, none⟩), .int .i64 dev] w fun e w' => e = .returned (.bool (a.inD dev)) ∧ St w0 M w' (yg gr x ++ R) := by
 have hst : St w0 M w (.blk gr 180 x.hdr :: .blk x.gd 182 x.dc :: .row x.lv 201 3 x.loose.length x.lc :: (x.tail ++ R)) := hS; have RO := ya ro; clear hS ro; rw [show a.inD dev = (decide (0 ≤ dev) && decide (dev < (x.devs.length : Int))) from by unfold AR.inD; rw [RO.out.dn]]; by_cases k1 : 0 ≤ dev
 ·have d1 : decide (dev ≥ 0) = true := zD k1; have d2 : decide (0 ≤ dev) = true := d1; obtain ⟨q, hq⟩ : ∃ q, q = decide (dev < (x.devs.length : Int)) := ⟨_, rfl⟩; have d3 : decide (dev < (x.devs.length : Int)) = q := hq.symm; rw [← hq, d2]; clear hq; go_enter Tryz.func154, Tryz.ntmps154; go_wp2_with (first | (refine jl (Loads.at [] hst rfl) ?_)); go_ret; exact ⟨rfl, hst⟩
 ·have d1 : decide (dev ≥ 0) = false := zF k1; have d2 : decide (0 ≤ dev) = false := d1; rw [d2]; go_enter Tryz.func154, Tryz.ntmps154; go_wp2_with (first | (refine jl (Loads.at [] hst rfl) ?_)); go_ret; exact ⟨rfl, hst⟩
theorem zL (dev pl : Int) : Calls Tryz.prog 152 #[.pointer (some ⟨gr, 0, none⟩), .int .i64 dev, .int .i64 pl] w fun e w' => e = .returned (.bool (a.inS dev pl)) ∧ St w0 M w' (yg gr x ++ R) := by
 have hst : St w0 M w (.blk gr 180 x.hdr :: .blk x.gd 182 x.dc :: .row x.lv 201 3 x.loose.length x.lc :: (x.tail ++ R)) := hS; have RO := ya ro; clear hS ro; obtain ⟨b, hb⟩ : ∃ b, b = a.inD dev := ⟨_, rfl⟩; have HB := ya hb; rw [show a.inS dev pl = ((b && decide (0 ≤ pl)) && decide (pl < (x.many : Int))) from by unfold AR.inS; rw [hb, RO.out.mn]]; clear hb; cases b
 ·go_enter Tryz.func152, Tryz.ntmps152; go_wp2_with (first | (go_at_call 154; refine (zN (R := R) hst RO.out dev).mono ?_; rw [← HB]; rintro _ w1 ⟨rfl, hst⟩)); go_ret; exact ⟨rfl, hst⟩
 ·by_cases k1 : 0 ≤ pl
  ·have d1 : decide (pl ≥ 0) = true := zD k1; have d2 : decide (0 ≤ pl) = true := d1; obtain ⟨q, hq⟩ : ∃ q, q = decide (pl < (x.many : Int)) := ⟨_, rfl⟩; have d3 : decide (pl < (x.many : Int)) = q := hq.symm; rw [← hq, d2]; clear hq; go_enter Tryz.func152, Tryz.ntmps152; go_wp2_with (first | (go_at_call 154; refine (zN (R := R) hst RO.out dev).mono ?_; rw [← HB]; rintro _ w1 ⟨rfl, hst⟩) | (refine jl (Loads.at [] hst rfl) ?_)); go_ret; exact ⟨rfl, hst⟩
  ·have d1 : decide (pl ≥ 0) = false := zF k1; have d2 : decide (0 ≤ pl) = false := d1; rw [d2]; go_enter Tryz.func152, Tryz.ntmps152; go_wp2_with (first | (go_at_call 154; refine (zN (R := R) hst RO.out dev).mono ?_; rw [← HB]; rintro _ w1 ⟨rfl, hst⟩)); go_ret; exact ⟨rfl, hst⟩
theorem up_r (dev : Int) : Calls Tryz.prog 127 #[.pointer (some ⟨gr, 0, none⟩), .int .i64 dev] w fun e w' => e = .returned (.bool (a.up dev)) ∧ St w0 M w' (yg gr x ++ R) := by
 have hst : St w0 M w (.blk gr 180 x.hdr :: .blk x.gd 182 x.dc :: .row x.lv 201 3 x.loose.length x.lc :: (x.tail ++ R)) := hS; have RO := ya ro; clear hS ro; have HO := ya RO.out.out; unfold AR.up; cases hin : a.inD dev
 ·have HI := ya hin; rw [Bool.and_false, Bool.false_and]; clear hin; go_enter Tryz.func127, Tryz.ntmps127; go_wp2_with (first | (go_at_call 154; refine (zN (R := R) hst RO.out dev).mono ?_; rw [HI]; rintro _ w1 ⟨rfl, hst⟩)); go_ret; exact ⟨rfl, hst⟩
 ·obtain ⟨k, rfl⟩ : ∃ k : Nat, dev = k := ⟨dev.toNat, by have := (yQ hin).1; omega⟩; have hkx : k < x.devs.length := by rw [RO.out.dn]; exact (by have := (yQ hin).2; omega)
  have hka : k < a.devs.length := by have := (yQ hin).2; omega
  have HC := ya (RO.out.cells hka); have HI := ya hin; rw [Bool.and_true, ← HO]; clear hin; cases hg : (a.dv (k : Int)).gone
  ·have HG : Hid (x.dc[k * 5 + 4]? = some (.bool false)) := ya (by rw [HC.2.2.2.2, hg]); clear hg; cases ho : x.out
   ·have HOX : Hid (x.hdr[4]? = some (.bool false)) := ya (by show some (Value.bool x.out) = _; rw [ho]); clear ho; go_enter Tryz.func127, Tryz.ntmps127; go_wp2_with (first | (go_at_call 154; refine (zN (R := R) hst RO.out (k : Int)).mono ?_; rw [HI]; rintro _ w1 ⟨rfl, hst⟩) | (refine yA hkx ?_) | (refine jl (Loads.at [] hst HOX.out) ?_) | (refine jl (Loads.at [_] hst HG.out) ?_) | (refine jl (Loads.at [] hst rfl) ?_)); go_ret; exact ⟨rfl, hst⟩
   ·have HOX : Hid (x.hdr[4]? = some (.bool true)) := ya (by show some (Value.bool x.out) = _; rw [ho]); clear ho; go_enter Tryz.func127, Tryz.ntmps127; go_wp2_with (first | (go_at_call 154; refine (zN (R := R) hst RO.out (k : Int)).mono ?_; rw [HI]; rintro _ w1 ⟨rfl, hst⟩) | (refine yA hkx ?_) | (refine jl (Loads.at [] hst HOX.out) ?_) | (refine jl (Loads.at [_] hst HG.out) ?_) | (refine jl (Loads.at [] hst rfl) ?_)); go_ret; exact ⟨rfl, hst⟩
  ·have HG : Hid (x.dc[k * 5 + 4]? = some (.bool true)) := ya (by rw [HC.2.2.2.2, hg]); clear hg; rw [Bool.not_true, Bool.and_false]; go_enter Tryz.func127, Tryz.ntmps127; go_wp2_with (first | (go_at_call 154; refine (zN (R := R) hst RO.out (k : Int)).mono ?_; rw [HI]; rintro _ w1 ⟨rfl, hst⟩) | (refine yA hkx ?_) | (refine jl (Loads.at [_] hst HG.out) ?_) | (refine jl (Loads.at [] hst rfl) ?_)); go_ret; exact ⟨rfl, hst⟩
end
theorem loose_cell {w0 w : World} {M : List Nat} {L : List HA} {x : RX} {b off c : Nat} (hst : St w0 M w L) (hm : HA.row (.slice (some ⟨b, off, none⟩) x.loose.length c) 201 3 x.loose.length x.lc ∈ L) {j : Nat} {r : RWv} (hj : x.loose[j]? = some r) {i : Nat} {v : Value} (hi : i < 3) (hv : r.cells[i]? = some v) : w.cell? ⟨b, off + j * 3 + i, none⟩ = some v := by
 have h1 := (Rd.row hst hm).range (j * 3 + i) v (by unfold RX.lc; rw [yaf (sz := 3) (fun d => rfl) hj i hi]; exact hv); rwa [← Nat.add_assoc] at h1
theorem tells_r {w0 w : World} {M : List Nat} {R : List HA} {gr : Nat} {a : AR} {x : RX} (hS : St w0 M w (yg gr x ++ R)) (ro : RefOk a x) {k p : Nat} (ok : a.Ok) (hll : a.loose.length < 1000000) (hs : a.inS (k : Int) (p : Int) = true) : Calls Tryz.prog 158 #[.pointer (some ⟨gr, 0, none⟩), .int .i64 (k : Int), .int .i64 (p : Int)] w fun e w' => ∃ u, e = .returned u ∧ St w0 M w' (.row u 5 1 256 (yb (a.tells (k : Int) (p : Int))) :: (yg gr x ++ R)) := by
 have hst : St w0 M w (.blk gr 180 x.hdr :: .blk x.gd 182 x.dc :: .row x.lv 201 3 x.loose.length x.lc :: (x.tail ++ R)) := hS; have RO := ya ro; clear hS ro; have hin := yG hs; have hkx : k < x.devs.length := by rw [RO.out.dn]; exact (by have := (yQ hin).2; omega)
 have hka : k < a.devs.length := by have := (yQ hin).2; omega
 have hf := ok.dv hin; have hp : p < (a.dv (k : Int)).firm.length := by have := (jE hs).2; rw [hf.1]; omega
 have HC0 := ya (RO.out.cells hka).1; obtain ⟨v0, hv0, hs0⟩ := RO.out.sect hka hp; have HV0 := ya hv0; have HFT := ya (RX.ftail hkx); have HTL := ya (fun j => qU ok hs j); obtain ⟨T, hT⟩ : ∃ T : Nat → List UInt8, T = fun j => (a.loose.take j).foldl (jV k p) ((a.dv (k : Int)).firm.getD p []) := ⟨_, rfl⟩; have HT0 : Hid (Sec x.pool v0 (T 0)) := ya (by rw [hT]; exact hs0); have HTS : Hid (∀ j wj, a.loose[j]? = some wj → T (j + 1) = jV k p (T j) wj) := ya (fun j wj hj => by
  rw [hT]; show (a.loose.take (j + 1)).foldl _ _ = _; rw [List.take_add_one, hj, List.foldl_append]; rfl)
 have HTE : Hid (T x.loose.length = a.tells (k : Int) (p : Int)) := ya (by rw [hT, RO.out.ln]; show (a.loose.take a.loose.length).foldl _ _ = _; rw [List.take_length]; rfl); have HTL2 : Hid (∀ j, (T j).length = 256) := ya (fun j => by rw [hT]; exact HTL.out j); obtain ⟨Q, hQ⟩ : ∃ Q, Q = a.tells (k : Int) (p : Int) := ⟨_, rfl⟩; rw [← hQ] at HTE; rw [← hQ]; have hnl : x.loose.length < 1000000 := by rw [RO.out.ln]; exact hll
 have hpn := hp; clear hs hin hf ok hv0 hs0 HTL hT hQ hll; obtain ⟨lao, lc, hlv, _, _, _⟩ := yV hst (zT (zT zH)); have HLV := ya hlv; have HH2 : Hid (x.hdr[2]? = some (.slice lao x.loose.length lc)) := ya (by show some x.lv = _; rw [hlv]); clear hlv; go_enter Tryz.func158, Tryz.ntmps158; go_wp2_with (first | (refine jl (Loads.at [_] hst HC0.out) ?_) | (refine jl (Loads.cell (T := 28) TyS.out (by rw [Nat.zero_add, Nat.mul_one]; exact St.cell hst (off := p) (zT (zT (zT (List.mem_append_left _ HFT.out)))) HV0.out)) ?_) | (refine jl (Loads.at [] hst rfl) ?_) | (refine yA hkx ?_) | (refine yA hpn ?_)); go_loopw [7, 8] (fun q i wr => ∃ j : Nat, j ≤ x.loose.length ∧ i = .int .i64 (j : Int) ∧ Hid (Sec x.pool q (T j)) ∧ St w0 M wr (.blk gr 180 x.hdr :: .blk x.gd 182 x.dc :: .row x.lv 201 3 x.loose.length x.lc :: (x.tail ++ R))) (fun _ i _ => x.loose.length - (intOf i).toNat)
 case atStart => exact ⟨0, Nat.zero_le _, rfl, HT0, hst⟩
 case round =>
  clear hst HT0 HV0; obtain ⟨j, hj, rfl, HSE, hst⟩ := hrel; by_cases hlj : j < x.loose.length
  ·have d1 : decide ((j : Int) < (x.loose.length : Int)) = true := zD (by omega); have z1 : IntKind.i64.wrap ((j : Int) + 1) = (j : Int) + 1 := IntWalk.i64_in _ (by omega); obtain ⟨v, hv⟩ : ∃ v, a.loose[j]? = some v := ⟨_, List.getElem?_eq_getElem (by rw [← RO.out.ln]; exact hlj)⟩; obtain ⟨r, hr, e1, e2, hsr⟩ := RO.out.lw j v hv; have HTJ := ya (HTS.out j v hv); have HSR := ya hsr; have hrow : HA.row (.slice lao x.loose.length lc) 201 3 x.loose.length x.lc ∈ (.blk gr 180 x.hdr :: .blk x.gd 182 x.dc :: .row x.lv 201 3 x.loose.length x.lc :: (x.tail ++ R)) := by rw [← HLV]; exact zT (zT zH)
   obtain ⟨lb, lo, rfl, _⟩ := Rd.at (Rd.row hst hrow) hlj; have HW0 := ya (loose_cell hst hrow hr (i := 0) (by decide) rfl); have HW1 := ya (loose_cell hst hrow hr (i := 1) (by decide) rfl); have HW2 := ya (loose_cell hst hrow hr (i := 2) (by decide) rfl); rw [e1] at HW0; rw [e2] at HW1; obtain ⟨vd, hvd⟩ : ∃ vd, vd = v.dev := ⟨_, rfl⟩; obtain ⟨vp, hvp⟩ : ∃ vp, vp = v.pl := ⟨_, rfl⟩; have HVD := ya hvd; have HVP := ya hvp; rw [← hvd] at HW0; rw [← hvp] at HW1; obtain ⟨bv, hbv⟩ : ∃ bv, bv = r.bv := ⟨_, rfl⟩; replace HW2 : Hid (wr.cell? ⟨lb, lo + j * 3 + 2, none⟩ = some bv) := ya (by rw [hbv]; exact HW2.out); rw [← hbv] at HSR; clear hv hr e1 e2 hsr hrow hvd hvp hbv; by_cases g1 : vd = k
   ·by_cases g2 : vp = p
    ·have c1 : ((vd : Int) == (k : Int)) = true := by simp [g1]
     have c2 : ((vp : Int) == (p : Int)) = true := by simp [g2]
     have HTN : Hid (T (j + 1) = v.b) := ya (by rw [HTJ]; unfold jV; rw [← HVD, ← HVP, if_pos ⟨g1, g2⟩]); clear g1 g2; go_wp2_with (first | (refine jl (Loads.at [] hst HH2.out) ?_) | (refine jl (Loads.cell TyS.out HW0.out) ?_) | (refine jl (Loads.cell TyS.out HW1.out) ?_) | (refine jl (Loads.cell TyS.out HW2.out) ?_) | (refine yA hlj ?_)); go_roundw
     case rel => exact ⟨j + 1, by omega, rfl, ya (by rw [HTN]; exact HSR.out), hst⟩
     case measure => simp [intOf]; omega
    ·have c1 : ((vd : Int) == (k : Int)) = true := by simp [g1]
     have c2 : ((vp : Int) == (p : Int)) = false := by rw [beq_eq_false_iff_ne]; omega
     have HTN : Hid (T (j + 1) = T j) := ya (by rw [HTJ]; unfold jV; rw [← HVD, ← HVP, if_neg (fun h => g2 h.2)]); clear g1 g2; go_wp2_with (first | (refine jl (Loads.at [] hst HH2.out) ?_) | (refine jl (Loads.cell TyS.out HW0.out) ?_) | (refine jl (Loads.cell TyS.out HW1.out) ?_) | (refine jl (Loads.cell TyS.out HW2.out) ?_) | (refine yA hlj ?_)); go_roundw
     case rel => exact ⟨j + 1, by omega, rfl, ya (by rw [HTN]; exact HSE.out), hst⟩
     case measure => simp [intOf]; omega
   ·have c1 : ((vd : Int) == (k : Int)) = false := by rw [beq_eq_false_iff_ne]; omega
    have HTN : Hid (T (j + 1) = T j) := ya (by rw [HTJ]; unfold jV; rw [← HVD, ← HVP, if_neg (fun h => g1 h.1)]); clear g1; go_wp2_with (first | (refine jl (Loads.at [] hst HH2.out) ?_) | (refine jl (Loads.cell TyS.out HW0.out) ?_) | (refine jl (Loads.cell TyS.out HW1.out) ?_) | (refine jl (Loads.cell TyS.out HW2.out) ?_) | (refine yA hlj ?_)); go_roundw
    case rel => exact ⟨j + 1, by omega, rfl, ya (by rw [HTN]; exact HSE.out), hst⟩
    case measure => simp [intOf]; omega
  ·obtain rfl : j = x.loose.length := by omega
   have d1 : decide ((x.loose.length : Int) < (x.loose.length : Int)) = false := zF (by omega); have h9 := HSE.out; rw [HTE] at h9; unfold Sec at h9; have HSE2 := ya (List.mem_append_left R (List.mem_append_right (x.devs.map zE) h9)); clear h9; go_wp2_with (first | (refine jl (Loads.at [] hst HH2.out) ?_) | (refine za [] [] hst (h:=fun g9 w5 hst1 => ?_); have hst2 := St.toRow (n := 0) (cap := 0) (sz := 1) hst1 rfl (Nat.le_refl _) (by decide); clear hst1) | (refine jf (m := 256) (ys := yb Q) [] hst2 (hr:=Rd.row hst2 (zT (zT (zT (zT HSE2.out))))) (h1:=yD _) (hb:=by refine ⟨by decide, by decide, by decide⟩) (h:=fun v9 w6 hst3 _ => ?_); clear hst2)); go_ret; exact ⟨v9, rfl, hst3⟩
theorem RefOk.step0 {a : AR} {x : RX} (h : RefOk a x) (hf : a.fuse = 0) : RefOk a.step { x with out := true } := by
 have e : a.step = { a with out := true } := by unfold AR.step; rw [if_pos hf]
 rw [e]; exact ⟨h.dn, h.dv, h.mn, h.ln, h.lw, h.left, rfl, h.steps⟩
theorem RefOk.step1 {a : AR} {x : RX} (h : RefOk a x) (hf : a.fuse ≠ 0) : RefOk a.step { x with left := if 0 < x.left then x.left - 1 else x.left, steps := x.steps + 1 } := by
 have e : a.step = { a with fuse := if 0 < a.fuse then a.fuse - 1 else a.fuse, steps := a.steps + 1 } := by unfold AR.step; rw [if_neg hf]
 rw [e]; exact ⟨h.dn, h.dv, h.mn, h.ln, h.lw, by show (if 0 < x.left then x.left - 1 else x.left) = _; rw [h.left], h.out, by show x.steps + 1 = _; rw [h.steps]⟩
section
variable {w0 w : World} {M : List Nat} {R : List HA} {gr : Nat} {a : AR} {x : RX} (hS : St w0 M w (yg gr x ++ R)) (ro : RefOk a x)
include hS ro
theorem step_out_r (hf : a.fuse = 0) : Calls Tryz.prog 153 #[.pointer (some ⟨gr, 0, none⟩)] w fun e w' => e = .returned (.bool false) ∧ ∃ y, RefOk a.step y ∧ St w0 M w' (yg gr y ++ R) := by
 have hst : St w0 M w (.blk gr 180 x.hdr :: .blk x.gd 182 x.dc :: .row x.lv 201 3 x.loose.length x.lc :: (x.tail ++ R)) := hS; have RO := ya ro; clear hS ro; have HL : Hid (x.left = 0) := ya (by rw [RO.out.left]; exact hf); have d1 : (x.left == 0) = true := by rw [HL]; rfl
 have HF := ya hf; clear hf; go_enter Tryz.func153, Tryz.ntmps153; go_wp2_with (first | (refine jl (Loads.at [] hst rfl) ?_) | (refine jl (Loads.at [] hs7 rfl) ?_) | (refine ye [] hst rfl rfl rfl (v := .bool true) rfl rfl rfl (by show (4 : Nat) + 1 ≤ 6; decide) ?_; intro w9 hs9; clear hst)); go_ret; exact ⟨rfl, { x with out := true }, RO.out.step0 HF.out, hs9⟩
theorem step_dec_r (hf : 0 < a.fuse) (hs : 0 ≤ a.steps ∧ a.steps < 4611686018427387904) (hu : a.fuse ≤ 9223372036854775807) : Calls Tryz.prog 153 #[.pointer (some ⟨gr, 0, none⟩)] w fun e w' => e = .returned (.bool true) ∧ ∃ y, RefOk a.step y ∧ St w0 M w' (yg gr y ++ R) := by
 have hst : St w0 M w (.blk gr 180 x.hdr :: .blk x.gd 182 x.dc :: .row x.lv 201 3 x.loose.length x.lc :: (x.tail ++ R)) := hS; have RO := ya ro; clear hS ro; have hl : 0 < x.left := by rw [RO.out.left]; exact hf
 have hl2 : x.left ≤ 9223372036854775807 := by rw [RO.out.left]; exact hu
 have d1 : (x.left == 0) = false := by rw [beq_eq_false_iff_ne]; omega
 have d2 : decide (0 < x.left) = true := zD hl; have d3 : decide (x.left > 0) = true := d2; have z1 : IntKind.i64.wrap (x.left - 1) = x.left - 1 := IntWalk.i64_in _ (by omega); have hss : 0 ≤ x.steps ∧ x.steps < 4611686018427387904 := by rw [RO.out.steps]; exact hs
 have z2 : IntKind.i64.wrap (x.steps + 1) = x.steps + 1 := IntWalk.i64_in _ (by omega); have HX := ya (RO.out.step1 (by omega)); rw [if_pos hl] at HX; clear hl hl2 hss hs hu; have HF := ya hf; clear hf; go_enter Tryz.func153, Tryz.ntmps153; go_wp2_with (first | (refine jl (Loads.at [] hst rfl) ?_) | (refine jl (Loads.at [] hs7 rfl) ?_) | (first | (refine ye [] hst rfl rfl rfl (v := .int _ _) rfl rfl rfl (by show (3 : Nat) + 1 ≤ 6; decide) ?_; intro w7 hs7; clear hst) | (refine ye [] hs7 rfl rfl rfl (v := .int _ _) rfl rfl rfl (by show (5 : Nat) + 1 ≤ 6; decide) ?_; intro w9 hs9; clear hs7))); go_ret; exact ⟨rfl, { x with left := x.left - 1, steps := x.steps + 1 }, HX.out, hs9⟩
theorem step_any_r (hf : a.fuse < 0) (hs : 0 ≤ a.steps ∧ a.steps < 4611686018427387904) : Calls Tryz.prog 153 #[.pointer (some ⟨gr, 0, none⟩)] w fun e w' => e = .returned (.bool true) ∧ ∃ y, RefOk a.step y ∧ St w0 M w' (yg gr y ++ R) := by
 have hst : St w0 M w (.blk gr 180 x.hdr :: .blk x.gd 182 x.dc :: .row x.lv 201 3 x.loose.length x.lc :: (x.tail ++ R)) := hS; have RO := ya ro; clear hS ro; have hl : x.left < 0 := by rw [RO.out.left]; exact hf
 have d1 : (x.left == 0) = false := by rw [beq_eq_false_iff_ne]; omega
 have d2 : decide (0 < x.left) = false := zF (by omega); have d3 : decide (x.left > 0) = false := d2; have hss : 0 ≤ x.steps ∧ x.steps < 4611686018427387904 := by rw [RO.out.steps]; exact hs
 have z2 : IntKind.i64.wrap (x.steps + 1) = x.steps + 1 := IntWalk.i64_in _ (by omega); have HX := ya (RO.out.step1 (by omega)); rw [if_neg (by omega)] at HX; clear hl hss hs; have HF := ya hf; clear hf; go_enter Tryz.func153, Tryz.ntmps153; go_wp2_with (first | (refine jl (Loads.at [] hst rfl) ?_) | (refine jl (Loads.at [] hs7 rfl) ?_) | (refine ye [] hst rfl rfl rfl (v := .int _ _) rfl rfl rfl (by show (5 : Nat) + 1 ≤ 6; decide) ?_; intro w9 hs9; clear hst)); go_ret; exact ⟨rfl, { x with steps := x.steps + 1 }, HX.out, hs9⟩
theorem step_r (hs : 0 ≤ a.steps ∧ a.steps < 4611686018427387904) (hu : a.fuse ≤ 9223372036854775807) : Calls Tryz.prog 153 #[.pointer (some ⟨gr, 0, none⟩)] w fun e w' => e = .returned (.bool (decide (a.fuse ≠ 0))) ∧ ∃ y, RefOk a.step y ∧ St w0 M w' (yg gr y ++ R) := by
 rcases Int.lt_trichotomy a.fuse 0 with h | h | h
 ·rw [zD (by omega)]; exact step_any_r hS ro h hs
 ·rw [zF (by omega)]; exact step_out_r hS ro h
 ·rw [zD (by omega)]; exact step_dec_r hS ro h hs hu
theorem peek_r (dev pl : Int) (ok : a.Ok) (hll : a.loose.length < 1000000) : Calls Tryz.prog 137 #[.pointer (some ⟨gr, 0, none⟩), .int .i64 dev, .int .i64 pl] w fun e w' => ∃ u, e = .returned (.tuple #[u, .bool (a.peekB dev pl)]) ∧ St w0 M w' (.row u 5 1 (a.peekL dev pl).length (yb (a.peekL dev pl)) :: (yg gr x ++ R)) := by
 have hst : St w0 M w (.blk gr 180 x.hdr :: .blk x.gd 182 x.dc :: .row x.lv 201 3 x.loose.length x.lc :: (x.tail ++ R)) := hS; have RO := ya ro; clear hS ro; have OK := ya ok; have HLL := ya hll; clear ok hll; unfold AR.peekL AR.peekB; cases hu : a.up dev
 ·have HU := ya hu; clear hu; go_enter Tryz.func137, Tryz.ntmps137; go_wp2_with (first | (go_at_call 127; refine (up_r (R := R) hst RO.out dev).mono ?_; rw [HU]; rintro _ w1 ⟨rfl, hst⟩)); go_ret2; exact ⟨.slice none 0 0, rfl, zt _ 1 hst⟩
 ·have HU := ya hu; cases hs : a.inS dev pl
  ·have HS := ya hs; clear hu hs; go_enter Tryz.func137, Tryz.ntmps137; go_wp2_with (first | (go_at_call 127; refine (up_r (R := R) hst RO.out dev).mono ?_; rw [HU]; rintro _ w1 ⟨rfl, hst⟩) | (go_at_call 152; refine (zL (R := R) hst RO.out dev pl).mono ?_; rw [HS]; rintro _ w1 ⟨rfl, hst⟩)); go_ret2; exact ⟨.slice none 0 0, rfl, zt _ 1 hst⟩
  ·have HS := ya hs; obtain ⟨k, rfl⟩ : ∃ k : Nat, dev = k := ⟨dev.toNat, by have := (yQ (yG hs)).1; omega⟩; obtain ⟨p, rfl⟩ : ∃ p : Nat, pl = p := ⟨pl.toNat, by have := (jE hs).1; omega⟩; have HT : Hid ((a.tells (k : Int) (p : Int)).length = 256) := ya (by have := qU OK.out hs a.loose.length; rw [List.take_length] at this; exact this); clear hu hs; simp only [Bool.and_self, eq_self, if_true]; go_enter Tryz.func137, Tryz.ntmps137; go_wp2_with (first | (go_at_call 127; refine (up_r (R := R) hst RO.out (k : Int)).mono ?_; rw [HU]; rintro _ w1 ⟨rfl, hst⟩) | (go_at_call 152; refine (zL (R := R) hst RO.out (k : Int) (p : Int)).mono ?_; rw [HS]; rintro _ w1 ⟨rfl, hst⟩) | (go_at_call 158; refine (tells_r (R := R) (k := k) (p := p) hst RO.out OK.out HLL.out HS.out).mono ?_; rintro _ w2 ⟨u, rfl, h4⟩; clear hst)); go_ret2; refine ⟨u, rfl, ?_⟩; rw [HT]; exact h4
end
theorem zV {a : AR} {dev : Int} (h : a.inD dev = true) : ∃ k : Nat, dev = k ∧ k < a.devs.length := ⟨dev.toNat, by have := (yQ h).1; omega, by have := yQ h; omega⟩
section
variable {w0 w : World} {M : List Nat} {R : List HA} {gr : Nat} {a : AR} {x : RX} (hS : St w0 M w (yg gr x ++ R)) (ro : RefOk a x)
include hS ro
theorem read_out_r (dev pl : Int) (ho : a.out = true) (ok : a.Ok) (hll : a.loose.length < 1000000) : Calls Tryz.prog 128 #[.pointer (some ⟨gr, 0, none⟩), .int .i64 dev, .int .i64 pl] w fun e w' => ∃ u y, e = .returned (.tuple #[u, .int .i64 (a.readE dev pl)]) ∧ RefOk (a.read dev pl) y ∧ St w0 M w' (.row u 5 1 (a.readB dev pl).length (yb (a.readB dev pl)) :: (yg gr y ++ R)) := by
 have hst : St w0 M w (.blk gr 180 x.hdr :: .blk x.gd 182 x.dc :: .row x.lv 201 3 x.loose.length x.lc :: (x.tail ++ R)) := hS; have RO := ya ro; clear hS ro; have hE : a.readE dev pl = 10 := by unfold AR.readE; rw [if_neg ok.d0, ho, if_pos rfl]
 have hB : a.readB dev pl = [] := by unfold AR.readB; rw [hE]; rfl
 have hR : a.read dev pl = a := by unfold AR.read; rw [hE]; rfl
 rw [hE, hB, hR]; clear hE hB hR; have HOX : Hid (x.hdr[4]? = some (.bool true)) := ya (by show some (Value.bool x.out) = _; rw [RO.out.out, ho]); clear ho ok hll; go_enter Tryz.func128, Tryz.ntmps128; go_wp2_with (first | (refine jl (Loads.at [] hst HOX.out) ?_) | (refine jl (Loads.at [] hst rfl) ?_)); go_ret2; exact ⟨.slice none 0 0, x, rfl, RO.out, zt _ 1 hst⟩
theorem read_far_r (dev pl : Int) (ho : a.out = false) (hs : a.inS dev pl = false) (ok : a.Ok) (hll : a.loose.length < 1000000) : Calls Tryz.prog 128 #[.pointer (some ⟨gr, 0, none⟩), .int .i64 dev, .int .i64 pl] w fun e w' => ∃ u y, e = .returned (.tuple #[u, .int .i64 (a.readE dev pl)]) ∧ RefOk (a.read dev pl) y ∧ St w0 M w' (.row u 5 1 (a.readB dev pl).length (yb (a.readB dev pl)) :: (yg gr y ++ R)) := by
 have hst : St w0 M w (.blk gr 180 x.hdr :: .blk x.gd 182 x.dc :: .row x.lv 201 3 x.loose.length x.lc :: (x.tail ++ R)) := hS; have RO := ya ro; clear hS ro; have hE : a.readE dev pl = 5 := by unfold AR.readE; rw [if_neg ok.d0, ho, if_neg (by decide), hs, if_pos rfl]
 have hB : a.readB dev pl = [] := by unfold AR.readB; rw [hE]; rfl
 have hR : a.read dev pl = a := by unfold AR.read; rw [hE]; rfl
 rw [hE, hB, hR]; clear hE hB hR; have HOX : Hid (x.hdr[4]? = some (.bool false)) := ya (by show some (Value.bool x.out) = _; rw [RO.out.out, ho]); have HS := ya hs; clear hs; clear ho ok hll; go_enter Tryz.func128, Tryz.ntmps128; go_wp2_with (first | (refine jl (Loads.at [] hst HOX.out) ?_) | (refine jl (Loads.at [] hst rfl) ?_) | (go_at_call 152; refine (zL (R := R) hst RO.out dev pl).mono ?_; rw [HS]; rintro _ w1 ⟨rfl, hst⟩)); go_ret2; exact ⟨.slice none 0 0, x, rfl, RO.out, zt _ 1 hst⟩
theorem read_gone_r (dev pl : Int) (ho : a.out = false) (hs : a.inS dev pl = true) (hg : (a.dv dev).gone = true) (ok : a.Ok) (hll : a.loose.length < 1000000) : Calls Tryz.prog 128 #[.pointer (some ⟨gr, 0, none⟩), .int .i64 dev, .int .i64 pl] w fun e w' => ∃ u y, e = .returned (.tuple #[u, .int .i64 (a.readE dev pl)]) ∧ RefOk (a.read dev pl) y ∧ St w0 M w' (.row u 5 1 (a.readB dev pl).length (yb (a.readB dev pl)) :: (yg gr y ++ R)) := by
 have hst : St w0 M w (.blk gr 180 x.hdr :: .blk x.gd 182 x.dc :: .row x.lv 201 3 x.loose.length x.lc :: (x.tail ++ R)) := hS; have RO := ya ro; clear hS ro; have hE : a.readE dev pl = 14 := by unfold AR.readE; rw [if_neg ok.d0, ho, if_neg (by decide), hs, if_neg (by decide), hg, if_pos rfl]
 have hB : a.readB dev pl = [] := by unfold AR.readB; rw [hE]; rfl
 have hR : a.read dev pl = a := by unfold AR.read; rw [hE]; rfl
 rw [hE, hB, hR]; clear hE hB hR; have HOX : Hid (x.hdr[4]? = some (.bool false)) := ya (by show some (Value.bool x.out) = _; rw [RO.out.out, ho]); obtain ⟨k, rfl, hka⟩ := zV (yG hs); have hkx : k < x.devs.length := by rw [RO.out.dn]; exact hka
 have HC := ya (RO.out.cells hka); have HG : Hid (x.dc[k * 5 + 4]? = some (.bool true)) := ya (by rw [HC.2.2.2.2, hg]); have HS := ya hs; clear hs hg; clear ho ok hll; go_enter Tryz.func128, Tryz.ntmps128; go_wp2_with (first | (refine jl (Loads.at [] hst HOX.out) ?_) | (refine jl (Loads.at [_] hst HG.out) ?_) | (refine jl (Loads.at [] hst rfl) ?_) | (go_at_call 152; refine (zL (R := R) hst RO.out (k : Int) pl).mono ?_; rw [HS]; rintro _ w1 ⟨rfl, hst⟩) | (refine yA hkx ?_)); go_ret2; exact ⟨.slice none 0 0, x, rfl, RO.out, zt _ 1 hst⟩
theorem read_fail_r (dev pl : Int) (ho : a.out = false) (hs : a.inS dev pl = true) (hg : (a.dv dev).gone = false) (hf : 0 < (a.dv dev).fail) (ok : a.Ok) (hll : a.loose.length < 1000000) : Calls Tryz.prog 128 #[.pointer (some ⟨gr, 0, none⟩), .int .i64 dev, .int .i64 pl] w fun e w' => ∃ u y, e = .returned (.tuple #[u, .int .i64 (a.readE dev pl)]) ∧ RefOk (a.read dev pl) y ∧ St w0 M w' (.row u 5 1 (a.readB dev pl).length (yb (a.readB dev pl)) :: (yg gr y ++ R)) := by
 have hst : St w0 M w (.blk gr 180 x.hdr :: .blk x.gd 182 x.dc :: .row x.lv 201 3 x.loose.length x.lc :: (x.tail ++ R)) := hS; have RO := ya ro; clear hS ro; have hE : a.readE dev pl = 13 := by unfold AR.readE; rw [if_neg ok.d0, ho, if_neg (by decide), hs, if_neg (by decide), hg, if_neg (by decide), if_pos hf]
 have hB : a.readB dev pl = [] := by unfold AR.readB; rw [hE]; rfl
 have hR : a.read dev pl = a.upd dev fun d => { d with fail := d.fail - 1 } := by unfold AR.read; rw [hE]; rfl
 rw [hE, hB, hR]; clear hE hB hR; have HOX : Hid (x.hdr[4]? = some (.bool false)) := ya (by show some (Value.bool x.out) = _; rw [RO.out.out, ho]); obtain ⟨k, rfl, hka⟩ := zV (yG hs); have hkx : k < x.devs.length := by rw [RO.out.dn]; exact hka
 have HC := ya (RO.out.cells hka); have HG : Hid (x.dc[k * 5 + 4]? = some (.bool false)) := ya (by rw [HC.2.2.2.2, hg]); have HS := ya hs; have hfr := ok.dv (yG hs); have hf9 := hfr.2.2.2; obtain ⟨F, hF⟩ : ∃ F, F = (a.dv (k : Int)).fail := ⟨_, rfl⟩; have HF3 : Hid (x.dc[k * 5 + 3]? = some (.int .i64 F)) := ya (by rw [hF]; exact HC.2.2.2.1); rw [← hF] at hf hf9; have d1 : decide (0 < F) = true := zD hf; have d2 : decide (F > 0) = true := d1; have z1 : IntKind.i64.wrap (F - 1) = F - 1 := IntWalk.i64_in _ (by omega); have HPUT := ya (yat (f := fun d => { d with fail := F - 1 }) hkx (i := 3) (v := .int .i64 (F - 1)) (by decide) rfl); have HLEN : Hid (k * 5 + 3 + 1 ≤ x.dc.length) := ya (qR hkx (by decide)); have HRX := ya (RO.out.upd (f := fun d => { d with fail := d.fail - 1 }) (r := fun d => { d with fail := F - 1 }) hka (by
  have h := RO.out.dv k hka; exact ⟨h.lo, h.ay, by show F - 1 = (a.dv (k : Int)).fail - 1; rw [hF], h.gone, h.len, h.sec⟩) (jT (yG hs) rfl))
 clear hs hg hf hfr hf9 hF; clear ho ok hll; go_enter Tryz.func128, Tryz.ntmps128; go_wp2_with (first | (refine jl (Loads.at [] hst HOX.out) ?_) | (refine jl (Loads.at [_] hst HG.out) ?_) | (refine jl (Loads.at [_] hst HF3.out) ?_) | (refine jl (Loads.at [] hst rfl) ?_) | (go_at_call 152; refine (zL (R := R) hst RO.out (k : Int) pl).mono ?_; rw [HS]; rintro _ w1 ⟨rfl, hst⟩) | (refine yA hkx ?_) | (refine ye [_] hst rfl rfl rfl (v := .int _ _) rfl rfl rfl HLEN.out ?_; intro w9 hs9; clear hst)); go_ret2; refine ⟨.slice none 0 0, _, rfl, HRX.out, ?_⟩; rw [yah (f := fun d => { d with fail := F - 1 }) (fun _ => rfl), ← HPUT]; exact zt _ 1 hs9
theorem read_fine_r (dev pl : Int) (ho : a.out = false) (hs : a.inS dev pl = true) (hg : (a.dv dev).gone = false) (hf : ¬ 0 < (a.dv dev).fail) (ok : a.Ok) (hll : a.loose.length < 1000000) : Calls Tryz.prog 128 #[.pointer (some ⟨gr, 0, none⟩), .int .i64 dev, .int .i64 pl] w fun e w' => ∃ u y, e = .returned (.tuple #[u, .int .i64 (a.readE dev pl)]) ∧ RefOk (a.read dev pl) y ∧ St w0 M w' (.row u 5 1 (a.readB dev pl).length (yb (a.readB dev pl)) :: (yg gr y ++ R)) := by
 have hst : St w0 M w (.blk gr 180 x.hdr :: .blk x.gd 182 x.dc :: .row x.lv 201 3 x.loose.length x.lc :: (x.tail ++ R)) := hS; have RO := ya ro; clear hS ro; have hE : a.readE dev pl = 0 := by unfold AR.readE; rw [if_neg ok.d0, ho, if_neg (by decide), hs, if_neg (by decide), hg, if_neg (by decide), if_neg hf]
 have hB : a.readB dev pl = a.tells dev pl := by unfold AR.readB; rw [hE]; rfl
 have hR : a.read dev pl = a := by unfold AR.read; rw [hE]; rfl
 rw [hE, hB, hR]; clear hE hB hR; have HOX : Hid (x.hdr[4]? = some (.bool false)) := ya (by show some (Value.bool x.out) = _; rw [RO.out.out, ho]); obtain ⟨k, rfl, hka⟩ := zV (yG hs); have hkx : k < x.devs.length := by rw [RO.out.dn]; exact hka
 have HC := ya (RO.out.cells hka); have HG : Hid (x.dc[k * 5 + 4]? = some (.bool false)) := ya (by rw [HC.2.2.2.2, hg]); have HS := ya hs; have hfr := ok.dv (yG hs); have hf9 := hfr.2.2.2; obtain ⟨F, hF⟩ : ∃ F, F = (a.dv (k : Int)).fail := ⟨_, rfl⟩; have HF3 : Hid (x.dc[k * 5 + 3]? = some (.int .i64 F)) := ya (by rw [hF]; exact HC.2.2.2.1); rw [← hF] at hf hf9; have d1 : decide (0 < F) = false := zF hf; have d2 : decide (F > 0) = false := d1; obtain ⟨p, rfl⟩ : ∃ p : Nat, pl = p := ⟨pl.toNat, by have := (jE hs).1; omega⟩; have OK := ya ok; have HLL := ya hll; have HT : Hid ((a.tells (k : Int) (p : Int)).length = 256) := ya (by have := qU ok hs a.loose.length; rw [List.take_length] at this; exact this); clear hs hg hf hfr hf9 hF; clear ho ok hll; go_enter Tryz.func128, Tryz.ntmps128; go_wp2_with (first | (refine jl (Loads.at [] hst HOX.out) ?_) | (refine jl (Loads.at [_] hst HG.out) ?_) | (refine jl (Loads.at [_] hst HF3.out) ?_) | (refine jl (Loads.at [] hst rfl) ?_) | (go_at_call 152; refine (zL (R := R) hst RO.out (k : Int) (p : Int)).mono ?_; rw [HS]; rintro _ w1 ⟨rfl, hst⟩) | (refine yA hkx ?_) | (go_at_call 158; refine (tells_r (R := R) (k := k) (p := p) hst RO.out OK.out HLL.out HS.out).mono ?_; rintro _ w2 ⟨u, rfl, h4⟩; clear hst)); go_ret2; refine ⟨u, x, rfl, RO.out, ?_⟩; rw [HT]; exact h4
theorem read_r (dev pl : Int) (ok : a.Ok) (hll : a.loose.length < 1000000) : Calls Tryz.prog 128 #[.pointer (some ⟨gr, 0, none⟩), .int .i64 dev, .int .i64 pl] w fun e w' => ∃ u y, e = .returned (.tuple #[u, .int .i64 (a.readE dev pl)]) ∧ RefOk (a.read dev pl) y ∧ St w0 M w' (.row u 5 1 (a.readB dev pl).length (yb (a.readB dev pl)) :: (yg gr y ++ R)) := by
 cases ho : a.out
 ·cases hs : a.inS dev pl
  ·exact read_far_r hS ro dev pl ho hs ok hll
  ·cases hg : (a.dv dev).gone
   ·by_cases hf : 0 < (a.dv dev).fail
    ·exact read_fail_r hS ro dev pl ho hs hg hf ok hll
    ·exact read_fine_r hS ro dev pl ho hs hg hf ok hll
   ·exact read_gone_r hS ro dev pl ho hs hg ok hll
 ·exact read_out_r hS ro dev pl ho ok hll
theorem fuse_out_r (n : Int) (ho : a.out = true) (ok : a.Ok) : Calls Tryz.prog 132 #[.pointer (some ⟨gr, 0, none⟩), .int .i64 n] w fun e w' => e = .returned (.int .i64 (a.fuseE n)) ∧ ∃ y, RefOk (a.fused n) y ∧ St w0 M w' (yg gr y ++ R) := by
 have hst : St w0 M w (.blk gr 180 x.hdr :: .blk x.gd 182 x.dc :: .row x.lv 201 3 x.loose.length x.lc :: (x.tail ++ R)) := hS; have RO := ya ro; clear hS ro; have hE : a.fuseE n = 10 := by unfold AR.fuseE; rw [if_neg ok.d0, ho, if_pos rfl]
 have hR : a.fused n = a := by unfold AR.fused; rw [hE]; rfl
 rw [hE, hR]; clear hE hR; have HOX : Hid (x.hdr[4]? = some (.bool true)) := ya (by show some (Value.bool x.out) = _; rw [RO.out.out, ho]); clear ho ok; go_enter Tryz.func132, Tryz.ntmps132; go_wp2_with (first | (refine jl (Loads.at [] hst HOX.out) ?_) | (refine jl (Loads.at [] hst rfl) ?_)); go_ret; exact ⟨rfl, x, RO.out, hst⟩
theorem fuse_neg_r (n : Int) (ho : a.out = false) (hn : n < 0) (ok : a.Ok) : Calls Tryz.prog 132 #[.pointer (some ⟨gr, 0, none⟩), .int .i64 n] w fun e w' => e = .returned (.int .i64 (a.fuseE n)) ∧ ∃ y, RefOk (a.fused n) y ∧ St w0 M w' (yg gr y ++ R) := by
 have hst : St w0 M w (.blk gr 180 x.hdr :: .blk x.gd 182 x.dc :: .row x.lv 201 3 x.loose.length x.lc :: (x.tail ++ R)) := hS; have RO := ya ro; clear hS ro; have hE : a.fuseE n = 2 := by unfold AR.fuseE; rw [if_neg ok.d0, ho, if_neg (by decide), if_pos hn]
 have hR : a.fused n = a := by unfold AR.fused; rw [hE]; rfl
 rw [hE, hR]; clear hE hR; have HOX : Hid (x.hdr[4]? = some (.bool false)) := ya (by show some (Value.bool x.out) = _; rw [RO.out.out, ho]); have d1 : decide (n < 0) = true := zD hn; clear ho ok; go_enter Tryz.func132, Tryz.ntmps132; go_wp2_with (first | (refine jl (Loads.at [] hst HOX.out) ?_) | (refine jl (Loads.at [] hst rfl) ?_)); go_ret; exact ⟨rfl, x, RO.out, hst⟩
theorem fuse_fine_r (n : Int) (ho : a.out = false) (hn : ¬ n < 0) (ok : a.Ok) : Calls Tryz.prog 132 #[.pointer (some ⟨gr, 0, none⟩), .int .i64 n] w fun e w' => e = .returned (.int .i64 (a.fuseE n)) ∧ ∃ y, RefOk (a.fused n) y ∧ St w0 M w' (yg gr y ++ R) := by
 have hst : St w0 M w (.blk gr 180 x.hdr :: .blk x.gd 182 x.dc :: .row x.lv 201 3 x.loose.length x.lc :: (x.tail ++ R)) := hS; have RO := ya ro; clear hS ro; have hE : a.fuseE n = 0 := by unfold AR.fuseE; rw [if_neg ok.d0, ho, if_neg (by decide), if_neg hn]
 have hR : a.fused n = { a with fuse := n } := by unfold AR.fused; rw [hE]; rfl
 rw [hE, hR]; clear hE hR; have HOX : Hid (x.hdr[4]? = some (.bool false)) := ya (by show some (Value.bool x.out) = _; rw [RO.out.out, ho]); have d1 : decide (n < 0) = false := zF hn; clear ho ok; go_enter Tryz.func132, Tryz.ntmps132; go_wp2_with (first | (refine jl (Loads.at [] hst HOX.out) ?_) | (refine jl (Loads.at [] hst rfl) ?_) | (refine ye [] hst rfl rfl rfl (v := .int _ _) rfl rfl rfl (by show (3 : Nat) + 1 ≤ 6; decide) ?_; intro w9 hs9; clear hst)); go_ret; exact ⟨rfl, { x with left := n }, ⟨RO.out.dn, RO.out.dv, RO.out.mn, RO.out.ln, RO.out.lw, rfl, RO.out.out, RO.out.steps⟩, hs9⟩
theorem fuse_r (n : Int) (ok : a.Ok) : Calls Tryz.prog 132 #[.pointer (some ⟨gr, 0, none⟩), .int .i64 n] w fun e w' => e = .returned (.int .i64 (a.fuseE n)) ∧ ∃ y, RefOk (a.fused n) y ∧ St w0 M w' (yg gr y ++ R) := by
 cases ho : a.out
 ·by_cases hn : n < 0
  ·exact fuse_neg_r hS ro n ho hn ok
  ·exact fuse_fine_r hS ro n ho hn ok
 ·exact fuse_out_r hS ro n ho ok
theorem lose_far_r (dev : Int) (hc : a.inD dev = false) : Calls Tryz.prog 160 #[.pointer (some ⟨gr, 0, none⟩), .int .i64 dev] w fun e w' => e = .returned (.int .i64 (a.loseE dev)) ∧ ∃ y, RefOk (a.lose dev) y ∧ St w0 M w' (yg gr y ++ R) := by
 have hst : St w0 M w (.blk gr 180 x.hdr :: .blk x.gd 182 x.dc :: .row x.lv 201 3 x.loose.length x.lc :: (x.tail ++ R)) := hS; have RO := ya ro; clear hS ro; have hE : a.loseE dev = 5 := by unfold AR.loseE AR.fellE; rw [hc]; rfl
 have hR : a.lose dev = a := by unfold AR.lose AR.fell; rw [hc]; rfl
 rw [hE, hR]; clear hE hR; have HS := ya hc; clear hc; go_enter Tryz.func160, Tryz.ntmps160; go_wp2_with (first | (go_at_call 154; refine (zN (R := R) hst RO.out dev).mono ?_; rw [HS]; rintro _ w1 ⟨rfl, hst⟩)); go_ret; exact ⟨rfl, x, RO.out, hst⟩
theorem lose_gone_r (dev : Int) (hc : a.inD dev = true) (hg : (a.dv dev).gone = true) : Calls Tryz.prog 160 #[.pointer (some ⟨gr, 0, none⟩), .int .i64 dev] w fun e w' => e = .returned (.int .i64 (a.loseE dev)) ∧ ∃ y, RefOk (a.lose dev) y ∧ St w0 M w' (yg gr y ++ R) := by
 have hst : St w0 M w (.blk gr 180 x.hdr :: .blk x.gd 182 x.dc :: .row x.lv 201 3 x.loose.length x.lc :: (x.tail ++ R)) := hS; have RO := ya ro; clear hS ro; have hE : a.loseE dev = 14 := by unfold AR.loseE AR.fellE; rw [hc, hg]; rfl
 have hR : a.lose dev = a := by unfold AR.lose AR.fell; rw [hc, hg]; rfl
 rw [hE, hR]; clear hE hR; have HS := ya hc; obtain ⟨k, rfl, hka⟩ := zV hc; have hkx : k < x.devs.length := by rw [RO.out.dn]; exact hka
 have HC := ya (RO.out.cells hka); have HG : Hid (x.dc[k * 5 + 4]? = some (.bool true)) := ya (by rw [HC.2.2.2.2, hg]); clear hc hg; go_enter Tryz.func160, Tryz.ntmps160; go_wp2_with (first | (refine jl (Loads.at [_] hst HG.out) ?_) | (refine jl (Loads.at [] hst rfl) ?_) | (refine yA hkx ?_) | (go_at_call 154; refine (zN (R := R) hst RO.out (k : Int)).mono ?_; rw [HS]; rintro _ w1 ⟨rfl, hst⟩)); go_ret; exact ⟨rfl, x, RO.out, hst⟩
theorem lose_fine_r (dev : Int) (hc : a.inD dev = true) (hg : (a.dv dev).gone = false) : Calls Tryz.prog 160 #[.pointer (some ⟨gr, 0, none⟩), .int .i64 dev] w fun e w' => e = .returned (.int .i64 (a.loseE dev)) ∧ ∃ y, RefOk (a.lose dev) y ∧ St w0 M w' (yg gr y ++ R) := by
 have hst : St w0 M w (.blk gr 180 x.hdr :: .blk x.gd 182 x.dc :: .row x.lv 201 3 x.loose.length x.lc :: (x.tail ++ R)) := hS; have RO := ya ro; clear hS ro; have hE : a.loseE dev = 0 := by unfold AR.loseE AR.fellE; rw [hc, hg]; rfl
 have hR : a.lose dev = a.upd dev (fLose) := by unfold AR.lose AR.fell; rw [hc, hg]; rfl
 rw [hE, hR]; clear hE hR; have HS := ya hc; obtain ⟨k, rfl, hka⟩ := zV hc; have hkx : k < x.devs.length := by rw [RO.out.dn]; exact hka
 have HC := ya (RO.out.cells hka); have HG : Hid (x.dc[k * 5 + 4]? = some (.bool false)) := ya (by rw [HC.2.2.2.2, hg]); have HPUT := ya (yat (f := fun d => { d with lo := true }) hkx (i := 1) (v := .bool true) (by decide) rfl); have HLEN : Hid (k * 5 + 1 + 1 ≤ x.dc.length) := ya (qR hkx (by decide)); have HRX := ya (RO.out.upd (f := fLose) (r := fun d => { d with lo := true }) hka (by
  have h := RO.out.dv k hka; exact ⟨rfl, h.ay, h.fail, h.gone, h.len, h.sec⟩) (jT hc rfl))
 clear hc hg; go_enter Tryz.func160, Tryz.ntmps160; go_wp2_with (first | (refine jl (Loads.at [_] hst HG.out) ?_) | (refine jl (Loads.at [] hst rfl) ?_) | (refine yA hkx ?_) | (refine ye [_] hst rfl rfl rfl (v := .bool true) rfl rfl rfl HLEN.out ?_; intro w9 hs9; clear hst) | (go_at_call 154; refine (zN (R := R) hst RO.out (k : Int)).mono ?_; rw [HS]; rintro _ w1 ⟨rfl, hst⟩)); go_ret; refine ⟨rfl, _, HRX.out, ?_⟩; rw [yah (f := fun d => { d with lo := true }) (fun _ => rfl), ← HPUT]; exact hs9
theorem lose_r (dev : Int) : Calls Tryz.prog 160 #[.pointer (some ⟨gr, 0, none⟩), .int .i64 dev] w fun e w' => e = .returned (.int .i64 (a.loseE dev)) ∧ ∃ y, RefOk (a.lose dev) y ∧ St w0 M w' (yg gr y ++ R) := by
 cases hc : a.inD dev
 ·exact lose_far_r hS ro dev hc
 ·cases hg : (a.dv dev).gone
  ·exact lose_fine_r hS ro dev hc hg
  ·exact lose_gone_r hS ro dev hc hg
theorem stray_far_r (dev : Int) (pl : Int) (hc : a.inS dev pl = false) : Calls Tryz.prog 161 #[.pointer (some ⟨gr, 0, none⟩), .int .i64 dev, .int .i64 pl] w fun e w' => e = .returned (.int .i64 (a.strayE dev pl)) ∧ ∃ y, RefOk (a.stray dev pl) y ∧ St w0 M w' (yg gr y ++ R) := by
 have hst : St w0 M w (.blk gr 180 x.hdr :: .blk x.gd 182 x.dc :: .row x.lv 201 3 x.loose.length x.lc :: (x.tail ++ R)) := hS; have RO := ya ro; clear hS ro; have hE : a.strayE dev pl = 5 := by unfold AR.strayE AR.fellE; rw [hc]; rfl
 have hR : a.stray dev pl = a := by unfold AR.stray AR.fell; rw [hc]; rfl
 rw [hE, hR]; clear hE hR; have HS := ya hc; clear hc; go_enter Tryz.func161, Tryz.ntmps161; go_wp2_with (first | (go_at_call 152; refine (zL (R := R) hst RO.out dev pl).mono ?_; rw [HS]; rintro _ w1 ⟨rfl, hst⟩)); go_ret; exact ⟨rfl, x, RO.out, hst⟩
theorem stray_gone_r (dev : Int) (pl : Int) (hc : a.inS dev pl = true) (hg : (a.dv dev).gone = true) : Calls Tryz.prog 161 #[.pointer (some ⟨gr, 0, none⟩), .int .i64 dev, .int .i64 pl] w fun e w' => e = .returned (.int .i64 (a.strayE dev pl)) ∧ ∃ y, RefOk (a.stray dev pl) y ∧ St w0 M w' (yg gr y ++ R) := by
 have hst : St w0 M w (.blk gr 180 x.hdr :: .blk x.gd 182 x.dc :: .row x.lv 201 3 x.loose.length x.lc :: (x.tail ++ R)) := hS; have RO := ya ro; clear hS ro; have hE : a.strayE dev pl = 14 := by unfold AR.strayE AR.fellE; rw [hc, hg]; rfl
 have hR : a.stray dev pl = a := by unfold AR.stray AR.fell; rw [hc, hg]; rfl
 rw [hE, hR]; clear hE hR; have HS := ya hc; obtain ⟨k, rfl, hka⟩ := zV (yG hc); have hkx : k < x.devs.length := by rw [RO.out.dn]; exact hka
 have HC := ya (RO.out.cells hka); have HG : Hid (x.dc[k * 5 + 4]? = some (.bool true)) := ya (by rw [HC.2.2.2.2, hg]); clear hc hg; go_enter Tryz.func161, Tryz.ntmps161; go_wp2_with (first | (refine jl (Loads.at [_] hst HG.out) ?_) | (refine jl (Loads.at [] hst rfl) ?_) | (refine yA hkx ?_) | (go_at_call 152; refine (zL (R := R) hst RO.out (k : Int) pl).mono ?_; rw [HS]; rintro _ w1 ⟨rfl, hst⟩)); go_ret; exact ⟨rfl, x, RO.out, hst⟩
theorem stray_fine_r (dev : Int) (pl : Int) (hc : a.inS dev pl = true) (hg : (a.dv dev).gone = false) : Calls Tryz.prog 161 #[.pointer (some ⟨gr, 0, none⟩), .int .i64 dev, .int .i64 pl] w fun e w' => e = .returned (.int .i64 (a.strayE dev pl)) ∧ ∃ y, RefOk (a.stray dev pl) y ∧ St w0 M w' (yg gr y ++ R) := by
 have hst : St w0 M w (.blk gr 180 x.hdr :: .blk x.gd 182 x.dc :: .row x.lv 201 3 x.loose.length x.lc :: (x.tail ++ R)) := hS; have RO := ya ro; clear hS ro; have hE : a.strayE dev pl = 0 := by unfold AR.strayE AR.fellE; rw [hc, hg]; rfl
 have hR : a.stray dev pl = a.upd dev (fStray pl) := by unfold AR.stray AR.fell; rw [hc, hg]; rfl
 rw [hE, hR]; clear hE hR; have HS := ya hc; obtain ⟨k, rfl, hka⟩ := zV (yG hc); have hkx : k < x.devs.length := by rw [RO.out.dn]; exact hka
 have HC := ya (RO.out.cells hka); have HG : Hid (x.dc[k * 5 + 4]? = some (.bool false)) := ya (by rw [HC.2.2.2.2, hg]); have HPUT := ya (yat (f := fun d => { d with ay := pl }) hkx (i := 2) (v := .int .i64 pl) (by decide) rfl); have HLEN : Hid (k * 5 + 2 + 1 ≤ x.dc.length) := ya (qR hkx (by decide)); have HRX := ya (RO.out.upd (f := fStray pl) (r := fun d => { d with ay := pl }) hka (by
  have h := RO.out.dv k hka; exact ⟨h.lo, rfl, h.fail, h.gone, h.len, h.sec⟩) (jT (yG hc) rfl))
 clear hc hg; go_enter Tryz.func161, Tryz.ntmps161; go_wp2_with (first | (refine jl (Loads.at [_] hst HG.out) ?_) | (refine jl (Loads.at [] hst rfl) ?_) | (refine yA hkx ?_) | (refine ye [_] hst rfl rfl rfl (v := .int _ _) rfl rfl rfl HLEN.out ?_; intro w9 hs9; clear hst) | (go_at_call 152; refine (zL (R := R) hst RO.out (k : Int) pl).mono ?_; rw [HS]; rintro _ w1 ⟨rfl, hst⟩)); go_ret; refine ⟨rfl, _, HRX.out, ?_⟩; rw [yah (f := fun d => { d with ay := pl }) (fun _ => rfl), ← HPUT]; exact hs9
theorem stray_r (dev : Int) (pl : Int) : Calls Tryz.prog 161 #[.pointer (some ⟨gr, 0, none⟩), .int .i64 dev, .int .i64 pl] w fun e w' => e = .returned (.int .i64 (a.strayE dev pl)) ∧ ∃ y, RefOk (a.stray dev pl) y ∧ St w0 M w' (yg gr y ++ R) := by
 cases hc : a.inS dev pl
 ·exact stray_far_r hS ro dev pl hc
 ·cases hg : (a.dv dev).gone
  ·exact stray_fine_r hS ro dev pl hc hg
  ·exact stray_gone_r hS ro dev pl hc hg
theorem fails_far_r (dev : Int) (n : Int) (hc : a.inD dev = false) : Calls Tryz.prog 162 #[.pointer (some ⟨gr, 0, none⟩), .int .i64 dev, .int .i64 n] w fun e w' => e = .returned (.int .i64 (a.failsE dev n)) ∧ ∃ y, RefOk (a.fails dev n) y ∧ St w0 M w' (yg gr y ++ R) := by
 have hst : St w0 M w (.blk gr 180 x.hdr :: .blk x.gd 182 x.dc :: .row x.lv 201 3 x.loose.length x.lc :: (x.tail ++ R)) := hS; have RO := ya ro; clear hS ro; have hE : a.failsE dev n = 5 := by unfold AR.failsE AR.fellE; rw [hc]; rfl
 have hR : a.fails dev n = a := by unfold AR.fails AR.fell; rw [hc]; rfl
 rw [hE, hR]; clear hE hR; have HS := ya hc; clear hc; go_enter Tryz.func162, Tryz.ntmps162; go_wp2_with (first | (go_at_call 154; refine (zN (R := R) hst RO.out dev).mono ?_; rw [HS]; rintro _ w1 ⟨rfl, hst⟩)); go_ret; exact ⟨rfl, x, RO.out, hst⟩
theorem fails_gone_r (dev : Int) (n : Int) (hc : a.inD dev = true) (hn : 0 ≤ n) (hg : (a.dv dev).gone = true) : Calls Tryz.prog 162 #[.pointer (some ⟨gr, 0, none⟩), .int .i64 dev, .int .i64 n] w fun e w' => e = .returned (.int .i64 (a.failsE dev n)) ∧ ∃ y, RefOk (a.fails dev n) y ∧ St w0 M w' (yg gr y ++ R) := by
 have hst : St w0 M w (.blk gr 180 x.hdr :: .blk x.gd 182 x.dc :: .row x.lv 201 3 x.loose.length x.lc :: (x.tail ++ R)) := hS; have RO := ya ro; clear hS ro; have hE : a.failsE dev n = 14 := by unfold AR.failsE AR.fellE; rw [hc, zD hn, hg]; rfl
 have hR : a.fails dev n = a := by unfold AR.fails AR.fell; rw [hc, zD hn, hg]; rfl
 rw [hE, hR]; clear hE hR; have HS := ya hc; obtain ⟨k, rfl, hka⟩ := zV hc; have hkx : k < x.devs.length := by rw [RO.out.dn]; exact hka
 have HC := ya (RO.out.cells hka); have HG : Hid (x.dc[k * 5 + 4]? = some (.bool true)) := ya (by rw [HC.2.2.2.2, hg]); have d1 : decide (n < 0) = false := zF (by omega); clear hc hg; go_enter Tryz.func162, Tryz.ntmps162; go_wp2_with (first | (refine jl (Loads.at [_] hst HG.out) ?_) | (refine jl (Loads.at [] hst rfl) ?_) | (refine yA hkx ?_) | (go_at_call 154; refine (zN (R := R) hst RO.out (k : Int)).mono ?_; rw [HS]; rintro _ w1 ⟨rfl, hst⟩)); go_ret; exact ⟨rfl, x, RO.out, hst⟩
theorem fails_fine_r (dev : Int) (n : Int) (hc : a.inD dev = true) (hn : 0 ≤ n) (hg : (a.dv dev).gone = false) : Calls Tryz.prog 162 #[.pointer (some ⟨gr, 0, none⟩), .int .i64 dev, .int .i64 n] w fun e w' => e = .returned (.int .i64 (a.failsE dev n)) ∧ ∃ y, RefOk (a.fails dev n) y ∧ St w0 M w' (yg gr y ++ R) := by
 have hst : St w0 M w (.blk gr 180 x.hdr :: .blk x.gd 182 x.dc :: .row x.lv 201 3 x.loose.length x.lc :: (x.tail ++ R)) := hS; have RO := ya ro; clear hS ro; have hE : a.failsE dev n = 0 := by unfold AR.failsE AR.fellE; rw [hc, zD hn, hg]; rfl
 have hR : a.fails dev n = a.upd dev (fFail n) := by unfold AR.fails AR.fell; rw [hc, zD hn, hg]; rfl
 rw [hE, hR]; clear hE hR; have HS := ya hc; obtain ⟨k, rfl, hka⟩ := zV hc; have hkx : k < x.devs.length := by rw [RO.out.dn]; exact hka
 have HC := ya (RO.out.cells hka); have HG : Hid (x.dc[k * 5 + 4]? = some (.bool false)) := ya (by rw [HC.2.2.2.2, hg]); have d1 : decide (n < 0) = false := zF (by omega); have HPUT := ya (yat (f := fun d => { d with fail := n }) hkx (i := 3) (v := .int .i64 n) (by decide) rfl); have HLEN : Hid (k * 5 + 3 + 1 ≤ x.dc.length) := ya (qR hkx (by decide)); have HRX := ya (RO.out.upd (f := fFail n) (r := fun d => { d with fail := n }) hka (by
  have h := RO.out.dv k hka; exact ⟨h.lo, h.ay, rfl, h.gone, h.len, h.sec⟩) (jT hc rfl))
 clear hc hg; go_enter Tryz.func162, Tryz.ntmps162; go_wp2_with (first | (refine jl (Loads.at [_] hst HG.out) ?_) | (refine jl (Loads.at [] hst rfl) ?_) | (refine yA hkx ?_) | (refine ye [_] hst rfl rfl rfl (v := .int _ _) rfl rfl rfl HLEN.out ?_; intro w9 hs9; clear hst) | (go_at_call 154; refine (zN (R := R) hst RO.out (k : Int)).mono ?_; rw [HS]; rintro _ w1 ⟨rfl, hst⟩)); go_ret; refine ⟨rfl, _, HRX.out, ?_⟩; rw [yah (f := fun d => { d with fail := n }) (fun _ => rfl), ← HPUT]; exact hs9
theorem fails_neg_r (dev : Int) (n : Int) (hc : a.inD dev = true) (hn : ¬ 0 ≤ n) : Calls Tryz.prog 162 #[.pointer (some ⟨gr, 0, none⟩), .int .i64 dev, .int .i64 n] w fun e w' => e = .returned (.int .i64 (a.failsE dev n)) ∧ ∃ y, RefOk (a.fails dev n) y ∧ St w0 M w' (yg gr y ++ R) := by
 have hst : St w0 M w (.blk gr 180 x.hdr :: .blk x.gd 182 x.dc :: .row x.lv 201 3 x.loose.length x.lc :: (x.tail ++ R)) := hS; have RO := ya ro; clear hS ro; have hE : a.failsE dev n = 2 := by unfold AR.failsE AR.fellE; rw [hc, zF hn]; rfl
 have hR : a.fails dev n = a := by unfold AR.fails AR.fell; rw [hc, zF hn]; rfl
 rw [hE, hR]; clear hE hR; have HS := ya hc; have d1 : decide (n < 0) = true := zD (by omega); clear hc; go_enter Tryz.func162, Tryz.ntmps162; go_wp2_with (first | (go_at_call 154; refine (zN (R := R) hst RO.out dev).mono ?_; rw [HS]; rintro _ w1 ⟨rfl, hst⟩)); go_ret; exact ⟨rfl, x, RO.out, hst⟩
theorem fails_r (dev : Int) (n : Int) : Calls Tryz.prog 162 #[.pointer (some ⟨gr, 0, none⟩), .int .i64 dev, .int .i64 n] w fun e w' => e = .returned (.int .i64 (a.failsE dev n)) ∧ ∃ y, RefOk (a.fails dev n) y ∧ St w0 M w' (yg gr y ++ R) := by
 cases hc : a.inD dev
 ·exact fails_far_r hS ro dev n hc
 ·by_cases hn : 0 ≤ n
  ·cases hg : (a.dv dev).gone
   ·exact fails_fine_r hS ro dev n hc hn hg
   ·exact fails_gone_r hS ro dev n hc hn hg
  ·exact fails_neg_r hS ro dev n hc hn
end
end
end Go.Proofs.YtmdfbdfijnmhkaaGreat
