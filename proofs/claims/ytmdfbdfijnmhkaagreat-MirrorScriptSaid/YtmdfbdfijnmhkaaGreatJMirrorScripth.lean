import Derived.Test.YtmdfbdfijnmhkaaGreatJMirrorScriptg
namespace Go.Proofs.YtmdfbdfijnmhkaaGreat
set_option linter.unusedVariables false
set_option linter.unusedSimpArgs false
set_option maxRecDepth 100000
set_option maxHeartbeats 8000000
section
open Go.RowKit Hp
attribute [local irreducible] Go.Calls Go.wpList
theorem drop_getD {l : List (Int × Int)} {k : Nat} (h : k < l.length) : l.drop k = l.getD k (0, 0) :: l.drop (k + 1) := by
 rw [List.drop_eq_getElem_cons h, List.getD_eq_getElem?_getD, List.getElem?_eq_getElem h]; rfl
theorem ybD {P : Program} {fn : Func} {p q r : Tmp} {T U V : TypeId} {tmps : Array Value} {w : World} {A B C : Addr} {v u z : Value} (h : fn.results = #[.cell p T, .cell q U, .cell r V]) (hp : tmps.getD p undef = .pointer (some A)) (hq : tmps.getD q undef = .pointer (some B)) (hr : tmps.getD r undef = .pointer (some C))
  (hl : Loads P w T A v) (hk : Loads P w U B u) (hj : Loads P w V C z) : (results fn tmps).run P w = .ok (.tuple #[v, u, z]) w := by
 have hl' : (loadVar T A).run P w = .ok v w := hl; have hk' : (loadVar U B).run P w = .ok u w := hk; have hj' : (loadVar V C).run P w = .ok z w := hj; have hp' : tmps[p]?.getD undef = .pointer (some A) := by simpa using hp
 have hq' : tmps[q]?.getD undef = .pointer (some B) := by simpa using hq
 have hr' : tmps[r]?.getD undef = .pointer (some C) := by simpa using hr
 simp [results, h, hp', hq', hr', asAddr, hl', hk', hj', Sem.run_bind]
def fX (g9 g8 g7 g6 g4 : Nat) (pc : List Value) (R : List HA) (wv : Value) (ill : List (Int × Int)) : List HA :=
 .row wv 83 2 ill.length (yu ill) :: .blk g9 30 [wv] :: .blk g8 37 [.int .i64 0] :: .blk g7 30 [.slice none 0 0] :: .blk g6 28 [.slice none 0 0] :: .blk g4 34 pc :: R
def fXp (g9 g8 g7 g6 g4 : Nat) (pc : List Value) (R : List HA) (S : List UInt8) (but : Int) (l : List (Int × Int)) (F : FR) (k : Nat) (m : MV) (X : List HA) : Prop :=
 ∃ wv ill, ill.length ≤ k ∧ F = yB S but m (l.drop k) ill ∧ X = fX g9 g8 g7 g6 g4 pc R wv ill
def fEnd (w0 : World) (M : List Nat) (gm ga : Nat) (x : GA) (g8 g7 g6 : Nat) (R : List HA) (F : FR) (W : World) : Prop :=
 ∃ u iv, St w0 M W (.blk g8 37 [.int .i64 F.er] :: .blk g7 30 [iv] :: .blk g6 28 [u] :: .rowP yP u 5 1 F.b.length (yb F.b) :: .row iv 83 2 F.ill.length (yu F.ill) :: (mP gm ga x F.m ++ R))
def fIx (w0 : World) (M : List Nat) (gm ga : Nat) (x : GA) (g8 g7 g6 : Nat) (R : List HA) (F : FR) (c : Code) (W : World) : Prop := c = .ret ∧ fEnd w0 M gm ga x g8 g7 g6 R F W
def fB (w0 : World) (M : List Nat) (gm ga : Nat) (x : GA) (bx : List HA) (l : List (Int × Int)) (but : Int) (S : List UInt8) (N0 : Nat) (Xp : Nat → MV → List HA → Prop) (A : Act) (y : YV) (a' : Act) (W : World) : Prop :=
 ∃ g10 g11, a' = { tmps := (((A.tmps.setIfInBounds 16 (cE l S y).1).setIfInBounds 17 (cE l S y).2).setIfInBounds 10 (.pointer (some ⟨g10, 0, none⟩))).setIfInBounds 11 (.pointer (some ⟨g11, 0, none⟩)), defers := [] } ∧
  y.k < l.length ∧ (y.pl l).1 ≠ but ∧ MGood y.m (N0 + y.k) ∧ ∃ X, Xp y.k y.m X ∧
  St w0 M W (.blk g11 128 [.int .i64 (y.m.kind (y.pl l).1 (y.pl l).2 S), y.v] :: .blk g10 83 [.int .i64 (y.pl l).1, .int .i64 (y.pl l).2] :: .rowP yP y.v 5 1 (y.B l S).length (yb (y.B l S)) :: (mP gm ga x (y.next l S) ++ (bx ++ X)))
theorem pull4 {α : Type} (A P B Y R : List α) : (A ++ (P ++ (B ++ (Y ++ R)))).Perm (Y ++ (A ++ (P ++ (B ++ R)))) := by
 have e1 : A ++ (P ++ (B ++ (Y ++ R))) = (A ++ P ++ B) ++ (Y ++ R) := by simp [List.append_assoc]
 have e2 : Y ++ (A ++ (P ++ (B ++ R))) = Y ++ ((A ++ P ++ B) ++ R) := by simp [List.append_assoc]
 rw [e1, e2]; exact List.perm_append_comm_assoc _ _ _
theorem kind_ways (m : MV) (dev pl : Int) (S : List UInt8) : m.kind dev pl S = 0 ∨ m.kind dev pl S = 1 ∨ m.kind dev pl S = 2 ∨ m.kind dev pl S = 3 := by
 unfold MV.kind; split
 ·exact .inr (.inr (.inr rfl))
 ·split
  ·exact .inr (.inr (.inl rfl))
  ·split
   ·exact .inl rfl
   ·exact .inr (.inl rfl)
theorem found_cons {S : List UInt8} {but : Int} {m : MV} {l : List (Int × Int)} {k : Nat} {ill : List (Int × Int)} (hk : k < l.length) (hb : (l.getD k (0, 0)).1 ≠ but) :
  yB S but m (l.drop k) ill = (if m.kind (l.getD k (0, 0)).1 (l.getD k (0, 0)).2 S = 0 then ⟨0, m.lookB (l.getD k (0, 0)).1 (l.getD k (0, 0)).2 S, ill, m.looked (l.getD k (0, 0)).1 (l.getD k (0, 0)).2 S⟩
  else if m.kind (l.getD k (0, 0)).1 (l.getD k (0, 0)).2 S = 1 then yB S but (m.looked (l.getD k (0, 0)).1 (l.getD k (0, 0)).2 S) (l.drop (k + 1)) (ill ++ [l.getD k (0, 0)])
  else if m.kind (l.getD k (0, 0)).1 (l.getD k (0, 0)).2 S = 3 then ⟨10, [], [], m.looked (l.getD k (0, 0)).1 (l.getD k (0, 0)).2 S⟩
  else yB S but (m.looked (l.getD k (0, 0)).1 (l.getD k (0, 0)).2 S) (l.drop (k + 1)) ill) := by
 rw [drop_getD hk]
 conv => lhs; unfold yB
 rw [if_neg hb]
theorem yaV (l : List (Int × Int)) (z : Int × Int) : yu (l ++ [z]) = yu l ++ [.int .i64 z.1, .int .i64 z.2] := by
 induction l with
 | nil => rfl
 | cons y l ih => simp [yu, ih]
theorem f_end {w0 w : World} {M : List Nat} {row q9 q8 q7 q6 q4 q11 q10 rp : HA} {P B R : List HA} (h : St w0 M w (row :: q9 :: q8 :: q7 :: q6 :: q4 :: q11 :: q10 :: rp :: (P ++ (B ++ R)))) : St w0 M w (q8 :: q7 :: q6 :: rp :: row :: (P ++ R)) := by
 have h1 : St w0 M w (row :: q8 :: q7 :: q6 :: rp :: (P ++ R)) := St.sub h (.cons_cons _ (.cons _ (.cons_cons _ (.cons_cons _ (.cons_cons _ (.cons _ (.cons _ (.cons _ (.cons_cons _ (List.Sublist.append_left zA _)))))))))); exact St.perm h1 (List.perm_middle (l₁ := [q8, q7, q6, rp])).symm
section
variable {w0 w : World} {M : List Nat} {row q9 q8 q7 q6 q4 : HA} {P B R T : List HA} (h : St w0 M w (row :: q9 :: q8 :: q7 :: q6 :: q4 :: (T ++ (P ++ (B ++ R)))))
include h
theorem f_end0 : St w0 M w (q8 :: q7 :: q6 :: .rowP yP (.slice none 0 0) 5 1 0 [] :: .row (.slice none 0 0) 83 2 0 [] :: (P ++ R)) := by
 have h1 : St w0 M w ([q8, q7, q6] ++ (P ++ R)) := St.sub h (.cons _ (.cons _ (.cons_cons _ (.cons_cons _ (.cons_cons _ (.cons _ (show (P ++ R).Sublist (T ++ (P ++ (B ++ R))) from (List.Sublist.append_left (List.sublist_append_right B R) P).trans (List.sublist_append_right T _)))))))); have h2 := qo yP 5 1 (jY 83 2 h1); exact St.perm h2 (List.perm_append_comm_assoc [_, _] [q8, q7, q6] (P ++ R))
theorem f_back : St w0 M w (P ++ (B ++ (row :: q9 :: q8 :: q7 :: q6 :: q4 :: R))) := by
 have h1 : St w0 M w ([row, q9, q8, q7, q6, q4] ++ ([] ++ (P ++ (B ++ R)))) := St.sub h (.cons_cons _ (.cons_cons _ (.cons_cons _ (.cons_cons _ (.cons_cons _ (.cons_cons _ zA)))))); exact St.perm h1 (pull4 [] P B [row, q9, q8, q7, q6, q4] R).symm
end
theorem ze {w0 w : World} {M : List Nat} {p : HA} {T : List HA} (h : St w0 M w (p :: T)) : St w0 M w T := St.sub h zC
theorem loadedBs8 (A : Addr) : loadVar 28 A = yn 28 A := rfl
theorem loadedAs8 (A : Addr) : loadVar 30 A = yn 30 A := rfl
section
attribute [local go_sem ↓] loadedBs8 loadedAs8
attribute [local go_sem] Oper.semAt_some
theorem found_any {w0 w : World} {M : List Nat} {R : List HA} {gm ga : Nat} {x : GA} {m : MV} {N : Nat} (hS : St w0 M w (mP gm ga x m ++ R)) (hg : MGood m N) (ao : Option Addr) (n c : Nat) (l : List (Int × Int)) (b v : Int) (S : List UInt8) (hL : L32 S) (hn : l.length = n) (hA : ∀ w, St w0 M w R → Rd w (.slice ao n c) 2 n (yu l)) (hN : N + n ≤ 900000) (but : Int) :
  Calls Tryz.prog 43 #[PM gm, .agg (yd (.slice ao n c) b v S).toArray, .int .i64 but] w fun e w' => ∃ u iv, e = .returned (.tuple #[u, iv, .int .i64 (yB S but m l []).er]) ∧
   St w0 M w' (.rowP yP u 5 1 (yB S but m l []).b.length (yb (yB S but m l []).b) :: .row iv 83 2 (yB S but m l []).ill.length (yu (yB S but m l []).ill) :: (mP gm ga x (yB S but m l []).m ++ R)) := by
 have hst := hS; have HG := ya hg; have HL := ya hL; have Hn := ya hn; have HA := ya hA; obtain ⟨F, hF⟩ : ∃ F, F = yB S but m l [] := ⟨_, rfl⟩; rw [← hF]; have HF := ya hF; clear hS hg hL hn hA hF; refine (callsIn_wide (n := 5)).1 ?_; refine callsIn_of_wp_marks Tryz.func43 rfl trivial ?_ rfl; simp only [PM, Tryz.ntmps43, List.size_toArray, List.length_cons, List.length_nil, Nat.reduceAdd, Nat.reduceSub, Array.replicate_succ, Array.replicate_zero, List.push_toArray, List.append_toArray, List.nil_append, List.cons_append]; refine wpIn_wide.2 ?_; go_wp2_with (first | (refine zj hst fun g4 w1 hst1 => ?_; clear hst) | (refine yN (T := 28) hst1 fun g6 w2 hst2 => ?_; clear hst1) | (refine yN (T := 30) hst2 fun g7 w3 hst3 => ?_; clear hst2) | (refine yN (T := 37) hst3 fun g8 w4 hst4 => ?_; clear hst3) | (refine yN (T := 30) hst4 fun g9 w5 hst5 => ?_; clear hst4) | (refine jl (yl (yd (.slice ao n c) b v S) [_, _, _, _] hst5 (yo HL.out _ _ _) (yz _ _ _ _)) ?_) | (go_at_call 68; refine (copies_any hst5 gm but ao n c b v S).mono ?_; rintro _ w6 ⟨q3, q4, q5, rfl, h4⟩; have hst6 := h4; clear h4 hst5)); have hst7 : St w0 M w6 (mP gm ga x m ++ (bxP q3 q4 q5 gm but (yd (.slice ao n c) b v S) ++ fX g9 g8 g7 g6 g4 (yd (.slice ao n c) b v S) R (.slice none 0 0) [])) := by
  have h1 := jY 83 2 hst6; have h2 : St w0 M w6 ((bxP q3 q4 q5 gm but (yd (.slice ao n c) b v S)) ++ (.row (.slice none 0 0) 83 2 0 [] :: (.blk g9 30 [.slice none 0 0] :: .blk g8 37 [.int .i64 0] :: .blk g7 30 [.slice none 0 0] :: .blk g6 28 [.slice none 0 0] :: .blk g4 34 (yd (.slice ao n c) b v S) :: (mP gm ga x m ++ R)))) := zB (A := bxP q3 q4 q5 gm but (yd (.slice ao n c) b v S)) h1; refine St.perm h2 ?_; exact List.perm_append_comm_assoc (bxP q3 q4 q5 gm but (yd (.slice ao n c) b v S) ++ [.row (.slice none 0 0) 83 2 0 [], .blk g9 30 [.slice none 0 0], .blk g8 37 [.int .i64 0], .blk g7 30 [.slice none 0 0], .blk g6 28 [.slice none 0 0], .blk g4 34 (yd (.slice ao n c) b v S)]) (mP gm ga x m) R
 clear hst6; have HSZ := ya hst7.size; have hI0 : cI w0 M gm ga x (bxP q3 q4 q5 gm but (yd (.slice ao n c) b v S)) l N (fXp g9 g8 g7 g6 g4 (yd (.slice ao n c) b v S) R S but l F) (0, m) w6 := ⟨Nat.zero_le _, HG.out, _, ⟨_, [], Nat.zero_le _, HF.out, rfl⟩, hst7⟩; clear hst7; refine wp_rangeM 16 17 (gf := 117) rfl (enters_of Tryz.func117 (by kernel_rfl) rfl) (enc := fun y => cE l S y) _ _ (fB w0 M gm ga x (bxP q3 q4 q5 gm but (yd (.slice ao n c) b v S)) l but S N (fXp g9 g8 g7 g6 g4 (yd (.slice ao n c) b v S) R S but l F)) (fIx w0 M gm ga x g8 g7 g6 R F) _ _ _
  (copies1_seq l ao n c b v S but N m HL.out Hn.out hN (fXp g9 g8 g7 g6 g4 (yd (.slice ao n c) b v S) R S but l F) ?rd ?skip) ?ownI ?ownB ?ownX hI0 ?assign ?body ?done ?stop
 case rd =>
  rintro k m X W ⟨wv, ill, _, _, rfl⟩ hst; exact HA.out W (St.sub hst ((List.Sublist.refl _).cons _ |>.cons _ |>.cons _ |>.cons _ |>.cons _ |>.cons _))
 case skip =>
  rintro k m X hk he ⟨wv, ill, hl, hf, rfl⟩; refine ⟨wv, ill, by omega, ?_, rfl⟩; rw [hf, drop_getD (by rw [Hn.out]; exact hk)]
  conv => lhs; unfold yB
  rw [if_pos he]
 case ownI =>
  rintro s A B row ⟨h1, h2, X, hX, hst⟩ hg hr; exact ⟨h1, h2, X, hX, qD HSZ.out hst hg hr⟩
 case ownB =>
  rintro y a' _ A B row ⟨g10, g11, h0, h1, h2, h3, X, hX, hst⟩ hg hr; exact ⟨g10, g11, h0, h1, h2, h3, X, hX, qD HSZ.out hst hg hr⟩
 case ownX =>
  rintro cc A B row ⟨h1, u, iv, hst⟩ hg hr; exact ⟨h1, u, iv, qD HSZ.out hst hg hr⟩
 case assign =>
  rintro lq y W K ⟨h1, h2, h3, X, hX, hst⟩ hK; have hs := hst.selfM; have HK := ya hK; have HX := ya hX; have HST := ya hst; clear hK hX hst hI0; obtain ⟨V1, hV1⟩ : ∃ V1, V1 = cE l S y := ⟨_, rfl⟩; have e1 : V1.1 = .agg (List.toArray [.int .i64 (y.pl l).1, .int .i64 (y.pl l).2]) := by rw [hV1]; rfl
  have e2 : V1.2 = .agg (List.toArray [.int .i64 (y.m.kind (y.pl l).1 (y.pl l).2 S), y.v]) := by rw [hV1]; rfl
  have HV1 := ya hV1; rw [← hV1]; clear hV1; obtain ⟨v1, hv1⟩ : ∃ v1, v1 = V1.1 := ⟨_, rfl⟩; obtain ⟨v2, hv2⟩ : ∃ v2, v2 = V1.2 := ⟨_, rfl⟩; rw [← hv1, ← hv2]; have E1 := ya (hv1.trans e1); have E2 := ya (hv2.trans e2); have HV2 := ya (show V1 = (v1, v2) by rw [hv1, hv2]); clear e1 e2 hv1 hv2; have hone : Hid (y.v.oneCell' = true ∧ y.v.cells.size = 1) := ya (by
   obtain ⟨ua, uc, hu⟩ := St.rowPSlice [] HST.out; rw [hu]; exact ⟨rfl, rfl⟩)
  simp only [List.setIfInBounds_toArray, List.set_cons_zero, List.set_cons_succ]
  gi_upto_region 3 with (fail)
  apply wpIn_region_lit; refine jb rfl ?_; go_wp2_with (first | (refine yN (T := 83) hs fun g10 w1 hs1 => ?_; clear hs) | (refine yx [] hs1 rfl rfl rfl E1.out rfl rfl rfl ?_; intro w2 hs2; clear hs1)); refine jp ?_
  gi_upto_region 4 with (fail)
  apply wpIn_region_lit; refine jb rfl ?_; go_wp2_with (first | (refine yN (T := 128) hs2 fun g11 w3 hs3 => ?_; clear hs2) | (refine yx [] hs3 rfl rfl rfl E2.out rfl (by simp [List.all, hone.out.1]; rfl) rfl ?_; intro w4 hs4; clear hs3)); refine jp ?_; gi_wp2; refine HK.out _ _ (zP HST.out hs4) ⟨g10, g11, ?_, h1, h2, h3, X, HX.out, zm HST.out hs4⟩; rw [← HV1, HV2]; simp only [List.setIfInBounds_toArray, List.set_cons_zero, List.set_cons_succ]
 case body =>
  rintro lq ⟨yk, ym, yv⟩ a' W ⟨g10, g11, rfl, h1, h2, h3, X, ⟨wv, ill, hil, hf, rfl⟩, hst⟩; unfold YV.pl at h2; dsimp only at h1 h2 h3 hil hf; have hfc := found_cons (S := S) (m := ym) (ill := ill) h1 h2; obtain ⟨z, hz⟩ : ∃ z, z = l.getD yk (0, 0) := ⟨_, rfl⟩; rw [← hz] at hfc; have HZ := ya hz; have HKL := ya h1; have HH2 := ya h2; have HST := ya hst; have HIL := ya hil; have HNX := ya (h3.looked z.1 z.2 S); have HFF := ya hf; obtain ⟨V1, hV1⟩ : ∃ V1, V1 = cE l S ⟨yk, ym, yv⟩ := ⟨_, rfl⟩; rw [← hV1]; have hs := St.perm hst.selfM (pull4 [_, _, _] (mP gm ga x _) (bxP q3 q4 q5 gm but (yd (.slice ao n c) b v S)) (fX g9 g8 g7 g6 g4 (yd (.slice ao n c) b v S) [] wv ill) R); change St W _ W (.row wv 83 2 ill.length (yu ill) :: .blk g9 30 [wv] :: .blk g8 37 [.int .i64 0] :: .blk g7 30 [.slice none 0 0] :: .blk g6 28 [.slice none 0 0] :: .blk g4 34 (yd (.slice ao n c) b v S) :: (.blk g11 128 [.int .i64 (ym.kind (l.getD yk (0, 0)).1 (l.getD yk (0, 0)).2 S), yv] :: .blk g10 83 [.int .i64 (l.getD yk (0, 0)).1, .int .i64 (l.getD yk (0, 0)).2] :: .rowP yP yv 5 1 (ym.lookB (l.getD yk (0, 0)).1 (l.getD yk (0, 0)).2 S).length (yb (ym.lookB (l.getD yk (0, 0)).1 (l.getD yk (0, 0)).2 S)) :: (mP gm ga x (ym.looked (l.getD yk (0, 0)).1 (l.getD yk (0, 0)).2 S) ++ (bxP q3 q4 q5 gm but (yd (.slice ao n c) b v S) ++ R)))) at hs; rw [← hz] at hs; have c11 : W.cell? ⟨g11, 0, none⟩ = some (.int .i64 (ym.kind z.1 z.2 S)) := hs.cell (T := 128) (cs := [.int .i64 (ym.kind z.1 z.2 S), yv]) (zT (zT (zT (zT (zT (zT zH)))))) rfl; clear hz h1 h2 h3 hil hf hst hV1 hI0; simp only [List.setIfInBounds_toArray, List.set_cons_zero, List.set_cons_succ]; obtain ⟨ua, uc, rfl⟩ := St.rowPSlice [_, _, _, _, _, _, _, _] hs; obtain ⟨wa, wc, rfl⟩ := yZ [] hs; rcases kind_ways ym z.1 z.2 S with hk | hk | hk | hk
  ·rw [hk] at hs c11; have HFE := ya (HFF.trans (hfc.trans (if_pos hk))); clear hfc hk
   gi_upto_region 7 with (fail)
   have hX := hs.drew; clear hs; refine region_round (S := (fun w' => (yn 28 ⟨g11, 1, none⟩).run Tryz.prog w' = .ok (.slice ua (ym.lookB z.1 z.2 S).length uc) w' ∧ (yn 30 ⟨g9, 0, none⟩).run Tryz.prog w' = .ok (.slice wa ill.length wc) w')) (by kernel_rfl) rfl (by exact ⟨Loads.at [_, _, _, _, _, _] hX rfl, Loads.at [_] hX rfl⟩) (fun hHeld => ?_); refine jt 0 (h:=jt 2 (h:=jt 1 (h:=?_))); refine rW 3 (h:=fun K hK => ?_); refine ye [_, _, _, _] hX rfl rfl rfl (v := .slice _ _ _) rfl rfl rfl ?_ ?_
   ·exact Nat.le_refl _
   intro whA1 hA1; refine kQ hK ⟨Loads.at [_, _, _, _, _, _] hA1 rfl, Loads.at [_] hA1 rfl⟩ (h:=fun hHeld => ?_); refine rW 4 (h:=fun K hK => ?_); refine ye [_, _, _] hA1 rfl rfl rfl (v := .slice _ _ _) rfl rfl rfl ?_ ?_
   ·exact Nat.le_refl _
   intro whA2 hA2; refine kQ hK ⟨Loads.at [_, _, _, _, _, _] hA2 rfl, Loads.at [_] hA2 rfl⟩ (h:=fun hHeld => ?_); refine rW 5 (h:=fun K hK => ?_); refine ye [_, _] hA2 rfl rfl rfl (v := .int _ _) rfl rfl rfl ?_ ?_
   ·exact Nat.le_refl _
   intro whA3 hA3; refine kQ hK ⟨Loads.at [_, _, _, _, _, _] hA3 rfl, Loads.at [_] hA3 rfl⟩ (h:=fun hHeld => ?_); refine jn ?_; clear hHeld; refine jp ?_; gi_wp2; exact ⟨zP HST.out hA3, rfl, .slice ua (ym.lookB z.1 z.2 S).length uc, .slice wa ill.length wc, by rw [HFE]; exact f_end (zm HST.out hA3)⟩
  ·rw [hk] at hs c11; have HFE := ya (HFF.trans (hfc.trans ((if_neg (by rw [hk]; decide)).trans (if_pos hk)))); clear hfc hk
   gi_upto_region 9 with (fail)
   apply wpIn_region_lit; refine jb rfl ?_; go_wp2_with (first | (refine jl (Loads.at [_] hs rfl) ?_) | (refine jl (yl [.int .i64 z.1, .int .i64 z.2] [_, _, _, _, _, _, _] hs rfl rfl) ?_) | (refine za [.agg (List.toArray [.int .i64 z.1, .int .i64 z.2])] [.int .i64 z.1, .int .i64 z.2] hs (h:=fun g12 w2 hs2 => ?_); clear hs) | (refine jf [_] hs2 (hr:=j3 hs2 rfl (by decide)) (hb:=by have := HIL.out; have := HKL.out; have := Hn.out; unfold maxLen; omega) (h:=fun v1 w3 hs3 _ => ?_); clear hs2; obtain ⟨a4, c4, rfl⟩ := yZ [_] hs3) | (refine ye [_, _] hs3 rfl rfl rfl (v := .slice _ _ _) rfl rfl rfl ?_ ?_; (exact Nat.le_refl _); intro w4 hs4; clear hs3)); refine jp ?_; gi_wp2; refine ⟨zP HST.out hs4, (yk + 1, ym.looked z.1 z.2 S), by unfold cN YV.next YV.pl; dsimp only; rw [← HZ], by show yk + 1 ≤ _; have := HKL.out; omega, HNX.out, _, ⟨.slice a4 (ill.length + 1) c4, ill ++ [z], by rw [List.length_append]; have := HIL.out; exact Nat.succ_le_succ this, HFE.trans (by rw [HZ]), rfl⟩, ?_⟩; have h8 := zm HST.out hs4; have h9 := f_back (T := [_, _, _]) (P := mP gm ga x (ym.looked z.1 z.2 S)) (B := bxP q3 q4 q5 gm but (yd (.slice ao n c) b v S)) (R := R) (ze h8); unfold fX; rw [yaV, List.length_append]; exact h9
  ·rw [hk] at hs c11; have HFE := ya (HFF.trans (hfc.trans ((if_neg (by rw [hk]; decide)).trans ((if_neg (by rw [hk]; decide)).trans (if_neg (by rw [hk]; decide)))))); clear hfc hk; gi_wp2; exact ⟨KeepsOthers.refl _, (yk + 1, ym.looked z.1 z.2 S), by unfold cN YV.next YV.pl; dsimp only; rw [← HZ], by show yk + 1 ≤ _; have := HKL.out; omega, HNX.out, _, ⟨_, ill, by have := HIL.out; omega, HFE.out, rfl⟩, f_back (T := [_, _, _]) (zm HST.out hs)⟩
  ·rw [hk] at hs c11; have HFE := ya (HFF.trans (hfc.trans ((if_neg (by rw [hk]; decide)).trans ((if_neg (by rw [hk]; decide)).trans (if_pos hk))))); clear hfc hk
   gi_upto_region 11 with (fail)
   apply wpIn_region_lit; refine jb rfl ?_; go_wp2_with (first | (refine ye [_, _, _, _] hs rfl rfl rfl (v := .slice _ _ _) rfl rfl rfl ?_ ?_; (exact Nat.le_refl _); intro w2 hs2; clear hs) | (refine ye [_, _, _] hs2 rfl rfl rfl (v := .slice _ _ _) rfl rfl rfl ?_ ?_; (exact Nat.le_refl _); intro w3 hs3; clear hs2) | (refine ye [_, _] hs3 rfl rfl rfl (v := .int _ _) rfl rfl rfl ?_ ?_; (exact Nat.le_refl _); intro w4 hs4; clear hs3)); refine jp ?_; gi_wp2; exact ⟨zP HST.out hs4, rfl, .slice none 0 0, .slice none 0 0, by rw [HFE]; exact f_end0 (T := [_, _, _]) (zm HST.out hs4)⟩
 case done =>
  rintro D ⟨sk, sm⟩ W hD hE ⟨h1, h2, X, ⟨wv, ill, hil, hf, rfl⟩, hst⟩ hK; dsimp only at hE hil hf h2; rw [hE, List.drop_length] at hf; have hf2 : F = ⟨if ill = [] then 13 else 12, [], [], sm⟩ := hf; have HST := ya hst; have HKD := ya hK; have HD := ya hD; have hs := St.perm hst.selfM (pull4 [] (mP gm ga x _) (bxP q3 q4 q5 gm but (yd (.slice ao n c) b v S)) (fX g9 g8 g7 g6 g4 (yd (.slice ao n c) b v S) [] wv ill) R); change St W _ W (.row wv 83 2 ill.length (yu ill) :: .blk g9 30 [wv] :: .blk g8 37 [.int .i64 0] :: .blk g7 30 [.slice none 0 0] :: .blk g6 28 [.slice none 0 0] :: .blk g4 34 (yd (.slice ao n c) b v S) :: (mP gm ga x sm ++ (bxP q3 q4 q5 gm but (yd (.slice ao n c) b v S) ++ R))) at hs; obtain ⟨wa, wc, rfl⟩ := yZ [] hs; clear hst hK hD hf hil h1 h2 hE hI0; by_cases h0 : ill = []
  ·subst h0; rw [if_pos rfl] at hf2; have HFE := ya hf2; clear hf2; go_wp2_with (first | (refine jl (Loads.at [_] hs rfl) ?_) | (refine ye [_, _, _, _] hs rfl rfl rfl (v := .slice _ _ _) rfl rfl rfl ?_ ?_; (exact Nat.le_refl _); intro w2 hs2; clear hs) | (refine ye [_, _, _] hs2 rfl rfl rfl (v := .slice _ _ _) rfl rfl rfl ?_ ?_; (exact Nat.le_refl _); intro w3 hs3; clear hs2) | (refine ye [_, _] hs3 rfl rfl rfl (v := .int _ _) rfl rfl rfl ?_ ?_; (exact Nat.le_refl _); intro w4 hs4; clear hs3)); have hK2 := (zP HST.out hs4).same _ _ HKD.out rfl; have hE2 : fEnd w0 M gm ga x g8 g7 g6 R F w4 := ⟨.slice none 0 0, .slice none 0 0, by rw [HFE]; exact f_end0 (T := []) (zm HST.out hs4)⟩; refine ⟨by simp, .inl ⟨_, _, rfl, run_takeDeferred hK2, ?_⟩⟩; obtain ⟨ue, ie, hs6⟩ := hE2; have hs7 := St.putObj (o' := .deferred none) (Nat.le_trans HSZ.out HD.out) hs6 hK2 rfl; have l1 := Loads.at (P := Tryz.prog) (T := 28) (off := 0) [_, _] hs7 rfl; have l2 := Loads.at (P := Tryz.prog) (T := 30) (off := 0) [_] hs7 rfl; have l3 := Loads.at (P := Tryz.prog) (T := 37) (off := 0) [] hs7 rfl; exact ⟨_, ybD rfl rfl rfl rfl l1 l2 l3, ue, ie, rfl, St.sub hs7 (.cons _ (.cons _ (.cons _ (List.Sublist.refl _))))⟩
  ·rw [if_neg h0] at hf2; have HFE := ya hf2; obtain ⟨kl, hkl⟩ : ∃ kl, kl = ill.length := ⟨_, rfl⟩; have hpos : 0 < kl := by
    rw [hkl]; exact List.length_pos_iff.2 h0
   have d1 : decide ((kl : Int) > 0) = true := zD (by omega); rw [← hkl] at hs HST; clear hf2 h0; go_wp2_with (first | (refine jl (Loads.at [_] hs rfl) ?_) | (refine ye [_, _, _, _] hs rfl rfl rfl (v := .slice _ _ _) rfl rfl rfl ?_ ?_; (exact Nat.le_refl _); intro w2 hs2; clear hs) | (refine ye [_, _, _] hs2 rfl rfl rfl (v := .slice _ _ _) rfl rfl rfl ?_ ?_; (exact Nat.le_refl _); intro w3 hs3; clear hs2) | (refine ye [_, _] hs3 rfl rfl rfl (v := .int _ _) rfl rfl rfl ?_ ?_; (exact Nat.le_refl _); intro w4 hs4; clear hs3)); have hK2 := (zP HST.out hs4).same _ _ HKD.out rfl; have hE2 : fEnd w0 M gm ga x g8 g7 g6 R F w4 := ⟨.slice none 0 0, .slice none 0 0, by rw [HFE]; exact f_end0 (T := []) (zm HST.out hs4)⟩; refine ⟨by simp, .inl ⟨_, _, rfl, run_takeDeferred hK2, ?_⟩⟩; obtain ⟨ue, ie, hs6⟩ := hE2; have hs7 := St.putObj (o' := .deferred none) (Nat.le_trans HSZ.out HD.out) hs6 hK2 rfl; have l1 := Loads.at (P := Tryz.prog) (T := 28) (off := 0) [_, _] hs7 rfl; have l2 := Loads.at (P := Tryz.prog) (T := 30) (off := 0) [_] hs7 rfl; have l3 := Loads.at (P := Tryz.prog) (T := 37) (off := 0) [] hs7 rfl; exact ⟨_, ybD rfl rfl rfl rfl l1 l2 l3, ue, ie, rfl, St.sub hs7 (.cons _ (.cons _ (.cons _ (List.Sublist.refl _))))⟩
 case stop =>
  rintro D cc W hD ⟨rfl, hE⟩ hK; have hE2 := hE; have hK2 := hK; have HD := ya hD; clear hE hK hD hI0; go_wp2; refine ⟨by simp, .inl ⟨_, _, rfl, run_takeDeferred hK2, ?_⟩⟩; obtain ⟨ue, ie, hs6⟩ := hE2; have hs7 := St.putObj (o' := .deferred none) (Nat.le_trans HSZ.out HD.out) hs6 hK2 rfl; have l1 := Loads.at (P := Tryz.prog) (T := 28) (off := 0) [_, _] hs7 rfl; have l2 := Loads.at (P := Tryz.prog) (T := 30) (off := 0) [_] hs7 rfl; have l3 := Loads.at (P := Tryz.prog) (T := 37) (off := 0) [] hs7 rfl; exact ⟨_, ybD rfl rfl rfl rfl l1 l2 l3, ue, ie, rfl, St.sub hs7 (.cons _ (.cons _ (.cons _ (List.Sublist.refl _))))⟩
end
theorem qC {S : List UInt8} {but : Int} : ∀ {l ill : List (Int × Int)} {m : MV} {N : Nat}, MGood m N → MGood (yB S but m l ill).m (N + l.length)
 | [], _, _, _, h => h
 | z :: l, ill, m, N, h => by
  have e : N + (z :: l).length = N + 1 + l.length := by rw [List.length_cons]; omega
  unfold yB; split
  ·exact (qC h).mono (by rw [e]; omega)
  ·have h1 := h.looked z.1 z.2 S; rw [e]; split
   ·exact h1.mono (Nat.le_add_right _ _)
   ·split
    ·exact qC h1
    ·split
     ·exact h1.mono (Nat.le_add_right _ _)
     ·exact qC h1
theorem found_ill {S : List UInt8} {but : Int} : ∀ {l ill : List (Int × Int)} {m : MV}, (yB S but m l ill).ill.length ≤ ill.length + l.length
 | [], _, _ => Nat.zero_le _
 | z :: l, ill, m => by
  have e : ill.length + (z :: l).length = ill.length + 1 + l.length := by rw [List.length_cons]; omega
  rw [e]; unfold yB; split
  ·exact Nat.le_trans found_ill (by omega)
  ·split
   ·show ill.length ≤ _; omega
   ·split
    ·have := found_ill (S := S) (but := but) (l := l) (ill := ill ++ [z]) (m := m.looked z.1 z.2 S); rwa [List.length_append] at this
    ·split
     ·exact Nat.zero_le _
     ·exact Nat.le_trans found_ill (by omega)
theorem heals_succ {m : MV} {l : List (Int × Int)} {b : List UInt8} {k : Nat} (hk : k < l.length) : m.heals (l.take (k + 1)) b = (m.heals (l.take k) b).healed (l.getD k (0, 0)).1 (l.getD k (0, 0)).2 b := by
 unfold MV.heals; rw [List.take_succ_eq_append_getElem hk, List.foldl_append, List.getD_eq_getElem?_getD, List.getElem?_eq_getElem hk]; rfl
def yq (ao : Option Addr) (n c : Nat) (l : List (Int × Int)) (b v : Int) (S : List UInt8) : PV := ⟨.slice ao n c, l, b, v, S⟩
section
variable {w0 w : World} {M : List Nat} {R : List HA} {gm ga : Nat} {x : GA} {m : MV} {N : Nat} (hS : St w0 M w (mP gm ga x m ++ R)) (hg : MGood m N) (ao : Option Addr) (n c : Nat) (l : List (Int × Int)) (b v : Int) (S : List UInt8) (hL : L32 S) (hn : l.length = n) (hA : ∀ w, St w0 M w R → Rd w (.slice ao n c) 2 n (yu l)) (hN : N + 2 * n ≤ 900000)
include hS hg ao n c l b v S hL hn hA hN
theorem get_odd (h1 : m.askE (yq ao n c l b v S) ≠ 0) :
  Calls Tryz.prog 22 #[PM gm, .agg (yd (.slice ao n c) b v S).toArray] w fun e w' => ∃ u x', e = .returned (.tuple #[u, .int .i64 (m.get (yq ao n c l b v S)).er]) ∧ St w0 M w' (.rowP yP u 5 1 (m.get (yq ao n c l b v S)).b.length (yb (m.get (yq ao n c l b v S)).b) :: (mP gm ga x' (m.get (yq ao n c l b v S)).m ++ R)) := by
 have _ := hN; have hr : m.get (yq ao n c l b v S) = ⟨m.askE (yq ao n c l b v S), [], m⟩ := by unfold MV.get; rw [if_pos h1]
 rw [hr]; have hst := hS; have HG := ya hg; have HL := ya hL; have Hn := ya hn; have HA := ya hA; obtain ⟨E, hE⟩ : ∃ E, E = m.askE (yq ao n c l b v S) := ⟨_, rfl⟩; rw [← hE] at h1 ⊢; have HAS : Hid (m.askE ⟨.slice ao n c, l, b, v, S⟩ = E) := ya hE.symm; have d1 : (E != 0) = true := by simpa using h1
 clear hS hg hL hn hA hr hE h1; unfold PM; go_enter Tryz.func22, Tryz.ntmps22; go_wp2_with (first | (refine zj hst fun g3 w1 hst0 => ?_; clear hst; have hst1 : St w0 M w1 (mP gm ga x m ++ (.blk g3 34 (yd (.slice ao n c) b v S) :: R)) := zB (A := mP gm ga x m) hst0; clear hst0) | (refine jl (Loads.blkA (T := 34) (vs := yd (.slice ao n c) b v S) hst1 (by rw [yo HL.out]; exact TyA.out) (zR zH) (yz _ _ _ _)) ?_) | (go_at_call 41; refine (ql (zw hst1 HG.out.sc.ok.d0) ao n c l b v S HL.out (HA.out _ (St.sub hst1 (zC.trans zA))) Hn.out).mono ?_; rw [HAS]; rintro _ w2 ⟨rfl, h4⟩; replace hst1 := St.call0 hst1 h4; clear h4)); go_ret2; exact ⟨_, x, rfl, qo yP _ 1 (sub_x hst1)⟩
theorem get_none (h1 : m.askE (yq ao n c l b v S) = 0) (h2 : (yB S (-1) m l []).er ≠ 0) :
  Calls Tryz.prog 22 #[PM gm, .agg (yd (.slice ao n c) b v S).toArray] w fun e w' => ∃ u x', e = .returned (.tuple #[u, .int .i64 (m.get (yq ao n c l b v S)).er]) ∧ St w0 M w' (.rowP yP u 5 1 (m.get (yq ao n c l b v S)).b.length (yb (m.get (yq ao n c l b v S)).b) :: (mP gm ga x' (m.get (yq ao n c l b v S)).m ++ R)) := by
 obtain ⟨F, hF⟩ : ∃ F, F = yB S (-1) m l [] := ⟨_, rfl⟩; rw [← hF] at h2; have hr : m.get (yq ao n c l b v S) = ⟨F.er, [], F.m⟩ := by
  unfold MV.get; rw [if_neg (by rw [h1]; decide)]; unfold yq; dsimp only; rw [← hF, if_pos h2]
 rw [hr]; have hst := hS; have HG := ya hg; have HL := ya hL; have Hn := ya hn; have HA := ya hA; have HF := ya hF; have HAS : Hid (m.askE ⟨.slice ao n c, l, b, v, S⟩ = 0) := ya h1; obtain ⟨E, hE⟩ : ∃ E, E = F.er := ⟨_, rfl⟩; rw [← hE] at h2 ⊢; have HE := ya hE.symm; have d1 : (E != 0) = true := by simpa using h2
 clear hS hg hL hn hA hr hE h1 h2 hF; unfold PM; go_enter Tryz.func22, Tryz.ntmps22; go_wp2_with (first | (refine zj hst fun g3 w1 hst0 => ?_; clear hst; have hst1 : St w0 M w1 (mP gm ga x m ++ (.blk g3 34 (yd (.slice ao n c) b v S) :: R)) := zB (A := mP gm ga x m) hst0; clear hst0) | (refine jl (Loads.blkA (T := 34) (vs := yd (.slice ao n c) b v S) hst1 (by rw [yo HL.out]; exact TyA.out) (zR zH) (yz _ _ _ _)) ?_) | (go_at_call 41; refine (ql (zw hst1 HG.out.sc.ok.d0) ao n c l b v S HL.out (HA.out _ (St.sub hst1 (zC.trans zA))) Hn.out).mono ?_; rw [HAS]; rintro _ w2 ⟨rfl, h4⟩; replace hst1 := St.call0 hst1 h4; clear h4) | (go_at_call 43; have HC := found_any hst1 HG.out ao n c l b v S HL.out Hn.out (fun w h => HA.out w (St.sub h zC)) (by omega) (-1); rw [← HF] at HC; rw [HE] at HC; refine HC.mono ?_; clear HC; rintro _ w3 ⟨u, iv, rfl, h4⟩; have hst2 := h4; clear h4 hst1)); go_ret2; exact ⟨_, x, rfl, qo yP _ 1 (sub_x (ze (ze hst2)))⟩
theorem get_some (h1 : m.askE (yq ao n c l b v S) = 0) (h2 : (yB S (-1) m l []).er = 0) :
  Calls Tryz.prog 22 #[PM gm, .agg (yd (.slice ao n c) b v S).toArray] w fun e w' => ∃ u x', e = .returned (.tuple #[u, .int .i64 (m.get (yq ao n c l b v S)).er]) ∧ St w0 M w' (.rowP yP u 5 1 (m.get (yq ao n c l b v S)).b.length (yb (m.get (yq ao n c l b v S)).b) :: (mP gm ga x' (m.get (yq ao n c l b v S)).m ++ R)) := by
 obtain ⟨F, hF⟩ : ∃ F, F = yB S (-1) m l [] := ⟨_, rfl⟩; rw [← hF] at h2; have hr : m.get (yq ao n c l b v S) = ⟨0, F.b, F.m.heals F.ill F.b⟩ := by
  unfold MV.get; rw [if_neg (by rw [h1]; decide)]; unfold yq; dsimp only; rw [← hF, if_neg (by rw [ h2]; decide)]
 rw [hr]; have hst := hS; have HG := ya hg; have HL := ya hL; have Hn := ya hn; have HA := ya hA; have HF := ya hF; have HAS : Hid (m.askE ⟨.slice ao n c, l, b, v, S⟩ = 0) := ya h1; have HE := ya h2; have HGF := ya (show MGood F.m (N + n) from by rw [hF, ← hn]; exact qC hg); have HIL := ya (show F.ill.length ≤ n from by rw [hF, ← hn]; have := found_ill (S := S) (but := -1) (l := l) (ill := []) (m := m); simpa using this); obtain ⟨L, hLL⟩ : ∃ L, L = F.ill := ⟨_, rfl⟩; obtain ⟨B, hB⟩ : ∃ B, B = F.b := ⟨_, rfl⟩; obtain ⟨FM, hFM⟩ : ∃ FM, FM = F.m := ⟨_, rfl⟩; rw [← hLL, ← hB, ← hFM]; rw [← hLL] at HIL; rw [← hFM] at HGF; have HI1 := ya hLL.symm; have HB1 := ya hB.symm; have HM1 := ya hFM.symm; obtain ⟨cnt, hcnt⟩ : ∃ cnt, cnt = L.length := ⟨_, rfl⟩; have HCNT := ya hcnt; have HCNS := ya hcnt.symm; rw [← hcnt] at HIL; clear hS hg hL hn hA hr h1 h2 hF hLL hB hFM hcnt; unfold PM; go_enter Tryz.func22, Tryz.ntmps22; go_wp2_with (first | (refine zj hst fun g3 w1 hst0 => ?_; clear hst; have hst1 : St w0 M w1 (mP gm ga x m ++ (.blk g3 34 (yd (.slice ao n c) b v S) :: R)) := zB (A := mP gm ga x m) hst0; clear hst0) | (refine jl (Loads.blkA (T := 34) (vs := yd (.slice ao n c) b v S) hst1 (by rw [yo HL.out]; exact TyA.out) (zR zH) (yz _ _ _ _)) ?_) | (go_at_call 41; refine (ql (zw hst1 HG.out.sc.ok.d0) ao n c l b v S HL.out (HA.out _ (St.sub hst1 (zC.trans zA))) Hn.out).mono ?_; rw [HAS]; rintro _ w2 ⟨rfl, h4⟩; replace hst1 := St.call0 hst1 h4; clear h4) | (go_at_call 43; have HC := found_any hst1 HG.out ao n c l b v S HL.out Hn.out (fun w h => HA.out w (St.sub h zC)) (by omega) (-1); rw [← HF] at HC; rw [HE, HI1, HB1, HM1, HCNS] at HC; refine HC.mono ?_; clear HC; rintro _ w3 ⟨u, iv, rfl, h4⟩; obtain ⟨ua, uc, rfl⟩ := St.rowPSlice [] h4; obtain ⟨ia, ic, rfl⟩ := yZ [_] h4; have hst2 := h4; clear h4 hst1)); have hst3 : St w0 M w3 (mP gm ga x FM ++ (.rowP yP (.slice ua B.length uc) 5 1 B.length (yb B) :: .row (.slice ia cnt ic) 83 2 cnt (yu L) :: .blk g3 34 (yd (.slice ao n c) b v S) :: R)) := St.perm hst2 (List.perm_append_comm_assoc [_, _] (mP gm ga x FM) _); clear hst2; have hcn : cnt ≤ n := HIL.out; go_wp2; go_loopw [30] (fun i wr => ∃ (k : Nat) (x' : GA), k ≤ cnt ∧ i = .int .i64 k ∧ St w0 M wr (mP gm ga x' (FM.heals (L.take k) B) ++ (.rowP yP (.slice ua B.length uc) 5 1 B.length (yb B) :: .row (.slice ia cnt ic) 83 2 cnt (yu L) :: .blk g3 34 (yd (.slice ao n c) b v S) :: R))) (fun i _ => cnt - (intOf i).toNat)
 case atStart => exact ⟨0, x, Nat.zero_le _, rfl, hst3⟩
 case round =>
  clear hst3; obtain ⟨k, x1, hk, rfl, hst⟩ := hrel; by_cases hlt : k < cnt
  ·have d0 : decide ((k : Int) < (cnt : Int)) = true := zD (by omega); obtain ⟨bb, off, rfl, hr⟩ := (Rd.row hst (zR (zT zH))).at hlt; obtain ⟨z, hz⟩ : ∃ z, z = L.getD k (0, 0) := ⟨_, rfl⟩; have hb := z7 hr (k := k) (by rw [← HCNT]; exact hlt); rw [← hz] at hb; have HB := ya hb; have HH := ya (heals_succ (m := FM) (b := B) (l := L) (k := k) (by rw [← HCNT]; exact hlt)); rw [← hz] at HH; have HGK := ya (show MGood (FM.heals (L.take k) B) (N + n + k) from by
    have := HGF.out.heals (l := L.take k) (b := B); rwa [List.length_take, Nat.min_eq_left (by rw [← HCNT.out]; exact hk)] at this)
   clear hz hb hr; go_wp2_with (first | (refine yA (hlt) ?_) | (refine jl (Loads.range (cs := [.int .i64 z.1, .int .i64 z.2]) (TyA.out (n := 2)) HB.out) ?_) | (refine jl (yl [.int .i64 z.1, .int .i64 z.2] [] hst5 rfl rfl) ?_) | (refine yN hst fun g11 w4 hst4 => ?_; clear hst) | (refine ji [] hst4 fun w5 hst5 => ?_; clear hst4) | (go_at_call 58; refine (heal_any (zB (A := mP gm ga x1 (FM.heals (L.take k) B)) hst5) HGK.out (by have := HIL.out; omega) z.1 z.2 ua B.length uc B (GB.row (zT zH) rfl)).mono ?_; rw [← HH]; rintro _ w6 ⟨x2, rfl, h4⟩; have hst6 := sub_x h4; clear h4 hst5)); go_roundw
   case rel => exact ⟨k + 1, x2, by omega, by go_num, hst6⟩
   case measure => simp [intOf]; omega
  ·obtain rfl : k = cnt := by omega
   have d0 : decide ((k : Int) < (k : Int)) = false := zF (by omega); rw [HCNT, List.take_length] at hst; go_wp2; go_ret2; exact ⟨_, x1, rfl, St.sub (St.perm hst (List.perm_append_comm_assoc (mP gm ga x1 (FM.heals L B)) [_] _)) (.cons_cons _ (List.Sublist.append_left (.cons _ (.cons _ (List.Sublist.refl _))) _))⟩
theorem get_any :
  Calls Tryz.prog 22 #[PM gm, .agg (yd (.slice ao n c) b v S).toArray] w fun e w' => ∃ u x', e = .returned (.tuple #[u, .int .i64 (m.get (yq ao n c l b v S)).er]) ∧ St w0 M w' (.rowP yP u 5 1 (m.get (yq ao n c l b v S)).b.length (yb (m.get (yq ao n c l b v S)).b) :: (mP gm ga x' (m.get (yq ao n c l b v S)).m ++ R)) := by
 by_cases h1 : m.askE (yq ao n c l b v S) = 0
 ·by_cases h2 : (yB S (-1) m l []).er = 0
  ·exact get_some hS hg ao n c l b v S hL hn hA hN h1 h2
  ·exact get_none hS hg ao n c l b v S hL hn hA hN h1 h2
 ·exact get_odd hS hg ao n c l b v S hL hn hA hN h1
end
theorem yaj {dev : Int} {l : List (Int × Int)} {k : Nat} (hk : k < l.length) : yL dev (l.take (k + 1)) = if (l.getD k (0, 0)).1 = dev then (l.getD k (0, 0)).2 else yL dev (l.take k) := by
 unfold yL; rw [List.take_succ_eq_append_getElem hk, List.foldl_append, List.getD_eq_getElem?_getD, List.getElem?_eq_getElem hk]; rfl
theorem off_row {w0 w : World} {M : List Nat} {A P R : List HA} {T : TypeId} {ao : Option Addr} {n c : Nat} {bs : List UInt8} (h : St w0 M w (A ++ (P ++ R))) (hm : HA.rowP yP (.slice ao n c) T 1 n (yb bs) ∈ A) (hl : bs.length = n) : Off (.slice ao n c) (P.filterMap HA.foot) := by
 have h1 : St w0 M w (P ++ (A ++ R)) := St.perm h (List.perm_append_comm_assoc _ _ _); exact (GB.row (w0 := w0) (M := M) (List.mem_append_left R hm) hl).off h1
section
variable {w0 w : World} {M : List Nat} {R : List HA} {gm ga : Nat} {x : GA} {m : MV} {N : Nat} (hS : St w0 M w (mP gm ga x m ++ R)) (hg : MGood m N) (ao : Option Addr) (n c : Nat) (l : List (Int × Int)) (b v : Int) (S : List UInt8) (hL : L32 S) (hn : l.length = n) (hA : ∀ w, St w0 M w R → Rd w (.slice ao n c) 2 n (yu l)) (hN : N + 2 * n ≤ 900000) (dev : Int)
include hS hg ao n c l b v S hL hn hA hN dev
theorem restore_odd (h1 : m.askE (yq ao n c l b v S) ≠ 0) :
  Calls Tryz.prog 15 #[PM gm, .agg (yd (.slice ao n c) b v S).toArray, .int .i64 dev] w fun e w' => ∃ x', e = .returned (.int .i64 (m.restore (yq ao n c l b v S) dev).er) ∧ St w0 M w' (mP gm ga x' (m.restore (yq ao n c l b v S) dev).m ++ R) := by
 have _ := hN; have hr : m.restore (yq ao n c l b v S) dev = ⟨m.askE (yq ao n c l b v S), m⟩ := by unfold MV.restore; rw [if_pos h1]
 rw [hr]; have hst := hS; have HG := ya hg; have HL := ya hL; have Hn := ya hn; have HA := ya hA; obtain ⟨E, hE⟩ : ∃ E, E = m.askE (yq ao n c l b v S) := ⟨_, rfl⟩; rw [← hE] at h1 ⊢; have HAS : Hid (m.askE ⟨.slice ao n c, l, b, v, S⟩ = E) := ya hE.symm; have d1 : (E != 0) = true := by simpa using h1
 clear hS hg hL hn hA hr hE h1; unfold PM; go_enter Tryz.func15, Tryz.ntmps15; go_wp2_with (first | (refine zj hst fun g3 w1 hst0 => ?_; clear hst; have hst1 : St w0 M w1 (mP gm ga x m ++ (.blk g3 34 (yd (.slice ao n c) b v S) :: R)) := zB (A := mP gm ga x m) hst0; clear hst0) | (refine jl (Loads.blk (T := 30) hst1 TyS.out (zR zH) rfl) ?_) | (refine jl (Loads.blkA (T := 34) (vs := yd (.slice ao n c) b v S) hst1 (by rw [yo HL.out]; exact TyA.out) (zR zH) (yz _ _ _ _)) ?_) | (go_at_call 41; refine (ql (zw hst1 HG.out.sc.ok.d0) ao n c l b v S HL.out (HA.out _ (St.sub hst1 (zC.trans zA))) Hn.out).mono ?_; rw [HAS]; rintro _ w2 ⟨rfl, h4⟩; replace hst1 := St.call0 hst1 h4; clear h4)); go_ret; exact ⟨x, rfl, sub_x hst1⟩
theorem restore_missing (h1 : m.askE (yq ao n c l b v S) = 0) (h2 : yL dev l < 0) :
  Calls Tryz.prog 15 #[PM gm, .agg (yd (.slice ao n c) b v S).toArray, .int .i64 dev] w fun e w' => ∃ x', e = .returned (.int .i64 (m.restore (yq ao n c l b v S) dev).er) ∧ St w0 M w' (mP gm ga x' (m.restore (yq ao n c l b v S) dev).m ++ R) := by
 have hr : m.restore (yq ao n c l b v S) dev = ⟨6, m⟩ := by
  unfold MV.restore; rw [if_neg (by rw [h1]; decide)]; unfold yq; dsimp only; rw [if_pos h2]
 rw [hr]; have hst := hS; have HG := ya hg; have HL := ya hL; have Hn := ya hn; have HA := ya hA; have HAS : Hid (m.askE ⟨.slice ao n c, l, b, v, S⟩ = 0) := ya h1; obtain ⟨PO, hPO⟩ : ∃ PO, PO = yL dev l := ⟨_, rfl⟩; rw [← hPO] at h2; have HPO := ya hPO; have f2 : decide (PO < 0) = true := zD h2; clear hS hg hL hn hA hr h1 h2 hPO; unfold PM; go_enter Tryz.func15, Tryz.ntmps15; go_wp2_with (first | (refine zj hst fun g3 w1 hst0 => ?_; clear hst; have hst1 : St w0 M w1 (mP gm ga x m ++ (.blk g3 34 (yd (.slice ao n c) b v S) :: R)) := zB (A := mP gm ga x m) hst0; clear hst0) | (refine jl (Loads.blk (T := 30) hst1 TyS.out (zR zH) rfl) ?_) | (refine jl (Loads.blkA (T := 34) (vs := yd (.slice ao n c) b v S) hst1 (by rw [yo HL.out]; exact TyA.out) (zR zH) (yz _ _ _ _)) ?_) | (go_at_call 41; refine (ql (zw hst1 HG.out.sc.ok.d0) ao n c l b v S HL.out (HA.out _ (St.sub hst1 (zC.trans zA))) Hn.out).mono ?_; rw [HAS]; rintro _ w2 ⟨rfl, h4⟩; replace hst1 := St.call0 hst1 h4; clear h4)); go_loopw [8, 23] (fun q i wr => ∃ k : Nat, k ≤ n ∧ i = .int .i64 k ∧ q = .int .i64 (yL dev (l.take k)) ∧ St w0 M wr (mP gm ga x m ++ (.blk g3 34 (yd (.slice ao n c) b v S) :: R))) (fun _ i _ => n - (intOf i).toNat)
 case atStart => exact ⟨0, Nat.zero_le _, rfl, rfl, hst1⟩
 case round =>
  clear hst1; obtain ⟨k, hk, rfl, rfl, hst⟩ := hrel; by_cases hlt : k < n
  ·have d0 : decide ((k : Int) < (n : Int)) = true := zD (by omega); obtain ⟨bb, off, rfl, hr⟩ := (HA.out _ (St.sub hst (zC.trans zA))).at hlt; obtain ⟨z, hz⟩ : ∃ z, z = l.getD k (0, 0) := ⟨_, rfl⟩; have hb := z7 hr (k := k) (by rw [Hn]; exact hlt); rw [← hz] at hb; have HB := ya hb; have HH := ya (yaj (dev := dev) (l := l) (k := k) (by rw [Hn]; exact hlt)); rw [← hz] at HH; obtain ⟨PK, hPK⟩ : ∃ PK, PK = yL dev (l.take k) := ⟨_, rfl⟩; rw [← hPK] at HH; rw [← hPK]; clear hz hb hr hPK; by_cases he : z.1 = dev
   ·have d2 : (z.1 == dev) = true := beq_iff_eq.2 he; have HQ := ya (HH.trans (if_pos he)); clear he; go_wp2_with (first | (refine yA (hlt) ?_) | (refine jl (Loads.range (cs := [.int .i64 z.1, .int .i64 z.2]) (TyA.out (n := 2)) HB.out) ?_) | (refine jl (Loads.at [] hst5 rfl) ?_) | (refine yN hst fun g11 w4 hst4 => ?_; clear hst) | (refine ji [] hst4 fun w5 hst5 => ?_; clear hst4)); go_roundw
    case rel => exact ⟨k + 1, by omega, by go_num, by rw [HQ], ze hst5⟩
    case measure => simp [intOf]; omega
   ·have d2 : (z.1 == dev) = false := beq_eq_false_iff_ne.2 he; have HQ := ya (HH.trans (if_neg he)); clear he; go_wp2_with (first | (refine yA (hlt) ?_) | (refine jl (Loads.range (cs := [.int .i64 z.1, .int .i64 z.2]) (TyA.out (n := 2)) HB.out) ?_) | (refine jl (Loads.at [] hst5 rfl) ?_) | (refine yN hst fun g11 w4 hst4 => ?_; clear hst) | (refine ji [] hst4 fun w5 hst5 => ?_; clear hst4)); go_roundw
    case rel => exact ⟨k + 1, by omega, by go_num, by rw [HQ], ze hst5⟩
    case measure => simp [intOf]; omega
  ·obtain rfl : k = n := by omega
   have d0 : decide ((k : Int) < (k : Int)) = false := zF (by omega); have hpk : yL dev (l.take k) = PO := by rw [HPO, ← Hn, List.take_length]
   rw [hpk]; clear hpk; go_wp2; go_ret; exact ⟨x, rfl, sub_x hst⟩
theorem restore_gone (h1 : m.askE (yq ao n c l b v S) = 0) (h2 : ¬ yL dev l < 0) (h3 : m.a.up dev = false) :
  Calls Tryz.prog 15 #[PM gm, .agg (yd (.slice ao n c) b v S).toArray, .int .i64 dev] w fun e w' => ∃ x', e = .returned (.int .i64 (m.restore (yq ao n c l b v S) dev).er) ∧ St w0 M w' (mP gm ga x' (m.restore (yq ao n c l b v S) dev).m ++ R) := by
 have hr : m.restore (yq ao n c l b v S) dev = ⟨14, m⟩ := by
  unfold MV.restore; rw [if_neg (by rw [h1]; decide)]; unfold yq; dsimp only; rw [if_neg h2, if_pos h3]
 rw [hr]; have hst := hS; have HG := ya hg; have HL := ya hL; have Hn := ya hn; have HA := ya hA; have HAS : Hid (m.askE ⟨.slice ao n c, l, b, v, S⟩ = 0) := ya h1; obtain ⟨PO, hPO⟩ : ∃ PO, PO = yL dev l := ⟨_, rfl⟩; rw [← hPO] at h2; have HPO := ya hPO; have f2 : decide (PO < 0) = false := zF h2; have HUP := ya h3; clear hS hg hL hn hA hr h1 h2 hPO h3; unfold PM; go_enter Tryz.func15, Tryz.ntmps15; go_wp2_with (first | (refine zj hst fun g3 w1 hst0 => ?_; clear hst; have hst1 : St w0 M w1 (mP gm ga x m ++ (.blk g3 34 (yd (.slice ao n c) b v S) :: R)) := zB (A := mP gm ga x m) hst0; clear hst0) | (refine jl (Loads.blk (T := 30) hst1 TyS.out (zR zH) rfl) ?_) | (refine jl (Loads.blkA (T := 34) (vs := yd (.slice ao n c) b v S) hst1 (by rw [yo HL.out]; exact TyA.out) (zR zH) (yz _ _ _ _)) ?_) | (go_at_call 41; refine (ql (zw hst1 HG.out.sc.ok.d0) ao n c l b v S HL.out (HA.out _ (St.sub hst1 (zC.trans zA))) Hn.out).mono ?_; rw [HAS]; rintro _ w2 ⟨rfl, h4⟩; replace hst1 := St.call0 hst1 h4; clear h4)); go_loopw [8, 23] (fun q i wr => ∃ k : Nat, k ≤ n ∧ i = .int .i64 k ∧ q = .int .i64 (yL dev (l.take k)) ∧ St w0 M wr (mP gm ga x m ++ (.blk g3 34 (yd (.slice ao n c) b v S) :: R))) (fun _ i _ => n - (intOf i).toNat)
 case atStart => exact ⟨0, Nat.zero_le _, rfl, rfl, hst1⟩
 case round =>
  clear hst1; obtain ⟨k, hk, rfl, rfl, hst⟩ := hrel; by_cases hlt : k < n
  ·have d0 : decide ((k : Int) < (n : Int)) = true := zD (by omega); obtain ⟨bb, off, rfl, hr⟩ := (HA.out _ (St.sub hst (zC.trans zA))).at hlt; obtain ⟨z, hz⟩ : ∃ z, z = l.getD k (0, 0) := ⟨_, rfl⟩; have hb := z7 hr (k := k) (by rw [Hn]; exact hlt); rw [← hz] at hb; have HB := ya hb; have HH := ya (yaj (dev := dev) (l := l) (k := k) (by rw [Hn]; exact hlt)); rw [← hz] at HH; obtain ⟨PK, hPK⟩ : ∃ PK, PK = yL dev (l.take k) := ⟨_, rfl⟩; rw [← hPK] at HH; rw [← hPK]; clear hz hb hr hPK; by_cases he : z.1 = dev
   ·have d2 : (z.1 == dev) = true := beq_iff_eq.2 he; have HQ := ya (HH.trans (if_pos he)); clear he; go_wp2_with (first | (refine yA (hlt) ?_) | (refine jl (Loads.range (cs := [.int .i64 z.1, .int .i64 z.2]) (TyA.out (n := 2)) HB.out) ?_) | (refine jl (Loads.at [] hst5 rfl) ?_) | (refine yN hst fun g11 w4 hst4 => ?_; clear hst) | (refine ji [] hst4 fun w5 hst5 => ?_; clear hst4)); go_roundw
    case rel => exact ⟨k + 1, by omega, by go_num, by rw [HQ], ze hst5⟩
    case measure => simp [intOf]; omega
   ·have d2 : (z.1 == dev) = false := beq_eq_false_iff_ne.2 he; have HQ := ya (HH.trans (if_neg he)); clear he; go_wp2_with (first | (refine yA (hlt) ?_) | (refine jl (Loads.range (cs := [.int .i64 z.1, .int .i64 z.2]) (TyA.out (n := 2)) HB.out) ?_) | (refine jl (Loads.at [] hst5 rfl) ?_) | (refine yN hst fun g11 w4 hst4 => ?_; clear hst) | (refine ji [] hst4 fun w5 hst5 => ?_; clear hst4)); go_roundw
    case rel => exact ⟨k + 1, by omega, by go_num, by rw [HQ], ze hst5⟩
    case measure => simp [intOf]; omega
  ·obtain rfl : k = n := by omega
   have d0 : decide ((k : Int) < (k : Int)) = false := zF (by omega); have hpk : yL dev (l.take k) = PO := by rw [HPO, ← Hn, List.take_length]
   rw [hpk]; clear hpk; go_wp2_with (first | (refine jl (Loads.at [] hst rfl) ?_) | (refine jl (Loads.blkA (T := 34) (vs := yd (.slice ao k c) b v S) hst (by rw [yo HL.out]; exact TyA.out) (zR zH) (yz _ _ _ _)) ?_) | (go_at_call 42; refine (up_any (zw hst HG.out.sc.ok.d0).arr.toArrAt dev).mono ?_; rw [HUP]; rintro _ w3 ⟨rfl, h4⟩; replace hst := St.call0 hst h4; clear h4)); go_ret; exact ⟨x, rfl, sub_x hst⟩
theorem restore_none (h1 : m.askE (yq ao n c l b v S) = 0) (h2 : ¬ yL dev l < 0) (h3 : m.a.up dev = true) (h4' : (yB S dev m l []).er ≠ 0) :
  Calls Tryz.prog 15 #[PM gm, .agg (yd (.slice ao n c) b v S).toArray, .int .i64 dev] w fun e w' => ∃ x', e = .returned (.int .i64 (m.restore (yq ao n c l b v S) dev).er) ∧ St w0 M w' (mP gm ga x' (m.restore (yq ao n c l b v S) dev).m ++ R) := by
 obtain ⟨F, hF⟩ : ∃ F, F = yB S dev m l [] := ⟨_, rfl⟩; rw [← hF] at h4'; have hr : m.restore (yq ao n c l b v S) dev = ⟨F.er, F.m⟩ := by
  unfold MV.restore; rw [if_neg (by rw [h1]; decide)]; unfold yq; dsimp only; rw [if_neg h2, if_neg (by rw [h3]; decide), ← hF, if_pos h4']
 rw [hr]; have hst := hS; have HG := ya hg; have HL := ya hL; have Hn := ya hn; have HA := ya hA; have HAS : Hid (m.askE ⟨.slice ao n c, l, b, v, S⟩ = 0) := ya h1; obtain ⟨PO, hPO⟩ : ∃ PO, PO = yL dev l := ⟨_, rfl⟩; rw [← hPO] at h2; have HPO := ya hPO; have f2 : decide (PO < 0) = false := zF h2; have HUP := ya h3; have HF := ya hF; obtain ⟨E, hE⟩ : ∃ E, E = F.er := ⟨_, rfl⟩; rw [← hE] at h4' ⊢; have HE := ya hE.symm; have d1 : (E != 0) = true := by simpa using h4'
 clear hS hg hL hn hA hr h1 h2 hPO h3 h4' hE hF; unfold PM; go_enter Tryz.func15, Tryz.ntmps15; go_wp2_with (first | (refine zj hst fun g3 w1 hst0 => ?_; clear hst; have hst1 : St w0 M w1 (mP gm ga x m ++ (.blk g3 34 (yd (.slice ao n c) b v S) :: R)) := zB (A := mP gm ga x m) hst0; clear hst0) | (refine jl (Loads.blk (T := 30) hst1 TyS.out (zR zH) rfl) ?_) | (refine jl (Loads.blkA (T := 34) (vs := yd (.slice ao n c) b v S) hst1 (by rw [yo HL.out]; exact TyA.out) (zR zH) (yz _ _ _ _)) ?_) | (go_at_call 41; refine (ql (zw hst1 HG.out.sc.ok.d0) ao n c l b v S HL.out (HA.out _ (St.sub hst1 (zC.trans zA))) Hn.out).mono ?_; rw [HAS]; rintro _ w2 ⟨rfl, h4⟩; replace hst1 := St.call0 hst1 h4; clear h4)); go_loopw [8, 23] (fun q i wr => ∃ k : Nat, k ≤ n ∧ i = .int .i64 k ∧ q = .int .i64 (yL dev (l.take k)) ∧ St w0 M wr (mP gm ga x m ++ (.blk g3 34 (yd (.slice ao n c) b v S) :: R))) (fun _ i _ => n - (intOf i).toNat)
 case atStart => exact ⟨0, Nat.zero_le _, rfl, rfl, hst1⟩
 case round =>
  clear hst1; obtain ⟨k, hk, rfl, rfl, hst⟩ := hrel; by_cases hlt : k < n
  ·have d0 : decide ((k : Int) < (n : Int)) = true := zD (by omega); obtain ⟨bb, off, rfl, hr⟩ := (HA.out _ (St.sub hst (zC.trans zA))).at hlt; obtain ⟨z, hz⟩ : ∃ z, z = l.getD k (0, 0) := ⟨_, rfl⟩; have hb := z7 hr (k := k) (by rw [Hn]; exact hlt); rw [← hz] at hb; have HB := ya hb; have HH := ya (yaj (dev := dev) (l := l) (k := k) (by rw [Hn]; exact hlt)); rw [← hz] at HH; obtain ⟨PK, hPK⟩ : ∃ PK, PK = yL dev (l.take k) := ⟨_, rfl⟩; rw [← hPK] at HH; rw [← hPK]; clear hz hb hr hPK; by_cases he : z.1 = dev
   ·have d2 : (z.1 == dev) = true := beq_iff_eq.2 he; have HQ := ya (HH.trans (if_pos he)); clear he; go_wp2_with (first | (refine yA (hlt) ?_) | (refine jl (Loads.range (cs := [.int .i64 z.1, .int .i64 z.2]) (TyA.out (n := 2)) HB.out) ?_) | (refine jl (Loads.at [] hst5 rfl) ?_) | (refine yN hst fun g11 w4 hst4 => ?_; clear hst) | (refine ji [] hst4 fun w5 hst5 => ?_; clear hst4)); go_roundw
    case rel => exact ⟨k + 1, by omega, by go_num, by rw [HQ], ze hst5⟩
    case measure => simp [intOf]; omega
   ·have d2 : (z.1 == dev) = false := beq_eq_false_iff_ne.2 he; have HQ := ya (HH.trans (if_neg he)); clear he; go_wp2_with (first | (refine yA (hlt) ?_) | (refine jl (Loads.range (cs := [.int .i64 z.1, .int .i64 z.2]) (TyA.out (n := 2)) HB.out) ?_) | (refine jl (Loads.at [] hst5 rfl) ?_) | (refine yN hst fun g11 w4 hst4 => ?_; clear hst) | (refine ji [] hst4 fun w5 hst5 => ?_; clear hst4)); go_roundw
    case rel => exact ⟨k + 1, by omega, by go_num, by rw [HQ], ze hst5⟩
    case measure => simp [intOf]; omega
  ·obtain rfl : k = n := by omega
   have d0 : decide ((k : Int) < (k : Int)) = false := zF (by omega); have hpk : yL dev (l.take k) = PO := by rw [HPO, ← Hn, List.take_length]
   rw [hpk]; clear hpk; go_wp2_with (first | (refine jl (Loads.at [] hst rfl) ?_) | (refine jl (Loads.blkA (T := 34) (vs := yd (.slice ao k c) b v S) hst (by rw [yo HL.out]; exact TyA.out) (zR zH) (yz _ _ _ _)) ?_) | (go_at_call 42; refine (up_any (zw hst HG.out.sc.ok.d0).arr.toArrAt dev).mono ?_; rw [HUP]; rintro _ w3 ⟨rfl, h4⟩; replace hst := St.call0 hst h4; clear h4) | (go_at_call 43; have HC := found_any hst HG.out ao k c l b v S HL.out Hn.out (fun w h => HA.out w (ze h)) (by omega) dev; rw [← HF] at HC; rw [HE] at HC; refine HC.mono ?_; clear HC; rintro _ w3 ⟨u, iv, rfl, h4⟩; have hst2 := h4; clear h4 hst)); go_ret; exact ⟨x, rfl, sub_x (ze (ze hst2))⟩
theorem restore_ok (h1 : m.askE (yq ao n c l b v S) = 0) (h2 : ¬ yL dev l < 0) (h3 : m.a.up dev = true) (h4' : (yB S dev m l []).er = 0) :
  Calls Tryz.prog 15 #[PM gm, .agg (yd (.slice ao n c) b v S).toArray, .int .i64 dev] w fun e w' => ∃ x', e = .returned (.int .i64 (m.restore (yq ao n c l b v S) dev).er) ∧ St w0 M w' (mP gm ga x' (m.restore (yq ao n c l b v S) dev).m ++ R) := by
 obtain ⟨F, hF⟩ : ∃ F, F = yB S dev m l [] := ⟨_, rfl⟩; rw [← hF] at h4'; have hr : m.restore (yq ao n c l b v S) dev = ⟨F.m.a.writeE dev (yL dev l) F.b, { F.m with a := F.m.a.write dev (yL dev l) F.b }⟩ := by
  unfold MV.restore; rw [if_neg (by rw [h1]; decide)]; unfold yq; dsimp only; rw [if_neg h2, if_neg (by rw [h3]; decide), ← hF, if_neg (by rw [h4']; decide)]
 rw [hr]; have hst := hS; have HG := ya hg; have HL := ya hL; have Hn := ya hn; have HA := ya hA; have HAS : Hid (m.askE ⟨.slice ao n c, l, b, v, S⟩ = 0) := ya h1; obtain ⟨PO, hPO⟩ : ∃ PO, PO = yL dev l := ⟨_, rfl⟩; rw [← hPO] at h2 ⊢; have HPO := ya hPO; have f2 : decide (PO < 0) = false := zF h2; have HUP := ya h3; have HF := ya hF; have HE := ya h4'; have HGF := ya (show MGood F.m (N + n) from by rw [hF, ← hn]; exact qC hg); obtain ⟨B, hB⟩ : ∃ B, B = F.b := ⟨_, rfl⟩; obtain ⟨FM, hFM⟩ : ∃ FM, FM = F.m := ⟨_, rfl⟩; rw [← hB, ← hFM]; rw [← hFM] at HGF; have HB1 := ya hB.symm; have HM1 := ya hFM.symm; clear hS hg hL hn hA hr h1 h2 hPO h3 h4' hF hB hFM; unfold PM; go_enter Tryz.func15, Tryz.ntmps15; go_wp2_with (first | (refine zj hst fun g3 w1 hst0 => ?_; clear hst; have hst1 : St w0 M w1 (mP gm ga x m ++ (.blk g3 34 (yd (.slice ao n c) b v S) :: R)) := zB (A := mP gm ga x m) hst0; clear hst0) | (refine jl (Loads.blk (T := 30) hst1 TyS.out (zR zH) rfl) ?_) | (refine jl (Loads.blkA (T := 34) (vs := yd (.slice ao n c) b v S) hst1 (by rw [yo HL.out]; exact TyA.out) (zR zH) (yz _ _ _ _)) ?_) | (go_at_call 41; refine (ql (zw hst1 HG.out.sc.ok.d0) ao n c l b v S HL.out (HA.out _ (St.sub hst1 (zC.trans zA))) Hn.out).mono ?_; rw [HAS]; rintro _ w2 ⟨rfl, h4⟩; replace hst1 := St.call0 hst1 h4; clear h4)); go_loopw [8, 23] (fun q i wr => ∃ k : Nat, k ≤ n ∧ i = .int .i64 k ∧ q = .int .i64 (yL dev (l.take k)) ∧ St w0 M wr (mP gm ga x m ++ (.blk g3 34 (yd (.slice ao n c) b v S) :: R))) (fun _ i _ => n - (intOf i).toNat)
 case atStart => exact ⟨0, Nat.zero_le _, rfl, rfl, hst1⟩
 case round =>
  clear hst1; obtain ⟨k, hk, rfl, rfl, hst⟩ := hrel; by_cases hlt : k < n
  ·have d0 : decide ((k : Int) < (n : Int)) = true := zD (by omega); obtain ⟨bb, off, rfl, hr⟩ := (HA.out _ (St.sub hst (zC.trans zA))).at hlt; obtain ⟨z, hz⟩ : ∃ z, z = l.getD k (0, 0) := ⟨_, rfl⟩; have hb := z7 hr (k := k) (by rw [Hn]; exact hlt); rw [← hz] at hb; have HB := ya hb; have HH := ya (yaj (dev := dev) (l := l) (k := k) (by rw [Hn]; exact hlt)); rw [← hz] at HH; obtain ⟨PK, hPK⟩ : ∃ PK, PK = yL dev (l.take k) := ⟨_, rfl⟩; rw [← hPK] at HH; rw [← hPK]; clear hz hb hr hPK; by_cases he : z.1 = dev
   ·have d2 : (z.1 == dev) = true := beq_iff_eq.2 he; have HQ := ya (HH.trans (if_pos he)); clear he; go_wp2_with (first | (refine yA (hlt) ?_) | (refine jl (Loads.range (cs := [.int .i64 z.1, .int .i64 z.2]) (TyA.out (n := 2)) HB.out) ?_) | (refine jl (Loads.at [] hst5 rfl) ?_) | (refine yN hst fun g11 w4 hst4 => ?_; clear hst) | (refine ji [] hst4 fun w5 hst5 => ?_; clear hst4)); go_roundw
    case rel => exact ⟨k + 1, by omega, by go_num, by rw [HQ], ze hst5⟩
    case measure => simp [intOf]; omega
   ·have d2 : (z.1 == dev) = false := beq_eq_false_iff_ne.2 he; have HQ := ya (HH.trans (if_neg he)); clear he; go_wp2_with (first | (refine yA (hlt) ?_) | (refine jl (Loads.range (cs := [.int .i64 z.1, .int .i64 z.2]) (TyA.out (n := 2)) HB.out) ?_) | (refine jl (Loads.at [] hst5 rfl) ?_) | (refine yN hst fun g11 w4 hst4 => ?_; clear hst) | (refine ji [] hst4 fun w5 hst5 => ?_; clear hst4)); go_roundw
    case rel => exact ⟨k + 1, by omega, by go_num, by rw [HQ], ze hst5⟩
    case measure => simp [intOf]; omega
  ·obtain rfl : k = n := by omega
   have d0 : decide ((k : Int) < (k : Int)) = false := zF (by omega); have hpk : yL dev (l.take k) = PO := by rw [HPO, ← Hn, List.take_length]
   rw [hpk]; clear hpk; go_wp2_with (first | (refine jl (Loads.at [] hst rfl) ?_) | (refine jl (Loads.blkA (T := 34) (vs := yd (.slice ao k c) b v S) hst (by rw [yo HL.out]; exact TyA.out) (zR zH) (yz _ _ _ _)) ?_) | (go_at_call 42; refine (up_any (zw hst HG.out.sc.ok.d0).arr.toArrAt dev).mono ?_; rw [HUP]; rintro _ w3 ⟨rfl, h4⟩; replace hst := St.call0 hst h4; clear h4) | (go_at_call 43; have HC := found_any hst HG.out ao k c l b v S HL.out Hn.out (fun w h => HA.out w (ze h)) (by omega) dev; rw [← HF] at HC; rw [HE, HB1, HM1] at HC; refine HC.mono ?_; clear HC; rintro _ w3 ⟨u, iv, rfl, h4⟩; obtain ⟨ua, uc, rfl⟩ := St.rowPSlice [] h4; have hst2 := h4; clear h4 hst) | (refine jl (Loads.at [_, _] hst2 rfl) ?_) | (go_at_call 44; refine (yai (zJ (P := [_, _]) (Bs := [_]) hst2) HGF.out.sc.ok (HGF.out.st (by omega)) (HGF.out.ll (by omega)) dev PO ua B.length uc B (Rd.rowP hst2 zH) rfl (off_row (A := [_, _, _]) (P := yj ga x FM.a) hst2 zH rfl)).mono ?_; rintro _ w6 ⟨rfl, x2, h4⟩; have hst3 := jg (P := [_, _]) (Bs := [_]) hst2 h4; clear h4 hst2)); go_ret; exact ⟨x2, rfl, sub_x (A := mP gm ga x2 { FM with a := FM.a.write dev PO B }) (ze (ze hst3))⟩
theorem restore_any :
  Calls Tryz.prog 15 #[PM gm, .agg (yd (.slice ao n c) b v S).toArray, .int .i64 dev] w fun e w' => ∃ x', e = .returned (.int .i64 (m.restore (yq ao n c l b v S) dev).er) ∧ St w0 M w' (mP gm ga x' (m.restore (yq ao n c l b v S) dev).m ++ R) := by
 by_cases h1 : m.askE (yq ao n c l b v S) = 0
 ·by_cases h2 : yL dev l < 0
  ·exact restore_missing hS hg ao n c l b v S hL hn hA hN dev h1 h2
  ·cases h3 : m.a.up dev
   ·exact restore_gone hS hg ao n c l b v S hL hn hA hN dev h1 h2 h3
   ·by_cases h4 : (yB S dev m l []).er = 0
    ·exact restore_ok hS hg ao n c l b v S hL hn hA hN dev h1 h2 h3 h4
    ·exact restore_none hS hg ao n c l b v S hL hn hA hN dev h1 h2 h3 h4
 ·exact restore_odd hS hg ao n c l b v S hL hn hA hN dev h1
end
theorem wrote_cons {b : List UInt8} {a : AR} {cnt k : Nat} {l : List (Int × Int)} (hk : k < l.length) : zU b a cnt (l.drop k) = (if a.writeE (l.getD k (0, 0)).1 (l.getD k (0, 0)).2 b = 0 then zU b (a.write (l.getD k (0, 0)).1 (l.getD k (0, 0)).2 b) (cnt + 1) (l.drop (k + 1))
  else if a.writeE (l.getD k (0, 0)).1 (l.getD k (0, 0)).2 b = 10 then ⟨10, 0, a.write (l.getD k (0, 0)).1 (l.getD k (0, 0)).2 b⟩
  else zU b (a.write (l.getD k (0, 0)).1 (l.getD k (0, 0)).2 b) cnt (l.drop (k + 1))) := by
 rw [drop_getD hk]
 conv => lhs; unfold zU
def MV.withA (m : MV) (a : AR) : MV := { m with a := a }
section
attribute [local go_sem ↓] loadedIm3 loadedAm3
section
variable {w0 w : World} {M : List Nat} {R : List HA} {gm ga : Nat} {x : GA} {m : MV} {N : Nat} (hS : St w0 M w (mP gm ga x m ++ R)) (hg : MGood m N) (ao : Option Addr) (n c : Nat) (l : List (Int × Int)) (hA : ∀ w, St w0 M w R → Rd w (.slice ao n c) 2 n (yu l)) (hn : l.length = n) (bo : Option Addr) (bn bc : Nat) (bs : List UInt8) (hb : GB w0 M R (.slice bo bn bc) bn bs) (hN : N ≤ 800000)
include hS hg ao n c l hA hn bo bn bc bs hb hN
theorem put_len (h1 : bs.length ≠ 256) :
  Calls Tryz.prog 24 #[PM gm, .slice ao n c, .slice bo bn bc] w fun e w' => ∃ x', e = .returned (.tuple #[.int .i64 (m.put l bs).n, .int .i64 (m.put l bs).er]) ∧ St w0 M w' (mP gm ga x' (m.withA (m.put l bs).a) ++ R) := by
 have _ := hN; have ho : m.putOk l bs = false := by unfold MV.putOk; rw [zF h1]; rfl
 have hr : m.put l bs = ⟨2, 0, m.a⟩ := by unfold MV.put; rw [ho]; rfl
 rw [hr]; have hst := hS; have HG := ya hg; have HN := ya hn; have HA := ya hA; have hbl := hb.len; have d1 : ((bn : Int) != 256) = true := by simp; omega
 clear hS hg hn hA ho hr hbl hb h1; unfold PM; go_enter Tryz.func24, Tryz.ntmps24; go_wp2_with (first | (go_at_call 62; refine jc hst (zM (zw hst HG.out.sc.ok.d0)) fun w2 hst => ?_)); go_ret2; exact ⟨x, rfl, hst⟩
theorem put_few (h1 : bs.length = 256) (h2 : n < 1) :
  Calls Tryz.prog 24 #[PM gm, .slice ao n c, .slice bo bn bc] w fun e w' => ∃ x', e = .returned (.tuple #[.int .i64 (m.put l bs).n, .int .i64 (m.put l bs).er]) ∧ St w0 M w' (mP gm ga x' (m.withA (m.put l bs).a) ++ R) := by
 have _ := hN; have ho : m.putOk l bs = false := by unfold MV.putOk; rw [decide_eq_false (p := 1 ≤ l.length ∧ l.length ≤ 3) (by omega), Bool.and_false]; rfl
 have hr : m.put l bs = ⟨2, 0, m.a⟩ := by unfold MV.put; rw [ho]; rfl
 rw [hr]; have hst := hS; have HG := ya hg; have HN := ya hn; have HA := ya hA; have hbl := hb.len; obtain rfl : bn = 256 := by omega
 have d2 : decide ((n : Int) < 1) = true := zD (by omega); clear hS hg hn hA ho hr hbl hb h1 h2; unfold PM; go_enter Tryz.func24, Tryz.ntmps24; go_wp2_with (first | (go_at_call 62; refine jc hst (zM (zw hst HG.out.sc.ok.d0)) fun w2 hst => ?_)); go_ret2; exact ⟨x, rfl, hst⟩
theorem put_many (h1 : bs.length = 256) (h2 : ¬ n < 1) (h3 : 3 < n) :
  Calls Tryz.prog 24 #[PM gm, .slice ao n c, .slice bo bn bc] w fun e w' => ∃ x', e = .returned (.tuple #[.int .i64 (m.put l bs).n, .int .i64 (m.put l bs).er]) ∧ St w0 M w' (mP gm ga x' (m.withA (m.put l bs).a) ++ R) := by
 have _ := hN; have ho : m.putOk l bs = false := by unfold MV.putOk; rw [decide_eq_false (p := 1 ≤ l.length ∧ l.length ≤ 3) (by omega), Bool.and_false]; rfl
 have hr : m.put l bs = ⟨2, 0, m.a⟩ := by unfold MV.put; rw [ho]; rfl
 rw [hr]; have hst := hS; have HG := ya hg; have HN := ya hn; have HA := ya hA; have hbl := hb.len; obtain rfl : bn = 256 := by omega
 have d2 : decide ((n : Int) < 1) = false := zF (by omega); have d3 : decide ((n : Int) > 3) = true := zD (by omega); clear hS hg hn hA ho hr hbl hb h1 h2 h3; unfold PM; go_enter Tryz.func24, Tryz.ntmps24; go_wp2_with (first | (go_at_call 62; refine jc hst (zM (zw hst HG.out.sc.ok.d0)) fun w2 hst => ?_)); go_ret2; exact ⟨x, rfl, hst⟩
theorem put_off (h1 : bs.length = 256) (h2 : ¬ n < 1) (h3 : ¬ 3 < n) (h4 : m.lies l = false) :
  Calls Tryz.prog 24 #[PM gm, .slice ao n c, .slice bo bn bc] w fun e w' => ∃ x', e = .returned (.tuple #[.int .i64 (m.put l bs).n, .int .i64 (m.put l bs).er]) ∧ St w0 M w' (mP gm ga x' (m.withA (m.put l bs).a) ++ R) := by
 have _ := hN; have ho : m.putOk l bs = false := by unfold MV.putOk; rw [h4, Bool.false_and, Bool.and_false]
 have hr : m.put l bs = ⟨2, 0, m.a⟩ := by unfold MV.put; rw [ho]; rfl
 rw [hr]; have hst := hS; have HG := ya hg; have HN := ya hn; have HA := ya hA; have hbl := hb.len; obtain rfl : bn = 256 := by omega
 have d2 : decide ((n : Int) < 1) = false := zF (by omega); have d3 : decide ((n : Int) > 3) = false := zF (by omega); have HLI := ya h4; clear hS hg hn hA ho hr hbl hb h1 h2 h3 h4; unfold PM; go_enter Tryz.func24, Tryz.ntmps24; go_wp2_with (first | (go_at_call 62; refine jc hst (zM (zw hst HG.out.sc.ok.d0)) fun w2 hst => ?_) | (go_at_call 63; have HD := qT (zw hst HG.out.sc.ok.d0) ao n c l (HA.out _ (St.sub hst zA)) HN.out; rw [HLI] at HD; refine HD.mono ?_; clear HD; rintro _ w3 ⟨rfl, h4⟩; replace hst := St.call0 hst h4; clear h4)); go_ret2; exact ⟨x, rfl, hst⟩
theorem put_near (h1 : bs.length = 256) (h2 : ¬ n < 1) (h3 : ¬ 3 < n) (h4 : m.lies l = true) (h5 : qQ l = false) :
  Calls Tryz.prog 24 #[PM gm, .slice ao n c, .slice bo bn bc] w fun e w' => ∃ x', e = .returned (.tuple #[.int .i64 (m.put l bs).n, .int .i64 (m.put l bs).er]) ∧ St w0 M w' (mP gm ga x' (m.withA (m.put l bs).a) ++ R) := by
 have _ := hN; have ho : m.putOk l bs = false := by unfold MV.putOk; rw [h5, Bool.and_false, Bool.and_false]
 have hr : m.put l bs = ⟨2, 0, m.a⟩ := by unfold MV.put; rw [ho]; rfl
 rw [hr]; have hst := hS; have HG := ya hg; have HN := ya hn; have HA := ya hA; have hbl := hb.len; obtain rfl : bn = 256 := by omega
 have d2 : decide ((n : Int) < 1) = false := zF (by omega); have d3 : decide ((n : Int) > 3) = false := zF (by omega); have HLI := ya h4; have HAP := ya h5; clear hS hg hn hA ho hr hbl hb h1 h2 h3 h4 h5; unfold PM; go_enter Tryz.func24, Tryz.ntmps24; go_wp2_with (first | (go_at_call 62; refine jc hst (zM (zw hst HG.out.sc.ok.d0)) fun w2 hst => ?_) | (go_at_call 63; have HD := qT (zw hst HG.out.sc.ok.d0) ao n c l (HA.out _ (St.sub hst zA)) HN.out; rw [HLI] at HD; refine HD.mono ?_; clear HD; rintro _ w3 ⟨rfl, h4⟩; replace hst := St.call0 hst h4; clear h4) | (go_at_call 64; have HD := apart16_any ao n c l _ (HA.out _ (St.sub hst zA)) HN.out; rw [HAP] at HD; refine HD.mono ?_; clear HD; rintro _ w3 ⟨rfl, h4⟩; replace hst := St.call0 hst h4; clear h4)); go_ret2; exact ⟨x, rfl, hst⟩
theorem put_ok (h1 : bs.length = 256) (h2 : ¬ n < 1) (h3 : ¬ 3 < n) (h4 : m.lies l = true) (h5 : qQ l = true) :
  Calls Tryz.prog 24 #[PM gm, .slice ao n c, .slice bo bn bc] w fun e w' => ∃ x', e = .returned (.tuple #[.int .i64 (m.put l bs).n, .int .i64 (m.put l bs).er]) ∧ St w0 M w' (mP gm ga x' (m.withA (m.put l bs).a) ++ R) := by
 have ho : m.putOk l bs = true := by unfold MV.putOk; rw [h4, h5, zD h1, decide_eq_true (p := 1 ≤ l.length ∧ l.length ≤ 3) (by omega)]; rfl
 have hr : m.put l bs = zU bs m.a 0 l := by unfold MV.put; rw [ho]; rfl
 rw [hr]; have hst := hS; have HG := ya hg; have HN := ya hn; have HA := ya hA; have hbl := hb.len; obtain rfl : bn = 256 := by omega
 have d2 : decide ((n : Int) < 1) = false := zF (by omega); have d3 : decide ((n : Int) > 3) = false := zF (by omega); have HLI := ya h4; have HAP := ya h5; have HB := ya hb; have HBL := ya h1; have hn3 : n ≤ 3 := by omega
 clear hS hg hn hA ho hr hbl hb h1 h2 h3 h4 h5; unfold PM; go_enter Tryz.func24, Tryz.ntmps24; go_wp2_with (first | (go_at_call 62; refine jc hst (zM (zw hst HG.out.sc.ok.d0)) fun w2 hst => ?_) | (go_at_call 63; have HD := qT (zw hst HG.out.sc.ok.d0) ao n c l (HA.out _ (St.sub hst zA)) HN.out; rw [HLI] at HD; refine HD.mono ?_; clear HD; rintro _ w3 ⟨rfl, h4⟩; replace hst := St.call0 hst h4; clear h4) | (go_at_call 64; have HD := apart16_any ao n c l _ (HA.out _ (St.sub hst zA)) HN.out; rw [HAP] at HD; refine HD.mono ?_; clear HD; rintro _ w3 ⟨rfl, h4⟩; replace hst := St.call0 hst h4; clear h4)); obtain ⟨W, hW⟩ : ∃ W, W = zU bs m.a 0 l := ⟨_, rfl⟩; have hm0 : m.withA m.a = m := rfl; go_loopw [8, 41] (fun q i wr => ∃ (k cnt : Nat) (x' : GA) (a' : AR), k ≤ n ∧ cnt ≤ k ∧ i = .int .i64 k ∧ q = .int .i64 cnt ∧ Hid (zU bs m.a 0 l = zU bs a' cnt (l.drop k)) ∧ Hid (MGood (m.withA a') (N + k)) ∧ St w0 M wr (mP gm ga x' (m.withA a') ++ R)) (fun _ i _ => n - (intOf i).toNat)
 case atStart => exact ⟨0, 0, x, m.a, Nat.zero_le _, Nat.zero_le _, rfl, rfl, ya rfl, HG, hst⟩
 case round =>
  clear hst hm0 hW; obtain ⟨k, cnt, x1, a1, hk, hck, rfl, rfl, HW, HGK, hst⟩ := hrel; by_cases hlt : k < n
  ·have d0 : decide ((k : Int) < (n : Int)) = true := zD (by omega); obtain ⟨bb, off, rfl, hr⟩ := (HA.out _ (St.sub hst zA)).at hlt; obtain ⟨z, hz⟩ : ∃ z, z = l.getD k (0, 0) := ⟨_, rfl⟩; have hb := z7 hr (k := k) (by rw [HN]; exact hlt); rw [← hz] at hb; have HAD := ya hb; have HH := ya (wrote_cons (b := bs) (a := a1) (cnt := cnt) (l := l) (k := k) (by rw [HN]; exact hlt)); rw [← hz] at HH; obtain ⟨E, hE⟩ : ∃ E, E = a1.writeE z.1 z.2 bs := ⟨_, rfl⟩; obtain ⟨A', hA'⟩ : ∃ A', A' = a1.write z.1 z.2 bs := ⟨_, rfl⟩; have HE := ya hE.symm; have HA' := ya hA'.symm; rw [← hE, ← hA'] at HH; have HG2 := ya (show MGood (m.withA A') (N + k + 1) from by rw [hA']; exact HGK.out.arr (HGK.out.sc.ok.write _ _ _) (Stays.write _ _ _ _)); clear hz hb hr hE hA'; by_cases e0 : E = 0
   ·subst e0; have HQ := ya (HW.trans (HH.trans (if_pos rfl))); clear HW HH; go_wp2_with (first | (refine yA (hlt) ?_) | (refine jl (Loads.range (cs := [.int .i64 z.1, .int .i64 z.2]) (TyA.out (n := 2)) HAD.out) ?_) | (refine yN hst fun g11 w4 hst4 => ?_; clear hst) | (refine ji [] hst4 fun w5 hst5 => ?_; clear hst4)); have hX := hst5.drew; clear hst5; refine wD (S := fun w' => Ld 3 g11 0 (.int .i64 z.1) w' ∧ Ld 3 g11 1 (.int .i64 z.2) w' ∧ Ld 23 gm 0 (.pointer (some ⟨ga, 0, none⟩)) w') ⟨Loads.at [] hX rfl, Loads.at [] hX rfl, Loads.at [_] hX rfl⟩ fun hHeld => ?_; refine jt 0 (h:=jt 4 (h:=jt 6 (h:=jt 8 (h:=jt 1 (h:=jt 5 (h:=jt 7 (h:=jt 2 (h:=jt 3 (h:=?_))))))))); refine yF 9 (h0:=fun K hK => ?_); go_simp; go_at_call 44; have HC := yai (zJ (P := [_]) (Bs := [_]) hX) HGK.out.sc.ok (HGK.out.st (by omega)) (HGK.out.ll (by omega)) z.1 z.2 bo 256 bc bs (HB.out.rd _ (St.sub hX (.cons _ zA))) HB.out.len (HB.out.off (P := yj ga x1 (m.withA a1).a) (ze (ze hX))); rw [show (m.withA a1).a = a1 from rfl, HE, HA'] at HC; refine HC.mono ?_; clear HC; rintro _ w6 ⟨rfl, x2, h4⟩; have hE : St w0 M w6 (.blk g11 83 [.int .i64 z.1, .int .i64 z.2] :: (mP gm ga x2 (m.withA A') ++ R)) := jg (P := [_]) (Bs := [_]) hX h4; clear h4; refine kD hK ⟨Loads.at [] hE rfl, Loads.at [] hE rfl, Loads.at [_] hE rfl⟩ (h:=fun hHeld => ?_); refine jn ?_; clear hHeld; go_wp2; go_roundw
    case rel => exact ⟨k + 1, cnt + 1, x2, A', by omega, by omega, by go_num, by go_num, HQ, HG2, ze hE⟩
    case measure => simp [intOf]; omega
   by_cases e1 : E = 10
   ·subst e1; have HQ := ya (HW.trans (HH.trans ((if_neg (by decide)).trans (if_pos rfl)))); clear HW HH; go_wp2_with (first | (refine yA (hlt) ?_) | (refine jl (Loads.range (cs := [.int .i64 z.1, .int .i64 z.2]) (TyA.out (n := 2)) HAD.out) ?_) | (refine yN hst fun g11 w4 hst4 => ?_; clear hst) | (refine ji [] hst4 fun w5 hst5 => ?_; clear hst4)); have hX := hst5.drew; clear hst5; refine wD (S := fun w' => Ld 3 g11 0 (.int .i64 z.1) w' ∧ Ld 3 g11 1 (.int .i64 z.2) w' ∧ Ld 23 gm 0 (.pointer (some ⟨ga, 0, none⟩)) w') ⟨Loads.at [] hX rfl, Loads.at [] hX rfl, Loads.at [_] hX rfl⟩ fun hHeld => ?_; refine jt 0 (h:=jt 4 (h:=jt 6 (h:=jt 8 (h:=jt 1 (h:=jt 5 (h:=jt 7 (h:=jt 2 (h:=jt 3 (h:=?_))))))))); refine yF 9 (h0:=fun K hK => ?_); go_simp; go_at_call 44; have HC := yai (zJ (P := [_]) (Bs := [_]) hX) HGK.out.sc.ok (HGK.out.st (by omega)) (HGK.out.ll (by omega)) z.1 z.2 bo 256 bc bs (HB.out.rd _ (St.sub hX (.cons _ zA))) HB.out.len (HB.out.off (P := yj ga x1 (m.withA a1).a) (ze (ze hX))); rw [show (m.withA a1).a = a1 from rfl, HE, HA'] at HC; refine HC.mono ?_; clear HC; rintro _ w6 ⟨rfl, x2, h4⟩; have hE : St w0 M w6 (.blk g11 83 [.int .i64 z.1, .int .i64 z.2] :: (mP gm ga x2 (m.withA A') ++ R)) := jg (P := [_]) (Bs := [_]) hX h4; clear h4; refine kD hK ⟨Loads.at [] hE rfl, Loads.at [] hE rfl, Loads.at [_] hE rfl⟩ (h:=fun hHeld => ?_); refine jn ?_; clear hHeld; go_wp2; go_ret2; exact ⟨x2, by rw [HQ]; rfl, by rw [HQ]; exact ze hE⟩
   have HQ := ya (HW.trans (HH.trans ((if_neg e0).trans (if_neg e1)))); have f0 : (E == 0) = false := beq_eq_false_iff_ne.2 e0; have f1 : (E == 10) = false := beq_eq_false_iff_ne.2 e1; clear e0 e1; clear HW HH; go_wp2_with (first | (refine yA (hlt) ?_) | (refine jl (Loads.range (cs := [.int .i64 z.1, .int .i64 z.2]) (TyA.out (n := 2)) HAD.out) ?_) | (refine yN hst fun g11 w4 hst4 => ?_; clear hst) | (refine ji [] hst4 fun w5 hst5 => ?_; clear hst4)); have hX := hst5.drew; clear hst5; refine wD (S := fun w' => Ld 3 g11 0 (.int .i64 z.1) w' ∧ Ld 3 g11 1 (.int .i64 z.2) w' ∧ Ld 23 gm 0 (.pointer (some ⟨ga, 0, none⟩)) w') ⟨Loads.at [] hX rfl, Loads.at [] hX rfl, Loads.at [_] hX rfl⟩ fun hHeld => ?_; refine jt 0 (h:=jt 4 (h:=jt 6 (h:=jt 8 (h:=jt 1 (h:=jt 5 (h:=jt 7 (h:=jt 2 (h:=jt 3 (h:=?_))))))))); refine yF 9 (h0:=fun K hK => ?_); go_simp; go_at_call 44; have HC := yai (zJ (P := [_]) (Bs := [_]) hX) HGK.out.sc.ok (HGK.out.st (by omega)) (HGK.out.ll (by omega)) z.1 z.2 bo 256 bc bs (HB.out.rd _ (St.sub hX (.cons _ zA))) HB.out.len (HB.out.off (P := yj ga x1 (m.withA a1).a) (ze (ze hX))); rw [show (m.withA a1).a = a1 from rfl, HE, HA'] at HC; refine HC.mono ?_; clear HC; rintro _ w6 ⟨rfl, x2, h4⟩; have hE : St w0 M w6 (.blk g11 83 [.int .i64 z.1, .int .i64 z.2] :: (mP gm ga x2 (m.withA A') ++ R)) := jg (P := [_]) (Bs := [_]) hX h4; clear h4; refine kD hK ⟨Loads.at [] hE rfl, Loads.at [] hE rfl, Loads.at [_] hE rfl⟩ (h:=fun hHeld => ?_); refine jn ?_; clear hHeld; go_wp2; go_roundw
   case rel => exact ⟨k + 1, cnt, x2, A', by omega, by omega, by go_num, rfl, HQ, HG2, ze hE⟩
   case measure => simp [intOf]; omega
  ·obtain rfl : k = n := by omega
   have d0 : decide ((k : Int) < (k : Int)) = false := zF (by omega); have HQ := ya (show zU bs m.a 0 l = jD cnt a1 from HW.trans (by rw [← HN, List.drop_length]; rfl)); by_cases hc : cnt = 0
   ·subst hc; have HQ2 := ya (HQ.trans (show jD 0 a1 = ⟨13, 0, a1⟩ from rfl)); clear HQ; rw [show ((0 : Nat) : Int) = 0 from rfl]; go_wp2_with (first | (go_at_call 65; refine (some16_any 0 (by omega) _).mono ?_; rw [if_pos rfl]; rintro _ w9 ⟨rfl, h4⟩; have hst9 := St.call0 hst h4; clear h4 hst)); go_ret2; exact ⟨x1, by rw [HQ2]; rfl, by rw [HQ2]; exact hst9⟩
   ·have HC0 := ya hc; have HQ2 := ya (HQ.trans (show jD cnt a1 = ⟨0, cnt, a1⟩ by unfold jD; rw [if_neg hc])); clear HQ; go_wp2_with (first | (go_at_call 65; refine (some16_any cnt (by omega) _).mono ?_; rw [if_neg HC0.out]; rintro _ w9 ⟨rfl, h4⟩; have hst9 := St.call0 hst h4; clear h4 hst)); go_ret2; exact ⟨x1, by rw [HQ2]; rfl, by rw [HQ2]; exact hst9⟩
theorem put_any :
  Calls Tryz.prog 24 #[PM gm, .slice ao n c, .slice bo bn bc] w fun e w' => ∃ x', e = .returned (.tuple #[.int .i64 (m.put l bs).n, .int .i64 (m.put l bs).er]) ∧ St w0 M w' (mP gm ga x' (m.withA (m.put l bs).a) ++ R) := by
 by_cases h1 : bs.length = 256
 ·by_cases h2 : n < 1
  ·exact put_few hS hg ao n c l hA hn bo bn bc bs hb hN h1 h2
  ·by_cases h3 : 3 < n
   ·exact put_many hS hg ao n c l hA hn bo bn bc bs hb hN h1 h2 h3
   ·cases h4 : m.lies l
    ·exact put_off hS hg ao n c l hA hn bo bn bc bs hb hN h1 h2 h3 h4
    ·cases h5 : qQ l
     ·exact put_near hS hg ao n c l hA hn bo bn bc bs hb hN h1 h2 h3 h4 h5
     ·exact put_ok hS hg ao n c l hA hn bo bn bc bs hb hN h1 h2 h3 h4 h5
 ·exact put_len hS hg ao n c l hA hn bo bn bc bs hb hN h1
end
end
theorem flushed_step {d k cnt : Nat} {a : AR} (hk : k < d) : zr d (d - k) a cnt = (if a.up (k : Int) = false then zr d (d - (k + 1)) a cnt
  else if a.flushE (k : Int) = 0 then zr d (d - (k + 1)) (a.flush (k : Int)) (cnt + 1)
  else if a.flushE (k : Int) = 10 then ⟨10, 0, a.flush (k : Int)⟩
  else zr d (d - (k + 1)) (a.flush (k : Int)) cnt) := by
 have e : d - k = (d - (k + 1)) + 1 := by omega
 rw [e]
 conv => lhs; unfold zr
 have e2 : d - (d - (k + 1) + 1) = k := by omega
 rw [e2]
section
variable {w0 w : World} {M : List Nat} {R : List HA} {gm ga : Nat} {x : GA} {m : MV} {N : Nat} (hS : St w0 M w (mP gm ga x m ++ R)) (hg : MGood m N) (hN : N ≤ 800000)
include hS hg hN
theorem flush_out (h1 : m.a.out = true) :
  Calls Tryz.prog 26 #[PM gm] w fun e w' => ∃ x', e = .returned (.tuple #[.int .i64 m.flush.n, .int .i64 m.flush.er]) ∧ St w0 M w' (mP gm ga x' (m.withA m.flush.a) ++ R) := by
 have hr : m.flush = ⟨10, 0, m.a⟩ := by unfold MV.flush; rw [h1]; rfl
 rw [hr]; have hst := hS; have HG := ya hg; have HO := ya h1; clear hS hg h1 hr; unfold PM; go_enter Tryz.func26, Tryz.ntmps26; go_wp2_with (first | (go_at_call 62; refine jc hst (zM (zw hst HG.out.sc.ok.d0)) fun w2 hst => ?_) | (go_at_call 66; have HC := broken_any hst HG.out (by omega); rw [HO] at HC; refine je HC fun w2 hst => ?_; clear HC)); go_ret2; exact ⟨x, rfl, hst⟩
theorem flush_on (h1 : m.a.out = false) :
  Calls Tryz.prog 26 #[PM gm] w fun e w' => ∃ x', e = .returned (.tuple #[.int .i64 m.flush.n, .int .i64 m.flush.er]) ∧ St w0 M w' (mP gm ga x' (m.withA m.flush.a) ++ R) := by
 have hr : m.flush = zr m.a.devs.length m.a.devs.length m.a 0 := by unfold MV.flush; rw [h1]; rfl
 rw [hr]; have hst := hS; have HG := ya hg; have HO := ya h1; obtain ⟨d, hd⟩ : ∃ d, d = m.a.devs.length := ⟨_, rfl⟩; have HD := ya hd; have hd8 : d ≤ 8 := by rw [hd]; exact hg.sc.ok.dn
 rw [← hd]; obtain ⟨F, hF⟩ : ∃ F, F = zr d d m.a 0 := ⟨_, rfl⟩; have HF := ya hF; rw [← hF]; clear hS hg h1 hr hd hF; unfold PM; go_enter Tryz.func26, Tryz.ntmps26; go_wp2_with (first | (go_at_call 62; refine jc hst (zM (zw hst HG.out.sc.ok.d0)) fun w2 hst => ?_) | (go_at_call 66; have HC := broken_any hst HG.out (by omega); rw [HO] at HC; refine je HC fun w2 hst => ?_; clear HC) | (refine jl (Loads.at [] hst rfl) ?_) | (go_at_call 67; have HC := yag (zw hst HG.out.sc.ok.d0).arr.toArrAt; rw [← HD] at HC; refine jc hst HC fun w3 hst => ?_; clear HC)); go_loopw [4, 17] (fun q i wr => ∃ (k cnt : Nat) (x' : GA) (a' : AR), k ≤ d ∧ cnt ≤ k ∧ i = .int .i64 k ∧ q = .int .i64 cnt ∧ Hid (F = zr d (d - k) a' cnt) ∧ Hid (MGood (m.withA a') (N + k)) ∧ St w0 M wr (mP gm ga x' (m.withA a') ++ R)) (fun _ i _ => d - (intOf i).toNat)
 case atStart => exact ⟨0, 0, x, m.a, Nat.zero_le _, Nat.zero_le _, rfl, rfl, HF, HG, hst⟩
 case round =>
  clear hst; obtain ⟨k, cnt, x1, a1, hk, hck, rfl, rfl, HW, HGK, hst⟩ := hrel; by_cases hlt : k < d
  ·have d0 : decide ((k : Int) < (d : Int)) = true := zD (by omega); have HH := ya (flushed_step (a := a1) (cnt := cnt) hlt); cases hup : a1.up (k : Int)
   ·have HUP := ya hup; have HQ := ya (HW.trans (HH.trans (if_pos hup))); clear HW HH hup; go_wp2_with (first | (refine jl (Loads.at [] hst rfl) ?_) | (go_at_call 42; refine (up_any (a := a1) (zw hst HGK.out.sc.ok.d0).arr.toArrAt (k : Int)).mono ?_; rw [HUP]; rintro _ w3 ⟨rfl, h4⟩; have hst3 := St.call0 hst h4; clear h4 hst)); go_roundw
    case rel => exact ⟨k + 1, cnt, x1, a1, by omega, by omega, by go_num, rfl, HQ, ya (HGK.out.mono (by omega)), hst3⟩
    case measure => simp [intOf]; omega
   ·have HUP := ya hup; obtain ⟨E, hE⟩ : ∃ E, E = a1.flushE (k : Int) := ⟨_, rfl⟩; obtain ⟨A', hA'⟩ : ∃ A', A' = a1.flush (k : Int) := ⟨_, rfl⟩; have HE := ya hE.symm; have HA' := ya hA'.symm; rw [← hE, ← hA', hup] at HH; have HG2 := ya (show MGood (m.withA A') (N + k + 1) from by rw [hA']; exact HGK.out.arr (HGK.out.sc.ok.flush _) (Stays.flush _ _)); have HW2 := ya (HW.trans (HH.trans (if_neg (by decide)))); clear HW HH hup hE hA'; by_cases e0 : E = 0
    ·subst e0; have HQ := ya (HW2.trans (if_pos rfl)); clear HW2; go_wp2_with (first | (refine jl (Loads.at [] hst rfl) ?_) | (refine jl (Loads.at [] hst3 rfl) ?_) | (go_at_call 42; refine (up_any (a := a1) (zw hst HGK.out.sc.ok.d0).arr.toArrAt (k : Int)).mono ?_; rw [HUP]; rintro _ w3 ⟨rfl, h4⟩; have hst3 := St.call0 hst h4; clear h4 hst) | (go_at_call 52; have HC := flushM_any (zJ (P := []) (Bs := [_]) hst3) HGK.out.sc.ok (HGK.out.st (by omega)) (HGK.out.ll (by omega)) (k : Int); rw [show (m.withA a1).a = a1 from rfl, HE, HA'] at HC; refine HC.mono ?_; clear HC; rintro _ w4 ⟨rfl, x2, h4⟩; have hst4 : St w0 M w4 (mP gm ga x2 (m.withA A') ++ R) := jg (P := []) (Bs := [_]) hst3 h4; clear h4 hst3)); go_roundw
     case rel => exact ⟨k + 1, cnt + 1, x2, A', by omega, by omega, by go_num, by go_num, HQ, HG2, hst4⟩
     case measure => simp [intOf]; omega
    by_cases e1 : E = 10
    ·subst e1; have HQ := ya (HW2.trans ((if_neg (by decide)).trans (if_pos rfl))); clear HW2; go_wp2_with (first | (refine jl (Loads.at [] hst rfl) ?_) | (refine jl (Loads.at [] hst3 rfl) ?_) | (go_at_call 42; refine (up_any (a := a1) (zw hst HGK.out.sc.ok.d0).arr.toArrAt (k : Int)).mono ?_; rw [HUP]; rintro _ w3 ⟨rfl, h4⟩; have hst3 := St.call0 hst h4; clear h4 hst) | (go_at_call 52; have HC := flushM_any (zJ (P := []) (Bs := [_]) hst3) HGK.out.sc.ok (HGK.out.st (by omega)) (HGK.out.ll (by omega)) (k : Int); rw [show (m.withA a1).a = a1 from rfl, HE, HA'] at HC; refine HC.mono ?_; clear HC; rintro _ w4 ⟨rfl, x2, h4⟩; have hst4 : St w0 M w4 (mP gm ga x2 (m.withA A') ++ R) := jg (P := []) (Bs := [_]) hst3 h4; clear h4 hst3)); go_ret2; exact ⟨x2, by rw [HQ]; rfl, by rw [HQ]; exact hst4⟩
    have HQ := ya (HW2.trans ((if_neg e0).trans (if_neg e1))); have f0 : (E == 0) = false := beq_eq_false_iff_ne.2 e0; have f1 : (E == 10) = false := beq_eq_false_iff_ne.2 e1; clear e0 e1; clear HW2; go_wp2_with (first | (refine jl (Loads.at [] hst rfl) ?_) | (refine jl (Loads.at [] hst3 rfl) ?_) | (go_at_call 42; refine (up_any (a := a1) (zw hst HGK.out.sc.ok.d0).arr.toArrAt (k : Int)).mono ?_; rw [HUP]; rintro _ w3 ⟨rfl, h4⟩; have hst3 := St.call0 hst h4; clear h4 hst) | (go_at_call 52; have HC := flushM_any (zJ (P := []) (Bs := [_]) hst3) HGK.out.sc.ok (HGK.out.st (by omega)) (HGK.out.ll (by omega)) (k : Int); rw [show (m.withA a1).a = a1 from rfl, HE, HA'] at HC; refine HC.mono ?_; clear HC; rintro _ w4 ⟨rfl, x2, h4⟩; have hst4 : St w0 M w4 (mP gm ga x2 (m.withA A') ++ R) := jg (P := []) (Bs := [_]) hst3 h4; clear h4 hst3)); go_roundw
    case rel => exact ⟨k + 1, cnt, x2, A', by omega, by omega, by go_num, rfl, HQ, HG2, hst4⟩
    case measure => simp [intOf]; omega
  ·obtain rfl : k = d := by omega
   have d0 : decide ((k : Int) < (k : Int)) = false := zF (by omega); have HQ := ya (show F = jD cnt a1 from HW.trans (by rw [Nat.sub_self]; rfl)); by_cases hc : cnt = 0
   ·subst hc; have HQ2 := ya (HQ.trans (show jD 0 a1 = ⟨13, 0, a1⟩ from rfl)); clear HQ; rw [show ((0 : Nat) : Int) = 0 from rfl]; go_wp2_with (first | (go_at_call 65; refine (some16_any 0 (by omega) _).mono ?_; rw [if_pos rfl]; rintro _ w9 ⟨rfl, h4⟩; have hst9 := St.call0 hst h4; clear h4 hst)); go_ret2; exact ⟨x1, by rw [HQ2]; rfl, by rw [HQ2]; exact hst9⟩
   ·have HC0 := ya hc; have HQ2 := ya (HQ.trans (show jD cnt a1 = ⟨0, cnt, a1⟩ by unfold jD; rw [if_neg hc])); clear HQ; go_wp2_with (first | (go_at_call 65; refine (some16_any cnt (by omega) _).mono ?_; rw [if_neg HC0.out]; rintro _ w9 ⟨rfl, h4⟩; have hst9 := St.call0 hst h4; clear h4 hst)); go_ret2; exact ⟨x1, by rw [HQ2]; rfl, by rw [HQ2]; exact hst9⟩
theorem mflush_any :
  Calls Tryz.prog 26 #[PM gm] w fun e w' => ∃ x', e = .returned (.tuple #[.int .i64 m.flush.n, .int .i64 m.flush.er]) ∧ St w0 M w' (mP gm ga x' (m.withA m.flush.a) ++ R) := by
 cases h1 : m.a.out
 ·exact flush_on hS hg hN h1
 ·exact flush_out hS hg hN h1
end
theorem fold_succ {α : Type} {f : α → Int × Int → α} {c : α} {l : List (Int × Int)} {k : Nat} (hk : k < l.length) : (l.take (k + 1)).foldl f c = f ((l.take k).foldl f c) (l.getD k (0, 0)) := by
 rw [List.take_succ_eq_append_getElem hk, List.foldl_append, List.getD_eq_getElem?_getD, List.getElem?_eq_getElem hk]; rfl
theorem look_succ {S : List UInt8} {c : CR} {l : List (Int × Int)} {k : Nat} (hk : k < l.length) : (l.take (k + 1)).foldl (CR.next S) c = ((l.take k).foldl (CR.next S) c).next S (l.getD k (0, 0)) := by
 rw [List.take_succ_eq_append_getElem hk, List.foldl_append, List.getD_eq_getElem?_getD, List.getElem?_eq_getElem hk]; rfl
theorem look_stays {S : List UInt8} : ∀ {l : List (Int × Int)} {c : CR}, c.out = true → l.foldl (CR.next S) c = c
 | [], _, _ => rfl
 | z :: l, c, h => by
  rw [List.foldl_cons, show c.next S z = c by unfold CR.next; rw [if_pos h]]; exact look_stays h
theorem scan_stop {S : List UInt8} {c : CR} {l : List (Int × Int)} {k : Nat} (hk : k < l.length) (h : (((l.take k).foldl (CR.next S) c).next S (l.getD k (0, 0))).out = true) : l.foldl (CR.next S) c = ((l.take k).foldl (CR.next S) c).next S (l.getD k (0, 0)) := by
 rw [← look_succ hk] at h ⊢
 conv => lhs; rw [← List.take_append_drop (k + 1) l, List.foldl_append]
 exact look_stays h
def sX (g9 g8 g7 g5 g4 g3 : Nat) (pc : List Value) (R : List HA) (wv bv : Value) (c : CR) : List HA :=
 .row wv 83 2 c.ill.length (yu c.ill) :: .blk g9 28 [bv] :: .rowP yP bv 5 1 c.b.length (yb c.b) :: .blk g8 30 [wv] :: .blk g7 59 [.int .i64 c.good, .int .i64 0, .int .i64 0, .int .i64 c.lost] :: .blk g5 37 [.int .i64 0] :: .blk g4 59 [.int .i64 0, .int .i64 0, .int .i64 0, .int .i64 0] :: .blk g3 34 pc :: R
def sXp (g9 g8 g7 g5 g4 g3 : Nat) (pc : List Value) (R : List HA) (S : List UInt8) (l : List (Int × Int)) (c0 : CR) (k : Nat) (m : MV) (X : List HA) : Prop :=
 ∃ wv bv c, (c.good ≤ k ∧ c.lost ≤ k ∧ c.ill.length ≤ k) ∧ c = (l.take k).foldl (CR.next S) c0 ∧ c.out = false ∧ c.m = m ∧ X = sX g9 g8 g7 g5 g4 g3 pc R wv bv c
def sIx (w0 : World) (M : List Nat) (gm ga : Nat) (x : GA) (g5 g4 : Nat) (R : List HA) (F : CR) (cc : Code) (W : World) : Prop :=
 cc = .ret ∧ F.out = true ∧ St w0 M W (.blk g5 37 [.int .i64 10] :: .blk g4 59 [.int .i64 0, .int .i64 0, .int .i64 0, .int .i64 0] :: (mP gm ga x F.m ++ R))
def sB (w0 : World) (M : List Nat) (gm ga : Nat) (x : GA) (bx : List HA) (l : List (Int × Int)) (but : Int) (S : List UInt8) (N0 : Nat) (Xp : Nat → MV → List HA → Prop) (A : Act) (y : YV) (a' : Act) (W : World) : Prop :=
 ∃ g10 g11, a' = { tmps := (((A.tmps.setIfInBounds 24 (cE l S y).1).setIfInBounds 25 (cE l S y).2).setIfInBounds 10 (.pointer (some ⟨g10, 0, none⟩))).setIfInBounds 11 (.pointer (some ⟨g11, 0, none⟩)), defers := [] } ∧
  y.k < l.length ∧ (y.pl l).1 ≠ but ∧ MGood y.m (N0 + y.k) ∧ ∃ X, Xp y.k y.m X ∧
  St w0 M W (.blk g11 128 [.int .i64 (y.m.kind (y.pl l).1 (y.pl l).2 S), y.v] :: .blk g10 83 [.int .i64 (y.pl l).1, .int .i64 (y.pl l).2] :: .rowP yP y.v 5 1 (y.B l S).length (yb (y.B l S)) :: (mP gm ga x (y.next l S) ++ (bx ++ X)))
theorem s_back {w0 w : World} {M : List Nat} {a1 a2 a3 a4 a5 a6 a7 a8 : HA} {P B R T : List HA} (h : St w0 M w (a1 :: a2 :: a3 :: a4 :: a5 :: a6 :: a7 :: a8 :: (T ++ (P ++ (B ++ R))))) : St w0 M w (P ++ (B ++ (a1 :: a2 :: a3 :: a4 :: a5 :: a6 :: a7 :: a8 :: R))) := by
 have h1 : St w0 M w ([a1, a2, a3, a4, a5, a6, a7, a8] ++ ([] ++ (P ++ (B ++ R)))) := St.sub h (.cons_cons _ (.cons_cons _ (.cons_cons _ (.cons_cons _ (.cons_cons _ (.cons_cons _ (.cons_cons _ (.cons_cons _ zA)))))))); exact St.perm h1 (pull4 [] P B [a1, a2, a3, a4, a5, a6, a7, a8] R).symm
theorem s_new {w0 w : World} {M : List Nat} {a1 a2 a3 a4 a5 a6 a7 a8 b1 b2 rp : HA} {P B R : List HA} (h : St w0 M w (a1 :: a2 :: a3 :: a4 :: a5 :: a6 :: a7 :: a8 :: b1 :: b2 :: rp :: (P ++ (B ++ R)))) : St w0 M w (P ++ (B ++ (a1 :: a2 :: rp :: a4 :: a5 :: a6 :: a7 :: a8 :: R))) := by
 have h1 : St w0 M w ([a1, a2] ++ ([a4, a5, a6, a7, a8] ++ rp :: (P ++ (B ++ R)))) := St.sub h (.cons_cons _ (.cons_cons _ (.cons _ (.cons_cons _ (.cons_cons _ (.cons_cons _ (.cons_cons _ (.cons_cons _ (.cons _ (.cons _ (List.Sublist.refl _))))))))))); have h2 : St w0 M w ([a1, a2] ++ (rp :: ([a4, a5, a6, a7, a8] ++ (P ++ (B ++ R))))) := St.perm h1 (List.Perm.append_left _ List.perm_middle); have h3 : St w0 M w ([a1, a2, rp, a4, a5, a6, a7, a8] ++ ([] ++ (P ++ (B ++ R)))) := h2; exact St.perm h3 (pull4 [] P B [a1, a2, rp, a4, a5, a6, a7, a8] R).symm
theorem s_out {w0 w : World} {M : List Nat} {a1 a2 a3 a4 a5 a6 a7 a8 : HA} {P B R T : List HA} (h : St w0 M w (a1 :: a2 :: a3 :: a4 :: a5 :: a6 :: a7 :: a8 :: (T ++ (P ++ (B ++ R))))) : St w0 M w (a6 :: a7 :: (P ++ R)) := by
 exact St.sub h (.cons _ (.cons _ (.cons _ (.cons _ (.cons _ (.cons_cons _ (.cons_cons _ (.cons _ (show (P ++ R).Sublist (T ++ (P ++ (B ++ R))) from (List.Sublist.append_left (List.sublist_append_right B R) P).trans (List.sublist_append_right T _))))))))))
theorem mbytes_slice {w0 w : World} {M : List Nat} {A P B R : List HA} {g9 g8 g7 g5 g4 g3 : Nat} {pc : List Value} {wv bv : Value} {c : CR} (h : St w0 M w (A ++ (P ++ (B ++ sX g9 g8 g7 g5 g4 g3 pc R wv bv c)))) : (∃ a k, wv = .slice a c.ill.length k) ∧ ∃ a k, bv = .slice a c.b.length k := by
 have h1 : St w0 M w (sX g9 g8 g7 g5 g4 g3 pc R wv bv c) := St.sub h ((zA.trans zA).trans zA); exact ⟨yZ [] h1, St.rowPSlice [_, _] h1⟩
def c0of (m : MV) : CR := ⟨0, 0, [], [], m, false⟩
end
end Go.Proofs.YtmdfbdfijnmhkaaGreat
