/- PROVED: the law DirScript returns true at any input, and nothing that was there has turned. No condition. -/
import Derived.Test.YtifajcblbedcoaaGreatJDirScripti
import Derived.Test.YtifajcblbedcoaaGreatPost
import Derived.Test.YtifajcblbedcoaaGreatJDirScriptg
namespace Go.Proofs.YtifajcblbedcoaaGreat
set_option linter.unusedVariables false
set_option linter.unusedSimpArgs false
open Go.RowKit Hp
attribute [local irreducible] Go.Calls Go.wpList tN tA tAX tS tD1 tD2 tD3 tD4
set_option maxRecDepth 100000
set_option maxHeartbeats 8000000
attribute [local go_sem ↓] heldInt heldInts heldRecs heldRec heldStr heldTab heldPtr heldFn
theorem ow_if {P : Program} {ops : Array Oper} {o : Oper} {a : Act} {w : World} {K : Act → World → Prop} {Q : Exit → Act → World → Prop} {E : Prop} (hw : Region.wanted o (yielded ops a.tmps) = true) (h : wpList P ops (Q0 K Q) [o] a w) : if Region.wanted o (yielded ops a.tmps) = true then o.wp P a w K Q else E := by
  rw [if_pos hw]
  exact ow_of_wl hw h
theorem InP.spot {w0 w : World} {M : List Nat} {B P : List HA} {t : TC} {ar al : Option Addr} {cr cl : Nat} {xs : List (Value × RC)} (h : InP P t ar al cr cl xs) (hst : St w0 M w (B ++ P)) (hn : 0 < xs.length) : ∃ g2, ar = some ⟨g2, 0, none⟩ := by
  obtain ⟨g2, c, e, _⟩ := row_spot hst (List.mem_append_right _ h.rr) hn
  cases e
  exact ⟨g2, rfl⟩
theorem InP.range {w0 w : World} {M : List Nat} {B P : List HA} {t : TC} {g2 : Nat} {al : Option Addr} {cr cl j : Nat} {xs : List (Value × RC)} {x : Value × RC} (h : InP P t (some ⟨g2, 0, none⟩) al cr cl xs) (hst : St w0 M w (B ++ P)) (hx : xs[j]? = some x) : w.rangeAt g2 (j * 44) (cellsR x) := by
  have hlt := (List.getElem?_eq_some_iff.1 hx).1
  obtain ⟨x', b, off, hx', he, _, hr⟩ := RecsIn.at (h.recs hst) hlt
  cases he
  rw [hx] at hx'
  cases hx'
  rwa [Nat.zero_add] at hr
/-- A number within an element. -/
theorem InP.cell {w0 w : World} {M : List Nat} {B P : List HA} {t : TC} {g2 : Nat} {al : Option Addr} {cr cl j d o : Nat} {xs : List (Value × RC)} {x : Value × RC} {v : Value} (h : InP P t (some ⟨g2, 0, none⟩) al cr cl xs) (hst : St w0 M w (B ++ P)) (hx : xs[j]? = some x) (hd : (cellsR x)[d]? = some v) (ho : o = j * 44 + d) : w.cell? ⟨g2, o, none⟩ = some v := by
  subst ho
  exact h.range hst hx d v hd
/-- The chapter's table, told. -/
def SmpPost (w : World) (e : Ending) (w' : World) : Prop := ∃ (a b : Option Addr) (c d : Nat) (P : List HA) (xs : List (Value × RC)), e = .returned (.tuple #[.agg (tabC tS (.slice a xs.length c) (.slice b tS.lives.length d)).toArray, .bool true]) ∧ InP P tS a b c d xs ∧ St w [] w' P
theorem sample13_any (w : World) : Calls Tryz.prog 22 #[] w (SmpPost w) := by
  obtain ⟨P0, hP0⟩ : ∃ P0 : List HA, P0 = [] := ⟨_, rfl⟩
  have hS0 : St w [] w ([] ++ P0) := by rw [hP0]; exact St.refl w
  clear hP0
  go_enter Tryz.func22, Tryz.ntmps22
  go_wp2_with (first | go_big_skip | go_big_guard | (refine wl_alloc hS0 rfl rfl ?_; intro g0 w1 h4; have hS1 : St w [] w1 ([.blk g0 27 (tab0)] ++ P0) := h4; clear h4 hS0) | (go_at_call 13; refine (new13_any 2 _).mono ?_; rw [tN_eq]; intro e9 w9 hret; obtain ⟨a1, b1, c1, d1, P1, xs1, rfl, hin, hsub, h4⟩ := ret_pool (B := [.blk g0 27 (tab0)]) hS1 hret; have hS2 : St w [] w9 ([.blk g0 27 (tab0)] ++ P1) := h4; clear hret h4 hS1; have HT1 := hid hin; clear hin hsub) | (refine wl_alloc hS2 rfl rfl ?_; intro g2 w1 h4; have hS3 : St w [] w1 ([.blk g2 27 (tab0), .blk g0 27 (tab0)] ++ P1) := h4; clear h4 hS2) | (refine wl_storeA [] hS3 rfl rfl rfl rfl (vs := tabC tN (.slice a1 xs1.length c1) (.slice b1 tN.lives.length d1)) rfl rfl rfl ?_; intro w1 h4; have hS4 : St w [] w1 ([.blk g2 27 (tabC tN (.slice a1 xs1.length c1) (.slice b1 tN.lives.length d1)), .blk g0 27 (tab0)] ++ P1) := h4; clear h4 hS3) | (refine wl_loadE rfl rfl rfl ?_; refine ⟨_, Loads.atA (tabC tN (.slice a1 xs1.length c1) (.slice b1 tN.lives.length d1)) [] hS4 rfl rfl, ?_⟩) | (go_at_call 25; refine (make13_any tN a1 b1 xs1.length c1 tN.lives.length d1 xs1 _ (HT1.out.tab hS4 tN_bd) [97] 4 1 (by decide)).mono ?_; rw [tA_eq]; intro e9 w9 hret; obtain ⟨a2, b2, c2, d2, P2, xs2, rfl, hin, hsub, h4⟩ := ret_pool (B := [.blk g2 27 (tabC tN (.slice a1 xs1.length c1) (.slice b1 tN.lives.length d1)), .blk g0 27 (tab0)]) hS4 hret; have hS5 : St w [] w9 ([.blk g2 27 (tabC tN (.slice a1 xs1.length c1) (.slice b1 tN.lives.length d1)), .blk g0 27 (tab0)] ++ P2) := h4; clear hret h4 hS4; replace HT1 := hid (HT1.out.mono hsub); have HT2 := hid hin; clear hin hsub) | (refine wl_storeA [] hS5 rfl rfl rfl rfl (vs := tabC tA (.slice a2 xs2.length c2) (.slice b2 tA.lives.length d2)) rfl rfl rfl ?_; intro w1 h4; have hS6 : St w [] w1 ([.blk g2 27 (tabC tA (.slice a2 xs2.length c2) (.slice b2 tA.lives.length d2)), .blk g0 27 (tab0)] ++ P2) := h4; clear h4 hS5) | (refine wl_loadE rfl rfl rfl ?_; refine ⟨_, Loads.atA (tabC tA (.slice a2 xs2.length c2) (.slice b2 tA.lives.length d2)) [] hS6 rfl rfl, ?_⟩) | (go_at_call 26; refine (snap13_any tA a2 b2 xs2.length c2 tA.lives.length d2 xs2 _ (HT2.out.tab hS6 tA_bd) [97, 64, 120] 2 (by decide)).mono ?_; rw [tAX_eq]; intro e9 w9 hret; obtain ⟨a3, b3, c3, d3, P3, xs3, rfl, hin, hsub, h4⟩ := ret_pool (B := [.blk g2 27 (tabC tA (.slice a2 xs2.length c2) (.slice b2 tA.lives.length d2)), .blk g0 27 (tab0)]) hS6 hret; have hS7 : St w [] w9 ([.blk g2 27 (tabC tA (.slice a2 xs2.length c2) (.slice b2 tA.lives.length d2)), .blk g0 27 (tab0)] ++ P3) := h4; clear hret h4 hS6; replace HT1 := hid (HT1.out.mono hsub); replace HT2 := hid (HT2.out.mono hsub); have HT3 := hid hin; clear hin hsub) | (refine wl_storeA [] hS7 rfl rfl rfl rfl (vs := tabC tAX (.slice a3 xs3.length c3) (.slice b3 tAX.lives.length d3)) rfl rfl rfl ?_; intro w1 h4; have hS8 : St w [] w1 ([.blk g2 27 (tabC tAX (.slice a3 xs3.length c3) (.slice b3 tAX.lives.length d3)), .blk g0 27 (tab0)] ++ P3) := h4; clear h4 hS7) | (refine wl_loadE rfl rfl rfl ?_; refine ⟨_, Loads.atA (tabC tAX (.slice a3 xs3.length c3) (.slice b3 tAX.lives.length d3)) [] hS8 rfl rfl, ?_⟩) | (go_at_call 27; refine (clone13_any tAX a3 b3 xs3.length c3 tAX.lives.length d3 xs3 _ (HT3.out.tab hS8 tAX_bd) [97, 64, 120] [98] 3 (by decide) (by decide)).mono ?_; rw [tS_eq]; intro e9 w9 hret; obtain ⟨a4, b4, c4, d4, P4, xs4, rfl, hin, hsub, h4⟩ := ret_pool (B := [.blk g2 27 (tabC tAX (.slice a3 xs3.length c3) (.slice b3 tAX.lives.length d3)), .blk g0 27 (tab0)]) hS8 hret; have hS9 : St w [] w9 ([.blk g2 27 (tabC tAX (.slice a3 xs3.length c3) (.slice b3 tAX.lives.length d3)), .blk g0 27 (tab0)] ++ P4) := h4; clear hret h4 hS8; replace HT1 := hid (HT1.out.mono hsub); replace HT2 := hid (HT2.out.mono hsub); replace HT3 := hid (HT3.out.mono hsub); have HT4 := hid hin; clear hin hsub) | (refine wl_storeA [] hS9 rfl rfl rfl rfl (vs := tabC tS (.slice a4 xs4.length c4) (.slice b4 tS.lives.length d4)) rfl rfl rfl ?_; intro w1 h4; have hS10 : St w [] w1 ([.blk g2 27 (tabC tS (.slice a4 xs4.length c4) (.slice b4 tS.lives.length d4)), .blk g0 27 (tab0)] ++ P4) := h4; clear h4 hS9))
  have hX := hS10.drew
  clear hS10
  refine wp_region_held_drew (S := (fun w' => (loadVarH 27 ⟨g2, 0, none⟩).run Tryz.prog w' = .ok (.agg (List.toArray (tabC tS (.slice a4 xs4.length c4) (.slice b4 tS.lives.length d4)))) w')) (by kernel_rfl) (by exact ldA (tabC tS (.slice a4 xs4.length c4) (.slice b4 tS.lives.length d4)) [] hX (rfl) (rfl)) (fun hHeld => ?_)
  refine tq 0 26 ?_
  refine tq 1 27 ?_
  refine tq 2 28 ?_
  refine tq 3 29 ?_
  refine tq 4 30 ?_
  refine tq 5 31 ?_
  refine tq 6 32 ?_
  refine tq 7 33 ?_
  refine tq 8 34 ?_
  refine tq 9 35 ?_
  refine tq 10 36 ?_
  refine tq 11 37 ?_
  refine tq 12 38 ?_
  refine tq 13 39 ?_
  refine tq 14 40 ?_
  refine tq 15 41 ?_
  refine tq 16 42 ?_
  refine wpAnyH_ready (rs := [17]) (by kernel_rfl) (by simp) ?_
  refine (AllReadyH.cons (o := ⟨some 43, _, _, _, _, _⟩) rfl (fun K hK => ?_) AllReadyH.nil)
  refine ow_if (by rfl) ?_
  apply wl_bsX [.string ⟨([97] : List UInt8).toArray⟩, .string ⟨([97, 64, 120] : List UInt8).toArray⟩, .string ⟨([98] : List UInt8).toArray⟩] [.string ⟨([97] : List UInt8).toArray⟩, .string ⟨([97, 64, 120] : List UInt8).toArray⟩, .string ⟨([98] : List UInt8).toArray⟩] hX
  · rfl
  · rfl
  · exact rfl
  · exact rfl
  · infer_instance
  · infer_instance
  · rfl
  · rfl
  · rfl
  intro gw w5 h4
  have hW1 : St w [] w5 ([.blk gw 9 [.string ⟨([97] : List UInt8).toArray⟩, .string ⟨([97, 64, 120] : List UInt8).toArray⟩, .string ⟨([98] : List UInt8).toArray⟩], .blk g2 27 (tabC tS (.slice a4 xs4.length c4) (.slice b4 tS.lives.length d4)), .blk g0 27 tab0] ++ P4) := h4
  clear h4
  refine q0_nil ?_
  refine hK.out _ _ ?_ (fun hHeld => ?_)
  · exact ldA (tabC tS (.slice a4 xs4.length c4) (.slice b4 tS.lives.length d4)) [_] hW1 (rfl) (rfl)
  clear hK K
  (try simp only [Act.put, List.setIfInBounds_toArray, List.set_cons_zero, List.set_cons_succ])
  refine wpAnyH_ready (rs := [18]) (by kernel_rfl) (by simp) ?_
  refine (AllReadyH.cons (o := ⟨some 44, _, _, _, _, _⟩) rfl (fun K hK => ?_) AllReadyH.nil)
  rw [if_pos (by rfl)]
  go_simp
  go_at_call 24
  refine (names13_any tS a4 xs4.length c4 _ xs4 _ 3 3 [[97], [97, 64, 120], [98]] _ (HT4.out.recs hW1) HT4.out.ok.eq (by rw [HT4.out.ok.len]; exact tS_rl) (Rd.blk hW1 (.head _) (Nat.le_refl _) (by decide) rfl rfl) rfl (by decide)).mono ?_
  rw [tS_names]
  rintro _ w6 ⟨rfl, h4⟩
  have hW2 : St w [] w6 ([.blk gw 9 [.string ⟨([97] : List UInt8).toArray⟩, .string ⟨([97, 64, 120] : List UInt8).toArray⟩, .string ⟨([98] : List UInt8).toArray⟩], .blk g2 27 (tabC tS (.slice a4 xs4.length c4) (.slice b4 tS.lives.length d4)), .blk g0 27 tab0] ++ P4) := St.call0 hW1 h4
  clear h4
  refine hK.out _ _ ?_ (fun hHeld => ?_)
  · exact ldA (tabC tS (.slice a4 xs4.length c4) (.slice b4 tS.lives.length d4)) [_] hW2 (rfl) (rfl)
  clear hK K
  (try simp only [Act.put, List.setIfInBounds_toArray, List.set_cons_zero, List.set_cons_succ])
  refine tq 19 45 ?_
  refine wpAnyH_ready (rs := [20]) (by kernel_rfl) (by simp) ?_
  refine (AllReadyH.cons (o := ⟨none, _, _, _, _, _⟩) rfl (fun K hK => ?_) AllReadyH.nil)
  refine ow_if (by rfl) ?_
  refine wl_storeA [_, _] hW2 rfl rfl rfl rfl (vs := tabC tS (.slice a4 xs4.length c4) (.slice b4 tS.lives.length d4)) rfl rfl rfl ?_
  intro w7 hW3
  refine q0_nil ?_
  refine hK.out _ _ ?_ (fun hHeld => ?_)
  · exact ldA (tabC tS (.slice a4 xs4.length c4) (.slice b4 tS.lives.length d4)) [_] hW3 (rfl) (rfl)
  clear hK K
  (try simp only [Act.put, List.setIfInBounds_toArray, List.set_cons_zero, List.set_cons_succ])
  refine tq 21 1 ?_
  refine wpAnyH_done (by kernel_rfl) ?_ _
  clear hHeld
  go_wp2_with (first | go_big_skip | go_big_guard | fail)
  have hl := Loads.atA (P := Tryz.prog) (off := 0) (T := 27) (tabC tS (.slice a4 xs4.length c4) (.slice b4 tS.lives.length d4)) [_, _] hW3 rfl rfl
  refine bodyPost_ret (results_cellR rfl rfl rfl hl) rfl ?_
  exact ⟨_, _, _, _, _, _, rfl, HT4.out, St.sub hW3 (.cons _ (.cons _ (.cons _ (List.Sublist.refl _))))⟩
theorem smp_parts {w0 w : World} {M : List Nat} {B P : List HA} {ar al : Option Addr} {cr cl : Nat} {xs : List (Value × RC)} (h : InP P tS ar al cr cl xs) (hst : St w0 M w (B ++ P)) :
    xs.length = 3 ∧ (∃ g9, ar = some ⟨g9, 0, none⟩) ∧ (∃ v : Value, xs[0]? = some (v, sR0)) ∧ (∃ v : Value, xs[1]? = some (v, sR1)) ∧ (∃ v : Value, xs[2]? = some (v, sR2)) := by
  have hl : xs.length = 3 := by rw [h.ok.len, tS_len]
  have key : ∀ (j : Nat) (r : RC), tS.recs[j]? = some r → ∃ v : Value, xs[j]? = some (v, r) := fun j r hr => by
    obtain ⟨x, hx, he⟩ := okx_at h.ok hr
    subst he
    exact ⟨x.1, hx⟩
  exact ⟨hl, h.spot hst (by omega), key 0 sR0 (by rw [tS_recs]; rfl), key 1 sR1 (by rw [tS_recs]; rfl), key 2 sR2 (by rw [tS_recs]; rfl)⟩
attribute [local irreducible] sR0 sR1 sR2
theorem awake13_any (w : World) : Calls Tryz.prog 8 #[] w fun e w' => e = .returned (.bool true) ∧ St w [] w' [] := by
  obtain ⟨P0, hP0⟩ : ∃ P0 : List HA, P0 = [] := ⟨_, rfl⟩
  have hS0 : St w [] w ([] ++ P0) := by rw [hP0]; exact St.refl w
  clear hP0
  have hn4 := tS_next
  obtain ⟨v1, v2, v3, v4⟩ := tS_vals
  go_enter Tryz.func8, Tryz.ntmps8
  go_wp2_with (first | go_big_skip | go_big_guard | (go_at_call 22; refine (sample13_any _).mono ?_; intro e9 w9 hret; obtain ⟨a0, b0, c0, d0, P1, xs0, rfl, hin, h4⟩ := hret; have hS1 : St w [] w9 ([] ++ P1) := St.sub (St.call hS0 h4) (List.sublist_append_left _ _); have HT0 := hid hin; clear h4 hin hS0; obtain ⟨hn3, ⟨g9, hg9⟩, ⟨x0, hx0⟩, ⟨x1, hx1⟩, ⟨x2, hx2⟩⟩ := smp_parts HT0.out hS1; subst hg9; have HX0 := hid hx0; have HX1 := hid hx1; have HX2 := hid hx2; have HL1 := hid (HT0.out.ok.ok _ (List.mem_of_getElem? hx1)).1; have HL2 := hid (HT0.out.ok.ok _ (List.mem_of_getElem? hx2)).1; have HN3 := hid hn3; clear hx0 hx1 hx2 hn3) | (refine wl_alloc hS1 rfl rfl ?_; intro g1 w1 h4; have hS2 : St w [] w1 ([.blk g1 27 (tab0)] ++ P1) := h4; clear h4 hS1) | (refine wl_storeA [] hS2 rfl rfl rfl rfl (vs := tabC tS (.slice (some ⟨g9, 0, none⟩) xs0.length c0) (.slice b0 tS.lives.length d0)) rfl rfl rfl ?_; intro w1 h4; have hS3 : St w [] w1 ([.blk g1 27 (tabC tS (.slice (some ⟨g9, 0, none⟩) xs0.length c0) (.slice b0 tS.lives.length d0))] ++ P1) := h4; clear h4 hS2) | (refine wl_loadE rfl rfl rfl ?_; first | refine ⟨.int .i64 tS.next, Loads.at [] hS3 rfl, ?_⟩ | refine ⟨_, Loads.at [] hS3 rfl, ?_⟩ | refine ⟨.int .i64 sR0.id, Loads.cell (inferInstance : TyS Tryz.prog 3).out (HT0.out.cell hS3 HX0.out (d := 0) (rfl) (by decide)), ?_⟩ | refine ⟨.int .i64 sR1.own, Loads.cell (inferInstance : TyS Tryz.prog 3).out (HT0.out.cell hS3 HX1.out (d := 40) (cellsR_40 HL1.out) (by decide)), ?_⟩ | refine ⟨.int .i64 sR1.id, Loads.cell (inferInstance : TyS Tryz.prog 3).out (HT0.out.cell hS3 HX1.out (d := 0) (rfl) (by decide)), ?_⟩ | refine ⟨.int .i64 sR2.origin, Loads.cell (inferInstance : TyS Tryz.prog 3).out (HT0.out.cell hS3 HX2.out (d := 41) (cellsR_41 HL2.out) (by decide)), ?_⟩) | (refine wl_index (k := 0) rfl rfl rfl rfl (by have := HN3.out; omega) ?_) | (refine wl_index (k := 1) rfl rfl rfl rfl (by have := HN3.out; omega) ?_) | (refine wl_index (k := 2) rfl rfl rfl rfl (by have := HN3.out; omega) ?_) | (refine wl_loadE rfl rfl rfl ?_; refine ⟨_, Loads.atA (tabC tS (.slice (some ⟨g9, 0, none⟩) xs0.length c0) (.slice b0 tS.lives.length d0)) [] hS3 rfl rfl, ?_⟩) | (go_at_call 23; refine (drop13_any tS (some ⟨g9, 0, none⟩) b0 xs0.length c0 tS.lives.length d0 xs0 _ (HT0.out.tab hS3 tS_bd) [97] (by decide)).mono ?_; rw [tD1_eq]; intro e9 w9 hret; obtain ⟨a1, b1, c1, d1, P2, xs1, rfl, hin, hsub, h4⟩ := ret_pool (B := [.blk g1 27 (tabC tS (.slice (some ⟨g9, 0, none⟩) xs0.length c0) (.slice b0 tS.lives.length d0))]) hS3 hret; have hS4 : St w [] w9 ([.blk g1 27 (tabC tS (.slice (some ⟨g9, 0, none⟩) xs0.length c0) (.slice b0 tS.lives.length d0))] ++ P2) := h4; clear hret h4 hS3; replace HT0 := hid (HT0.out.mono hsub); have HT1 := hid hin; clear hin hsub) | (refine wl_alloc hS4 rfl rfl ?_; intro g3 w1 h4; have hS5 : St w [] w1 ([.blk g3 27 (tab0), .blk g1 27 (tabC tS (.slice (some ⟨g9, 0, none⟩) xs0.length c0) (.slice b0 tS.lives.length d0))] ++ P2) := h4; clear h4 hS4) | (refine wl_storeA [] hS5 rfl rfl rfl rfl (vs := tabC tD1 (.slice a1 xs1.length c1) (.slice b1 tD1.lives.length d1)) rfl rfl rfl ?_; intro w1 h4; have hS6 : St w [] w1 ([.blk g3 27 (tabC tD1 (.slice a1 xs1.length c1) (.slice b1 tD1.lives.length d1)), .blk g1 27 (tabC tS (.slice (some ⟨g9, 0, none⟩) xs0.length c0) (.slice b0 tS.lives.length d0))] ++ P2) := h4; clear h4 hS5) | (refine wl_loadE rfl rfl rfl ?_; refine ⟨_, Loads.atA (tabC tS (.slice (some ⟨g9, 0, none⟩) xs0.length c0) (.slice b0 tS.lives.length d0)) [_] hS6 rfl rfl, ?_⟩) | (go_at_call 23; refine (drop13_any tS (some ⟨g9, 0, none⟩) b0 xs0.length c0 tS.lives.length d0 xs0 _ (HT0.out.tab hS6 tS_bd) [97, 64, 120] (by decide)).mono ?_; rw [tD2_eq]; intro e9 w9 hret; obtain ⟨a2, b2, c2, d2, P3, xs2, rfl, hin, hsub, h4⟩ := ret_pool (B := [.blk g3 27 (tabC tD1 (.slice a1 xs1.length c1) (.slice b1 tD1.lives.length d1)), .blk g1 27 (tabC tS (.slice (some ⟨g9, 0, none⟩) xs0.length c0) (.slice b0 tS.lives.length d0))]) hS6 hret; have hS7 : St w [] w9 ([.blk g3 27 (tabC tD1 (.slice a1 xs1.length c1) (.slice b1 tD1.lives.length d1)), .blk g1 27 (tabC tS (.slice (some ⟨g9, 0, none⟩) xs0.length c0) (.slice b0 tS.lives.length d0))] ++ P3) := h4; clear hret h4 hS6; replace HT0 := hid (HT0.out.mono hsub); replace HT1 := hid (HT1.out.mono hsub); have HT2 := hid hin; clear hin hsub) | (refine wl_alloc hS7 rfl rfl ?_; intro g5 w1 h4; have hS8 : St w [] w1 ([.blk g5 27 (tab0), .blk g3 27 (tabC tD1 (.slice a1 xs1.length c1) (.slice b1 tD1.lives.length d1)), .blk g1 27 (tabC tS (.slice (some ⟨g9, 0, none⟩) xs0.length c0) (.slice b0 tS.lives.length d0))] ++ P3) := h4; clear h4 hS7) | (refine wl_storeA [] hS8 rfl rfl rfl rfl (vs := tabC tD2 (.slice a2 xs2.length c2) (.slice b2 tD2.lives.length d2)) rfl rfl rfl ?_; intro w1 h4; have hS9 : St w [] w1 ([.blk g5 27 (tabC tD2 (.slice a2 xs2.length c2) (.slice b2 tD2.lives.length d2)), .blk g3 27 (tabC tD1 (.slice a1 xs1.length c1) (.slice b1 tD1.lives.length d1)), .blk g1 27 (tabC tS (.slice (some ⟨g9, 0, none⟩) xs0.length c0) (.slice b0 tS.lives.length d0))] ++ P3) := h4; clear h4 hS8) | (refine wl_loadE rfl rfl rfl ?_; refine ⟨_, Loads.atA (tabC tS (.slice (some ⟨g9, 0, none⟩) xs0.length c0) (.slice b0 tS.lives.length d0)) [_, _] hS9 rfl rfl, ?_⟩) | (go_at_call 23; refine (drop13_any tS (some ⟨g9, 0, none⟩) b0 xs0.length c0 tS.lives.length d0 xs0 _ (HT0.out.tab hS9 tS_bd) [98] (by decide)).mono ?_; rw [tD3_eq]; intro e9 w9 hret; obtain ⟨a3, b3, c3, d3, P4, xs3, rfl, hin, hsub, h4⟩ := ret_pool (B := [.blk g5 27 (tabC tD2 (.slice a2 xs2.length c2) (.slice b2 tD2.lives.length d2)), .blk g3 27 (tabC tD1 (.slice a1 xs1.length c1) (.slice b1 tD1.lives.length d1)), .blk g1 27 (tabC tS (.slice (some ⟨g9, 0, none⟩) xs0.length c0) (.slice b0 tS.lives.length d0))]) hS9 hret; have hS10 : St w [] w9 ([.blk g5 27 (tabC tD2 (.slice a2 xs2.length c2) (.slice b2 tD2.lives.length d2)), .blk g3 27 (tabC tD1 (.slice a1 xs1.length c1) (.slice b1 tD1.lives.length d1)), .blk g1 27 (tabC tS (.slice (some ⟨g9, 0, none⟩) xs0.length c0) (.slice b0 tS.lives.length d0))] ++ P4) := h4; clear hret h4 hS9; replace HT0 := hid (HT0.out.mono hsub); replace HT1 := hid (HT1.out.mono hsub); replace HT2 := hid (HT2.out.mono hsub); have HT3 := hid hin; clear hin hsub) | (refine wl_alloc hS10 rfl rfl ?_; intro g7 w1 h4; have hS11 : St w [] w1 ([.blk g7 27 (tab0), .blk g5 27 (tabC tD2 (.slice a2 xs2.length c2) (.slice b2 tD2.lives.length d2)), .blk g3 27 (tabC tD1 (.slice a1 xs1.length c1) (.slice b1 tD1.lives.length d1)), .blk g1 27 (tabC tS (.slice (some ⟨g9, 0, none⟩) xs0.length c0) (.slice b0 tS.lives.length d0))] ++ P4) := h4; clear h4 hS10) | (refine wl_storeA [] hS11 rfl rfl rfl rfl (vs := tabC tD3 (.slice a3 xs3.length c3) (.slice b3 tD3.lives.length d3)) rfl rfl rfl ?_; intro w1 h4; have hS12 : St w [] w1 ([.blk g7 27 (tabC tD3 (.slice a3 xs3.length c3) (.slice b3 tD3.lives.length d3)), .blk g5 27 (tabC tD2 (.slice a2 xs2.length c2) (.slice b2 tD2.lives.length d2)), .blk g3 27 (tabC tD1 (.slice a1 xs1.length c1) (.slice b1 tD1.lives.length d1)), .blk g1 27 (tabC tS (.slice (some ⟨g9, 0, none⟩) xs0.length c0) (.slice b0 tS.lives.length d0))] ++ P4) := h4; clear h4 hS11) | (refine wl_loadE rfl rfl rfl ?_; refine ⟨_, Loads.atA (tabC tD3 (.slice a3 xs3.length c3) (.slice b3 tD3.lives.length d3)) [] hS12 rfl rfl, ?_⟩) | (go_at_call 23; refine (drop13_any tD3 a3 b3 xs3.length c3 tD3.lives.length d3 xs3 _ (HT3.out.tab hS12 tD3_bd) [97, 64, 120] (by decide)).mono ?_; rw [tD4_eq]; intro e9 w9 hret; obtain ⟨a4, b4, c4, d4, P5, xs4, rfl, hin, hsub, h4⟩ := ret_pool (B := [.blk g7 27 (tabC tD3 (.slice a3 xs3.length c3) (.slice b3 tD3.lives.length d3)), .blk g5 27 (tabC tD2 (.slice a2 xs2.length c2) (.slice b2 tD2.lives.length d2)), .blk g3 27 (tabC tD1 (.slice a1 xs1.length c1) (.slice b1 tD1.lives.length d1)), .blk g1 27 (tabC tS (.slice (some ⟨g9, 0, none⟩) xs0.length c0) (.slice b0 tS.lives.length d0))]) hS12 hret; have hS13 : St w [] w9 ([.blk g7 27 (tabC tD3 (.slice a3 xs3.length c3) (.slice b3 tD3.lives.length d3)), .blk g5 27 (tabC tD2 (.slice a2 xs2.length c2) (.slice b2 tD2.lives.length d2)), .blk g3 27 (tabC tD1 (.slice a1 xs1.length c1) (.slice b1 tD1.lives.length d1)), .blk g1 27 (tabC tS (.slice (some ⟨g9, 0, none⟩) xs0.length c0) (.slice b0 tS.lives.length d0))] ++ P5) := h4; clear hret h4 hS12; replace HT0 := hid (HT0.out.mono hsub); replace HT1 := hid (HT1.out.mono hsub); replace HT2 := hid (HT2.out.mono hsub); replace HT3 := hid (HT3.out.mono hsub); have HT4 := hid hin; clear hin hsub) | (refine wl_alloc hS13 rfl rfl ?_; intro g8 w1 h4; have hS14 : St w [] w1 ([.blk g8 27 (tab0), .blk g7 27 (tabC tD3 (.slice a3 xs3.length c3) (.slice b3 tD3.lives.length d3)), .blk g5 27 (tabC tD2 (.slice a2 xs2.length c2) (.slice b2 tD2.lives.length d2)), .blk g3 27 (tabC tD1 (.slice a1 xs1.length c1) (.slice b1 tD1.lives.length d1)), .blk g1 27 (tabC tS (.slice (some ⟨g9, 0, none⟩) xs0.length c0) (.slice b0 tS.lives.length d0))] ++ P5) := h4; clear h4 hS13) | (refine wl_storeA [] hS14 rfl rfl rfl rfl (vs := tabC tD4 (.slice a4 xs4.length c4) (.slice b4 tD4.lives.length d4)) rfl rfl rfl ?_; intro w1 h4; have hS15 : St w [] w1 ([.blk g8 27 (tabC tD4 (.slice a4 xs4.length c4) (.slice b4 tD4.lives.length d4)), .blk g7 27 (tabC tD3 (.slice a3 xs3.length c3) (.slice b3 tD3.lives.length d3)), .blk g5 27 (tabC tD2 (.slice a2 xs2.length c2) (.slice b2 tD2.lives.length d2)), .blk g3 27 (tabC tD1 (.slice a1 xs1.length c1) (.slice b1 tD1.lives.length d1)), .blk g1 27 (tabC tS (.slice (some ⟨g9, 0, none⟩) xs0.length c0) (.slice b0 tS.lives.length d0))] ++ P5) := h4; clear h4 hS14) | (refine wl_loadE rfl rfl rfl ?_; refine ⟨_, Loads.atA (tabC tD4 (.slice a4 xs4.length c4) (.slice b4 tD4.lives.length d4)) [] hS15 rfl rfl, ?_⟩) | (apply wl_bsX [.string ⟨([97] : List UInt8).toArray⟩] [.string ⟨([97] : List UInt8).toArray⟩] hS15; rfl; rfl; exact rfl; exact rfl; infer_instance; infer_instance; rfl; rfl; rfl; intro gw w5 h4; have hS16 : St w [] w5 ([.blk gw 9 ([.string ⟨([97] : List UInt8).toArray⟩]), .blk g8 27 (tabC tD4 (.slice a4 xs4.length c4) (.slice b4 tD4.lives.length d4)), .blk g7 27 (tabC tD3 (.slice a3 xs3.length c3) (.slice b3 tD3.lives.length d3)), .blk g5 27 (tabC tD2 (.slice a2 xs2.length c2) (.slice b2 tD2.lives.length d2)), .blk g3 27 (tabC tD1 (.slice a1 xs1.length c1) (.slice b1 tD1.lives.length d1)), .blk g1 27 (tabC tS (.slice (some ⟨g9, 0, none⟩) xs0.length c0) (.slice b0 tS.lives.length d0))] ++ P5) := h4; clear h4 hS15) | (go_at_call 24; refine (names13_any tD4 a4 xs4.length c4 _ xs4 _ 1 1 [[97]] _ (HT4.out.recs hS16) HT4.out.ok.eq (by rw [HT4.out.ok.len]; exact tD4_rl) (Rd.blk hS16 (.head _) (Nat.le_refl _) (by decide) rfl rfl) rfl (by decide)).mono ?_; rw [tD4_names]; rintro _ w9 ⟨rfl, h4⟩; have hS17 : St w [] w9 ([.blk gw 9 ([.string ⟨([97] : List UInt8).toArray⟩]), .blk g8 27 (tabC tD4 (.slice a4 xs4.length c4) (.slice b4 tD4.lives.length d4)), .blk g7 27 (tabC tD3 (.slice a3 xs3.length c3) (.slice b3 tD3.lives.length d3)), .blk g5 27 (tabC tD2 (.slice a2 xs2.length c2) (.slice b2 tD2.lives.length d2)), .blk g3 27 (tabC tD1 (.slice a1 xs1.length c1) (.slice b1 tD1.lives.length d1)), .blk g1 27 (tabC tS (.slice (some ⟨g9, 0, none⟩) xs0.length c0) (.slice b0 tS.lives.length d0))] ++ P5) := St.call0 hS16 h4; clear h4 hS16))
  go_ret
  exact ⟨rfl, hS17.nil⟩
end Go.Proofs.YtifajcblbedcoaaGreat
namespace Go.Proofs.YtifajcblbedcoaaGreat
set_option linter.unusedVariables false
set_option linter.unusedSimpArgs false
open Go.RowKit Hp
attribute [local irreducible] Go.Calls Go.wpList doR
set_option maxRecDepth 100000
set_option maxHeartbeats 8000000
theorem heldActS (A : Addr) : loadVar 34 A = loadVarH 34 A := rfl
attribute [local go_sem ↓] heldInt heldInts heldRecs heldRec heldStr heldTab heldPtr heldFn heldActS
theorem AD.Ok.oldS {w0 w : World} {L : List HA} {y : AD} (hst : St w0 [] w L) (h : y.Ok w0) : y.Ok w := ⟨h.kind, h.n, h.txg, PV.In.old hst h.p⟩
def NmS (xs : List AD) : Prop := ∀ x ∈ xs, x.nm.length ≤ 9223372036854775807 ∧ x.tn.length ≤ 9223372036854775807
def IffS (b : Bool) (p : Prop) : Prop := b = false ↔ p
theorem long_isS {w0 w : World} {L : List HA} (hst : St w0 [] w L) {ao : Option Addr} {N c : Nat} {xs : List AD} (hv : Rd w0 (.slice ao N c) 40 N (xs.flatMap AD.cells)) (hN : xs.length = N) (hx : ∀ x ∈ xs, x.Ok w0) (hnb : NmS xs) (b : Bool) (hb : IffS b (shortD xs N)) :
    Calls Tryz.prog 7 #[.slice ao N c] w fun e w' => e = .returned (.bool b) ∧ St w [] w' [] :=
  (longD_any ao N c xs w (Rd.old hst hv) hN (fun x h => (hx x h).oldS hst) hnb).mono fun e w' ⟨⟨b', he, hb'⟩, h4⟩ => ⟨by
    have : b' = b := by unfold IffS at hb; cases b <;> cases b' <;> simp_all
    rw [he, this], h4⟩
theorem InP.held {P : List HA} {t : TC} {ar al : Option Addr} {cr cl : Nat} {xs : List (Value × RC)} (h : InP P t ar al cr cl xs) (hb : t.recs.length ≤ 1000000 ∧ t.lives.length ≤ 1000000) : Held P t ar al xs.length cr t.lives.length cl xs := fun _ _ _ _ hs hsub =>
  own_tab hs (hsub _ h.rr) (hsub _ h.ll) rfl rfl (fun x hx => ⟨hsub _ (h.roots x hx), h.ok.ok x hx⟩) h.ok.eq ⟨by rw [h.ok.len]; exact hb.1, hb.2⟩
theorem Held.mono {P P' : List HA} {t : TC} {ar al : Option Addr} {nr cr nl cl : Nat} {xs : List (Value × RC)} (h : Held P t ar al nr cr nl cl xs) (hs : ∀ y ∈ P, y ∈ P') : Held P' t ar al nr cr nl cl xs := fun _ _ _ _ h1 h2 => h _ _ _ _ h1 fun y hy => h2 y (hs y hy)
theorem Held.inn {w0 w : World} {M : List Nat} {B P : List HA} {t : TC} {ar al : Option Addr} {nr cr nl cl : Nat} {xs : List (Value × RC)} (h : Held P t ar al nr cr nl cl xs) (hst : St w0 M w (B ++ P)) : TabIn w t ar nr cr al nl cl xs := h _ _ _ _ hst fun y hy => List.mem_append_right _ hy
theorem bd_okS {t : TC} (h : OkP t) : t.recs.length ≤ 1000000 ∧ t.lives.length ≤ 1000000 := by
  have h1 := h.many
  have h2 := h.devs
  omega
theorem bd_do {t : TC} (h : OkP t) (x : AD) : (doR t x).2.recs.length ≤ 1000000 ∧ (doR t x).2.lives.length ≤ 1000000 := by
  by_cases hz : (doR t x).1 = 0
  · exact bd_okS (do_keeps h hz).k.ok
  · rw [do_bad hz]; decide
theorem script13_long (devs : Int) (ao : Option Addr) (N c : Nat) (xs : List AD) (w : World) (hv : Rd w (.slice ao N c) 40 N (xs.flatMap AD.cells)) (hN : xs.length = N) (hx : ∀ x ∈ xs, x.Ok w) (hnb : NmS xs) (t0 : TC) (z : Int) (hnw : newR devs = (z, t0)) (htd : t0.recs.length ≤ 1000000 ∧ t0.lives.length ≤ 1000000) (hs : ¬ shortD xs N) :
    Calls Tryz.prog 4 #[.int .i64 devs, .slice ao N c] w fun e w' => e = .returned (.bool true) ∧ St w [] w' [] := by
  obtain ⟨P0, hP0⟩ : ∃ P0 : List HA, P0 = [] := ⟨_, rfl⟩
  have hS0 : St w [] w ([] ++ P0) := by rw [hP0]; exact St.refl w
  clear hP0
  have HNW := hid hnw
  have HTD := hid htd
  have HV := hid hv
  have HN := hid hN
  have HXX := hid hx
  have HNB := hid hnb
  have hb1 := hv.bd.1
  have hb2 := hv.bd.2.1
  have dzz : (z != z) = false := bne_self_eq_false _
  have HLB := hid (show IffS true (shortD xs N) from Iff.intro (fun h => (by cases h)) (fun h => absurd h hs))
  clear hnw htd hv hN hx hnb
  go_enter Tryz.func4, Tryz.ntmps4
  go_wp2_with (first | go_big_skip | go_big_guard | (go_at_call 13; refine (new13_any devs _).mono ?_; rw [HNW.out]; intro e9 w9 hret; obtain ⟨a1, b1, c1, d1, P1, xs1, rfl, hin, hsub, h4⟩ := ret_pool (B := []) hS0 hret; have hS1 : St w [] w9 ([] ++ P1) := h4; clear hret h4 hS0; have HT1 := hid hin; clear hin hsub) | (refine wl_alloc hS1 rfl rfl ?_; intro g5 w1 h4; have hS2 : St w [] w1 ([.blk g5 27 (tab0)] ++ P1) := h4; clear h4 hS1) | (refine wl_storeA [] hS2 rfl rfl rfl rfl (vs := tabC t0 (.slice a1 xs1.length c1) (.slice b1 t0.lives.length d1)) rfl rfl rfl ?_; intro w1 h4; have hS3 : St w [] w1 ([.blk g5 27 (tabC t0 (.slice a1 xs1.length c1) (.slice b1 t0.lives.length d1))] ++ P1) := h4; clear h4 hS2) | (go_at_call 14; refine (refNew13 devs _).mono ?_; rw [HNW.out]; intro e9 w9 hret; obtain ⟨a2, b2, c2, d2, P2, xs2, rfl, hin, hsub, h4⟩ := ret_pool (B := [.blk g5 27 (tabC t0 (.slice a1 xs1.length c1) (.slice b1 t0.lives.length d1))]) hS3 hret; have hS4 : St w [] w9 ([.blk g5 27 (tabC t0 (.slice a1 xs1.length c1) (.slice b1 t0.lives.length d1))] ++ P2) := h4; clear hret h4 hS3; replace HT1 := hid (HT1.out.mono hsub); have HT2 := hid hin; clear hin hsub) | (refine wl_alloc hS4 rfl rfl ?_; intro g7 w1 h4; have hS5 : St w [] w1 ([.blk g7 27 (tab0), .blk g5 27 (tabC t0 (.slice a1 xs1.length c1) (.slice b1 t0.lives.length d1))] ++ P2) := h4; clear h4 hS4) | (refine wl_storeA [] hS5 rfl rfl rfl rfl (vs := tabC t0 (.slice a2 xs2.length c2) (.slice b2 t0.lives.length d2)) rfl rfl rfl ?_; intro w1 h4; have hS6 : St w [] w1 ([.blk g7 27 (tabC t0 (.slice a2 xs2.length c2) (.slice b2 t0.lives.length d2)), .blk g5 27 (tabC t0 (.slice a1 xs1.length c1) (.slice b1 t0.lives.length d1))] ++ P2) := h4; clear h4 hS5) | (refine wl_loadE rfl rfl rfl ?_; refine ⟨_, Loads.atA (tabC t0 (.slice a1 xs1.length c1) (.slice b1 t0.lives.length d1)) [_] hS6 rfl rfl, ?_⟩) | (refine wl_loadE rfl rfl rfl ?_; refine ⟨_, Loads.atA (tabC t0 (.slice a2 xs2.length c2) (.slice b2 t0.lives.length d2)) [] hS6 rfl rfl, ?_⟩) | (go_at_call 15; refine (kitTable_any _ _ _ _ _ _ _ _ _ _ _ _ _ _ xs1 xs2 _ (HT1.out.tab hS6 HTD.out) (HT2.out.tab hS6 HTD.out)).mono ?_; rw [show TC.sameB t0 t0 = true from TC.sameB_iff.2 rfl]; rintro _ w9 ⟨rfl, h4⟩; have hS7 : St w [] w9 ([.blk g7 27 (tabC t0 (.slice a2 xs2.length c2) (.slice b2 t0.lives.length d2)), .blk g5 27 (tabC t0 (.slice a1 xs1.length c1) (.slice b1 t0.lives.length d1))] ++ P2) := St.call0 hS6 h4; clear h4 hS6) | (go_at_call 7; refine (long_isS hS7 HV.out HN.out HXX.out HNB.out true HLB.out).mono ?_; rintro _ w9 ⟨rfl, h4⟩; have hS8 : St w [] w9 ([.blk g7 27 (tabC t0 (.slice a2 xs2.length c2) (.slice b2 t0.lives.length d2)), .blk g5 27 (tabC t0 (.slice a1 xs1.length c1) (.slice b1 t0.lives.length d1))] ++ P2) := St.call0 hS7 h4; clear h4 hS7) | (go_at_call 8; refine (awake13_any _).mono ?_; rintro _ w9 ⟨rfl, h4⟩; have hS9 : St w [] w9 ([.blk g7 27 (tabC t0 (.slice a2 xs2.length c2) (.slice b2 t0.lives.length d2)), .blk g5 27 (tabC t0 (.slice a1 xs1.length c1) (.slice b1 t0.lives.length d1))] ++ P2) := St.call0 hS8 h4; clear h4 hS8))
  go_ret
  exact ⟨rfl, hS9.nil⟩
theorem script13_none (devs : Int) (ao : Option Addr) (N c : Nat) (xs : List AD) (w : World) (hv : Rd w (.slice ao N c) 40 N (xs.flatMap AD.cells)) (hN : xs.length = N) (hx : ∀ x ∈ xs, x.Ok w) (hnb : NmS xs) (t0 : TC) (z : Int) (hnw : newR devs = (z, t0)) (htd : t0.recs.length ≤ 1000000 ∧ t0.lives.length ≤ 1000000) (hs : shortD xs N) (hz : z ≠ 0) :
    Calls Tryz.prog 4 #[.int .i64 devs, .slice ao N c] w fun e w' => e = .returned (.bool true) ∧ St w [] w' [] := by
  obtain ⟨P0, hP0⟩ : ∃ P0 : List HA, P0 = [] := ⟨_, rfl⟩
  have hS0 : St w [] w ([] ++ P0) := by rw [hP0]; exact St.refl w
  clear hP0
  have HNW := hid hnw
  have HTD := hid htd
  have HV := hid hv
  have HN := hid hN
  have HXX := hid hx
  have HNB := hid hnb
  have hb1 := hv.bd.1
  have hb2 := hv.bd.2.1
  have dzz : (z != z) = false := bne_self_eq_false _
  have HLB := hid (show IffS false (shortD xs N) from Iff.intro (fun _ => hs) (fun _ => rfl))
  have dz : (z != 0) = true := by rw [bne_iff_ne]; exact hz
  clear hnw htd hv hN hx hnb
  go_enter Tryz.func4, Tryz.ntmps4
  go_wp2_with (first | go_big_skip | go_big_guard | (go_at_call 13; refine (new13_any devs _).mono ?_; rw [HNW.out]; intro e9 w9 hret; obtain ⟨a1, b1, c1, d1, P1, xs1, rfl, hin, hsub, h4⟩ := ret_pool (B := []) hS0 hret; have hS1 : St w [] w9 ([] ++ P1) := h4; clear hret h4 hS0; have HT1 := hid hin; clear hin hsub) | (refine wl_alloc hS1 rfl rfl ?_; intro g5 w1 h4; have hS2 : St w [] w1 ([.blk g5 27 (tab0)] ++ P1) := h4; clear h4 hS1) | (refine wl_storeA [] hS2 rfl rfl rfl rfl (vs := tabC t0 (.slice a1 xs1.length c1) (.slice b1 t0.lives.length d1)) rfl rfl rfl ?_; intro w1 h4; have hS3 : St w [] w1 ([.blk g5 27 (tabC t0 (.slice a1 xs1.length c1) (.slice b1 t0.lives.length d1))] ++ P1) := h4; clear h4 hS2) | (go_at_call 14; refine (refNew13 devs _).mono ?_; rw [HNW.out]; intro e9 w9 hret; obtain ⟨a2, b2, c2, d2, P2, xs2, rfl, hin, hsub, h4⟩ := ret_pool (B := [.blk g5 27 (tabC t0 (.slice a1 xs1.length c1) (.slice b1 t0.lives.length d1))]) hS3 hret; have hS4 : St w [] w9 ([.blk g5 27 (tabC t0 (.slice a1 xs1.length c1) (.slice b1 t0.lives.length d1))] ++ P2) := h4; clear hret h4 hS3; replace HT1 := hid (HT1.out.mono hsub); have HT2 := hid hin; clear hin hsub) | (refine wl_alloc hS4 rfl rfl ?_; intro g7 w1 h4; have hS5 : St w [] w1 ([.blk g7 27 (tab0), .blk g5 27 (tabC t0 (.slice a1 xs1.length c1) (.slice b1 t0.lives.length d1))] ++ P2) := h4; clear h4 hS4) | (refine wl_storeA [] hS5 rfl rfl rfl rfl (vs := tabC t0 (.slice a2 xs2.length c2) (.slice b2 t0.lives.length d2)) rfl rfl rfl ?_; intro w1 h4; have hS6 : St w [] w1 ([.blk g7 27 (tabC t0 (.slice a2 xs2.length c2) (.slice b2 t0.lives.length d2)), .blk g5 27 (tabC t0 (.slice a1 xs1.length c1) (.slice b1 t0.lives.length d1))] ++ P2) := h4; clear h4 hS5) | (refine wl_loadE rfl rfl rfl ?_; refine ⟨_, Loads.atA (tabC t0 (.slice a1 xs1.length c1) (.slice b1 t0.lives.length d1)) [_] hS6 rfl rfl, ?_⟩) | (refine wl_loadE rfl rfl rfl ?_; refine ⟨_, Loads.atA (tabC t0 (.slice a2 xs2.length c2) (.slice b2 t0.lives.length d2)) [] hS6 rfl rfl, ?_⟩) | (go_at_call 15; refine (kitTable_any _ _ _ _ _ _ _ _ _ _ _ _ _ _ xs1 xs2 _ (HT1.out.tab hS6 HTD.out) (HT2.out.tab hS6 HTD.out)).mono ?_; rw [show TC.sameB t0 t0 = true from TC.sameB_iff.2 rfl]; rintro _ w9 ⟨rfl, h4⟩; have hS7 : St w [] w9 ([.blk g7 27 (tabC t0 (.slice a2 xs2.length c2) (.slice b2 t0.lives.length d2)), .blk g5 27 (tabC t0 (.slice a1 xs1.length c1) (.slice b1 t0.lives.length d1))] ++ P2) := St.call0 hS6 h4; clear h4 hS6) | (go_at_call 7; refine (long_isS hS7 HV.out HN.out HXX.out HNB.out false HLB.out).mono ?_; rintro _ w9 ⟨rfl, h4⟩; have hS8 : St w [] w9 ([.blk g7 27 (tabC t0 (.slice a2 xs2.length c2) (.slice b2 t0.lives.length d2)), .blk g5 27 (tabC t0 (.slice a1 xs1.length c1) (.slice b1 t0.lives.length d1))] ++ P2) := St.call0 hS7 h4; clear h4 hS7) | (go_at_call 8; refine (awake13_any _).mono ?_; rintro _ w9 ⟨rfl, h4⟩; have hS9 : St w [] w9 ([.blk g7 27 (tabC t0 (.slice a2 xs2.length c2) (.slice b2 t0.lives.length d2)), .blk g5 27 (tabC t0 (.slice a1 xs1.length c1) (.slice b1 t0.lives.length d1))] ++ P2) := St.call0 hS8 h4; clear h4 hS8))
  go_ret
  exact ⟨rfl, hS9.nil⟩
theorem script13_short (devs : Int) (ao : Option Addr) (N c : Nat) (xs : List AD) (w : World) (hv : Rd w (.slice ao N c) 40 N (xs.flatMap AD.cells)) (hN : xs.length = N) (hx : ∀ x ∈ xs, x.Ok w) (hnb : NmS xs) (t0 : TC) (z : Int) (hnw : newR devs = (z, t0)) (htd : t0.recs.length ≤ 1000000 ∧ t0.lives.length ≤ 1000000) (hs : shortD xs N) (hz : z = 0) (hok0 : OkP t0) :
    Calls Tryz.prog 4 #[.int .i64 devs, .slice ao N c] w fun e w' => e = .returned (.bool true) ∧ St w [] w' [] := by
  obtain ⟨P0, hP0⟩ : ∃ P0 : List HA, P0 = [] := ⟨_, rfl⟩
  have hS0 : St w [] w ([] ++ P0) := by rw [hP0]; exact St.refl w
  clear hP0
  have HNW := hid hnw
  have HTD := hid htd
  have HV := hid hv
  have HN := hid hN
  have HXX := hid hx
  have HNB := hid hnb
  have hb1 := hv.bd.1
  have hb2 := hv.bd.2.1
  have dzz : (z != z) = false := bne_self_eq_false _
  have HLB := hid (show IffS false (shortD xs N) from Iff.intro (fun _ => hs) (fun _ => rfl))
  have HSH := hid hs
  have HOK0 := hid hok0
  have dz : (z != 0) = false := by rw [hz]; rfl
  clear hnw htd hv hN hx hnb hs hz hok0
  go_enter Tryz.func4, Tryz.ntmps4
  go_wp2_with (first | go_big_skip | go_big_guard | (go_at_call 13; refine (new13_any devs _).mono ?_; rw [HNW.out]; intro e9 w9 hret; obtain ⟨a1, b1, c1, d1, P1, xs1, rfl, hin, hsub, h4⟩ := ret_pool (B := []) hS0 hret; have hS1 : St w [] w9 ([] ++ P1) := h4; clear hret h4 hS0; have HT1 := hid hin; clear hin hsub) | (refine wl_alloc hS1 rfl rfl ?_; intro g5 w1 h4; have hS2 : St w [] w1 ([.blk g5 27 (tab0)] ++ P1) := h4; clear h4 hS1) | (refine wl_storeA [] hS2 rfl rfl rfl rfl (vs := tabC t0 (.slice a1 xs1.length c1) (.slice b1 t0.lives.length d1)) rfl rfl rfl ?_; intro w1 h4; have hS3 : St w [] w1 ([.blk g5 27 (tabC t0 (.slice a1 xs1.length c1) (.slice b1 t0.lives.length d1))] ++ P1) := h4; clear h4 hS2) | (go_at_call 14; refine (refNew13 devs _).mono ?_; rw [HNW.out]; intro e9 w9 hret; obtain ⟨a2, b2, c2, d2, P2, xs2, rfl, hin, hsub, h4⟩ := ret_pool (B := [.blk g5 27 (tabC t0 (.slice a1 xs1.length c1) (.slice b1 t0.lives.length d1))]) hS3 hret; have hS4 : St w [] w9 ([.blk g5 27 (tabC t0 (.slice a1 xs1.length c1) (.slice b1 t0.lives.length d1))] ++ P2) := h4; clear hret h4 hS3; replace HT1 := hid (HT1.out.mono hsub); have HT2 := hid hin; clear hin hsub) | (refine wl_alloc hS4 rfl rfl ?_; intro g7 w1 h4; have hS5 : St w [] w1 ([.blk g7 27 (tab0), .blk g5 27 (tabC t0 (.slice a1 xs1.length c1) (.slice b1 t0.lives.length d1))] ++ P2) := h4; clear h4 hS4) | (refine wl_storeA [] hS5 rfl rfl rfl rfl (vs := tabC t0 (.slice a2 xs2.length c2) (.slice b2 t0.lives.length d2)) rfl rfl rfl ?_; intro w1 h4; have hS6 : St w [] w1 ([.blk g7 27 (tabC t0 (.slice a2 xs2.length c2) (.slice b2 t0.lives.length d2)), .blk g5 27 (tabC t0 (.slice a1 xs1.length c1) (.slice b1 t0.lives.length d1))] ++ P2) := h4; clear h4 hS5) | (refine wl_loadE rfl rfl rfl ?_; refine ⟨_, Loads.atA (tabC t0 (.slice a1 xs1.length c1) (.slice b1 t0.lives.length d1)) [_] hS6 rfl rfl, ?_⟩) | (refine wl_loadE rfl rfl rfl ?_; refine ⟨_, Loads.atA (tabC t0 (.slice a2 xs2.length c2) (.slice b2 t0.lives.length d2)) [] hS6 rfl rfl, ?_⟩) | (go_at_call 15; refine (kitTable_any _ _ _ _ _ _ _ _ _ _ _ _ _ _ xs1 xs2 _ (HT1.out.tab hS6 HTD.out) (HT2.out.tab hS6 HTD.out)).mono ?_; rw [show TC.sameB t0 t0 = true from TC.sameB_iff.2 rfl]; rintro _ w9 ⟨rfl, h4⟩; have hS7 : St w [] w9 ([.blk g7 27 (tabC t0 (.slice a2 xs2.length c2) (.slice b2 t0.lives.length d2)), .blk g5 27 (tabC t0 (.slice a1 xs1.length c1) (.slice b1 t0.lives.length d1))] ++ P2) := St.call0 hS6 h4; clear h4 hS6) | (go_at_call 7; refine (long_isS hS7 HV.out HN.out HXX.out HNB.out false HLB.out).mono ?_; rintro _ w9 ⟨rfl, h4⟩; have hS8 : St w [] w9 ([.blk g7 27 (tabC t0 (.slice a2 xs2.length c2) (.slice b2 t0.lives.length d2)), .blk g5 27 (tabC t0 (.slice a1 xs1.length c1) (.slice b1 t0.lives.length d1))] ++ P2) := St.call0 hS7 h4; clear h4 hS7))
  have hst : St w [] _ ([.blk g7 27 (tabC t0 (.slice a2 xs2.length c2) (.slice b2 t0.lives.length d2)), .blk g5 27 (tabC t0 (.slice a1 xs1.length c1) (.slice b1 t0.lives.length d1))] ++ P2) := hS8
  clear hS8
  go_loopw [9] (fun i wr => ∃ k : Nat, k ≤ N ∧ i = .int .i64 (k : Int) ∧ ∃ (T : TC) (a0 b0 : Option Addr) (c0 d0 : Nat) (xs0 : List (Value × RC)) (P0 : List HA) (e0 f0 : Option Addr) (n0 q0 m0 r0 : Nat) (ys0 : List (Value × RC)), OkP T ∧ InP P0 T a0 b0 c0 d0 xs0 ∧ Held P0 T e0 f0 n0 q0 m0 r0 ys0 ∧ St w [] wr ([.blk g7 27 (tabC T (.slice e0 n0 q0) (.slice f0 m0 r0)), .blk g5 27 (tabC T (.slice a0 xs0.length c0) (.slice b0 T.lives.length d0))] ++ P0)) (fun i _ => N - (intOf i).toNat)
  case atStart => exact ⟨0, Nat.zero_le _, rfl, t0, _, _, _, _, xs1, P2, _, _, _, _, _, _, xs2, HOK0.out, HT1.out, HT2.out.held HTD.out, hst⟩
  case round =>
    clear hst
    obtain ⟨k, hk, rfl, T, a0, b0, c0, d0, xs0, P0, e0, f0, n0, q0, m0, r0, ys0, hok, hin, hhd, hst⟩ := hrel
    have HOK := hid hok
    have HT0 := hid hin
    have HTH := hid hhd
    clear hin hok hhd
    have HTB := hid (bd_okS HOK.out)
    by_cases hlt : k < N
    · have dk : decide ((k : Int) < (N : Int)) = true := decide_eq_true (by omega)
      have z1 : IntKind.i64.wrap ((k : Int) + 1) = (k : Int) + 1 := IntWalk.i64_in _ (by omega)
      obtain ⟨y, hy⟩ : ∃ y, xs[k]? = some y := ⟨_, List.getElem?_eq_getElem (by rw [HN.out]; exact hlt)⟩
      have hym := List.mem_of_getElem? hy
      have hyo := HXX.out y hym
      obtain ⟨bb, bo, rfl, _⟩ := HV.out.at hlt
      have HRY := hid (ads_range HV.out (fun z hz => (HXX.out z hz).p.1) hy)
      have HLY := hid (AD.len hyo.p.1)
      have hsm := HSH.out.2 y hym
      have HF := hid (show ∀ (w1 : World) (L : List HA), St w [] w1 L → y.Few w1 from fun w1 L h => ⟨by omega, by omega, PV.In.old h hyo.p, by omega⟩)
      have HUB := hid (bd_do HOK.out y)
      have dxx : ((doR T y).1 != (doR T y).1) = false := bne_self_eq_false _
      clear hy hym hyo hsm
      go_upto_region 10 with (first | go_big_skip | go_big_guard)
      (try simp only [Act.put, List.setIfInBounds_toArray, List.set_cons_zero, List.set_cons_succ])
      go_cut [10, 11, 46, 52, 53, 54] (fun v9 v10 _ _ _ _ wx => ∃ (g10 : Nat) (a9 b9 : Option Addr) (c9 d9 : Nat) (P9 : List HA) (xs9 : List (Value × RC)), v9 = .pointer (some ⟨g10, 0, none⟩) ∧ v10 = .int .i64 (doR T y).1 ∧ InP P9 (doR T y).2 a9 b9 c9 d9 xs9 ∧ InP P9 T a0 b0 c0 d0 xs0 ∧ Held P9 T e0 f0 n0 q0 m0 r0 ys0 ∧ St w [] wx ([.blk g10 27 (tabC (doR T y).2 (.slice a9 xs9.length c9) (.slice b9 (doR T y).2.lives.length d9)), .blk g7 27 (tabC T (.slice e0 n0 q0) (.slice f0 m0 r0)), .blk g5 27 (tabC T (.slice a0 xs0.length c0) (.slice b0 T.lives.length d0))] ++ P9))
      case first =>
        have hD := hst.drew
        clear hst
        refine wp_region_held_drew (S := (fun w' => (loadVarH 27 ⟨g5, 0, none⟩).run Tryz.prog w' = .ok (.agg (List.toArray (tabC T (.slice a0 xs0.length c0) (.slice b0 T.lives.length d0)))) w' ∧ (loadVarH 34 ⟨bb, bo + k * 40, none⟩).run Tryz.prog w' = .ok (.agg y.cells.toArray) w')) (by kernel_rfl) (by exact ⟨ldA (tabC T (.slice a0 xs0.length c0) (.slice b0 T.lives.length d0)) [_] hD (rfl) (rfl), ldOA hD HLY.out HRY.out⟩) (fun hHeld => ?_)
        refine tq 0 47 ?_
        refine tq 1 48 ?_
        refine tq 2 49 ?_
        refine tq 3 50 ?_
        refine tq 4 51 ?_
        refine wpAnyH_ready (rs := [5, 9]) (by kernel_rfl) (by simp) ?_
        refine (AllReadyH.cons (o := ⟨some 52, _, _, _, _, _⟩) rfl (fun K hK => ?_) (AllReadyH.cons (o := ⟨some 10, _, _, _, _, _⟩) rfl (fun K hK => ?_) AllReadyH.nil))
        · rw [if_pos (by rfl)]
          go_simp
          go_at_call 11
          refine (does_pool (B := [.blk g7 27 (tabC T (.slice e0 n0 q0) (.slice f0 m0 r0)), .blk g5 27 (tabC T (.slice a0 xs0.length c0) (.slice b0 T.lives.length d0))]) hD HT0.out HTB.out (HF.out _ _ hD)).mono ?_
          rintro e9 wC ⟨a9, b9, c9, d9, P9, xs9, rfl, hin, hsub, h4⟩
          have hCD : St w [] wC ([.blk g7 27 (tabC T (.slice e0 n0 q0) (.slice f0 m0 r0)), .blk g5 27 (tabC T (.slice a0 xs0.length c0) (.slice b0 T.lives.length d0))] ++ P9) := h4
          clear h4
          have HT9 := hid hin
          have HTM := hid (HT0.out.mono hsub)
          have HTU := hid (HTH.out.mono hsub)
          clear hin hsub
          refine hK.out _ _ ?_ (fun hHeld => ?_)
          · exact ⟨ldA (tabC T (.slice a0 xs0.length c0) (.slice b0 T.lives.length d0)) [_] hCD (rfl) (rfl), ldOA hCD HLY.out HRY.out⟩
          clear hK K
          (try simp only [Act.put, List.setIfInBounds_toArray, List.set_cons_zero, List.set_cons_succ])
          refine tq 6 46 ?_
          refine tq 7 53 ?_
          refine tq 8 54 ?_
          refine wpAnyH_ready (rs := [9]) (by kernel_rfl) (by simp) ?_
          refine (AllReadyH.cons (o := ⟨some 10, _, _, _, _, _⟩) rfl (fun K hK => ?_) AllReadyH.nil)
          refine ow_if (by rfl) ?_
          refine wl_alloc hCD rfl rfl ?_
          intro g10 wA h4
          have hAD : St w [] wA ([.blk g10 27 (tab0), .blk g7 27 (tabC T (.slice e0 n0 q0) (.slice f0 m0 r0)), .blk g5 27 (tabC T (.slice a0 xs0.length c0) (.slice b0 T.lives.length d0))] ++ P9) := h4
          clear h4
          refine q0_nil ?_
          refine hK.out _ _ ?_ (fun hHeld => ?_)
          · exact ⟨ldA (tabC T (.slice a0 xs0.length c0) (.slice b0 T.lives.length d0)) [_, _] hAD (rfl) (rfl), ldOA hAD HLY.out HRY.out⟩
          clear hK K
          (try simp only [Act.put, List.setIfInBounds_toArray, List.set_cons_zero, List.set_cons_succ])
          refine wpAnyH_ready (rs := [10]) (by kernel_rfl) (by simp) ?_
          refine (AllReadyH.cons (o := ⟨none, _, _, _, _, _⟩) rfl (fun K hK => ?_) AllReadyH.nil)
          refine ow_if (by rfl) ?_
          refine wl_storeA [] hAD rfl rfl rfl rfl (vs := tabC (doR T y).2 (.slice a9 xs9.length c9) (.slice b9 (doR T y).2.lives.length d9)) rfl rfl rfl ?_
          intro wS h4
          have hS : St w [] wS ([.blk g10 27 (tabC (doR T y).2 (.slice a9 xs9.length c9) (.slice b9 (doR T y).2.lives.length d9)), .blk g7 27 (tabC T (.slice e0 n0 q0) (.slice f0 m0 r0)), .blk g5 27 (tabC T (.slice a0 xs0.length c0) (.slice b0 T.lives.length d0))] ++ P9) := h4
          clear h4
          refine q0_nil ?_
          refine hK.out _ _ ?_ (fun hHeld => ?_)
          · exact ⟨ldA (tabC T (.slice a0 xs0.length c0) (.slice b0 T.lives.length d0)) [_, _] hS (rfl) (rfl), ldOA hS HLY.out HRY.out⟩
          clear hK K
          (try simp only [Act.put, List.setIfInBounds_toArray, List.set_cons_zero, List.set_cons_succ])
          refine tq 11 11 ?_
          refine wpAnyH_done (by kernel_rfl) ?_ _
          clear hHeld
          go_wp2_with (first | go_big_skip | go_big_guard | fail)
          go_meet
          exact ⟨g10, a9, b9, c9, d9, P9, xs9, rfl, rfl, HT9.out, HTM.out, HTU.out, hS⟩
        · refine ow_if (by rfl) ?_
          refine wl_alloc hD rfl rfl ?_
          intro g10 wA h4
          have hAD : St w [] wA ([.blk g10 27 (tab0), .blk g7 27 (tabC T (.slice e0 n0 q0) (.slice f0 m0 r0)), .blk g5 27 (tabC T (.slice a0 xs0.length c0) (.slice b0 T.lives.length d0))] ++ P0) := h4
          clear h4
          refine q0_nil ?_
          refine hK.out _ _ ?_ (fun hHeld => ?_)
          · exact ⟨ldA (tabC T (.slice a0 xs0.length c0) (.slice b0 T.lives.length d0)) [_, _] hAD (rfl) (rfl), ldOA hAD HLY.out HRY.out⟩
          clear hK K
          (try simp only [Act.put, List.setIfInBounds_toArray, List.set_cons_zero, List.set_cons_succ])
          refine wpAnyH_ready (rs := [5]) (by kernel_rfl) (by simp) ?_
          refine (AllReadyH.cons (o := ⟨some 52, _, _, _, _, _⟩) rfl (fun K hK => ?_) AllReadyH.nil)
          rw [if_pos (by rfl)]
          go_simp
          go_at_call 11
          refine (does_pool (B := [.blk g10 27 (tab0), .blk g7 27 (tabC T (.slice e0 n0 q0) (.slice f0 m0 r0)), .blk g5 27 (tabC T (.slice a0 xs0.length c0) (.slice b0 T.lives.length d0))]) hAD HT0.out HTB.out (HF.out _ _ hAD)).mono ?_
          rintro e9 wC ⟨a9, b9, c9, d9, P9, xs9, rfl, hin, hsub, h4⟩
          have hCD : St w [] wC ([.blk g10 27 (tab0), .blk g7 27 (tabC T (.slice e0 n0 q0) (.slice f0 m0 r0)), .blk g5 27 (tabC T (.slice a0 xs0.length c0) (.slice b0 T.lives.length d0))] ++ P9) := h4
          clear h4
          have HT9 := hid hin
          have HTM := hid (HT0.out.mono hsub)
          have HTU := hid (HTH.out.mono hsub)
          clear hin hsub
          refine hK.out _ _ ?_ (fun hHeld => ?_)
          · exact ⟨ldA (tabC T (.slice a0 xs0.length c0) (.slice b0 T.lives.length d0)) [_, _] hCD (rfl) (rfl), ldOA hCD HLY.out HRY.out⟩
          clear hK K
          (try simp only [Act.put, List.setIfInBounds_toArray, List.set_cons_zero, List.set_cons_succ])
          refine tq 6 46 ?_
          refine tq 7 53 ?_
          refine tq 8 54 ?_
          refine wpAnyH_ready (rs := [10]) (by kernel_rfl) (by simp) ?_
          refine (AllReadyH.cons (o := ⟨none, _, _, _, _, _⟩) rfl (fun K hK => ?_) AllReadyH.nil)
          refine ow_if (by rfl) ?_
          refine wl_storeA [] hCD rfl rfl rfl rfl (vs := tabC (doR T y).2 (.slice a9 xs9.length c9) (.slice b9 (doR T y).2.lives.length d9)) rfl rfl rfl ?_
          intro wS h4
          have hS : St w [] wS ([.blk g10 27 (tabC (doR T y).2 (.slice a9 xs9.length c9) (.slice b9 (doR T y).2.lives.length d9)), .blk g7 27 (tabC T (.slice e0 n0 q0) (.slice f0 m0 r0)), .blk g5 27 (tabC T (.slice a0 xs0.length c0) (.slice b0 T.lives.length d0))] ++ P9) := h4
          clear h4
          refine q0_nil ?_
          refine hK.out _ _ ?_ (fun hHeld => ?_)
          · exact ⟨ldA (tabC T (.slice a0 xs0.length c0) (.slice b0 T.lives.length d0)) [_, _] hS (rfl) (rfl), ldOA hS HLY.out HRY.out⟩
          clear hK K
          (try simp only [Act.put, List.setIfInBounds_toArray, List.set_cons_zero, List.set_cons_succ])
          refine tq 11 11 ?_
          refine wpAnyH_done (by kernel_rfl) ?_ _
          clear hHeld
          go_wp2_with (first | go_big_skip | go_big_guard | fail)
          go_meet
          exact ⟨g10, a9, b9, c9, d9, P9, xs9, rfl, rfl, HT9.out, HTM.out, HTU.out, hS⟩
      case rest =>
        clear hst
        obtain ⟨g10, a9, b9, c9, d9, P9, xs9, rfl, rfl, h9, hm9, hu9, hS⟩ := hcut
        have HT9 := hid h9
        have HTM := hid hm9
        have HTU := hid hu9
        clear h9 hm9 hu9
        go_upto_region 11 with (first | go_big_skip | go_big_guard)
        (try simp only [Act.put, List.setIfInBounds_toArray, List.set_cons_zero, List.set_cons_succ])
        go_cut [12, 13, 55, 61, 62, 63] (fun v9 v10 _ _ _ _ wx => ∃ (g12 : Nat) (e9 f9 : Option Addr) (n9 q9 m9 r9 : Nat) (ys9 : List (Value × RC)) (PZ : List HA), v9 = .pointer (some ⟨g12, 0, none⟩) ∧ v10 = .int .i64 (doR T y).1 ∧ Held PZ (doR T y).2 e9 f9 n9 q9 m9 r9 ys9 ∧ InP PZ (doR T y).2 a9 b9 c9 d9 xs9 ∧ InP PZ T a0 b0 c0 d0 xs0 ∧ Held PZ T e0 f0 n0 q0 m0 r0 ys0 ∧ St w [] wx ([.blk g12 27 (tabC (doR T y).2 (.slice e9 n9 q9) (.slice f9 m9 r9)), .blk g10 27 (tabC (doR T y).2 (.slice a9 xs9.length c9) (.slice b9 (doR T y).2.lives.length d9)), .blk g7 27 (tabC T (.slice e0 n0 q0) (.slice f0 m0 r0)), .blk g5 27 (tabC T (.slice a0 xs0.length c0) (.slice b0 T.lives.length d0))] ++ PZ))
        case first =>
          have hE := hS.drew
          clear hS
          refine wp_region_held_drew (S := (fun w' => (loadVarH 27 ⟨g7, 0, none⟩).run Tryz.prog w' = .ok (.agg (List.toArray (tabC T (.slice e0 n0 q0) (.slice f0 m0 r0)))) w' ∧ (loadVarH 34 ⟨bb, bo + k * 40, none⟩).run Tryz.prog w' = .ok (.agg y.cells.toArray) w')) (by kernel_rfl) (by exact ⟨ldA (tabC T (.slice e0 n0 q0) (.slice f0 m0 r0)) [_] hE (rfl) (rfl), ldOA hE HLY.out HRY.out⟩) (fun hHeld => ?_)
          refine tq 0 56 ?_
          refine tq 1 57 ?_
          refine tq 2 58 ?_
          refine tq 3 59 ?_
          refine tq 4 60 ?_
          refine wpAnyH_ready (rs := [5, 9]) (by kernel_rfl) (by simp) ?_
          refine (AllReadyH.cons (o := ⟨some 61, _, _, _, _, _⟩) rfl (fun K hK => ?_) (AllReadyH.cons (o := ⟨some 12, _, _, _, _, _⟩) rfl (fun K hK => ?_) AllReadyH.nil))
          · rw [if_pos (by rfl)]
            go_simp
            go_at_call 12
            refine (wants_pool (B := [.blk g10 27 (tabC (doR T y).2 (.slice a9 xs9.length c9) (.slice b9 (doR T y).2.lives.length d9)), .blk g7 27 (tabC T (.slice e0 n0 q0) (.slice f0 m0 r0)), .blk g5 27 (tabC T (.slice a0 xs0.length c0) (.slice b0 T.lives.length d0))]) hE HTU.out (HF.out _ _ hE)).mono ?_
            rintro _ wC ⟨e9, f9, n9, q9, m9, r9, ys9, PZ, rfl, hin, hsub, h4⟩
            have hCE : St w [] wC ([.blk g10 27 (tabC (doR T y).2 (.slice a9 xs9.length c9) (.slice b9 (doR T y).2.lives.length d9)), .blk g7 27 (tabC T (.slice e0 n0 q0) (.slice f0 m0 r0)), .blk g5 27 (tabC T (.slice a0 xs0.length c0) (.slice b0 T.lives.length d0))] ++ PZ) := h4
            clear h4
            have HW9 := hid hin
            have HTM2 := hid (HTM.out.mono hsub)
            have HT92 := hid (HT9.out.mono hsub)
            have HTU2 := hid (HTU.out.mono hsub)
            clear hin hsub
            refine hK.out _ _ ?_ (fun hHeld => ?_)
            · exact ⟨ldA (tabC T (.slice e0 n0 q0) (.slice f0 m0 r0)) [_] hCE (rfl) (rfl), ldOA hCE HLY.out HRY.out⟩
            clear hK K
            (try simp only [Act.put, List.setIfInBounds_toArray, List.set_cons_zero, List.set_cons_succ])
            refine tq 6 55 ?_
            refine tq 7 62 ?_
            refine tq 8 63 ?_
            refine wpAnyH_ready (rs := [9]) (by kernel_rfl) (by simp) ?_
            refine (AllReadyH.cons (o := ⟨some 12, _, _, _, _, _⟩) rfl (fun K hK => ?_) AllReadyH.nil)
            refine ow_if (by rfl) ?_
            refine wl_alloc hCE rfl rfl ?_
            intro g12 wA h4
            have hAE : St w [] wA ([.blk g12 27 (tab0), .blk g10 27 (tabC (doR T y).2 (.slice a9 xs9.length c9) (.slice b9 (doR T y).2.lives.length d9)), .blk g7 27 (tabC T (.slice e0 n0 q0) (.slice f0 m0 r0)), .blk g5 27 (tabC T (.slice a0 xs0.length c0) (.slice b0 T.lives.length d0))] ++ PZ) := h4
            clear h4
            refine q0_nil ?_
            refine hK.out _ _ ?_ (fun hHeld => ?_)
            · exact ⟨ldA (tabC T (.slice e0 n0 q0) (.slice f0 m0 r0)) [_, _] hAE (rfl) (rfl), ldOA hAE HLY.out HRY.out⟩
            clear hK K
            (try simp only [Act.put, List.setIfInBounds_toArray, List.set_cons_zero, List.set_cons_succ])
            refine wpAnyH_ready (rs := [10]) (by kernel_rfl) (by simp) ?_
            refine (AllReadyH.cons (o := ⟨none, _, _, _, _, _⟩) rfl (fun K hK => ?_) AllReadyH.nil)
            refine ow_if (by rfl) ?_
            refine wl_storeA [] hAE rfl rfl rfl rfl (vs := tabC (doR T y).2 (.slice e9 n9 q9) (.slice f9 m9 r9)) rfl rfl rfl ?_
            intro wS h4
            have hZ : St w [] wS ([.blk g12 27 (tabC (doR T y).2 (.slice e9 n9 q9) (.slice f9 m9 r9)), .blk g10 27 (tabC (doR T y).2 (.slice a9 xs9.length c9) (.slice b9 (doR T y).2.lives.length d9)), .blk g7 27 (tabC T (.slice e0 n0 q0) (.slice f0 m0 r0)), .blk g5 27 (tabC T (.slice a0 xs0.length c0) (.slice b0 T.lives.length d0))] ++ PZ) := h4
            clear h4
            refine q0_nil ?_
            refine hK.out _ _ ?_ (fun hHeld => ?_)
            · exact ⟨ldA (tabC T (.slice e0 n0 q0) (.slice f0 m0 r0)) [_, _] hZ (rfl) (rfl), ldOA hZ HLY.out HRY.out⟩
            clear hK K
            (try simp only [Act.put, List.setIfInBounds_toArray, List.set_cons_zero, List.set_cons_succ])
            refine tq 11 13 ?_
            refine wpAnyH_done (by kernel_rfl) ?_ _
            clear hHeld
            go_wp2_with (first | go_big_skip | go_big_guard | fail)
            go_meet
            exact ⟨g12, e9, f9, n9, q9, m9, r9, ys9, PZ, rfl, rfl, HW9.out, HT92.out, HTM2.out, HTU2.out, hZ⟩
          · refine ow_if (by rfl) ?_
            refine wl_alloc hE rfl rfl ?_
            intro g12 wA h4
            have hAE : St w [] wA ([.blk g12 27 (tab0), .blk g10 27 (tabC (doR T y).2 (.slice a9 xs9.length c9) (.slice b9 (doR T y).2.lives.length d9)), .blk g7 27 (tabC T (.slice e0 n0 q0) (.slice f0 m0 r0)), .blk g5 27 (tabC T (.slice a0 xs0.length c0) (.slice b0 T.lives.length d0))] ++ P9) := h4
            clear h4
            refine q0_nil ?_
            refine hK.out _ _ ?_ (fun hHeld => ?_)
            · exact ⟨ldA (tabC T (.slice e0 n0 q0) (.slice f0 m0 r0)) [_, _] hAE (rfl) (rfl), ldOA hAE HLY.out HRY.out⟩
            clear hK K
            (try simp only [Act.put, List.setIfInBounds_toArray, List.set_cons_zero, List.set_cons_succ])
            refine wpAnyH_ready (rs := [5]) (by kernel_rfl) (by simp) ?_
            refine (AllReadyH.cons (o := ⟨some 61, _, _, _, _, _⟩) rfl (fun K hK => ?_) AllReadyH.nil)
            rw [if_pos (by rfl)]
            go_simp
            go_at_call 12
            refine (wants_pool (B := [.blk g12 27 (tab0), .blk g10 27 (tabC (doR T y).2 (.slice a9 xs9.length c9) (.slice b9 (doR T y).2.lives.length d9)), .blk g7 27 (tabC T (.slice e0 n0 q0) (.slice f0 m0 r0)), .blk g5 27 (tabC T (.slice a0 xs0.length c0) (.slice b0 T.lives.length d0))]) hAE HTU.out (HF.out _ _ hAE)).mono ?_
            rintro _ wC ⟨e9, f9, n9, q9, m9, r9, ys9, PZ, rfl, hin, hsub, h4⟩
            have hCE : St w [] wC ([.blk g12 27 (tab0), .blk g10 27 (tabC (doR T y).2 (.slice a9 xs9.length c9) (.slice b9 (doR T y).2.lives.length d9)), .blk g7 27 (tabC T (.slice e0 n0 q0) (.slice f0 m0 r0)), .blk g5 27 (tabC T (.slice a0 xs0.length c0) (.slice b0 T.lives.length d0))] ++ PZ) := h4
            clear h4
            have HW9 := hid hin
            have HTM2 := hid (HTM.out.mono hsub)
            have HT92 := hid (HT9.out.mono hsub)
            have HTU2 := hid (HTU.out.mono hsub)
            clear hin hsub
            refine hK.out _ _ ?_ (fun hHeld => ?_)
            · exact ⟨ldA (tabC T (.slice e0 n0 q0) (.slice f0 m0 r0)) [_, _] hCE (rfl) (rfl), ldOA hCE HLY.out HRY.out⟩
            clear hK K
            (try simp only [Act.put, List.setIfInBounds_toArray, List.set_cons_zero, List.set_cons_succ])
            refine tq 6 55 ?_
            refine tq 7 62 ?_
            refine tq 8 63 ?_
            refine wpAnyH_ready (rs := [10]) (by kernel_rfl) (by simp) ?_
            refine (AllReadyH.cons (o := ⟨none, _, _, _, _, _⟩) rfl (fun K hK => ?_) AllReadyH.nil)
            refine ow_if (by rfl) ?_
            refine wl_storeA [] hCE rfl rfl rfl rfl (vs := tabC (doR T y).2 (.slice e9 n9 q9) (.slice f9 m9 r9)) rfl rfl rfl ?_
            intro wS h4
            have hZ : St w [] wS ([.blk g12 27 (tabC (doR T y).2 (.slice e9 n9 q9) (.slice f9 m9 r9)), .blk g10 27 (tabC (doR T y).2 (.slice a9 xs9.length c9) (.slice b9 (doR T y).2.lives.length d9)), .blk g7 27 (tabC T (.slice e0 n0 q0) (.slice f0 m0 r0)), .blk g5 27 (tabC T (.slice a0 xs0.length c0) (.slice b0 T.lives.length d0))] ++ PZ) := h4
            clear h4
            refine q0_nil ?_
            refine hK.out _ _ ?_ (fun hHeld => ?_)
            · exact ⟨ldA (tabC T (.slice e0 n0 q0) (.slice f0 m0 r0)) [_, _] hZ (rfl) (rfl), ldOA hZ HLY.out HRY.out⟩
            clear hK K
            (try simp only [Act.put, List.setIfInBounds_toArray, List.set_cons_zero, List.set_cons_succ])
            refine tq 11 13 ?_
            refine wpAnyH_done (by kernel_rfl) ?_ _
            clear hHeld
            go_wp2_with (first | go_big_skip | go_big_guard | fail)
            go_meet
            exact ⟨g12, e9, f9, n9, q9, m9, r9, ys9, PZ, rfl, rfl, HW9.out, HT92.out, HTM2.out, HTU2.out, hZ⟩
        case rest =>
          clear hS HT9 HTM HTU
          obtain ⟨g12, e9, f9, n9, q9, m9, r9, ys9, PZ, rfl, rfl, hw9, h9, hm9, hu9, hZ⟩ := hcut
          have HW9 := hid hw9
          have HT92 := hid h9
          have HTM2 := hid hm9
          have HTU2 := hid hu9
          clear hw9 h9 hm9 hu9
          cases hz : ((doR T y).1 == 0)
          · go_wp2_with (first | go_big_skip | go_big_guard | (refine wl_loadE rfl rfl rfl ?_; first | refine ⟨_, Loads.atA (tabC (doR T y).2 (.slice a9 xs9.length c9) (.slice b9 (doR T y).2.lives.length d9)) [_] hZ rfl rfl, ?_⟩ | refine ⟨_, Loads.atA (tabC (doR T y).2 (.slice e9 n9 q9) (.slice f9 m9 r9)) [] hZ rfl rfl, ?_⟩) | (go_at_call 15; refine (kitTable_any _ _ _ _ _ _ _ _ _ _ _ _ _ _ xs9 ys9 _ (HT92.out.tab hZ HUB.out) (HW9.out.inn hZ)).mono ?_; rw [show TC.sameB (doR T y).2 (doR T y).2 = true from TC.sameB_iff.2 rfl]; rintro _ w9 ⟨rfl, h4⟩; replace hZ := St.call0 hZ h4; clear h4))
            go_roundw
            case rel => exact ⟨k + 1, by omega, rfl, T, _, _, _, _, xs0, PZ, _, _, _, _, _, _, ys0, HOK.out, HTM2.out, HTU2.out, St.sub hZ (.cons _ (.cons _ (List.Sublist.refl _)))⟩
            case measure => simp [intOf]; omega
          · have HK := hid (do_keeps HOK.out (by simpa using hz))
            go_wp2_with (first | go_big_skip | go_big_guard | (refine wl_loadE rfl rfl rfl ?_; first | refine ⟨_, Loads.atA (tabC (doR T y).2 (.slice a9 xs9.length c9) (.slice b9 (doR T y).2.lives.length d9)) [_] hZ rfl rfl, ?_⟩ | refine ⟨_, Loads.atA (tabC (doR T y).2 (.slice e9 n9 q9) (.slice f9 m9 r9)) [] hZ rfl rfl, ?_⟩) | (go_at_call 15; refine (kitTable_any _ _ _ _ _ _ _ _ _ _ _ _ _ _ xs9 ys9 _ (HT92.out.tab hZ HUB.out) (HW9.out.inn hZ)).mono ?_; rw [show TC.sameB (doR T y).2 (doR T y).2 = true from TC.sameB_iff.2 rfl]; rintro _ w9 ⟨rfl, h4⟩; replace hZ := St.call0 hZ h4; clear h4))
            have hY := hZ.drew
            clear hZ
            refine wp_region_held_drew (S := (fun w' => (loadVarH 27 ⟨g10, 0, none⟩).run Tryz.prog w' = .ok (.agg (List.toArray (tabC (doR T y).2 (.slice a9 xs9.length c9) (.slice b9 (doR T y).2.lives.length d9)))) w' ∧ (loadVarH 27 ⟨g12, 0, none⟩).run Tryz.prog w' = .ok (.agg (List.toArray (tabC (doR T y).2 (.slice e9 n9 q9) (.slice f9 m9 r9)))) w')) (by kernel_rfl) (by exact ⟨ldA (tabC (doR T y).2 (.slice a9 xs9.length c9) (.slice b9 (doR T y).2.lives.length d9)) [_] hY (rfl) (rfl), ldA (tabC (doR T y).2 (.slice e9 n9 q9) (.slice f9 m9 r9)) [] hY (rfl) (rfl)⟩) (fun hHeld => ?_)
            refine tq 0 75 ?_
            refine tq 1 76 ?_
            refine wpAnyH_ready (rs := [2]) (by kernel_rfl) (by simp) ?_
            refine (AllReadyH.cons (o := ⟨none, _, _, _, _, _⟩) rfl (fun K hK => ?_) AllReadyH.nil)
            refine ow_if (by rfl) ?_
            refine wl_storeA [_, _, _] hY rfl rfl rfl rfl (vs := tabC (doR T y).2 (.slice a9 xs9.length c9) (.slice b9 (doR T y).2.lives.length d9)) rfl rfl rfl ?_
            intro wS h4
            have hY1 : St w [] wS ([.blk g12 27 (tabC (doR T y).2 (.slice e9 n9 q9) (.slice f9 m9 r9)), .blk g10 27 (tabC (doR T y).2 (.slice a9 xs9.length c9) (.slice b9 (doR T y).2.lives.length d9)), .blk g7 27 (tabC T (.slice e0 n0 q0) (.slice f0 m0 r0)), .blk g5 27 (tabC (doR T y).2 (.slice a9 xs9.length c9) (.slice b9 (doR T y).2.lives.length d9))] ++ PZ) := h4
            clear h4
            refine q0_nil ?_
            refine hK.out _ _ ?_ (fun hHeld => ?_)
            · exact ⟨ldA (tabC (doR T y).2 (.slice a9 xs9.length c9) (.slice b9 (doR T y).2.lives.length d9)) [_] hY1 (rfl) (rfl), ldA (tabC (doR T y).2 (.slice e9 n9 q9) (.slice f9 m9 r9)) [] hY1 (rfl) (rfl)⟩
            clear hK K
            (try simp only [Act.put, List.setIfInBounds_toArray, List.set_cons_zero, List.set_cons_succ])
            refine wpAnyH_ready (rs := [3]) (by kernel_rfl) (by simp) ?_
            refine (AllReadyH.cons (o := ⟨none, _, _, _, _, _⟩) rfl (fun K hK => ?_) AllReadyH.nil)
            refine ow_if (by rfl) ?_
            refine wl_storeA [_, _] hY1 rfl rfl rfl rfl (vs := tabC (doR T y).2 (.slice e9 n9 q9) (.slice f9 m9 r9)) rfl rfl rfl ?_
            intro wS h4
            have hY2 : St w [] wS ([.blk g12 27 (tabC (doR T y).2 (.slice e9 n9 q9) (.slice f9 m9 r9)), .blk g10 27 (tabC (doR T y).2 (.slice a9 xs9.length c9) (.slice b9 (doR T y).2.lives.length d9)), .blk g7 27 (tabC (doR T y).2 (.slice e9 n9 q9) (.slice f9 m9 r9)), .blk g5 27 (tabC (doR T y).2 (.slice a9 xs9.length c9) (.slice b9 (doR T y).2.lives.length d9))] ++ PZ) := h4
            clear h4
            refine q0_nil ?_
            refine hK.out _ _ ?_ (fun hHeld => ?_)
            · exact ⟨ldA (tabC (doR T y).2 (.slice a9 xs9.length c9) (.slice b9 (doR T y).2.lives.length d9)) [_] hY2 (rfl) (rfl), ldA (tabC (doR T y).2 (.slice e9 n9 q9) (.slice f9 m9 r9)) [] hY2 (rfl) (rfl)⟩
            clear hK K
            (try simp only [Act.put, List.setIfInBounds_toArray, List.set_cons_zero, List.set_cons_succ])
            refine wpAnyH_done (by kernel_rfl) ?_ _
            clear hHeld
            go_wp2_with (first | go_big_skip | go_big_guard | fail)
            go_roundw
            case rel => exact ⟨k + 1, by omega, rfl, (doR T y).2, _, _, _, _, xs9, PZ, _, _, _, _, _, _, ys9, HK.out.k.ok, HT92.out, HW9.out, St.sub hY2 (.cons _ (.cons _ (List.Sublist.refl _)))⟩
            case measure => simp [intOf]; omega
    · have dk : decide ((k : Int) < (N : Int)) = false := decide_eq_false (by omega)
      go_wp2_with (first | go_big_skip | go_big_guard | (go_at_call 8; refine (awake13_any _).mono ?_; rintro _ w9 ⟨rfl, h4⟩; replace hst := St.call0 hst h4; clear h4))
      go_ret
      exact ⟨rfl, hst.nil⟩
theorem script13_any (devs : Int) (ao : Option Addr) (N c : Nat) (xs : List AD) (w : World) (hv : Rd w (.slice ao N c) 40 N (xs.flatMap AD.cells)) (hN : xs.length = N) (hx : ∀ x ∈ xs, x.Ok w) (hnb : NmS xs) :
    Calls Tryz.prog 4 #[.int .i64 devs, .slice ao N c] w fun e w' => e = .returned (.bool true) ∧ St w [] w' [] := by
  cases hq : inB devs 2 8 with
  | false =>
    have hnw : newR devs = (2, noTab) := by unfold newR; rw [hq]; rfl
    by_cases hs : shortD xs N
    · exact script13_none devs ao N c xs w hv hN hx hnb noTab 2 hnw (by decide) hs (by decide)
    · exact script13_long devs ao N c xs w hv hN hx hnb noTab 2 hnw (by decide) hs
  | true =>
    have h2 := inB_iff.1 hq
    obtain ⟨k, rfl⟩ : ∃ k : Nat, devs = 2 + (k : Int) := ⟨(devs - 2).toNat, by omega⟩
    obtain ⟨hnw, hok⟩ := new_ok (k := k) (by omega)
    by_cases hs : shortD xs N
    · exact script13_short _ ao N c xs w hv hN hx hnb _ 0 hnw (bd_okS hok) hs rfl hok
    · exact script13_long _ ao N c xs w hv hN hx hnb _ 0 hnw (bd_okS hok) hs
end Go.Proofs.YtifajcblbedcoaaGreat
namespace Go.Proofs.YtifajcblbedcoaaGreat
set_option linter.unusedVariables false
set_option linter.unusedSimpArgs false
open Go.ChangeShapes Go.WideShapes Go.ChangeAt Go.RowKit Hp
set_option maxRecDepth 100000 in
theorem dirScript_lifted (os : Os) (started : os.Started) (H : Type) (enc : TypeId × Value → H) :
    ReturnsInHanded {} Tryz.checked os 4 .any (Rows.dirScriptSpec.pre6 enc Tryz.prog Tryz.f4 Rows.dirScriptRow.domain false) (Rows.dirScriptSpec.post enc Tryz.prog Tryz.f4 false true false false) := by
  refine returnsInHanded_of_change (C := Tryz.checked) own started (by kernel_rfl) Tryz.func4
    (ChangeSpec.witness6 (enc := enc) (C := Tryz.checked) false ⟨#[], #[.int .i64 0, .slice none 0 0], []⟩ 8 (by kernel_rfl) (by kernel_rfl) (by kernel_rfl) (by kernel_rfl)) ?_
  intro W base args ds gs before hval0 hW hcnd _
  have hval : ∀ (j : Nat) t v, Tryz.f4.params[j]? = some t → args[j]? = some v → Value.okWide Tryz.prog W .any base t v := hval0
  have hW' := hW
  obtain ⟨p, q, hAA0, hV, rfl, hfz, hnd⟩ := hW
  have hA : DataW.TrodAll enc Tryz.prog W 0 (fun _ => true) true Tryz.f4.params.toList args.toList ds p := hAA0
  rw [Tryz.params4] at hA hval
  have hk := hA
  obtain ⟨v0, v1, d0, d1, p0, p1, rfl, rfl, rfl, h0, h1⟩ := trodAll_two hA
  obtain ⟨rfl, rfl⟩ := trodVars_none hV
  obtain ⟨n0, h0⟩ := h0
  obtain ⟨z0, rfl, hl0, hu0⟩ := open_int (hval 0 _ v0 rfl rfl) h0
  obtain ⟨n1, h1⟩ := h1
  obtain ⟨ao1, n1, c1, xs1, rfl, hA1, hn1, hk1, hm1⟩ := open_actsD (hval 1 _ v1 rfl rfl) h1
  clear hAA0 hval0
  simp only [List.append_nil] at hW'
  refine (script13_any z0 ao1 n1 c1 xs1 W hA1 hn1 hk1 hm1).mono fun e W' ⟨he, hg⟩ => ?_
  subst he
  exact ⟨_, rfl, post_of_kept (pv := []) hW' (fun _ _ _ => (trodAll_cons_mk (shut_bool Tryz.underlying4 _) trodAll_mk0)) (fun sp hsp => by
      rw [Tryz.params4]
      exact args_kept (by decide) hk hg.below (fun p hp => hW'.lt p hp) sp hsp) (fun _ _ => rfl) (by simp)
    (hg.below.frame _)⟩
theorem dirScript_over : Rows.dirScriptRow.holds Tryz.pinned (OpenSpec.ofChange Rows.dirScriptSpec) :=
  OpenClaim.holds_of_wide 4 Tryz.f4 rfl rfl rfl rfl rfl rfl rfl ⟨rfl, rfl, rfl, rfl, rfl⟩ rfl rfl rfl rfl rfl (by kernel_rfl) Tryz.func4 (by kernel_rfl)
    (of_decide_eq_true (by kernel_rfl)) (by unfold Func.isWrapper; first | (rw [if_pos (by decide +kernel)]; kernel_rfl) | (rw [if_neg (by decide +kernel)]; exact ⟨rfl, rfl⟩))
    (fun os started H enc _ => dirScript_lifted os started H enc)

theorem dirScript_proved : Rows.DirScriptSaid :=
  dirScript_over
end Go.Proofs.YtifajcblbedcoaaGreat
