/- Which table bytes are: record.Read. -/
import Derived.Test.YtifajcblbedcoaaJDirBackh
import Derived.Test.YtifajcblbedcoaaKTy
import Derived.Test.YtifajcblbedcoaaSepQ
import Derived.IntWalk
import Derived.Test.YtifajcblbedcoaaD1
import Derived.Test.YtifajcblbedcoaaNum
import Derived.Test.YtifajcblbedcoaaSepP
import Derived.Test.YtifajcblbedcoaaT7
import Derived.Test.YtifajcblbedcoaaJDirBackc
import Derived.Test.YtifajcblbedcoaaJDirBacke
import Derived.Test.YtifajcblbedcoaaJDirBackd
import Derived.Test.YtifajcblbedcoaaJDirBacka
import Derived.Test.YtifajcblbedcoaaJDirBackf
import Derived.Test.YtifajcblbedcoaaSepX
import Derived.Lib.ConvBytes
namespace Go.Proofs.Ytifajcblbedcoaa
set_option linter.unusedVariables false
set_option linter.unusedSimpArgs false
open Go.RowKit Hp
theorem tr_fst {r : TR} {z : Int} (h : (r.1 == z) = true) : r = (z, r.2) := by
  obtain ⟨a, b⟩ := r
  have : a = z := by simpa using h
  rw [this]
def tN : TC := (newR 2).2
theorem tN_eq : newR 2 = (0, tN) := tr_fst (by decide +kernel)
theorem tN_bd : tN.recs.length ≤ 1000000 ∧ tN.lives.length ≤ 1000000 := by decide +kernel
theorem tN_rl : tN.recs.length ≤ 1000 := by decide +kernel
def tA : TC := (opR tN (makeR tN [97] 4 1)).2
theorem tA_eq : opR tN (makeR tN [97] 4 1) = (0, tA) := tr_fst (by decide +kernel)
theorem tA_bd : tA.recs.length ≤ 1000000 ∧ tA.lives.length ≤ 1000000 := by decide +kernel
theorem tA_rl : tA.recs.length ≤ 1000 := by decide +kernel
def tAX : TC := (opR tA (snapT tA [97, 64, 120] 2)).2
theorem tAX_eq : opR tA (snapT tA [97, 64, 120] 2) = (0, tAX) := tr_fst (by decide +kernel)
theorem tAX_bd : tAX.recs.length ≤ 1000000 ∧ tAX.lives.length ≤ 1000000 := by decide +kernel
theorem tAX_rl : tAX.recs.length ≤ 1000 := by decide +kernel
def tS : TC := (opR tAX (cloneT tAX [97, 64, 120] [98] 3)).2
theorem tS_eq : opR tAX (cloneT tAX [97, 64, 120] [98] 3) = (0, tS) := tr_fst (by decide +kernel)
theorem tS_bd : tS.recs.length ≤ 1000000 ∧ tS.lives.length ≤ 1000000 := by decide +kernel
theorem tS_rl : tS.recs.length ≤ 1000 := by decide +kernel
def tD1 : TC := (opR tS (dropT tS [97])).2
theorem tD1_eq : opR tS (dropT tS [97]) = (17, tD1) := tr_fst (by decide +kernel)
theorem tD1_bd : tD1.recs.length ≤ 1000000 ∧ tD1.lives.length ≤ 1000000 := by decide +kernel
theorem tD1_rl : tD1.recs.length ≤ 1000 := by decide +kernel
def tD2 : TC := (opR tS (dropT tS [97, 64, 120])).2
theorem tD2_eq : opR tS (dropT tS [97, 64, 120]) = (17, tD2) := tr_fst (by decide +kernel)
theorem tD2_bd : tD2.recs.length ≤ 1000000 ∧ tD2.lives.length ≤ 1000000 := by decide +kernel
theorem tD2_rl : tD2.recs.length ≤ 1000 := by decide +kernel
def tD3 : TC := (opR tS (dropT tS [98])).2
theorem tD3_eq : opR tS (dropT tS [98]) = (0, tD3) := tr_fst (by decide +kernel)
theorem tD3_bd : tD3.recs.length ≤ 1000000 ∧ tD3.lives.length ≤ 1000000 := by decide +kernel
theorem tD3_rl : tD3.recs.length ≤ 1000 := by decide +kernel
def tD4 : TC := (opR tD3 (dropT tD3 [97, 64, 120])).2
theorem tD4_eq : opR tD3 (dropT tD3 [97, 64, 120]) = (0, tD4) := tr_fst (by decide +kernel)
theorem tD4_bd : tD4.recs.length ≤ 1000000 ∧ tD4.lives.length ≤ 1000000 := by decide +kernel
theorem tD4_rl : tD4.recs.length ≤ 1000 := by decide +kernel
theorem tS_names : (namesOf tS == [[97], [97, 64, 120], [98]]) = true := by decide +kernel
theorem tD4_names : (namesOf tD4 == [[97]]) = true := by decide +kernel
theorem tS_next : tS.next = 4 := by decide +kernel
theorem tS_len : tS.recs.length = 3 := by decide +kernel
def sR0 : RC := tS.recs.getD 0 (volR [] 0 0)
def sR1 : RC := tS.recs.getD 1 (volR [] 0 0)
def sR2 : RC := tS.recs.getD 2 (volR [] 0 0)
theorem tS_recs : tS.recs = [sR0, sR1, sR2] := by
  have h := tS_len
  unfold sR0 sR1 sR2
  generalize tS.recs = l at h ⊢
  match l, h with
  | [a, b, c], _ => rfl
theorem tS_vals : sR0.id = 1 ∧ sR1.own = 1 ∧ sR1.id = 2 ∧ sR2.origin = 2 := by decide +kernel
def tK1 : TC := (opR tS (renameT tS [97] [99])).2
theorem tK1_eq : opR tS (renameT tS [97] [99]) = (0, tK1) := tr_fst (by decide +kernel)
theorem tK1_bd : tK1.recs.length ≤ 1000000 ∧ tK1.lives.length ≤ 1000000 := by decide +kernel
theorem tK1_rl : tK1.recs.length ≤ 1000 := by decide +kernel
def tK2 : TC := (opR tS (renameT tS [97] [98])).2
theorem tK2_eq : opR tS (renameT tS [97] [98]) = (7, tK2) := tr_fst (by decide +kernel)
theorem tK2_bd : tK2.recs.length ≤ 1000000 ∧ tK2.lives.length ≤ 1000000 := by decide +kernel
theorem tK2_rl : tK2.recs.length ≤ 1000 := by decide +kernel
def tK3 : TC := (opR tS (renameT tS [97, 64, 120] [98, 64, 120])).2
theorem tK3_eq : opR tS (renameT tS [97, 64, 120] [98, 64, 120]) = (2, tK3) := tr_fst (by decide +kernel)
theorem tK3_bd : tK3.recs.length ≤ 1000000 ∧ tK3.lives.length ≤ 1000000 := by decide +kernel
theorem tK3_rl : tK3.recs.length ≤ 1000 := by decide +kernel
def tK4 : TC := (opR tS (renameT tS [97] [97])).2
theorem tK4_eq : opR tS (renameT tS [97] [97]) = (7, tK4) := tr_fst (by decide +kernel)
theorem tK4_bd : tK4.recs.length ≤ 1000000 ∧ tK4.lives.length ≤ 1000000 := by decide +kernel
theorem tK4_rl : tK4.recs.length ≤ 1000 := by decide +kernel
def tK5 : TC := (opR tS (resizeT tS [97, 64, 120] 5)).2
theorem tK5_eq : opR tS (resizeT tS [97, 64, 120] 5) = (18, tK5) := tr_fst (by decide +kernel)
theorem tK5_bd : tK5.recs.length ≤ 1000000 ∧ tK5.lives.length ≤ 1000000 := by decide +kernel
theorem tK5_rl : tK5.recs.length ≤ 1000 := by decide +kernel
def tK6 : TC := (opR tS (limitT tS [97] 65 0)).2
theorem tK6_eq : opR tS (limitT tS [97] 65 0) = (2, tK6) := tr_fst (by decide +kernel)
theorem tK6_bd : tK6.recs.length ≤ 1000000 ∧ tK6.lives.length ≤ 1000000 := by decide +kernel
theorem tK6_rl : tK6.recs.length ≤ 1000 := by decide +kernel
def tK7 : TC := (opR tS (makeR tS [97, 64, 98] 1 1)).2
theorem tK7_eq : opR tS (makeR tS [97, 64, 98] 1 1) = (2, tK7) := tr_fst (by decide +kernel)
theorem tK7_bd : tK7.recs.length ≤ 1000000 ∧ tK7.lives.length ≤ 1000000 := by decide +kernel
theorem tK7_rl : tK7.recs.length ≤ 1000 := by decide +kernel
def tK8 : TC := (opR tS (snapT tS [122, 64, 120] 1)).2
theorem tK8_eq : opR tS (snapT tS [122, 64, 120] 1) = (6, tK8) := tr_fst (by decide +kernel)
theorem tK8_bd : tK8.recs.length ≤ 1000000 ∧ tK8.lives.length ≤ 1000000 := by decide +kernel
theorem tK8_rl : tK8.recs.length ≤ 1000 := by decide +kernel
def tK9 : TC := (opR tS (makeR tS [98] 4 4)).2
theorem tK9_eq : opR tS (makeR tS [98] 4 4) = (7, tK9) := tr_fst (by decide +kernel)
theorem tK9_bd : tK9.recs.length ≤ 1000000 ∧ tK9.lives.length ≤ 1000000 := by decide +kernel
theorem tK9_rl : tK9.recs.length ≤ 1000 := by decide +kernel
def tV : TC := (opR tS (snapT tS [97, 64, 121] 4)).2
theorem tV_eq : opR tS (snapT tS [97, 64, 121] 4) = (0, tV) := tr_fst (by decide +kernel)
theorem tV_bd : tV.recs.length ≤ 1000000 ∧ tV.lives.length ≤ 1000000 := by decide +kernel
theorem tV_rl : tV.recs.length ≤ 1000 := by decide +kernel
def tV1 : TC := (opR tV (rollT tV [97, 64, 120])).2
theorem tV1_eq : opR tV (rollT tV [97, 64, 120]) = (17, tV1) := tr_fst (by decide +kernel)
theorem tV1_bd : tV1.recs.length ≤ 1000000 ∧ tV1.lives.length ≤ 1000000 := by decide +kernel
theorem tV1_rl : tV1.recs.length ≤ 1000 := by decide +kernel
def tV2 : TC := (opR tV (rollT tV [97, 64, 121])).2
theorem tV2_eq : opR tV (rollT tV [97, 64, 121]) = (0, tV2) := tr_fst (by decide +kernel)
theorem tV2_bd : tV2.recs.length ≤ 1000000 ∧ tV2.lives.length ≤ 1000000 := by decide +kernel
theorem tV2_rl : tV2.recs.length ≤ 1000 := by decide +kernel
theorem tK1_names : (namesOf tK1 == [[98], [99], [99, 64, 120]]) = true := by decide +kernel
end Go.Proofs.Ytifajcblbedcoaa
namespace Go.Proofs.Ytifajcblbedcoaa
set_option linter.unusedVariables false
set_option linter.unusedSimpArgs false
open Go.RowKit Hp
attribute [local irreducible] Go.Calls Go.wpList tN tA tAX tS tD1 tD2 tD3 tD4
set_option maxRecDepth 100000
set_option maxHeartbeats 8000000
attribute [local go_sem ↓] heldInt heldInts heldRecs heldRec heldStr heldTab heldPtr heldFn
theorem ow_if {P : Program} {ops : Array Oper} {o : Oper} {a : Act} {w : World} {K : Act → World → Prop} {Q : Exit → Act → World → Prop} {E : Prop} (hw : Region.wanted o (yielded ops a.tmps) = true) (h : wpList P ops (Q0 K Q) [o] a w) : if Region.wanted o (yielded ops a.tmps) = true then o.wp P a w K Q else E := by
  rw [if_pos hw]
  exact ow_of_wl hw h
theorem InP.spot {w0 w : World} {M : List Nat} {B P : List HA} {t : TC} {ar al : Option Addr} {cr cl : Nat} {xs : List (Value × RC)} (h : InP P t ar al cr cl xs) (hst : St w0 M w (B ++ P)) (hn : 0 < xs.length) : ∃ g2, ar = some ⟨g2, 0, none⟩ := by
  obtain ⟨g2, c, e, _⟩ := row_spot hst (List.mem_append_right _ h.rr) hn
  cases e
  exact ⟨g2, rfl⟩
theorem InP.range {w0 w : World} {M : List Nat} {B P : List HA} {t : TC} {g2 : Nat} {al : Option Addr} {cr cl j : Nat} {xs : List (Value × RC)} {x : Value × RC} (h : InP P t (some ⟨g2, 0, none⟩) al cr cl xs) (hst : St w0 M w (B ++ P)) (hx : xs[j]? = some x) : w.rangeAt g2 (j * 44) (cellsR x) := by
  have hlt := (List.getElem?_eq_some_iff.1 hx).1
  obtain ⟨x', b, off, hx', he, _, hr⟩ := RecsIn.at (h.recs hst) hlt
  cases he
  rw [hx] at hx'
  cases hx'
  rwa [Nat.zero_add] at hr
/-- A number within an element. -/
theorem InP.cell {w0 w : World} {M : List Nat} {B P : List HA} {t : TC} {g2 : Nat} {al : Option Addr} {cr cl j d o : Nat} {xs : List (Value × RC)} {x : Value × RC} {v : Value} (h : InP P t (some ⟨g2, 0, none⟩) al cr cl xs) (hst : St w0 M w (B ++ P)) (hx : xs[j]? = some x) (hd : (cellsR x)[d]? = some v) (ho : o = j * 44 + d) : w.cell? ⟨g2, o, none⟩ = some v := by
  subst ho
  exact h.range hst hx d v hd
/-- The chapter's table, told. -/
def SmpPost (w : World) (e : Ending) (w' : World) : Prop := ∃ (a b : Option Addr) (c d : Nat) (P : List HA) (xs : List (Value × RC)), e = .returned (.tuple #[.agg (tabC tS (.slice a xs.length c) (.slice b tS.lives.length d)).toArray, .bool true]) ∧ InP P tS a b c d xs ∧ St w [] w' P
theorem sample13_any (w : World) : Calls Try.prog 12 #[] w (SmpPost w) := by
  obtain ⟨P0, hP0⟩ : ∃ P0 : List HA, P0 = [] := ⟨_, rfl⟩
  have hS0 : St w [] w ([] ++ P0) := by rw [hP0]; exact St.refl w
  clear hP0
  go_enter Try.func12, Try.ntmps12
  go_wp2_with (first | go_big_skip | go_big_guard | (refine wl_alloc hS0 rfl rfl ?_; intro g0 w1 h4; have hS1 : St w [] w1 ([.blk g0 27 (tab0)] ++ P0) := h4; clear h4 hS0) | (go_at_call 6; refine (new13_any 2 _).mono ?_; rw [tN_eq]; intro e9 w9 hret; obtain ⟨a1, b1, c1, d1, P1, xs1, rfl, hin, hsub, h4⟩ := ret_pool (B := [.blk g0 27 (tab0)]) hS1 hret; have hS2 : St w [] w9 ([.blk g0 27 (tab0)] ++ P1) := h4; clear hret h4 hS1; have HT1 := hid hin; clear hin hsub) | (refine wl_alloc hS2 rfl rfl ?_; intro g2 w1 h4; have hS3 : St w [] w1 ([.blk g2 27 (tab0), .blk g0 27 (tab0)] ++ P1) := h4; clear h4 hS2) | (refine wl_storeA [] hS3 rfl rfl rfl rfl (vs := tabC tN (.slice a1 xs1.length c1) (.slice b1 tN.lives.length d1)) rfl rfl rfl ?_; intro w1 h4; have hS4 : St w [] w1 ([.blk g2 27 (tabC tN (.slice a1 xs1.length c1) (.slice b1 tN.lives.length d1)), .blk g0 27 (tab0)] ++ P1) := h4; clear h4 hS3) | (refine wl_loadE rfl rfl rfl ?_; refine ⟨_, Loads.atA (tabC tN (.slice a1 xs1.length c1) (.slice b1 tN.lives.length d1)) [] hS4 rfl rfl, ?_⟩) | (go_at_call 7; refine (make13_any tN a1 b1 xs1.length c1 tN.lives.length d1 xs1 _ (HT1.out.tab hS4 tN_bd) [97] 4 1 (by decide)).mono ?_; rw [tA_eq]; intro e9 w9 hret; obtain ⟨a2, b2, c2, d2, P2, xs2, rfl, hin, hsub, h4⟩ := ret_pool (B := [.blk g2 27 (tabC tN (.slice a1 xs1.length c1) (.slice b1 tN.lives.length d1)), .blk g0 27 (tab0)]) hS4 hret; have hS5 : St w [] w9 ([.blk g2 27 (tabC tN (.slice a1 xs1.length c1) (.slice b1 tN.lives.length d1)), .blk g0 27 (tab0)] ++ P2) := h4; clear hret h4 hS4; replace HT1 := hid (HT1.out.mono hsub); have HT2 := hid hin; clear hin hsub) | (refine wl_storeA [] hS5 rfl rfl rfl rfl (vs := tabC tA (.slice a2 xs2.length c2) (.slice b2 tA.lives.length d2)) rfl rfl rfl ?_; intro w1 h4; have hS6 : St w [] w1 ([.blk g2 27 (tabC tA (.slice a2 xs2.length c2) (.slice b2 tA.lives.length d2)), .blk g0 27 (tab0)] ++ P2) := h4; clear h4 hS5) | (refine wl_loadE rfl rfl rfl ?_; refine ⟨_, Loads.atA (tabC tA (.slice a2 xs2.length c2) (.slice b2 tA.lives.length d2)) [] hS6 rfl rfl, ?_⟩) | (go_at_call 17; refine (snap13_any tA a2 b2 xs2.length c2 tA.lives.length d2 xs2 _ (HT2.out.tab hS6 tA_bd) [97, 64, 120] 2 (by decide)).mono ?_; rw [tAX_eq]; intro e9 w9 hret; obtain ⟨a3, b3, c3, d3, P3, xs3, rfl, hin, hsub, h4⟩ := ret_pool (B := [.blk g2 27 (tabC tA (.slice a2 xs2.length c2) (.slice b2 tA.lives.length d2)), .blk g0 27 (tab0)]) hS6 hret; have hS7 : St w [] w9 ([.blk g2 27 (tabC tA (.slice a2 xs2.length c2) (.slice b2 tA.lives.length d2)), .blk g0 27 (tab0)] ++ P3) := h4; clear hret h4 hS6; replace HT1 := hid (HT1.out.mono hsub); replace HT2 := hid (HT2.out.mono hsub); have HT3 := hid hin; clear hin hsub) | (refine wl_storeA [] hS7 rfl rfl rfl rfl (vs := tabC tAX (.slice a3 xs3.length c3) (.slice b3 tAX.lives.length d3)) rfl rfl rfl ?_; intro w1 h4; have hS8 : St w [] w1 ([.blk g2 27 (tabC tAX (.slice a3 xs3.length c3) (.slice b3 tAX.lives.length d3)), .blk g0 27 (tab0)] ++ P3) := h4; clear h4 hS7) | (refine wl_loadE rfl rfl rfl ?_; refine ⟨_, Loads.atA (tabC tAX (.slice a3 xs3.length c3) (.slice b3 tAX.lives.length d3)) [] hS8 rfl rfl, ?_⟩) | (go_at_call 20; refine (clone13_any tAX a3 b3 xs3.length c3 tAX.lives.length d3 xs3 _ (HT3.out.tab hS8 tAX_bd) [97, 64, 120] [98] 3 (by decide) (by decide)).mono ?_; rw [tS_eq]; intro e9 w9 hret; obtain ⟨a4, b4, c4, d4, P4, xs4, rfl, hin, hsub, h4⟩ := ret_pool (B := [.blk g2 27 (tabC tAX (.slice a3 xs3.length c3) (.slice b3 tAX.lives.length d3)), .blk g0 27 (tab0)]) hS8 hret; have hS9 : St w [] w9 ([.blk g2 27 (tabC tAX (.slice a3 xs3.length c3) (.slice b3 tAX.lives.length d3)), .blk g0 27 (tab0)] ++ P4) := h4; clear hret h4 hS8; replace HT1 := hid (HT1.out.mono hsub); replace HT2 := hid (HT2.out.mono hsub); replace HT3 := hid (HT3.out.mono hsub); have HT4 := hid hin; clear hin hsub) | (refine wl_storeA [] hS9 rfl rfl rfl rfl (vs := tabC tS (.slice a4 xs4.length c4) (.slice b4 tS.lives.length d4)) rfl rfl rfl ?_; intro w1 h4; have hS10 : St w [] w1 ([.blk g2 27 (tabC tS (.slice a4 xs4.length c4) (.slice b4 tS.lives.length d4)), .blk g0 27 (tab0)] ++ P4) := h4; clear h4 hS9))
  have hX := hS10.drew
  clear hS10
  refine wp_region_held_drew (S := (fun w' => (loadVarH 27 ⟨g2, 0, none⟩).run Try.prog w' = .ok (.agg (List.toArray (tabC tS (.slice a4 xs4.length c4) (.slice b4 tS.lives.length d4)))) w')) (by kernel_rfl) (by exact ldA (tabC tS (.slice a4 xs4.length c4) (.slice b4 tS.lives.length d4)) [] hX (rfl) (rfl)) (fun hHeld => ?_)
  refine tq 0 26 ?_
  refine tq 1 27 ?_
  refine tq 2 28 ?_
  refine tq 3 29 ?_
  refine tq 4 30 ?_
  refine tq 5 31 ?_
  refine tq 6 32 ?_
  refine tq 7 33 ?_
  refine tq 8 34 ?_
  refine tq 9 35 ?_
  refine tq 10 36 ?_
  refine tq 11 37 ?_
  refine tq 12 38 ?_
  refine tq 13 39 ?_
  refine tq 14 40 ?_
  refine tq 15 41 ?_
  refine tq 16 42 ?_
  refine wpAnyH_ready (rs := [17]) (by kernel_rfl) (by simp) ?_
  refine (AllReadyH.cons (o := ⟨some 43, _, _, _, _, _⟩) rfl (fun K hK => ?_) AllReadyH.nil)
  refine ow_if (by rfl) ?_
  apply wl_bsX [.string ⟨([97] : List UInt8).toArray⟩, .string ⟨([97, 64, 120] : List UInt8).toArray⟩, .string ⟨([98] : List UInt8).toArray⟩] [.string ⟨([97] : List UInt8).toArray⟩, .string ⟨([97, 64, 120] : List UInt8).toArray⟩, .string ⟨([98] : List UInt8).toArray⟩] hX
  · rfl
  · rfl
  · exact rfl
  · exact rfl
  · infer_instance
  · infer_instance
  · rfl
  · rfl
  · rfl
  intro gw w5 h4
  have hW1 : St w [] w5 ([.blk gw 9 [.string ⟨([97] : List UInt8).toArray⟩, .string ⟨([97, 64, 120] : List UInt8).toArray⟩, .string ⟨([98] : List UInt8).toArray⟩], .blk g2 27 (tabC tS (.slice a4 xs4.length c4) (.slice b4 tS.lives.length d4)), .blk g0 27 tab0] ++ P4) := h4
  clear h4
  refine q0_nil ?_
  refine hK.out _ _ ?_ (fun hHeld => ?_)
  · exact ldA (tabC tS (.slice a4 xs4.length c4) (.slice b4 tS.lives.length d4)) [_] hW1 (rfl) (rfl)
  clear hK K
  (try simp only [Act.put, List.setIfInBounds_toArray, List.set_cons_zero, List.set_cons_succ])
  refine wpAnyH_ready (rs := [18]) (by kernel_rfl) (by simp) ?_
  refine (AllReadyH.cons (o := ⟨some 44, _, _, _, _, _⟩) rfl (fun K hK => ?_) AllReadyH.nil)
  rw [if_pos (by rfl)]
  go_simp
  go_at_call 14
  refine (names13_any tS a4 xs4.length c4 _ xs4 _ 3 3 [[97], [97, 64, 120], [98]] _ (HT4.out.recs hW1) HT4.out.ok.eq (by rw [HT4.out.ok.len]; exact tS_rl) (Rd.blk hW1 (.head _) (Nat.le_refl _) (by decide) rfl rfl) rfl (by decide)).mono ?_
  rw [tS_names]
  rintro _ w6 ⟨rfl, h4⟩
  have hW2 : St w [] w6 ([.blk gw 9 [.string ⟨([97] : List UInt8).toArray⟩, .string ⟨([97, 64, 120] : List UInt8).toArray⟩, .string ⟨([98] : List UInt8).toArray⟩], .blk g2 27 (tabC tS (.slice a4 xs4.length c4) (.slice b4 tS.lives.length d4)), .blk g0 27 tab0] ++ P4) := St.call0 hW1 h4
  clear h4
  refine hK.out _ _ ?_ (fun hHeld => ?_)
  · exact ldA (tabC tS (.slice a4 xs4.length c4) (.slice b4 tS.lives.length d4)) [_] hW2 (rfl) (rfl)
  clear hK K
  (try simp only [Act.put, List.setIfInBounds_toArray, List.set_cons_zero, List.set_cons_succ])
  refine tq 19 45 ?_
  refine wpAnyH_ready (rs := [20]) (by kernel_rfl) (by simp) ?_
  refine (AllReadyH.cons (o := ⟨none, _, _, _, _, _⟩) rfl (fun K hK => ?_) AllReadyH.nil)
  refine ow_if (by rfl) ?_
  refine wl_storeA [_, _] hW2 rfl rfl rfl rfl (vs := tabC tS (.slice a4 xs4.length c4) (.slice b4 tS.lives.length d4)) rfl rfl rfl ?_
  intro w7 hW3
  refine q0_nil ?_
  refine hK.out _ _ ?_ (fun hHeld => ?_)
  · exact ldA (tabC tS (.slice a4 xs4.length c4) (.slice b4 tS.lives.length d4)) [_] hW3 (rfl) (rfl)
  clear hK K
  (try simp only [Act.put, List.setIfInBounds_toArray, List.set_cons_zero, List.set_cons_succ])
  refine tq 21 1 ?_
  refine wpAnyH_done (by kernel_rfl) ?_ _
  clear hHeld
  go_wp2_with (first | go_big_skip | go_big_guard | fail)
  have hl := Loads.atA (P := Try.prog) (off := 0) (T := 27) (tabC tS (.slice a4 xs4.length c4) (.slice b4 tS.lives.length d4)) [_, _] hW3 rfl rfl
  refine bodyPost_ret (results_cellR rfl rfl rfl hl) rfl ?_
  exact ⟨_, _, _, _, _, _, rfl, HT4.out, St.sub hW3 (.cons _ (.cons _ (.cons _ (List.Sublist.refl _))))⟩
theorem smp_parts {w0 w : World} {M : List Nat} {B P : List HA} {ar al : Option Addr} {cr cl : Nat} {xs : List (Value × RC)} (h : InP P tS ar al cr cl xs) (hst : St w0 M w (B ++ P)) :
    xs.length = 3 ∧ (∃ g9, ar = some ⟨g9, 0, none⟩) ∧ (∃ v : Value, xs[0]? = some (v, sR0)) ∧ (∃ v : Value, xs[1]? = some (v, sR1)) ∧ (∃ v : Value, xs[2]? = some (v, sR2)) := by
  have hl : xs.length = 3 := by rw [h.ok.len, tS_len]
  have key : ∀ (j : Nat) (r : RC), tS.recs[j]? = some r → ∃ v : Value, xs[j]? = some (v, r) := fun j r hr => by
    obtain ⟨x, hx, he⟩ := okx_at h.ok hr
    subst he
    exact ⟨x.1, hx⟩
  exact ⟨hl, h.spot hst (by omega), key 0 sR0 (by rw [tS_recs]; rfl), key 1 sR1 (by rw [tS_recs]; rfl), key 2 sR2 (by rw [tS_recs]; rfl)⟩
attribute [local irreducible] sR0 sR1 sR2
theorem awake13_any (w : World) : Calls Try.prog 11 #[] w fun e w' => e = .returned (.bool true) ∧ St w [] w' [] := by
  obtain ⟨P0, hP0⟩ : ∃ P0 : List HA, P0 = [] := ⟨_, rfl⟩
  have hS0 : St w [] w ([] ++ P0) := by rw [hP0]; exact St.refl w
  clear hP0
  have hn4 := tS_next
  obtain ⟨v1, v2, v3, v4⟩ := tS_vals
  go_enter Try.func11, Try.ntmps11
  go_wp2_with (first | go_big_skip | go_big_guard | (go_at_call 12; refine (sample13_any _).mono ?_; intro e9 w9 hret; obtain ⟨a0, b0, c0, d0, P1, xs0, rfl, hin, h4⟩ := hret; have hS1 : St w [] w9 ([] ++ P1) := St.sub (St.call hS0 h4) (List.sublist_append_left _ _); have HT0 := hid hin; clear h4 hin hS0; obtain ⟨hn3, ⟨g9, hg9⟩, ⟨x0, hx0⟩, ⟨x1, hx1⟩, ⟨x2, hx2⟩⟩ := smp_parts HT0.out hS1; subst hg9; have HX0 := hid hx0; have HX1 := hid hx1; have HX2 := hid hx2; have HL1 := hid (HT0.out.ok.ok _ (List.mem_of_getElem? hx1)).1; have HL2 := hid (HT0.out.ok.ok _ (List.mem_of_getElem? hx2)).1; have HN3 := hid hn3; clear hx0 hx1 hx2 hn3) | (refine wl_alloc hS1 rfl rfl ?_; intro g1 w1 h4; have hS2 : St w [] w1 ([.blk g1 27 (tab0)] ++ P1) := h4; clear h4 hS1) | (refine wl_storeA [] hS2 rfl rfl rfl rfl (vs := tabC tS (.slice (some ⟨g9, 0, none⟩) xs0.length c0) (.slice b0 tS.lives.length d0)) rfl rfl rfl ?_; intro w1 h4; have hS3 : St w [] w1 ([.blk g1 27 (tabC tS (.slice (some ⟨g9, 0, none⟩) xs0.length c0) (.slice b0 tS.lives.length d0))] ++ P1) := h4; clear h4 hS2) | (refine wl_loadE rfl rfl rfl ?_; first | refine ⟨.int .i64 tS.next, Loads.at [] hS3 rfl, ?_⟩ | refine ⟨_, Loads.at [] hS3 rfl, ?_⟩ | refine ⟨.int .i64 sR0.id, Loads.cell (inferInstance : TyS Try.prog 3).out (HT0.out.cell hS3 HX0.out (d := 0) (rfl) (by decide)), ?_⟩ | refine ⟨.int .i64 sR1.own, Loads.cell (inferInstance : TyS Try.prog 3).out (HT0.out.cell hS3 HX1.out (d := 40) (cellsR_40 HL1.out) (by decide)), ?_⟩ | refine ⟨.int .i64 sR1.id, Loads.cell (inferInstance : TyS Try.prog 3).out (HT0.out.cell hS3 HX1.out (d := 0) (rfl) (by decide)), ?_⟩ | refine ⟨.int .i64 sR2.origin, Loads.cell (inferInstance : TyS Try.prog 3).out (HT0.out.cell hS3 HX2.out (d := 41) (cellsR_41 HL2.out) (by decide)), ?_⟩) | (refine wl_index (k := 0) rfl rfl rfl rfl (by have := HN3.out; omega) ?_) | (refine wl_index (k := 1) rfl rfl rfl rfl (by have := HN3.out; omega) ?_) | (refine wl_index (k := 2) rfl rfl rfl rfl (by have := HN3.out; omega) ?_) | (refine wl_loadE rfl rfl rfl ?_; refine ⟨_, Loads.atA (tabC tS (.slice (some ⟨g9, 0, none⟩) xs0.length c0) (.slice b0 tS.lives.length d0)) [] hS3 rfl rfl, ?_⟩) | (go_at_call 10; refine (drop13_any tS (some ⟨g9, 0, none⟩) b0 xs0.length c0 tS.lives.length d0 xs0 _ (HT0.out.tab hS3 tS_bd) [97] (by decide)).mono ?_; rw [tD1_eq]; intro e9 w9 hret; obtain ⟨a1, b1, c1, d1, P2, xs1, rfl, hin, hsub, h4⟩ := ret_pool (B := [.blk g1 27 (tabC tS (.slice (some ⟨g9, 0, none⟩) xs0.length c0) (.slice b0 tS.lives.length d0))]) hS3 hret; have hS4 : St w [] w9 ([.blk g1 27 (tabC tS (.slice (some ⟨g9, 0, none⟩) xs0.length c0) (.slice b0 tS.lives.length d0))] ++ P2) := h4; clear hret h4 hS3; replace HT0 := hid (HT0.out.mono hsub); have HT1 := hid hin; clear hin hsub) | (refine wl_alloc hS4 rfl rfl ?_; intro g3 w1 h4; have hS5 : St w [] w1 ([.blk g3 27 (tab0), .blk g1 27 (tabC tS (.slice (some ⟨g9, 0, none⟩) xs0.length c0) (.slice b0 tS.lives.length d0))] ++ P2) := h4; clear h4 hS4) | (refine wl_storeA [] hS5 rfl rfl rfl rfl (vs := tabC tD1 (.slice a1 xs1.length c1) (.slice b1 tD1.lives.length d1)) rfl rfl rfl ?_; intro w1 h4; have hS6 : St w [] w1 ([.blk g3 27 (tabC tD1 (.slice a1 xs1.length c1) (.slice b1 tD1.lives.length d1)), .blk g1 27 (tabC tS (.slice (some ⟨g9, 0, none⟩) xs0.length c0) (.slice b0 tS.lives.length d0))] ++ P2) := h4; clear h4 hS5) | (refine wl_loadE rfl rfl rfl ?_; refine ⟨_, Loads.atA (tabC tS (.slice (some ⟨g9, 0, none⟩) xs0.length c0) (.slice b0 tS.lives.length d0)) [_] hS6 rfl rfl, ?_⟩) | (go_at_call 10; refine (drop13_any tS (some ⟨g9, 0, none⟩) b0 xs0.length c0 tS.lives.length d0 xs0 _ (HT0.out.tab hS6 tS_bd) [97, 64, 120] (by decide)).mono ?_; rw [tD2_eq]; intro e9 w9 hret; obtain ⟨a2, b2, c2, d2, P3, xs2, rfl, hin, hsub, h4⟩ := ret_pool (B := [.blk g3 27 (tabC tD1 (.slice a1 xs1.length c1) (.slice b1 tD1.lives.length d1)), .blk g1 27 (tabC tS (.slice (some ⟨g9, 0, none⟩) xs0.length c0) (.slice b0 tS.lives.length d0))]) hS6 hret; have hS7 : St w [] w9 ([.blk g3 27 (tabC tD1 (.slice a1 xs1.length c1) (.slice b1 tD1.lives.length d1)), .blk g1 27 (tabC tS (.slice (some ⟨g9, 0, none⟩) xs0.length c0) (.slice b0 tS.lives.length d0))] ++ P3) := h4; clear hret h4 hS6; replace HT0 := hid (HT0.out.mono hsub); replace HT1 := hid (HT1.out.mono hsub); have HT2 := hid hin; clear hin hsub) | (refine wl_alloc hS7 rfl rfl ?_; intro g5 w1 h4; have hS8 : St w [] w1 ([.blk g5 27 (tab0), .blk g3 27 (tabC tD1 (.slice a1 xs1.length c1) (.slice b1 tD1.lives.length d1)), .blk g1 27 (tabC tS (.slice (some ⟨g9, 0, none⟩) xs0.length c0) (.slice b0 tS.lives.length d0))] ++ P3) := h4; clear h4 hS7) | (refine wl_storeA [] hS8 rfl rfl rfl rfl (vs := tabC tD2 (.slice a2 xs2.length c2) (.slice b2 tD2.lives.length d2)) rfl rfl rfl ?_; intro w1 h4; have hS9 : St w [] w1 ([.blk g5 27 (tabC tD2 (.slice a2 xs2.length c2) (.slice b2 tD2.lives.length d2)), .blk g3 27 (tabC tD1 (.slice a1 xs1.length c1) (.slice b1 tD1.lives.length d1)), .blk g1 27 (tabC tS (.slice (some ⟨g9, 0, none⟩) xs0.length c0) (.slice b0 tS.lives.length d0))] ++ P3) := h4; clear h4 hS8) | (refine wl_loadE rfl rfl rfl ?_; refine ⟨_, Loads.atA (tabC tS (.slice (some ⟨g9, 0, none⟩) xs0.length c0) (.slice b0 tS.lives.length d0)) [_, _] hS9 rfl rfl, ?_⟩) | (go_at_call 10; refine (drop13_any tS (some ⟨g9, 0, none⟩) b0 xs0.length c0 tS.lives.length d0 xs0 _ (HT0.out.tab hS9 tS_bd) [98] (by decide)).mono ?_; rw [tD3_eq]; intro e9 w9 hret; obtain ⟨a3, b3, c3, d3, P4, xs3, rfl, hin, hsub, h4⟩ := ret_pool (B := [.blk g5 27 (tabC tD2 (.slice a2 xs2.length c2) (.slice b2 tD2.lives.length d2)), .blk g3 27 (tabC tD1 (.slice a1 xs1.length c1) (.slice b1 tD1.lives.length d1)), .blk g1 27 (tabC tS (.slice (some ⟨g9, 0, none⟩) xs0.length c0) (.slice b0 tS.lives.length d0))]) hS9 hret; have hS10 : St w [] w9 ([.blk g5 27 (tabC tD2 (.slice a2 xs2.length c2) (.slice b2 tD2.lives.length d2)), .blk g3 27 (tabC tD1 (.slice a1 xs1.length c1) (.slice b1 tD1.lives.length d1)), .blk g1 27 (tabC tS (.slice (some ⟨g9, 0, none⟩) xs0.length c0) (.slice b0 tS.lives.length d0))] ++ P4) := h4; clear hret h4 hS9; replace HT0 := hid (HT0.out.mono hsub); replace HT1 := hid (HT1.out.mono hsub); replace HT2 := hid (HT2.out.mono hsub); have HT3 := hid hin; clear hin hsub) | (refine wl_alloc hS10 rfl rfl ?_; intro g7 w1 h4; have hS11 : St w [] w1 ([.blk g7 27 (tab0), .blk g5 27 (tabC tD2 (.slice a2 xs2.length c2) (.slice b2 tD2.lives.length d2)), .blk g3 27 (tabC tD1 (.slice a1 xs1.length c1) (.slice b1 tD1.lives.length d1)), .blk g1 27 (tabC tS (.slice (some ⟨g9, 0, none⟩) xs0.length c0) (.slice b0 tS.lives.length d0))] ++ P4) := h4; clear h4 hS10) | (refine wl_storeA [] hS11 rfl rfl rfl rfl (vs := tabC tD3 (.slice a3 xs3.length c3) (.slice b3 tD3.lives.length d3)) rfl rfl rfl ?_; intro w1 h4; have hS12 : St w [] w1 ([.blk g7 27 (tabC tD3 (.slice a3 xs3.length c3) (.slice b3 tD3.lives.length d3)), .blk g5 27 (tabC tD2 (.slice a2 xs2.length c2) (.slice b2 tD2.lives.length d2)), .blk g3 27 (tabC tD1 (.slice a1 xs1.length c1) (.slice b1 tD1.lives.length d1)), .blk g1 27 (tabC tS (.slice (some ⟨g9, 0, none⟩) xs0.length c0) (.slice b0 tS.lives.length d0))] ++ P4) := h4; clear h4 hS11) | (refine wl_loadE rfl rfl rfl ?_; refine ⟨_, Loads.atA (tabC tD3 (.slice a3 xs3.length c3) (.slice b3 tD3.lives.length d3)) [] hS12 rfl rfl, ?_⟩) | (go_at_call 10; refine (drop13_any tD3 a3 b3 xs3.length c3 tD3.lives.length d3 xs3 _ (HT3.out.tab hS12 tD3_bd) [97, 64, 120] (by decide)).mono ?_; rw [tD4_eq]; intro e9 w9 hret; obtain ⟨a4, b4, c4, d4, P5, xs4, rfl, hin, hsub, h4⟩ := ret_pool (B := [.blk g7 27 (tabC tD3 (.slice a3 xs3.length c3) (.slice b3 tD3.lives.length d3)), .blk g5 27 (tabC tD2 (.slice a2 xs2.length c2) (.slice b2 tD2.lives.length d2)), .blk g3 27 (tabC tD1 (.slice a1 xs1.length c1) (.slice b1 tD1.lives.length d1)), .blk g1 27 (tabC tS (.slice (some ⟨g9, 0, none⟩) xs0.length c0) (.slice b0 tS.lives.length d0))]) hS12 hret; have hS13 : St w [] w9 ([.blk g7 27 (tabC tD3 (.slice a3 xs3.length c3) (.slice b3 tD3.lives.length d3)), .blk g5 27 (tabC tD2 (.slice a2 xs2.length c2) (.slice b2 tD2.lives.length d2)), .blk g3 27 (tabC tD1 (.slice a1 xs1.length c1) (.slice b1 tD1.lives.length d1)), .blk g1 27 (tabC tS (.slice (some ⟨g9, 0, none⟩) xs0.length c0) (.slice b0 tS.lives.length d0))] ++ P5) := h4; clear hret h4 hS12; replace HT0 := hid (HT0.out.mono hsub); replace HT1 := hid (HT1.out.mono hsub); replace HT2 := hid (HT2.out.mono hsub); replace HT3 := hid (HT3.out.mono hsub); have HT4 := hid hin; clear hin hsub) | (refine wl_alloc hS13 rfl rfl ?_; intro g8 w1 h4; have hS14 : St w [] w1 ([.blk g8 27 (tab0), .blk g7 27 (tabC tD3 (.slice a3 xs3.length c3) (.slice b3 tD3.lives.length d3)), .blk g5 27 (tabC tD2 (.slice a2 xs2.length c2) (.slice b2 tD2.lives.length d2)), .blk g3 27 (tabC tD1 (.slice a1 xs1.length c1) (.slice b1 tD1.lives.length d1)), .blk g1 27 (tabC tS (.slice (some ⟨g9, 0, none⟩) xs0.length c0) (.slice b0 tS.lives.length d0))] ++ P5) := h4; clear h4 hS13) | (refine wl_storeA [] hS14 rfl rfl rfl rfl (vs := tabC tD4 (.slice a4 xs4.length c4) (.slice b4 tD4.lives.length d4)) rfl rfl rfl ?_; intro w1 h4; have hS15 : St w [] w1 ([.blk g8 27 (tabC tD4 (.slice a4 xs4.length c4) (.slice b4 tD4.lives.length d4)), .blk g7 27 (tabC tD3 (.slice a3 xs3.length c3) (.slice b3 tD3.lives.length d3)), .blk g5 27 (tabC tD2 (.slice a2 xs2.length c2) (.slice b2 tD2.lives.length d2)), .blk g3 27 (tabC tD1 (.slice a1 xs1.length c1) (.slice b1 tD1.lives.length d1)), .blk g1 27 (tabC tS (.slice (some ⟨g9, 0, none⟩) xs0.length c0) (.slice b0 tS.lives.length d0))] ++ P5) := h4; clear h4 hS14) | (refine wl_loadE rfl rfl rfl ?_; refine ⟨_, Loads.atA (tabC tD4 (.slice a4 xs4.length c4) (.slice b4 tD4.lives.length d4)) [] hS15 rfl rfl, ?_⟩) | (apply wl_bsX [.string ⟨([97] : List UInt8).toArray⟩] [.string ⟨([97] : List UInt8).toArray⟩] hS15; rfl; rfl; exact rfl; exact rfl; infer_instance; infer_instance; rfl; rfl; rfl; intro gw w5 h4; have hS16 : St w [] w5 ([.blk gw 9 ([.string ⟨([97] : List UInt8).toArray⟩]), .blk g8 27 (tabC tD4 (.slice a4 xs4.length c4) (.slice b4 tD4.lives.length d4)), .blk g7 27 (tabC tD3 (.slice a3 xs3.length c3) (.slice b3 tD3.lives.length d3)), .blk g5 27 (tabC tD2 (.slice a2 xs2.length c2) (.slice b2 tD2.lives.length d2)), .blk g3 27 (tabC tD1 (.slice a1 xs1.length c1) (.slice b1 tD1.lives.length d1)), .blk g1 27 (tabC tS (.slice (some ⟨g9, 0, none⟩) xs0.length c0) (.slice b0 tS.lives.length d0))] ++ P5) := h4; clear h4 hS15) | (go_at_call 14; refine (names13_any tD4 a4 xs4.length c4 _ xs4 _ 1 1 [[97]] _ (HT4.out.recs hS16) HT4.out.ok.eq (by rw [HT4.out.ok.len]; exact tD4_rl) (Rd.blk hS16 (.head _) (Nat.le_refl _) (by decide) rfl rfl) rfl (by decide)).mono ?_; rw [tD4_names]; rintro _ w9 ⟨rfl, h4⟩; have hS17 : St w [] w9 ([.blk gw 9 ([.string ⟨([97] : List UInt8).toArray⟩]), .blk g8 27 (tabC tD4 (.slice a4 xs4.length c4) (.slice b4 tD4.lives.length d4)), .blk g7 27 (tabC tD3 (.slice a3 xs3.length c3) (.slice b3 tD3.lives.length d3)), .blk g5 27 (tabC tD2 (.slice a2 xs2.length c2) (.slice b2 tD2.lives.length d2)), .blk g3 27 (tabC tD1 (.slice a1 xs1.length c1) (.slice b1 tD1.lives.length d1)), .blk g1 27 (tabC tS (.slice (some ⟨g9, 0, none⟩) xs0.length c0) (.slice b0 tS.lives.length d0))] ++ P5) := St.call0 hS16 h4; clear h4 hS16))
  go_ret
  exact ⟨rfl, hS17.nil⟩
end Go.Proofs.Ytifajcblbedcoaa
namespace Go.Proofs.Ytifajcblbedcoaa
set_option linter.unusedVariables false
set_option linter.unusedSimpArgs false
open Go.RowKit Hp
attribute [local irreducible] Go.Calls Go.wpList tN tA tAX tS tD1 tD2 tD3 tD4 tK1 tK2 tK3 tK4 tK5 tK6 tK7 tK8 tK9 tV tV1 tV2
set_option maxRecDepth 100000
set_option maxHeartbeats 16000000
attribute [local go_sem ↓] heldInt heldInts heldRecs heldRec heldStr heldTab heldPtr heldFn
theorem known13_any (w : World) : Calls Try.prog 4 #[] w fun e w' => e = .returned (.bool true) ∧ St w [] w' [] := by
  obtain ⟨P0, hP0⟩ : ∃ P0 : List HA, P0 = [] := ⟨_, rfl⟩
  have hS0 : St w [] w ([] ++ P0) := by rw [hP0]; exact St.refl w
  clear hP0
  go_enter Try.func4, Try.ntmps4
  go_wp2_with (first | go_big_skip | go_big_guard | (go_at_call 12; refine (sample13_any _).mono ?_; intro e9 w9 hret; obtain ⟨a0, b0, c0, d0, P1, xs0, rfl, hin, h4⟩ := hret; have hS1 : St w [] w9 ([] ++ P1) := St.sub (St.call hS0 h4) (List.sublist_append_left _ _); have HT0 := hid hin; clear h4 hin hS0) | (refine wl_alloc hS1 rfl rfl ?_; intro g1 w1 h4; have hS2 : St w [] w1 ([.blk g1 27 (tab0)] ++ P1) := h4; clear h4 hS1) | (refine wl_storeA [] hS2 rfl rfl rfl rfl (vs := tabC tS (.slice a0 xs0.length c0) (.slice b0 tS.lives.length d0)) rfl rfl rfl ?_; intro w1 h4; have hS3 : St w [] w1 ([.blk g1 27 (tabC tS (.slice a0 xs0.length c0) (.slice b0 tS.lives.length d0))] ++ P1) := h4; clear h4 hS2) | (refine wl_loadE rfl rfl rfl ?_; refine ⟨_, Loads.atA (tabC tS (.slice a0 xs0.length c0) (.slice b0 tS.lives.length d0)) [] hS3 rfl rfl, ?_⟩) | (go_at_call 13; refine (rename13_any tS a0 b0 xs0.length c0 tS.lives.length d0 xs0 _ (HT0.out.tab hS3 tS_bd) [97] [99] (by decide) (by decide)).mono ?_; rw [tK1_eq]; intro e9 w9 hret; obtain ⟨a1, b1, c1, d1, P2, xs1, rfl, hin, hsub, h4⟩ := ret_pool (B := [.blk g1 27 (tabC tS (.slice a0 xs0.length c0) (.slice b0 tS.lives.length d0))]) hS3 hret; have hS4 : St w [] w9 ([.blk g1 27 (tabC tS (.slice a0 xs0.length c0) (.slice b0 tS.lives.length d0))] ++ P2) := h4; clear hret h4 hS3; replace HT0 := hid (HT0.out.mono hsub); have HT1 := hid hin; clear hin hsub) | (refine wl_alloc hS4 rfl rfl ?_; intro h1 w1 h4; have hS5 : St w [] w1 ([.blk h1 27 (tab0), .blk g1 27 (tabC tS (.slice a0 xs0.length c0) (.slice b0 tS.lives.length d0))] ++ P2) := h4; clear h4 hS4) | (refine wl_storeA [] hS5 rfl rfl rfl rfl (vs := tabC tK1 (.slice a1 xs1.length c1) (.slice b1 tK1.lives.length d1)) rfl rfl rfl ?_; intro w1 h4; have hS6 : St w [] w1 ([.blk h1 27 (tabC tK1 (.slice a1 xs1.length c1) (.slice b1 tK1.lives.length d1)), .blk g1 27 (tabC tS (.slice a0 xs0.length c0) (.slice b0 tS.lives.length d0))] ++ P2) := h4; clear h4 hS5) | (refine wl_loadE rfl rfl rfl ?_; refine ⟨_, Loads.atA (tabC tS (.slice a0 xs0.length c0) (.slice b0 tS.lives.length d0)) [_] hS6 rfl rfl, ?_⟩) | (go_at_call 13; refine (rename13_any tS a0 b0 xs0.length c0 tS.lives.length d0 xs0 _ (HT0.out.tab hS6 tS_bd) [97] [98] (by decide) (by decide)).mono ?_; rw [tK2_eq]; intro e9 w9 hret; obtain ⟨a2, b2, c2, d2, P3, xs2, rfl, hin, hsub, h4⟩ := ret_pool (B := [.blk h1 27 (tabC tK1 (.slice a1 xs1.length c1) (.slice b1 tK1.lives.length d1)), .blk g1 27 (tabC tS (.slice a0 xs0.length c0) (.slice b0 tS.lives.length d0))]) hS6 hret; have hS7 : St w [] w9 ([.blk h1 27 (tabC tK1 (.slice a1 xs1.length c1) (.slice b1 tK1.lives.length d1)), .blk g1 27 (tabC tS (.slice a0 xs0.length c0) (.slice b0 tS.lives.length d0))] ++ P3) := h4; clear hret h4 hS6; replace HT0 := hid (HT0.out.mono hsub); replace HT1 := hid (HT1.out.mono hsub); have HT2 := hid hin; clear hin hsub) | (refine wl_alloc hS7 rfl rfl ?_; intro h2 w1 h4; have hS8 : St w [] w1 ([.blk h2 27 (tab0), .blk h1 27 (tabC tK1 (.slice a1 xs1.length c1) (.slice b1 tK1.lives.length d1)), .blk g1 27 (tabC tS (.slice a0 xs0.length c0) (.slice b0 tS.lives.length d0))] ++ P3) := h4; clear h4 hS7) | (refine wl_storeA [] hS8 rfl rfl rfl rfl (vs := tabC tK2 (.slice a2 xs2.length c2) (.slice b2 tK2.lives.length d2)) rfl rfl rfl ?_; intro w1 h4; have hS9 : St w [] w1 ([.blk h2 27 (tabC tK2 (.slice a2 xs2.length c2) (.slice b2 tK2.lives.length d2)), .blk h1 27 (tabC tK1 (.slice a1 xs1.length c1) (.slice b1 tK1.lives.length d1)), .blk g1 27 (tabC tS (.slice a0 xs0.length c0) (.slice b0 tS.lives.length d0))] ++ P3) := h4; clear h4 hS8) | (refine wl_loadE rfl rfl rfl ?_; refine ⟨_, Loads.atA (tabC tS (.slice a0 xs0.length c0) (.slice b0 tS.lives.length d0)) [_, _] hS9 rfl rfl, ?_⟩) | (go_at_call 13; refine (rename13_any tS a0 b0 xs0.length c0 tS.lives.length d0 xs0 _ (HT0.out.tab hS9 tS_bd) [97, 64, 120] [98, 64, 120] (by decide) (by decide)).mono ?_; rw [tK3_eq]; intro e9 w9 hret; obtain ⟨a3, b3, c3, d3, P4, xs3, rfl, hin, hsub, h4⟩ := ret_pool (B := [.blk h2 27 (tabC tK2 (.slice a2 xs2.length c2) (.slice b2 tK2.lives.length d2)), .blk h1 27 (tabC tK1 (.slice a1 xs1.length c1) (.slice b1 tK1.lives.length d1)), .blk g1 27 (tabC tS (.slice a0 xs0.length c0) (.slice b0 tS.lives.length d0))]) hS9 hret; have hS10 : St w [] w9 ([.blk h2 27 (tabC tK2 (.slice a2 xs2.length c2) (.slice b2 tK2.lives.length d2)), .blk h1 27 (tabC tK1 (.slice a1 xs1.length c1) (.slice b1 tK1.lives.length d1)), .blk g1 27 (tabC tS (.slice a0 xs0.length c0) (.slice b0 tS.lives.length d0))] ++ P4) := h4; clear hret h4 hS9; replace HT0 := hid (HT0.out.mono hsub); replace HT1 := hid (HT1.out.mono hsub); replace HT2 := hid (HT2.out.mono hsub); have HT3 := hid hin; clear hin hsub) | (refine wl_alloc hS10 rfl rfl ?_; intro h3 w1 h4; have hS11 : St w [] w1 ([.blk h3 27 (tab0), .blk h2 27 (tabC tK2 (.slice a2 xs2.length c2) (.slice b2 tK2.lives.length d2)), .blk h1 27 (tabC tK1 (.slice a1 xs1.length c1) (.slice b1 tK1.lives.length d1)), .blk g1 27 (tabC tS (.slice a0 xs0.length c0) (.slice b0 tS.lives.length d0))] ++ P4) := h4; clear h4 hS10) | (refine wl_storeA [] hS11 rfl rfl rfl rfl (vs := tabC tK3 (.slice a3 xs3.length c3) (.slice b3 tK3.lives.length d3)) rfl rfl rfl ?_; intro w1 h4; have hS12 : St w [] w1 ([.blk h3 27 (tabC tK3 (.slice a3 xs3.length c3) (.slice b3 tK3.lives.length d3)), .blk h2 27 (tabC tK2 (.slice a2 xs2.length c2) (.slice b2 tK2.lives.length d2)), .blk h1 27 (tabC tK1 (.slice a1 xs1.length c1) (.slice b1 tK1.lives.length d1)), .blk g1 27 (tabC tS (.slice a0 xs0.length c0) (.slice b0 tS.lives.length d0))] ++ P4) := h4; clear h4 hS11) | (refine wl_loadE rfl rfl rfl ?_; refine ⟨_, Loads.atA (tabC tS (.slice a0 xs0.length c0) (.slice b0 tS.lives.length d0)) [_, _, _] hS12 rfl rfl, ?_⟩) | (go_at_call 13; refine (rename13_any tS a0 b0 xs0.length c0 tS.lives.length d0 xs0 _ (HT0.out.tab hS12 tS_bd) [97] [97] (by decide) (by decide)).mono ?_; rw [tK4_eq]; intro e9 w9 hret; obtain ⟨a4, b4, c4, d4, P5, xs4, rfl, hin, hsub, h4⟩ := ret_pool (B := [.blk h3 27 (tabC tK3 (.slice a3 xs3.length c3) (.slice b3 tK3.lives.length d3)), .blk h2 27 (tabC tK2 (.slice a2 xs2.length c2) (.slice b2 tK2.lives.length d2)), .blk h1 27 (tabC tK1 (.slice a1 xs1.length c1) (.slice b1 tK1.lives.length d1)), .blk g1 27 (tabC tS (.slice a0 xs0.length c0) (.slice b0 tS.lives.length d0))]) hS12 hret; have hS13 : St w [] w9 ([.blk h3 27 (tabC tK3 (.slice a3 xs3.length c3) (.slice b3 tK3.lives.length d3)), .blk h2 27 (tabC tK2 (.slice a2 xs2.length c2) (.slice b2 tK2.lives.length d2)), .blk h1 27 (tabC tK1 (.slice a1 xs1.length c1) (.slice b1 tK1.lives.length d1)), .blk g1 27 (tabC tS (.slice a0 xs0.length c0) (.slice b0 tS.lives.length d0))] ++ P5) := h4; clear hret h4 hS12; replace HT0 := hid (HT0.out.mono hsub); replace HT1 := hid (HT1.out.mono hsub); replace HT2 := hid (HT2.out.mono hsub); replace HT3 := hid (HT3.out.mono hsub); have HT4 := hid hin; clear hin hsub) | (refine wl_alloc hS13 rfl rfl ?_; intro h4n w1 h4; have hS14 : St w [] w1 ([.blk h4n 27 (tab0), .blk h3 27 (tabC tK3 (.slice a3 xs3.length c3) (.slice b3 tK3.lives.length d3)), .blk h2 27 (tabC tK2 (.slice a2 xs2.length c2) (.slice b2 tK2.lives.length d2)), .blk h1 27 (tabC tK1 (.slice a1 xs1.length c1) (.slice b1 tK1.lives.length d1)), .blk g1 27 (tabC tS (.slice a0 xs0.length c0) (.slice b0 tS.lives.length d0))] ++ P5) := h4; clear h4 hS13) | (refine wl_storeA [] hS14 rfl rfl rfl rfl (vs := tabC tK4 (.slice a4 xs4.length c4) (.slice b4 tK4.lives.length d4)) rfl rfl rfl ?_; intro w1 h4; have hS15 : St w [] w1 ([.blk h4n 27 (tabC tK4 (.slice a4 xs4.length c4) (.slice b4 tK4.lives.length d4)), .blk h3 27 (tabC tK3 (.slice a3 xs3.length c3) (.slice b3 tK3.lives.length d3)), .blk h2 27 (tabC tK2 (.slice a2 xs2.length c2) (.slice b2 tK2.lives.length d2)), .blk h1 27 (tabC tK1 (.slice a1 xs1.length c1) (.slice b1 tK1.lives.length d1)), .blk g1 27 (tabC tS (.slice a0 xs0.length c0) (.slice b0 tS.lives.length d0))] ++ P5) := h4; clear h4 hS14) | (refine wl_loadE rfl rfl rfl ?_; refine ⟨_, Loads.atA (tabC tK1 (.slice a1 xs1.length c1) (.slice b1 tK1.lives.length d1)) [_, _, _] hS15 rfl rfl, ?_⟩) | (apply wl_bsX [.string ⟨([98] : List UInt8).toArray⟩, .string ⟨([99] : List UInt8).toArray⟩, .string ⟨([99, 64, 120] : List UInt8).toArray⟩] [.string ⟨([98] : List UInt8).toArray⟩, .string ⟨([99] : List UInt8).toArray⟩, .string ⟨([99, 64, 120] : List UInt8).toArray⟩] hS15; rfl; rfl; exact rfl; exact rfl; infer_instance; infer_instance; rfl; rfl; rfl; intro gw w5 h4; have hS16 : St w [] w5 ([.blk gw 9 ([.string ⟨([98] : List UInt8).toArray⟩, .string ⟨([99] : List UInt8).toArray⟩, .string ⟨([99, 64, 120] : List UInt8).toArray⟩]), .blk h4n 27 (tabC tK4 (.slice a4 xs4.length c4) (.slice b4 tK4.lives.length d4)), .blk h3 27 (tabC tK3 (.slice a3 xs3.length c3) (.slice b3 tK3.lives.length d3)), .blk h2 27 (tabC tK2 (.slice a2 xs2.length c2) (.slice b2 tK2.lives.length d2)), .blk h1 27 (tabC tK1 (.slice a1 xs1.length c1) (.slice b1 tK1.lives.length d1)), .blk g1 27 (tabC tS (.slice a0 xs0.length c0) (.slice b0 tS.lives.length d0))] ++ P5) := h4; clear h4 hS15) | (go_at_call 14; refine (names13_any tK1 a1 xs1.length c1 _ xs1 _ 3 3 [[98], [99], [99, 64, 120]] _ (HT1.out.recs hS16) HT1.out.ok.eq (by rw [HT1.out.ok.len]; exact tK1_rl) (Rd.blk hS16 (.head _) (Nat.le_refl _) (by decide) rfl rfl) rfl (by decide)).mono ?_; rw [tK1_names]; rintro _ w9 ⟨rfl, h4⟩; have hS17 : St w [] w9 ([.blk gw 9 ([.string ⟨([98] : List UInt8).toArray⟩, .string ⟨([99] : List UInt8).toArray⟩, .string ⟨([99, 64, 120] : List UInt8).toArray⟩]), .blk h4n 27 (tabC tK4 (.slice a4 xs4.length c4) (.slice b4 tK4.lives.length d4)), .blk h3 27 (tabC tK3 (.slice a3 xs3.length c3) (.slice b3 tK3.lives.length d3)), .blk h2 27 (tabC tK2 (.slice a2 xs2.length c2) (.slice b2 tK2.lives.length d2)), .blk h1 27 (tabC tK1 (.slice a1 xs1.length c1) (.slice b1 tK1.lives.length d1)), .blk g1 27 (tabC tS (.slice a0 xs0.length c0) (.slice b0 tS.lives.length d0))] ++ P5) := St.call0 hS16 h4; clear h4 hS16) | (refine wl_loadE rfl rfl rfl ?_; refine ⟨_, Loads.atA (tabC tS (.slice a0 xs0.length c0) (.slice b0 tS.lives.length d0)) [_, _, _, _, _] hS17 rfl rfl, ?_⟩) | (go_at_call 15; refine (resize13_any tS a0 b0 xs0.length c0 tS.lives.length d0 xs0 _ (HT0.out.tab hS17 tS_bd) [97, 64, 120] 5 (by decide)).mono ?_; rw [tK5_eq]; intro e9 w9 hret; obtain ⟨a5, b5, c5, d5, P6, xs5, rfl, hin, hsub, h4⟩ := ret_pool (B := [.blk gw 9 ([.string ⟨([98] : List UInt8).toArray⟩, .string ⟨([99] : List UInt8).toArray⟩, .string ⟨([99, 64, 120] : List UInt8).toArray⟩]), .blk h4n 27 (tabC tK4 (.slice a4 xs4.length c4) (.slice b4 tK4.lives.length d4)), .blk h3 27 (tabC tK3 (.slice a3 xs3.length c3) (.slice b3 tK3.lives.length d3)), .blk h2 27 (tabC tK2 (.slice a2 xs2.length c2) (.slice b2 tK2.lives.length d2)), .blk h1 27 (tabC tK1 (.slice a1 xs1.length c1) (.slice b1 tK1.lives.length d1)), .blk g1 27 (tabC tS (.slice a0 xs0.length c0) (.slice b0 tS.lives.length d0))]) hS17 hret; have hS18 : St w [] w9 ([.blk gw 9 ([.string ⟨([98] : List UInt8).toArray⟩, .string ⟨([99] : List UInt8).toArray⟩, .string ⟨([99, 64, 120] : List UInt8).toArray⟩]), .blk h4n 27 (tabC tK4 (.slice a4 xs4.length c4) (.slice b4 tK4.lives.length d4)), .blk h3 27 (tabC tK3 (.slice a3 xs3.length c3) (.slice b3 tK3.lives.length d3)), .blk h2 27 (tabC tK2 (.slice a2 xs2.length c2) (.slice b2 tK2.lives.length d2)), .blk h1 27 (tabC tK1 (.slice a1 xs1.length c1) (.slice b1 tK1.lives.length d1)), .blk g1 27 (tabC tS (.slice a0 xs0.length c0) (.slice b0 tS.lives.length d0))] ++ P6) := h4; clear hret h4 hS17; replace HT0 := hid (HT0.out.mono hsub); replace HT1 := hid (HT1.out.mono hsub); replace HT2 := hid (HT2.out.mono hsub); replace HT3 := hid (HT3.out.mono hsub); replace HT4 := hid (HT4.out.mono hsub); have HT5 := hid hin; clear hin hsub) | (refine wl_alloc hS18 rfl rfl ?_; intro h5 w1 h4; have hS19 : St w [] w1 ([.blk h5 27 (tab0), .blk gw 9 ([.string ⟨([98] : List UInt8).toArray⟩, .string ⟨([99] : List UInt8).toArray⟩, .string ⟨([99, 64, 120] : List UInt8).toArray⟩]), .blk h4n 27 (tabC tK4 (.slice a4 xs4.length c4) (.slice b4 tK4.lives.length d4)), .blk h3 27 (tabC tK3 (.slice a3 xs3.length c3) (.slice b3 tK3.lives.length d3)), .blk h2 27 (tabC tK2 (.slice a2 xs2.length c2) (.slice b2 tK2.lives.length d2)), .blk h1 27 (tabC tK1 (.slice a1 xs1.length c1) (.slice b1 tK1.lives.length d1)), .blk g1 27 (tabC tS (.slice a0 xs0.length c0) (.slice b0 tS.lives.length d0))] ++ P6) := h4; clear h4 hS18) | (refine wl_storeA [] hS19 rfl rfl rfl rfl (vs := tabC tK5 (.slice a5 xs5.length c5) (.slice b5 tK5.lives.length d5)) rfl rfl rfl ?_; intro w1 h4; have hS20 : St w [] w1 ([.blk h5 27 (tabC tK5 (.slice a5 xs5.length c5) (.slice b5 tK5.lives.length d5)), .blk gw 9 ([.string ⟨([98] : List UInt8).toArray⟩, .string ⟨([99] : List UInt8).toArray⟩, .string ⟨([99, 64, 120] : List UInt8).toArray⟩]), .blk h4n 27 (tabC tK4 (.slice a4 xs4.length c4) (.slice b4 tK4.lives.length d4)), .blk h3 27 (tabC tK3 (.slice a3 xs3.length c3) (.slice b3 tK3.lives.length d3)), .blk h2 27 (tabC tK2 (.slice a2 xs2.length c2) (.slice b2 tK2.lives.length d2)), .blk h1 27 (tabC tK1 (.slice a1 xs1.length c1) (.slice b1 tK1.lives.length d1)), .blk g1 27 (tabC tS (.slice a0 xs0.length c0) (.slice b0 tS.lives.length d0))] ++ P6) := h4; clear h4 hS19) | (refine wl_loadE rfl rfl rfl ?_; refine ⟨_, Loads.atA (tabC tS (.slice a0 xs0.length c0) (.slice b0 tS.lives.length d0)) [_, _, _, _, _, _] hS20 rfl rfl, ?_⟩) | (go_at_call 16; refine (limits13_any tS a0 b0 xs0.length c0 tS.lives.length d0 xs0 _ (HT0.out.tab hS20 tS_bd) [97] 65 0 (by decide)).mono ?_; rw [tK6_eq]; intro e9 w9 hret; obtain ⟨a6, b6, c6, d6, P7, xs6, rfl, hin, hsub, h4⟩ := ret_pool (B := [.blk h5 27 (tabC tK5 (.slice a5 xs5.length c5) (.slice b5 tK5.lives.length d5)), .blk gw 9 ([.string ⟨([98] : List UInt8).toArray⟩, .string ⟨([99] : List UInt8).toArray⟩, .string ⟨([99, 64, 120] : List UInt8).toArray⟩]), .blk h4n 27 (tabC tK4 (.slice a4 xs4.length c4) (.slice b4 tK4.lives.length d4)), .blk h3 27 (tabC tK3 (.slice a3 xs3.length c3) (.slice b3 tK3.lives.length d3)), .blk h2 27 (tabC tK2 (.slice a2 xs2.length c2) (.slice b2 tK2.lives.length d2)), .blk h1 27 (tabC tK1 (.slice a1 xs1.length c1) (.slice b1 tK1.lives.length d1)), .blk g1 27 (tabC tS (.slice a0 xs0.length c0) (.slice b0 tS.lives.length d0))]) hS20 hret; have hS21 : St w [] w9 ([.blk h5 27 (tabC tK5 (.slice a5 xs5.length c5) (.slice b5 tK5.lives.length d5)), .blk gw 9 ([.string ⟨([98] : List UInt8).toArray⟩, .string ⟨([99] : List UInt8).toArray⟩, .string ⟨([99, 64, 120] : List UInt8).toArray⟩]), .blk h4n 27 (tabC tK4 (.slice a4 xs4.length c4) (.slice b4 tK4.lives.length d4)), .blk h3 27 (tabC tK3 (.slice a3 xs3.length c3) (.slice b3 tK3.lives.length d3)), .blk h2 27 (tabC tK2 (.slice a2 xs2.length c2) (.slice b2 tK2.lives.length d2)), .blk h1 27 (tabC tK1 (.slice a1 xs1.length c1) (.slice b1 tK1.lives.length d1)), .blk g1 27 (tabC tS (.slice a0 xs0.length c0) (.slice b0 tS.lives.length d0))] ++ P7) := h4; clear hret h4 hS20; replace HT0 := hid (HT0.out.mono hsub); replace HT1 := hid (HT1.out.mono hsub); replace HT2 := hid (HT2.out.mono hsub); replace HT3 := hid (HT3.out.mono hsub); replace HT4 := hid (HT4.out.mono hsub); replace HT5 := hid (HT5.out.mono hsub); have HT6 := hid hin; clear hin hsub) | (refine wl_alloc hS21 rfl rfl ?_; intro h6 w1 h4; have hS22 : St w [] w1 ([.blk h6 27 (tab0), .blk h5 27 (tabC tK5 (.slice a5 xs5.length c5) (.slice b5 tK5.lives.length d5)), .blk gw 9 ([.string ⟨([98] : List UInt8).toArray⟩, .string ⟨([99] : List UInt8).toArray⟩, .string ⟨([99, 64, 120] : List UInt8).toArray⟩]), .blk h4n 27 (tabC tK4 (.slice a4 xs4.length c4) (.slice b4 tK4.lives.length d4)), .blk h3 27 (tabC tK3 (.slice a3 xs3.length c3) (.slice b3 tK3.lives.length d3)), .blk h2 27 (tabC tK2 (.slice a2 xs2.length c2) (.slice b2 tK2.lives.length d2)), .blk h1 27 (tabC tK1 (.slice a1 xs1.length c1) (.slice b1 tK1.lives.length d1)), .blk g1 27 (tabC tS (.slice a0 xs0.length c0) (.slice b0 tS.lives.length d0))] ++ P7) := h4; clear h4 hS21) | (refine wl_storeA [] hS22 rfl rfl rfl rfl (vs := tabC tK6 (.slice a6 xs6.length c6) (.slice b6 tK6.lives.length d6)) rfl rfl rfl ?_; intro w1 h4; have hS23 : St w [] w1 ([.blk h6 27 (tabC tK6 (.slice a6 xs6.length c6) (.slice b6 tK6.lives.length d6)), .blk h5 27 (tabC tK5 (.slice a5 xs5.length c5) (.slice b5 tK5.lives.length d5)), .blk gw 9 ([.string ⟨([98] : List UInt8).toArray⟩, .string ⟨([99] : List UInt8).toArray⟩, .string ⟨([99, 64, 120] : List UInt8).toArray⟩]), .blk h4n 27 (tabC tK4 (.slice a4 xs4.length c4) (.slice b4 tK4.lives.length d4)), .blk h3 27 (tabC tK3 (.slice a3 xs3.length c3) (.slice b3 tK3.lives.length d3)), .blk h2 27 (tabC tK2 (.slice a2 xs2.length c2) (.slice b2 tK2.lives.length d2)), .blk h1 27 (tabC tK1 (.slice a1 xs1.length c1) (.slice b1 tK1.lives.length d1)), .blk g1 27 (tabC tS (.slice a0 xs0.length c0) (.slice b0 tS.lives.length d0))] ++ P7) := h4; clear h4 hS22) | (refine wl_loadE rfl rfl rfl ?_; refine ⟨_, Loads.atA (tabC tS (.slice a0 xs0.length c0) (.slice b0 tS.lives.length d0)) [_, _, _, _, _, _, _] hS23 rfl rfl, ?_⟩) | (go_at_call 7; refine (make13_any tS a0 b0 xs0.length c0 tS.lives.length d0 xs0 _ (HT0.out.tab hS23 tS_bd) [97, 64, 98] 1 1 (by decide)).mono ?_; rw [tK7_eq]; intro e9 w9 hret; obtain ⟨a7, b7, c7, d7, P8, xs7, rfl, hin, hsub, h4⟩ := ret_pool (B := [.blk h6 27 (tabC tK6 (.slice a6 xs6.length c6) (.slice b6 tK6.lives.length d6)), .blk h5 27 (tabC tK5 (.slice a5 xs5.length c5) (.slice b5 tK5.lives.length d5)), .blk gw 9 ([.string ⟨([98] : List UInt8).toArray⟩, .string ⟨([99] : List UInt8).toArray⟩, .string ⟨([99, 64, 120] : List UInt8).toArray⟩]), .blk h4n 27 (tabC tK4 (.slice a4 xs4.length c4) (.slice b4 tK4.lives.length d4)), .blk h3 27 (tabC tK3 (.slice a3 xs3.length c3) (.slice b3 tK3.lives.length d3)), .blk h2 27 (tabC tK2 (.slice a2 xs2.length c2) (.slice b2 tK2.lives.length d2)), .blk h1 27 (tabC tK1 (.slice a1 xs1.length c1) (.slice b1 tK1.lives.length d1)), .blk g1 27 (tabC tS (.slice a0 xs0.length c0) (.slice b0 tS.lives.length d0))]) hS23 hret; have hS24 : St w [] w9 ([.blk h6 27 (tabC tK6 (.slice a6 xs6.length c6) (.slice b6 tK6.lives.length d6)), .blk h5 27 (tabC tK5 (.slice a5 xs5.length c5) (.slice b5 tK5.lives.length d5)), .blk gw 9 ([.string ⟨([98] : List UInt8).toArray⟩, .string ⟨([99] : List UInt8).toArray⟩, .string ⟨([99, 64, 120] : List UInt8).toArray⟩]), .blk h4n 27 (tabC tK4 (.slice a4 xs4.length c4) (.slice b4 tK4.lives.length d4)), .blk h3 27 (tabC tK3 (.slice a3 xs3.length c3) (.slice b3 tK3.lives.length d3)), .blk h2 27 (tabC tK2 (.slice a2 xs2.length c2) (.slice b2 tK2.lives.length d2)), .blk h1 27 (tabC tK1 (.slice a1 xs1.length c1) (.slice b1 tK1.lives.length d1)), .blk g1 27 (tabC tS (.slice a0 xs0.length c0) (.slice b0 tS.lives.length d0))] ++ P8) := h4; clear hret h4 hS23; replace HT0 := hid (HT0.out.mono hsub); replace HT1 := hid (HT1.out.mono hsub); replace HT2 := hid (HT2.out.mono hsub); replace HT3 := hid (HT3.out.mono hsub); replace HT4 := hid (HT4.out.mono hsub); replace HT5 := hid (HT5.out.mono hsub); replace HT6 := hid (HT6.out.mono hsub); have HT7 := hid hin; clear hin hsub) | (refine wl_alloc hS24 rfl rfl ?_; intro h7 w1 h4; have hS25 : St w [] w1 ([.blk h7 27 (tab0), .blk h6 27 (tabC tK6 (.slice a6 xs6.length c6) (.slice b6 tK6.lives.length d6)), .blk h5 27 (tabC tK5 (.slice a5 xs5.length c5) (.slice b5 tK5.lives.length d5)), .blk gw 9 ([.string ⟨([98] : List UInt8).toArray⟩, .string ⟨([99] : List UInt8).toArray⟩, .string ⟨([99, 64, 120] : List UInt8).toArray⟩]), .blk h4n 27 (tabC tK4 (.slice a4 xs4.length c4) (.slice b4 tK4.lives.length d4)), .blk h3 27 (tabC tK3 (.slice a3 xs3.length c3) (.slice b3 tK3.lives.length d3)), .blk h2 27 (tabC tK2 (.slice a2 xs2.length c2) (.slice b2 tK2.lives.length d2)), .blk h1 27 (tabC tK1 (.slice a1 xs1.length c1) (.slice b1 tK1.lives.length d1)), .blk g1 27 (tabC tS (.slice a0 xs0.length c0) (.slice b0 tS.lives.length d0))] ++ P8) := h4; clear h4 hS24) | (refine wl_storeA [] hS25 rfl rfl rfl rfl (vs := tabC tK7 (.slice a7 xs7.length c7) (.slice b7 tK7.lives.length d7)) rfl rfl rfl ?_; intro w1 h4; have hS26 : St w [] w1 ([.blk h7 27 (tabC tK7 (.slice a7 xs7.length c7) (.slice b7 tK7.lives.length d7)), .blk h6 27 (tabC tK6 (.slice a6 xs6.length c6) (.slice b6 tK6.lives.length d6)), .blk h5 27 (tabC tK5 (.slice a5 xs5.length c5) (.slice b5 tK5.lives.length d5)), .blk gw 9 ([.string ⟨([98] : List UInt8).toArray⟩, .string ⟨([99] : List UInt8).toArray⟩, .string ⟨([99, 64, 120] : List UInt8).toArray⟩]), .blk h4n 27 (tabC tK4 (.slice a4 xs4.length c4) (.slice b4 tK4.lives.length d4)), .blk h3 27 (tabC tK3 (.slice a3 xs3.length c3) (.slice b3 tK3.lives.length d3)), .blk h2 27 (tabC tK2 (.slice a2 xs2.length c2) (.slice b2 tK2.lives.length d2)), .blk h1 27 (tabC tK1 (.slice a1 xs1.length c1) (.slice b1 tK1.lives.length d1)), .blk g1 27 (tabC tS (.slice a0 xs0.length c0) (.slice b0 tS.lives.length d0))] ++ P8) := h4; clear h4 hS25) | (refine wl_loadE rfl rfl rfl ?_; refine ⟨_, Loads.atA (tabC tS (.slice a0 xs0.length c0) (.slice b0 tS.lives.length d0)) [_, _, _, _, _, _, _, _] hS26 rfl rfl, ?_⟩) | (go_at_call 17; refine (snap13_any tS a0 b0 xs0.length c0 tS.lives.length d0 xs0 _ (HT0.out.tab hS26 tS_bd) [122, 64, 120] 1 (by decide)).mono ?_; rw [tK8_eq]; intro e9 w9 hret; obtain ⟨a8, b8, c8, d8, P9, xs8, rfl, hin, hsub, h4⟩ := ret_pool (B := [.blk h7 27 (tabC tK7 (.slice a7 xs7.length c7) (.slice b7 tK7.lives.length d7)), .blk h6 27 (tabC tK6 (.slice a6 xs6.length c6) (.slice b6 tK6.lives.length d6)), .blk h5 27 (tabC tK5 (.slice a5 xs5.length c5) (.slice b5 tK5.lives.length d5)), .blk gw 9 ([.string ⟨([98] : List UInt8).toArray⟩, .string ⟨([99] : List UInt8).toArray⟩, .string ⟨([99, 64, 120] : List UInt8).toArray⟩]), .blk h4n 27 (tabC tK4 (.slice a4 xs4.length c4) (.slice b4 tK4.lives.length d4)), .blk h3 27 (tabC tK3 (.slice a3 xs3.length c3) (.slice b3 tK3.lives.length d3)), .blk h2 27 (tabC tK2 (.slice a2 xs2.length c2) (.slice b2 tK2.lives.length d2)), .blk h1 27 (tabC tK1 (.slice a1 xs1.length c1) (.slice b1 tK1.lives.length d1)), .blk g1 27 (tabC tS (.slice a0 xs0.length c0) (.slice b0 tS.lives.length d0))]) hS26 hret; have hS27 : St w [] w9 ([.blk h7 27 (tabC tK7 (.slice a7 xs7.length c7) (.slice b7 tK7.lives.length d7)), .blk h6 27 (tabC tK6 (.slice a6 xs6.length c6) (.slice b6 tK6.lives.length d6)), .blk h5 27 (tabC tK5 (.slice a5 xs5.length c5) (.slice b5 tK5.lives.length d5)), .blk gw 9 ([.string ⟨([98] : List UInt8).toArray⟩, .string ⟨([99] : List UInt8).toArray⟩, .string ⟨([99, 64, 120] : List UInt8).toArray⟩]), .blk h4n 27 (tabC tK4 (.slice a4 xs4.length c4) (.slice b4 tK4.lives.length d4)), .blk h3 27 (tabC tK3 (.slice a3 xs3.length c3) (.slice b3 tK3.lives.length d3)), .blk h2 27 (tabC tK2 (.slice a2 xs2.length c2) (.slice b2 tK2.lives.length d2)), .blk h1 27 (tabC tK1 (.slice a1 xs1.length c1) (.slice b1 tK1.lives.length d1)), .blk g1 27 (tabC tS (.slice a0 xs0.length c0) (.slice b0 tS.lives.length d0))] ++ P9) := h4; clear hret h4 hS26; replace HT0 := hid (HT0.out.mono hsub); replace HT1 := hid (HT1.out.mono hsub); replace HT2 := hid (HT2.out.mono hsub); replace HT3 := hid (HT3.out.mono hsub); replace HT4 := hid (HT4.out.mono hsub); replace HT5 := hid (HT5.out.mono hsub); replace HT6 := hid (HT6.out.mono hsub); replace HT7 := hid (HT7.out.mono hsub); have HT8 := hid hin; clear hin hsub) | (refine wl_alloc hS27 rfl rfl ?_; intro h8 w1 h4; have hS28 : St w [] w1 ([.blk h8 27 (tab0), .blk h7 27 (tabC tK7 (.slice a7 xs7.length c7) (.slice b7 tK7.lives.length d7)), .blk h6 27 (tabC tK6 (.slice a6 xs6.length c6) (.slice b6 tK6.lives.length d6)), .blk h5 27 (tabC tK5 (.slice a5 xs5.length c5) (.slice b5 tK5.lives.length d5)), .blk gw 9 ([.string ⟨([98] : List UInt8).toArray⟩, .string ⟨([99] : List UInt8).toArray⟩, .string ⟨([99, 64, 120] : List UInt8).toArray⟩]), .blk h4n 27 (tabC tK4 (.slice a4 xs4.length c4) (.slice b4 tK4.lives.length d4)), .blk h3 27 (tabC tK3 (.slice a3 xs3.length c3) (.slice b3 tK3.lives.length d3)), .blk h2 27 (tabC tK2 (.slice a2 xs2.length c2) (.slice b2 tK2.lives.length d2)), .blk h1 27 (tabC tK1 (.slice a1 xs1.length c1) (.slice b1 tK1.lives.length d1)), .blk g1 27 (tabC tS (.slice a0 xs0.length c0) (.slice b0 tS.lives.length d0))] ++ P9) := h4; clear h4 hS27) | (refine wl_storeA [] hS28 rfl rfl rfl rfl (vs := tabC tK8 (.slice a8 xs8.length c8) (.slice b8 tK8.lives.length d8)) rfl rfl rfl ?_; intro w1 h4; have hS29 : St w [] w1 ([.blk h8 27 (tabC tK8 (.slice a8 xs8.length c8) (.slice b8 tK8.lives.length d8)), .blk h7 27 (tabC tK7 (.slice a7 xs7.length c7) (.slice b7 tK7.lives.length d7)), .blk h6 27 (tabC tK6 (.slice a6 xs6.length c6) (.slice b6 tK6.lives.length d6)), .blk h5 27 (tabC tK5 (.slice a5 xs5.length c5) (.slice b5 tK5.lives.length d5)), .blk gw 9 ([.string ⟨([98] : List UInt8).toArray⟩, .string ⟨([99] : List UInt8).toArray⟩, .string ⟨([99, 64, 120] : List UInt8).toArray⟩]), .blk h4n 27 (tabC tK4 (.slice a4 xs4.length c4) (.slice b4 tK4.lives.length d4)), .blk h3 27 (tabC tK3 (.slice a3 xs3.length c3) (.slice b3 tK3.lives.length d3)), .blk h2 27 (tabC tK2 (.slice a2 xs2.length c2) (.slice b2 tK2.lives.length d2)), .blk h1 27 (tabC tK1 (.slice a1 xs1.length c1) (.slice b1 tK1.lives.length d1)), .blk g1 27 (tabC tS (.slice a0 xs0.length c0) (.slice b0 tS.lives.length d0))] ++ P9) := h4; clear h4 hS28) | (refine wl_loadE rfl rfl rfl ?_; refine ⟨_, Loads.atA (tabC tS (.slice a0 xs0.length c0) (.slice b0 tS.lives.length d0)) [_, _, _, _, _, _, _, _, _] hS29 rfl rfl, ?_⟩) | (go_at_call 7; refine (make13_any tS a0 b0 xs0.length c0 tS.lives.length d0 xs0 _ (HT0.out.tab hS29 tS_bd) [98] 4 4 (by decide)).mono ?_; rw [tK9_eq]; intro e9 w9 hret; obtain ⟨a9, b9, c9, d9, P10, xs9, rfl, hin, hsub, h4⟩ := ret_pool (B := [.blk h8 27 (tabC tK8 (.slice a8 xs8.length c8) (.slice b8 tK8.lives.length d8)), .blk h7 27 (tabC tK7 (.slice a7 xs7.length c7) (.slice b7 tK7.lives.length d7)), .blk h6 27 (tabC tK6 (.slice a6 xs6.length c6) (.slice b6 tK6.lives.length d6)), .blk h5 27 (tabC tK5 (.slice a5 xs5.length c5) (.slice b5 tK5.lives.length d5)), .blk gw 9 ([.string ⟨([98] : List UInt8).toArray⟩, .string ⟨([99] : List UInt8).toArray⟩, .string ⟨([99, 64, 120] : List UInt8).toArray⟩]), .blk h4n 27 (tabC tK4 (.slice a4 xs4.length c4) (.slice b4 tK4.lives.length d4)), .blk h3 27 (tabC tK3 (.slice a3 xs3.length c3) (.slice b3 tK3.lives.length d3)), .blk h2 27 (tabC tK2 (.slice a2 xs2.length c2) (.slice b2 tK2.lives.length d2)), .blk h1 27 (tabC tK1 (.slice a1 xs1.length c1) (.slice b1 tK1.lives.length d1)), .blk g1 27 (tabC tS (.slice a0 xs0.length c0) (.slice b0 tS.lives.length d0))]) hS29 hret; have hS30 : St w [] w9 ([.blk h8 27 (tabC tK8 (.slice a8 xs8.length c8) (.slice b8 tK8.lives.length d8)), .blk h7 27 (tabC tK7 (.slice a7 xs7.length c7) (.slice b7 tK7.lives.length d7)), .blk h6 27 (tabC tK6 (.slice a6 xs6.length c6) (.slice b6 tK6.lives.length d6)), .blk h5 27 (tabC tK5 (.slice a5 xs5.length c5) (.slice b5 tK5.lives.length d5)), .blk gw 9 ([.string ⟨([98] : List UInt8).toArray⟩, .string ⟨([99] : List UInt8).toArray⟩, .string ⟨([99, 64, 120] : List UInt8).toArray⟩]), .blk h4n 27 (tabC tK4 (.slice a4 xs4.length c4) (.slice b4 tK4.lives.length d4)), .blk h3 27 (tabC tK3 (.slice a3 xs3.length c3) (.slice b3 tK3.lives.length d3)), .blk h2 27 (tabC tK2 (.slice a2 xs2.length c2) (.slice b2 tK2.lives.length d2)), .blk h1 27 (tabC tK1 (.slice a1 xs1.length c1) (.slice b1 tK1.lives.length d1)), .blk g1 27 (tabC tS (.slice a0 xs0.length c0) (.slice b0 tS.lives.length d0))] ++ P10) := h4; clear hret h4 hS29; replace HT0 := hid (HT0.out.mono hsub); replace HT1 := hid (HT1.out.mono hsub); replace HT2 := hid (HT2.out.mono hsub); replace HT3 := hid (HT3.out.mono hsub); replace HT4 := hid (HT4.out.mono hsub); replace HT5 := hid (HT5.out.mono hsub); replace HT6 := hid (HT6.out.mono hsub); replace HT7 := hid (HT7.out.mono hsub); replace HT8 := hid (HT8.out.mono hsub); have HT9 := hid hin; clear hin hsub) | (refine wl_alloc hS30 rfl rfl ?_; intro h9 w1 h4; have hS31 : St w [] w1 ([.blk h9 27 (tab0), .blk h8 27 (tabC tK8 (.slice a8 xs8.length c8) (.slice b8 tK8.lives.length d8)), .blk h7 27 (tabC tK7 (.slice a7 xs7.length c7) (.slice b7 tK7.lives.length d7)), .blk h6 27 (tabC tK6 (.slice a6 xs6.length c6) (.slice b6 tK6.lives.length d6)), .blk h5 27 (tabC tK5 (.slice a5 xs5.length c5) (.slice b5 tK5.lives.length d5)), .blk gw 9 ([.string ⟨([98] : List UInt8).toArray⟩, .string ⟨([99] : List UInt8).toArray⟩, .string ⟨([99, 64, 120] : List UInt8).toArray⟩]), .blk h4n 27 (tabC tK4 (.slice a4 xs4.length c4) (.slice b4 tK4.lives.length d4)), .blk h3 27 (tabC tK3 (.slice a3 xs3.length c3) (.slice b3 tK3.lives.length d3)), .blk h2 27 (tabC tK2 (.slice a2 xs2.length c2) (.slice b2 tK2.lives.length d2)), .blk h1 27 (tabC tK1 (.slice a1 xs1.length c1) (.slice b1 tK1.lives.length d1)), .blk g1 27 (tabC tS (.slice a0 xs0.length c0) (.slice b0 tS.lives.length d0))] ++ P10) := h4; clear h4 hS30) | (refine wl_storeA [] hS31 rfl rfl rfl rfl (vs := tabC tK9 (.slice a9 xs9.length c9) (.slice b9 tK9.lives.length d9)) rfl rfl rfl ?_; intro w1 h4; have hS32 : St w [] w1 ([.blk h9 27 (tabC tK9 (.slice a9 xs9.length c9) (.slice b9 tK9.lives.length d9)), .blk h8 27 (tabC tK8 (.slice a8 xs8.length c8) (.slice b8 tK8.lives.length d8)), .blk h7 27 (tabC tK7 (.slice a7 xs7.length c7) (.slice b7 tK7.lives.length d7)), .blk h6 27 (tabC tK6 (.slice a6 xs6.length c6) (.slice b6 tK6.lives.length d6)), .blk h5 27 (tabC tK5 (.slice a5 xs5.length c5) (.slice b5 tK5.lives.length d5)), .blk gw 9 ([.string ⟨([98] : List UInt8).toArray⟩, .string ⟨([99] : List UInt8).toArray⟩, .string ⟨([99, 64, 120] : List UInt8).toArray⟩]), .blk h4n 27 (tabC tK4 (.slice a4 xs4.length c4) (.slice b4 tK4.lives.length d4)), .blk h3 27 (tabC tK3 (.slice a3 xs3.length c3) (.slice b3 tK3.lives.length d3)), .blk h2 27 (tabC tK2 (.slice a2 xs2.length c2) (.slice b2 tK2.lives.length d2)), .blk h1 27 (tabC tK1 (.slice a1 xs1.length c1) (.slice b1 tK1.lives.length d1)), .blk g1 27 (tabC tS (.slice a0 xs0.length c0) (.slice b0 tS.lives.length d0))] ++ P10) := h4; clear h4 hS31) | (refine wl_loadE rfl rfl rfl ?_; refine ⟨_, Loads.atA (tabC tS (.slice a0 xs0.length c0) (.slice b0 tS.lives.length d0)) [_, _, _, _, _, _, _, _, _, _] hS32 rfl rfl, ?_⟩) | (go_at_call 17; refine (snap13_any tS a0 b0 xs0.length c0 tS.lives.length d0 xs0 _ (HT0.out.tab hS32 tS_bd) [97, 64, 121] 4 (by decide)).mono ?_; rw [tV_eq]; intro e9 w9 hret; obtain ⟨a10, b10, c10, d10, P11, xs10, rfl, hin, hsub, h4⟩ := ret_pool (B := [.blk h9 27 (tabC tK9 (.slice a9 xs9.length c9) (.slice b9 tK9.lives.length d9)), .blk h8 27 (tabC tK8 (.slice a8 xs8.length c8) (.slice b8 tK8.lives.length d8)), .blk h7 27 (tabC tK7 (.slice a7 xs7.length c7) (.slice b7 tK7.lives.length d7)), .blk h6 27 (tabC tK6 (.slice a6 xs6.length c6) (.slice b6 tK6.lives.length d6)), .blk h5 27 (tabC tK5 (.slice a5 xs5.length c5) (.slice b5 tK5.lives.length d5)), .blk gw 9 ([.string ⟨([98] : List UInt8).toArray⟩, .string ⟨([99] : List UInt8).toArray⟩, .string ⟨([99, 64, 120] : List UInt8).toArray⟩]), .blk h4n 27 (tabC tK4 (.slice a4 xs4.length c4) (.slice b4 tK4.lives.length d4)), .blk h3 27 (tabC tK3 (.slice a3 xs3.length c3) (.slice b3 tK3.lives.length d3)), .blk h2 27 (tabC tK2 (.slice a2 xs2.length c2) (.slice b2 tK2.lives.length d2)), .blk h1 27 (tabC tK1 (.slice a1 xs1.length c1) (.slice b1 tK1.lives.length d1)), .blk g1 27 (tabC tS (.slice a0 xs0.length c0) (.slice b0 tS.lives.length d0))]) hS32 hret; have hS33 : St w [] w9 ([.blk h9 27 (tabC tK9 (.slice a9 xs9.length c9) (.slice b9 tK9.lives.length d9)), .blk h8 27 (tabC tK8 (.slice a8 xs8.length c8) (.slice b8 tK8.lives.length d8)), .blk h7 27 (tabC tK7 (.slice a7 xs7.length c7) (.slice b7 tK7.lives.length d7)), .blk h6 27 (tabC tK6 (.slice a6 xs6.length c6) (.slice b6 tK6.lives.length d6)), .blk h5 27 (tabC tK5 (.slice a5 xs5.length c5) (.slice b5 tK5.lives.length d5)), .blk gw 9 ([.string ⟨([98] : List UInt8).toArray⟩, .string ⟨([99] : List UInt8).toArray⟩, .string ⟨([99, 64, 120] : List UInt8).toArray⟩]), .blk h4n 27 (tabC tK4 (.slice a4 xs4.length c4) (.slice b4 tK4.lives.length d4)), .blk h3 27 (tabC tK3 (.slice a3 xs3.length c3) (.slice b3 tK3.lives.length d3)), .blk h2 27 (tabC tK2 (.slice a2 xs2.length c2) (.slice b2 tK2.lives.length d2)), .blk h1 27 (tabC tK1 (.slice a1 xs1.length c1) (.slice b1 tK1.lives.length d1)), .blk g1 27 (tabC tS (.slice a0 xs0.length c0) (.slice b0 tS.lives.length d0))] ++ P11) := h4; clear hret h4 hS32; replace HT0 := hid (HT0.out.mono hsub); replace HT1 := hid (HT1.out.mono hsub); replace HT2 := hid (HT2.out.mono hsub); replace HT3 := hid (HT3.out.mono hsub); replace HT4 := hid (HT4.out.mono hsub); replace HT5 := hid (HT5.out.mono hsub); replace HT6 := hid (HT6.out.mono hsub); replace HT7 := hid (HT7.out.mono hsub); replace HT8 := hid (HT8.out.mono hsub); replace HT9 := hid (HT9.out.mono hsub); have HT10 := hid hin; clear hin hsub) | (refine wl_alloc hS33 rfl rfl ?_; intro h10 w1 h4; have hS34 : St w [] w1 ([.blk h10 27 (tab0), .blk h9 27 (tabC tK9 (.slice a9 xs9.length c9) (.slice b9 tK9.lives.length d9)), .blk h8 27 (tabC tK8 (.slice a8 xs8.length c8) (.slice b8 tK8.lives.length d8)), .blk h7 27 (tabC tK7 (.slice a7 xs7.length c7) (.slice b7 tK7.lives.length d7)), .blk h6 27 (tabC tK6 (.slice a6 xs6.length c6) (.slice b6 tK6.lives.length d6)), .blk h5 27 (tabC tK5 (.slice a5 xs5.length c5) (.slice b5 tK5.lives.length d5)), .blk gw 9 ([.string ⟨([98] : List UInt8).toArray⟩, .string ⟨([99] : List UInt8).toArray⟩, .string ⟨([99, 64, 120] : List UInt8).toArray⟩]), .blk h4n 27 (tabC tK4 (.slice a4 xs4.length c4) (.slice b4 tK4.lives.length d4)), .blk h3 27 (tabC tK3 (.slice a3 xs3.length c3) (.slice b3 tK3.lives.length d3)), .blk h2 27 (tabC tK2 (.slice a2 xs2.length c2) (.slice b2 tK2.lives.length d2)), .blk h1 27 (tabC tK1 (.slice a1 xs1.length c1) (.slice b1 tK1.lives.length d1)), .blk g1 27 (tabC tS (.slice a0 xs0.length c0) (.slice b0 tS.lives.length d0))] ++ P11) := h4; clear h4 hS33) | (refine wl_storeA [] hS34 rfl rfl rfl rfl (vs := tabC tV (.slice a10 xs10.length c10) (.slice b10 tV.lives.length d10)) rfl rfl rfl ?_; intro w1 h4; have hS35 : St w [] w1 ([.blk h10 27 (tabC tV (.slice a10 xs10.length c10) (.slice b10 tV.lives.length d10)), .blk h9 27 (tabC tK9 (.slice a9 xs9.length c9) (.slice b9 tK9.lives.length d9)), .blk h8 27 (tabC tK8 (.slice a8 xs8.length c8) (.slice b8 tK8.lives.length d8)), .blk h7 27 (tabC tK7 (.slice a7 xs7.length c7) (.slice b7 tK7.lives.length d7)), .blk h6 27 (tabC tK6 (.slice a6 xs6.length c6) (.slice b6 tK6.lives.length d6)), .blk h5 27 (tabC tK5 (.slice a5 xs5.length c5) (.slice b5 tK5.lives.length d5)), .blk gw 9 ([.string ⟨([98] : List UInt8).toArray⟩, .string ⟨([99] : List UInt8).toArray⟩, .string ⟨([99, 64, 120] : List UInt8).toArray⟩]), .blk h4n 27 (tabC tK4 (.slice a4 xs4.length c4) (.slice b4 tK4.lives.length d4)), .blk h3 27 (tabC tK3 (.slice a3 xs3.length c3) (.slice b3 tK3.lives.length d3)), .blk h2 27 (tabC tK2 (.slice a2 xs2.length c2) (.slice b2 tK2.lives.length d2)), .blk h1 27 (tabC tK1 (.slice a1 xs1.length c1) (.slice b1 tK1.lives.length d1)), .blk g1 27 (tabC tS (.slice a0 xs0.length c0) (.slice b0 tS.lives.length d0))] ++ P11) := h4; clear h4 hS34) | (refine wl_loadE rfl rfl rfl ?_; refine ⟨_, Loads.atA (tabC tV (.slice a10 xs10.length c10) (.slice b10 tV.lives.length d10)) [] hS35 rfl rfl, ?_⟩) | (go_at_call 18; refine (roll13_any tV a10 b10 xs10.length c10 tV.lives.length d10 xs10 _ (HT10.out.tab hS35 tV_bd) [97, 64, 120] (by decide)).mono ?_; rw [tV1_eq]; intro e9 w9 hret; obtain ⟨a11, b11, c11, d11, P12, xs11, rfl, hin, hsub, h4⟩ := ret_pool (B := [.blk h10 27 (tabC tV (.slice a10 xs10.length c10) (.slice b10 tV.lives.length d10)), .blk h9 27 (tabC tK9 (.slice a9 xs9.length c9) (.slice b9 tK9.lives.length d9)), .blk h8 27 (tabC tK8 (.slice a8 xs8.length c8) (.slice b8 tK8.lives.length d8)), .blk h7 27 (tabC tK7 (.slice a7 xs7.length c7) (.slice b7 tK7.lives.length d7)), .blk h6 27 (tabC tK6 (.slice a6 xs6.length c6) (.slice b6 tK6.lives.length d6)), .blk h5 27 (tabC tK5 (.slice a5 xs5.length c5) (.slice b5 tK5.lives.length d5)), .blk gw 9 ([.string ⟨([98] : List UInt8).toArray⟩, .string ⟨([99] : List UInt8).toArray⟩, .string ⟨([99, 64, 120] : List UInt8).toArray⟩]), .blk h4n 27 (tabC tK4 (.slice a4 xs4.length c4) (.slice b4 tK4.lives.length d4)), .blk h3 27 (tabC tK3 (.slice a3 xs3.length c3) (.slice b3 tK3.lives.length d3)), .blk h2 27 (tabC tK2 (.slice a2 xs2.length c2) (.slice b2 tK2.lives.length d2)), .blk h1 27 (tabC tK1 (.slice a1 xs1.length c1) (.slice b1 tK1.lives.length d1)), .blk g1 27 (tabC tS (.slice a0 xs0.length c0) (.slice b0 tS.lives.length d0))]) hS35 hret; have hS36 : St w [] w9 ([.blk h10 27 (tabC tV (.slice a10 xs10.length c10) (.slice b10 tV.lives.length d10)), .blk h9 27 (tabC tK9 (.slice a9 xs9.length c9) (.slice b9 tK9.lives.length d9)), .blk h8 27 (tabC tK8 (.slice a8 xs8.length c8) (.slice b8 tK8.lives.length d8)), .blk h7 27 (tabC tK7 (.slice a7 xs7.length c7) (.slice b7 tK7.lives.length d7)), .blk h6 27 (tabC tK6 (.slice a6 xs6.length c6) (.slice b6 tK6.lives.length d6)), .blk h5 27 (tabC tK5 (.slice a5 xs5.length c5) (.slice b5 tK5.lives.length d5)), .blk gw 9 ([.string ⟨([98] : List UInt8).toArray⟩, .string ⟨([99] : List UInt8).toArray⟩, .string ⟨([99, 64, 120] : List UInt8).toArray⟩]), .blk h4n 27 (tabC tK4 (.slice a4 xs4.length c4) (.slice b4 tK4.lives.length d4)), .blk h3 27 (tabC tK3 (.slice a3 xs3.length c3) (.slice b3 tK3.lives.length d3)), .blk h2 27 (tabC tK2 (.slice a2 xs2.length c2) (.slice b2 tK2.lives.length d2)), .blk h1 27 (tabC tK1 (.slice a1 xs1.length c1) (.slice b1 tK1.lives.length d1)), .blk g1 27 (tabC tS (.slice a0 xs0.length c0) (.slice b0 tS.lives.length d0))] ++ P12) := h4; clear hret h4 hS35; replace HT0 := hid (HT0.out.mono hsub); replace HT1 := hid (HT1.out.mono hsub); replace HT2 := hid (HT2.out.mono hsub); replace HT3 := hid (HT3.out.mono hsub); replace HT4 := hid (HT4.out.mono hsub); replace HT5 := hid (HT5.out.mono hsub); replace HT6 := hid (HT6.out.mono hsub); replace HT7 := hid (HT7.out.mono hsub); replace HT8 := hid (HT8.out.mono hsub); replace HT9 := hid (HT9.out.mono hsub); replace HT10 := hid (HT10.out.mono hsub); have HT11 := hid hin; clear hin hsub) | (refine wl_alloc hS36 rfl rfl ?_; intro h11 w1 h4; have hS37 : St w [] w1 ([.blk h11 27 (tab0), .blk h10 27 (tabC tV (.slice a10 xs10.length c10) (.slice b10 tV.lives.length d10)), .blk h9 27 (tabC tK9 (.slice a9 xs9.length c9) (.slice b9 tK9.lives.length d9)), .blk h8 27 (tabC tK8 (.slice a8 xs8.length c8) (.slice b8 tK8.lives.length d8)), .blk h7 27 (tabC tK7 (.slice a7 xs7.length c7) (.slice b7 tK7.lives.length d7)), .blk h6 27 (tabC tK6 (.slice a6 xs6.length c6) (.slice b6 tK6.lives.length d6)), .blk h5 27 (tabC tK5 (.slice a5 xs5.length c5) (.slice b5 tK5.lives.length d5)), .blk gw 9 ([.string ⟨([98] : List UInt8).toArray⟩, .string ⟨([99] : List UInt8).toArray⟩, .string ⟨([99, 64, 120] : List UInt8).toArray⟩]), .blk h4n 27 (tabC tK4 (.slice a4 xs4.length c4) (.slice b4 tK4.lives.length d4)), .blk h3 27 (tabC tK3 (.slice a3 xs3.length c3) (.slice b3 tK3.lives.length d3)), .blk h2 27 (tabC tK2 (.slice a2 xs2.length c2) (.slice b2 tK2.lives.length d2)), .blk h1 27 (tabC tK1 (.slice a1 xs1.length c1) (.slice b1 tK1.lives.length d1)), .blk g1 27 (tabC tS (.slice a0 xs0.length c0) (.slice b0 tS.lives.length d0))] ++ P12) := h4; clear h4 hS36) | (refine wl_storeA [] hS37 rfl rfl rfl rfl (vs := tabC tV1 (.slice a11 xs11.length c11) (.slice b11 tV1.lives.length d11)) rfl rfl rfl ?_; intro w1 h4; have hS38 : St w [] w1 ([.blk h11 27 (tabC tV1 (.slice a11 xs11.length c11) (.slice b11 tV1.lives.length d11)), .blk h10 27 (tabC tV (.slice a10 xs10.length c10) (.slice b10 tV.lives.length d10)), .blk h9 27 (tabC tK9 (.slice a9 xs9.length c9) (.slice b9 tK9.lives.length d9)), .blk h8 27 (tabC tK8 (.slice a8 xs8.length c8) (.slice b8 tK8.lives.length d8)), .blk h7 27 (tabC tK7 (.slice a7 xs7.length c7) (.slice b7 tK7.lives.length d7)), .blk h6 27 (tabC tK6 (.slice a6 xs6.length c6) (.slice b6 tK6.lives.length d6)), .blk h5 27 (tabC tK5 (.slice a5 xs5.length c5) (.slice b5 tK5.lives.length d5)), .blk gw 9 ([.string ⟨([98] : List UInt8).toArray⟩, .string ⟨([99] : List UInt8).toArray⟩, .string ⟨([99, 64, 120] : List UInt8).toArray⟩]), .blk h4n 27 (tabC tK4 (.slice a4 xs4.length c4) (.slice b4 tK4.lives.length d4)), .blk h3 27 (tabC tK3 (.slice a3 xs3.length c3) (.slice b3 tK3.lives.length d3)), .blk h2 27 (tabC tK2 (.slice a2 xs2.length c2) (.slice b2 tK2.lives.length d2)), .blk h1 27 (tabC tK1 (.slice a1 xs1.length c1) (.slice b1 tK1.lives.length d1)), .blk g1 27 (tabC tS (.slice a0 xs0.length c0) (.slice b0 tS.lives.length d0))] ++ P12) := h4; clear h4 hS37) | (refine wl_loadE rfl rfl rfl ?_; refine ⟨_, Loads.atA (tabC tV (.slice a10 xs10.length c10) (.slice b10 tV.lives.length d10)) [_] hS38 rfl rfl, ?_⟩) | (go_at_call 18; refine (roll13_any tV a10 b10 xs10.length c10 tV.lives.length d10 xs10 _ (HT10.out.tab hS38 tV_bd) [97, 64, 121] (by decide)).mono ?_; rw [tV2_eq]; intro e9 w9 hret; obtain ⟨a12, b12, c12, d12, P13, xs12, rfl, hin, hsub, h4⟩ := ret_pool (B := [.blk h11 27 (tabC tV1 (.slice a11 xs11.length c11) (.slice b11 tV1.lives.length d11)), .blk h10 27 (tabC tV (.slice a10 xs10.length c10) (.slice b10 tV.lives.length d10)), .blk h9 27 (tabC tK9 (.slice a9 xs9.length c9) (.slice b9 tK9.lives.length d9)), .blk h8 27 (tabC tK8 (.slice a8 xs8.length c8) (.slice b8 tK8.lives.length d8)), .blk h7 27 (tabC tK7 (.slice a7 xs7.length c7) (.slice b7 tK7.lives.length d7)), .blk h6 27 (tabC tK6 (.slice a6 xs6.length c6) (.slice b6 tK6.lives.length d6)), .blk h5 27 (tabC tK5 (.slice a5 xs5.length c5) (.slice b5 tK5.lives.length d5)), .blk gw 9 ([.string ⟨([98] : List UInt8).toArray⟩, .string ⟨([99] : List UInt8).toArray⟩, .string ⟨([99, 64, 120] : List UInt8).toArray⟩]), .blk h4n 27 (tabC tK4 (.slice a4 xs4.length c4) (.slice b4 tK4.lives.length d4)), .blk h3 27 (tabC tK3 (.slice a3 xs3.length c3) (.slice b3 tK3.lives.length d3)), .blk h2 27 (tabC tK2 (.slice a2 xs2.length c2) (.slice b2 tK2.lives.length d2)), .blk h1 27 (tabC tK1 (.slice a1 xs1.length c1) (.slice b1 tK1.lives.length d1)), .blk g1 27 (tabC tS (.slice a0 xs0.length c0) (.slice b0 tS.lives.length d0))]) hS38 hret; have hS39 : St w [] w9 ([.blk h11 27 (tabC tV1 (.slice a11 xs11.length c11) (.slice b11 tV1.lives.length d11)), .blk h10 27 (tabC tV (.slice a10 xs10.length c10) (.slice b10 tV.lives.length d10)), .blk h9 27 (tabC tK9 (.slice a9 xs9.length c9) (.slice b9 tK9.lives.length d9)), .blk h8 27 (tabC tK8 (.slice a8 xs8.length c8) (.slice b8 tK8.lives.length d8)), .blk h7 27 (tabC tK7 (.slice a7 xs7.length c7) (.slice b7 tK7.lives.length d7)), .blk h6 27 (tabC tK6 (.slice a6 xs6.length c6) (.slice b6 tK6.lives.length d6)), .blk h5 27 (tabC tK5 (.slice a5 xs5.length c5) (.slice b5 tK5.lives.length d5)), .blk gw 9 ([.string ⟨([98] : List UInt8).toArray⟩, .string ⟨([99] : List UInt8).toArray⟩, .string ⟨([99, 64, 120] : List UInt8).toArray⟩]), .blk h4n 27 (tabC tK4 (.slice a4 xs4.length c4) (.slice b4 tK4.lives.length d4)), .blk h3 27 (tabC tK3 (.slice a3 xs3.length c3) (.slice b3 tK3.lives.length d3)), .blk h2 27 (tabC tK2 (.slice a2 xs2.length c2) (.slice b2 tK2.lives.length d2)), .blk h1 27 (tabC tK1 (.slice a1 xs1.length c1) (.slice b1 tK1.lives.length d1)), .blk g1 27 (tabC tS (.slice a0 xs0.length c0) (.slice b0 tS.lives.length d0))] ++ P13) := h4; clear hret h4 hS38; replace HT0 := hid (HT0.out.mono hsub); replace HT1 := hid (HT1.out.mono hsub); replace HT2 := hid (HT2.out.mono hsub); replace HT3 := hid (HT3.out.mono hsub); replace HT4 := hid (HT4.out.mono hsub); replace HT5 := hid (HT5.out.mono hsub); replace HT6 := hid (HT6.out.mono hsub); replace HT7 := hid (HT7.out.mono hsub); replace HT8 := hid (HT8.out.mono hsub); replace HT9 := hid (HT9.out.mono hsub); replace HT10 := hid (HT10.out.mono hsub); replace HT11 := hid (HT11.out.mono hsub); have HT12 := hid hin; clear hin hsub) | (refine wl_alloc hS39 rfl rfl ?_; intro h12 w1 h4; have hS40 : St w [] w1 ([.blk h12 27 (tab0), .blk h11 27 (tabC tV1 (.slice a11 xs11.length c11) (.slice b11 tV1.lives.length d11)), .blk h10 27 (tabC tV (.slice a10 xs10.length c10) (.slice b10 tV.lives.length d10)), .blk h9 27 (tabC tK9 (.slice a9 xs9.length c9) (.slice b9 tK9.lives.length d9)), .blk h8 27 (tabC tK8 (.slice a8 xs8.length c8) (.slice b8 tK8.lives.length d8)), .blk h7 27 (tabC tK7 (.slice a7 xs7.length c7) (.slice b7 tK7.lives.length d7)), .blk h6 27 (tabC tK6 (.slice a6 xs6.length c6) (.slice b6 tK6.lives.length d6)), .blk h5 27 (tabC tK5 (.slice a5 xs5.length c5) (.slice b5 tK5.lives.length d5)), .blk gw 9 ([.string ⟨([98] : List UInt8).toArray⟩, .string ⟨([99] : List UInt8).toArray⟩, .string ⟨([99, 64, 120] : List UInt8).toArray⟩]), .blk h4n 27 (tabC tK4 (.slice a4 xs4.length c4) (.slice b4 tK4.lives.length d4)), .blk h3 27 (tabC tK3 (.slice a3 xs3.length c3) (.slice b3 tK3.lives.length d3)), .blk h2 27 (tabC tK2 (.slice a2 xs2.length c2) (.slice b2 tK2.lives.length d2)), .blk h1 27 (tabC tK1 (.slice a1 xs1.length c1) (.slice b1 tK1.lives.length d1)), .blk g1 27 (tabC tS (.slice a0 xs0.length c0) (.slice b0 tS.lives.length d0))] ++ P13) := h4; clear h4 hS39) | (refine wl_storeA [] hS40 rfl rfl rfl rfl (vs := tabC tV2 (.slice a12 xs12.length c12) (.slice b12 tV2.lives.length d12)) rfl rfl rfl ?_; intro w1 h4; have hS41 : St w [] w1 ([.blk h12 27 (tabC tV2 (.slice a12 xs12.length c12) (.slice b12 tV2.lives.length d12)), .blk h11 27 (tabC tV1 (.slice a11 xs11.length c11) (.slice b11 tV1.lives.length d11)), .blk h10 27 (tabC tV (.slice a10 xs10.length c10) (.slice b10 tV.lives.length d10)), .blk h9 27 (tabC tK9 (.slice a9 xs9.length c9) (.slice b9 tK9.lives.length d9)), .blk h8 27 (tabC tK8 (.slice a8 xs8.length c8) (.slice b8 tK8.lives.length d8)), .blk h7 27 (tabC tK7 (.slice a7 xs7.length c7) (.slice b7 tK7.lives.length d7)), .blk h6 27 (tabC tK6 (.slice a6 xs6.length c6) (.slice b6 tK6.lives.length d6)), .blk h5 27 (tabC tK5 (.slice a5 xs5.length c5) (.slice b5 tK5.lives.length d5)), .blk gw 9 ([.string ⟨([98] : List UInt8).toArray⟩, .string ⟨([99] : List UInt8).toArray⟩, .string ⟨([99, 64, 120] : List UInt8).toArray⟩]), .blk h4n 27 (tabC tK4 (.slice a4 xs4.length c4) (.slice b4 tK4.lives.length d4)), .blk h3 27 (tabC tK3 (.slice a3 xs3.length c3) (.slice b3 tK3.lives.length d3)), .blk h2 27 (tabC tK2 (.slice a2 xs2.length c2) (.slice b2 tK2.lives.length d2)), .blk h1 27 (tabC tK1 (.slice a1 xs1.length c1) (.slice b1 tK1.lives.length d1)), .blk g1 27 (tabC tS (.slice a0 xs0.length c0) (.slice b0 tS.lives.length d0))] ++ P13) := h4; clear h4 hS40) | (go_at_call 11; refine (awake13_any _).mono ?_; rintro _ w9 ⟨rfl, h4⟩; have hE := St.call0 hS41 h4; clear h4 hS41))
  go_ret
  exact ⟨rfl, hE.nil⟩
end Go.Proofs.Ytifajcblbedcoaa
namespace Go.Proofs.Ytifajcblbedcoaa
set_option linter.unusedVariables false
set_option linter.unusedSimpArgs false
open Go.RowKit Hp
attribute [local irreducible] Go.Calls
set_option maxHeartbeats 1000000
/-- The number below n that x says. -/
def pickI (x n : Int) : Int := if n < 1 then 0 else x % n
theorem pickI_nat {x : Int} {n : Nat} (h : 0 < n) : ∃ k : Nat, k < n ∧ pickI x n = k := by
  have h1 := Int.emod_nonneg x (show (n : Int) ≠ 0 by omega)
  have h2 := Int.emod_lt_of_pos x (show (0 : Int) < n by omega)
  refine ⟨(x % n).toNat, by omega, ?_⟩
  unfold pickI
  rw [if_neg (by omega)]
  omega
theorem pick_spec (x n : Int) (w : World) (hx : -9223372036854775808 ≤ x ∧ x ≤ 9223372036854775807) (hn : -9223372036854775808 ≤ n ∧ n ≤ 9223372036854775807) :
    Calls Try.prog 9 #[.int .i64 x, .int .i64 n] w fun e w' => e = .returned (.int .i64 (pickI x n)) ∧ St w [] w' [] := by
  have hst := St.refl w
  by_cases h1 : n < 1
  · have d1 : decide (n < 1) = true := decide_eq_true h1
    have e : pickI x n = 0 := by unfold pickI; rw [if_pos h1]
    rw [e]
    clear h1 e
    go_enter Try.func9, Try.ntmps9
    go_wp2_with (first | go_big_skip | go_big_guard | fail)
    go_ret
    exact ⟨rfl, hst⟩
  · have d1 : decide (n < 1) = false := decide_eq_false h1
    obtain ⟨r, hr⟩ : ∃ r, r = Int.tmod x n := ⟨_, rfl⟩
    have q1 := Int.tmod_lt_of_pos x (show (0 : Int) < n by omega)
    have q2 := Int.lt_tmod_of_pos x (show (0 : Int) < n by omega)
    rw [← hr] at q1 q2
    have hw : IntKind.i64.wrap r = r := IntWalk.i64_in _ (by omega)
    have f1 : ∀ T, binOp .rem T (.int .i64 x) (.int .i64 n) = pure (.int .i64 r) := by
      intro T
      have hn0 : n ≠ 0 := by omega
      simp only [binOp]
      simp [Op.intDiv, hn0, ← hr, hw]
    have em : x % n = if r < 0 then r + n else r := by
      rw [hr, Int.tmod_eq_emod]
      have := Int.emod_nonneg x (show n ≠ 0 by omega)
      have := Int.emod_lt_of_pos x (show (0 : Int) < n by omega)
      split <;> (split <;> omega)
    have e : pickI x n = if r < 0 then r + n else r := by unfold pickI; rw [if_neg h1, em]
    rw [e]
    clear em e hr h1
    by_cases h2 : r < 0
    · have d2 : decide (r < 0) = true := decide_eq_true h2
      have z0 : IntKind.i64.wrap (r + n) = r + n := IntWalk.i64_in _ (by omega)
      rw [if_pos h2]
      clear h2
      go_enter Try.func9, Try.ntmps9
      go_wp2_with (first | go_big_skip | go_big_guard | fail)
      go_ret
      exact ⟨rfl, hst⟩
    · have d2 : decide (r < 0) = false := decide_eq_false h2
      rw [if_neg h2]
      clear h2
      go_enter Try.func9, Try.ntmps9
      go_wp2_with (first | go_big_skip | go_big_guard | fail)
      go_ret
      exact ⟨rfl, hst⟩
end Go.Proofs.Ytifajcblbedcoaa
namespace Go.Proofs.Ytifajcblbedcoaa
set_option linter.unusedVariables false
set_option linter.unusedSimpArgs false
open Go.RowKit Hp
attribute [local irreducible] Go.Calls Go.wpList
set_option maxRecDepth 100000
set_option maxHeartbeats 4000000
theorem rowP_at {w0 w : World} {M : List Nat} {p : Value → Bool} {v : Value} {T : TypeId} {sz n : Nat} {xs : List Value} (L1 : List HA) {L2 : List HA} (h : St w0 M w (L1 ++ .rowP p v T sz n xs :: L2)) : ∃ ao c, v = .slice ao n c := by
  obtain ⟨ao, c, e, _⟩ := rowP_form h (List.mem_append.2 (.inr (.head _)))
  exact ⟨ao, c, e⟩
end Go.Proofs.Ytifajcblbedcoaa
namespace Go.Proofs.Ytifajcblbedcoaa
set_option linter.unusedVariables false
set_option linter.unusedSimpArgs false
open Go.RowKit Hp
attribute [local irreducible] Go.Calls Go.wpList
set_option maxRecDepth 100000
set_option maxHeartbeats 4000000
attribute [local go_sem ↓] heldInt heldBool
/-- A reader, as cells: the bytes, how far it has come, whether they ended within a field. -/
def rdC (bv : Value) (s : GS) : List Value := [bv, .int .i64 (s.pos : Int), .bool s.short]
end Go.Proofs.Ytifajcblbedcoaa
namespace Go.Proofs.Ytifajcblbedcoaa
set_option linter.unusedVariables false
set_option linter.unusedSimpArgs false
open Go.RowKit Hp
attribute [local irreducible] Go.Calls Go.wpList
set_option maxRecDepth 100000
set_option maxHeartbeats 4000000
end Go.Proofs.Ytifajcblbedcoaa
namespace Go.Proofs.Ytifajcblbedcoaa
set_option linter.unusedVariables false
set_option linter.unusedSimpArgs false
open Go.RowKit Hp
attribute [local irreducible] Go.Calls Go.wpList
set_option maxRecDepth 100000
set_option maxHeartbeats 8000000
theorem heldErr (A : Addr) : loadVar 28 A = loadVarH 28 A := rfl
instance dZI : TyZ Try.prog 3 [.int .i64 0] := ⟨by kernel_rfl⟩
section
attribute [local go_sem ↓] heldRec heldErr
end
section
attribute [local go_sem ↓] heldRec heldErr
end
end Go.Proofs.Ytifajcblbedcoaa
namespace Go.Proofs.Ytifajcblbedcoaa
set_option linter.unusedVariables false
set_option linter.unusedSimpArgs false
open Go.RowKit
namespace Hp
section
variable {P : Program}
variable {w0 w : World} {M : List Nat} {L1 L2 : List HA}

theorem freeze_other (w : World) (a : Addr) (n k : Nat) (h : k ≠ a.block) : (w.freeze a n).heap[k]? = w.heap[k]? := by
  unfold World.freeze
  split
  · rfl
  · simp only [Array.getElem?_modify]
    rw [if_neg (fun e => h e.symm)]
theorem freeze_here (w : World) (g off n : Nat) (cs : Array Value) (T : TypeId) (h : w.heap[g]? = some (.cells cs T (0, 0))) (hn : n ≠ 0) : (w.freeze ⟨g, off, none⟩ n).heap[g]? = some (.cells cs T (off, off + n)) := by
  unfold World.freeze
  rw [if_neg hn]
  simp only [Array.getElem?_modify, if_true, h, Option.map_some]
  simp
theorem freeze_size (w : World) (a : Addr) (n : Nat) : (w.freeze a n).heap.size = w.heap.size := by
  unfold World.freeze
  split <;> simp
theorem freeze_os (w : World) (a : Addr) (n : Nat) : (w.freeze a n).os = w.os ∧ (w.freeze a n).tape = w.tape ∧ (w.freeze a n).output = w.output := by
  unfold World.freeze
  split <;> exact ⟨rfl, rfl, rfl⟩

theorem St.freeze {g : Nat} {T : TypeId} {cs : List Value} (h : St w0 M w (L1 ++ .blk g T cs :: L2)) (off n : Nat) (hn : n ≠ 0) : St w0 M (w.freeze ⟨g, off, none⟩ n) (L1 ++ .frz (off, off + n) g T cs :: L2) := by
  have hmem : HA.blk g T cs ∈ L1 ++ .blk g T cs :: L2 := by simp
  have hown := h.own _ hmem g rfl
  have hap := h.apart
  unfold Apart at hap
  rw [List.pairwise_append, List.pairwise_cons] at hap
  have hother : ∀ x, x ∈ L1 ∨ x ∈ L2 → ∀ k, x.foot = some k → k ≠ g := by
    rintro x (hx | hx) k hk rfl
    · exact hap.2.2 x hx (.blk k T cs) (by simp) k hk rfl
    · exact hap.2.1.1 x hx k rfl hk
  obtain ⟨f1, f2, f3⟩ := freeze_os w ⟨g, off, none⟩ n
  refine ⟨f1.trans h.os, f2.trans h.tape, f3.trans h.output, by rw [freeze_size]; exact h.size, fun k hk hM => ?_, fun x hx => ?_, fun x hx k hk => ?_, ?_⟩
  · rw [freeze_other w _ n k (by rintro rfl; rcases hown with h1 | h1; exact absurd hk (Nat.not_lt.2 h1); exact hM h1)]; exact h.old k hk hM
  · rcases List.mem_append.1 hx with hx | hx
    · exact HA.keep (h.all x (by simp [hx])) fun k hk => freeze_other w _ n k (hother x (.inl hx) k hk)
    · rcases List.mem_cons.1 hx with rfl | hx
      · exact freeze_here w g off n cs.toArray T (h.all _ hmem) hn
      · exact HA.keep (h.all x (by simp [hx])) fun k hk => freeze_other w _ n k (hother x (.inr hx) k hk)
  · rcases List.mem_append.1 hx with hx | hx
    · exact h.own x (by simp [hx]) k hk
    · rcases List.mem_cons.1 hx with rfl | hx
      · simp [HA.foot] at hk; subst hk; exact hown
      · exact h.own x (by simp [hx]) k hk
  · unfold Apart
    rw [List.pairwise_append, List.pairwise_cons]
    refine ⟨hap.1, ⟨fun y hy k hk => hap.2.1.1 y hy k hk, hap.2.1.2⟩, fun x hx y hy k hk => ?_⟩
    rcases List.mem_cons.1 hy with rfl | hy
    · exact hap.2.2 x hx (.blk g T cs) (by simp) k hk
    · exact hap.2.2 x hx y (by simp [hy]) k hk

/-- The conversion of a literal's bytes to their own type marks the block. -/
theorem wl_convSS {ops : Array Oper} {rest : List Oper} {o : Oper} {a : Act} {Q : Exit → Act → World → Prop} {t e : TypeId} {x : Operand} {g n c : Nat} {T : TypeId} {cs : List Value} (hst : St w0 M w (L1 ++ .blk g T cs :: L2))
    (hop : o.op = .convert t t x) (hw : Region.wanted o (yielded ops a.tmps) = true) (hx : a.eval x = .slice (some ⟨g, 0, none⟩) n c) [ht : TySl P t e] [he : TyI P e .u8]
    (h : ∀ w', St w0 M w' (L1 ++ .frz (cs.length, cs.length + 1) g T cs :: L2) → wpList P ops Q rest (a.put o.dst (.slice (some ⟨g, 0, none⟩) n c)) w') : wpList P ops Q (o :: rest) a w := by
  have hg : w.heap[g]? = some (.cells cs.toArray T (0, 0)) := hst.all (.blk g T cs) (by simp)
  have hsh : w.shape? g = some (T, cs.length) := by
    unfold World.shape?
    rw [hg]
    simp
  refine wl_run hw ?_ (h _ (hst.freeze cs.length 1 (by decide)))
  unfold execOp
  simp [hop, hx, convert, run_underlying ht.out, run_underlying he.out, markStringish, hsh]

theorem Rd.frz {g off n c sz : Nat} {T : TypeId} {m : Nat × Nat} {cs xs : List Value} {L : List HA} (hst : St w0 M w L) (hm : HA.frz m g T cs ∈ L) (hn : n ≤ c) (hc : c ≤ maxLen) (hl : xs.length = n * sz) (hx : (cs.drop off).take xs.length = xs) :
    Rd w (.slice (some ⟨g, off, none⟩) n c) sz n xs := by
  refine Rd.mk hn hc hl fun j v hv => ?_
  have h := hst.all _ hm
  unfold HA.holds at h
  rw [cell_of_row w g _ _ T _ h]
  rw [← hx, List.getElem?_take] at hv
  split at hv
  · simpa using hv
  · simp at hv
theorem Rd.frz0 {g n sz : Nat} {T : TypeId} {m : Nat × Nat} {cs : List Value} {L : List HA} (hst : St w0 M w L) (hm : HA.frz m g T cs ∈ L) (hl : cs.length = n * sz) (hn : n ≤ 9223372036854775807) : Rd w (.slice (some ⟨g, 0, none⟩) n n) sz n cs :=
  Rd.frz hst hm (Nat.le_refl _) (by unfold maxLen; omega) hl (by simp)
end
end Hp
end Go.Proofs.Ytifajcblbedcoaa
namespace Go.Proofs.Ytifajcblbedcoaa
set_option linter.unusedVariables false
set_option linter.unusedSimpArgs false
open Go.RowKit
namespace Hp
variable {P : Program} {w0 w : World} {M : List Nat} {L : List HA}
theorem wl_convSB {ops : Array Oper} {rest : List Oper} {o : Oper} {a : Act} {Q : Exit → Act → World → Prop} {src dst e : TypeId} {x : Operand} {l : List UInt8} (hst : St w0 M w L)
    (hop : o.op = .convert src dst x) (hw : Region.wanted o (yielded ops a.tmps) = true) (hx : a.eval x = .string ⟨l.toArray⟩) [hs : TyStr P src] [hd : TySl P dst e] [he : TyI P e .u8] (hl : l.length ≤ 100000)
    (h : ∀ bv mk g cs w', St w0 M w' (.frz mk g e cs :: L) → (∀ (w1 w2 : World) (M2 : List Nat) (L2 : List HA), St w1 M2 w2 L2 → HA.frz mk g e cs ∈ L2 → Rd w2 bv 1 l.length (bytesV l)) → wpList P ops Q rest (a.put o.dst bv) w') : wpList P ops Q (o :: rest) a w := by
  have hr := Lib.run_convert_string_bytes (P := P) w src dst e ⟨l.toArray⟩ hs.out hd.out he.out
  obtain ⟨cs, hcs⟩ : ∃ cs : List Value, cs = (Lib.bytesCells w e ⟨l.toArray⟩).toList := ⟨_, rfl⟩
  have hcs' : cs.toArray = Lib.bytesCells w e ⟨l.toArray⟩ := by rw [hcs]
  have hsz : (⟨l.toArray⟩ : ByteArray).size = l.length := by simp [ByteArray.size]
  have hge := grownCap_ge w l.length 0 e
  have hcm : grownCap w l.length 0 e ≤ maxLen := grownCap_le_maxLen w l.length 0 e (by unfold maxLen; omega)
  have hcl : cs = bytesV l ++ List.replicate (grownCap w l.length 0 e - l.length) (.int .u8 0) := by
    rw [hcs]
    unfold Lib.bytesCells bytesV
    rw [hsz]
    simp
  have h1 := St.freeze (L1 := []) (St.alloc hst.drew e cs) (Lib.bytesCells w e ⟨l.toArray⟩).size 1 (by decide)
  have hw' : (w.drew.alloc (.cells cs.toArray e)).freeze ⟨w.drew.heap.size, (Lib.bytesCells w e ⟨l.toArray⟩).size, none⟩ 1 = Lib.bytesWorld w e ⟨l.toArray⟩ := by
    rw [hcs']
    rfl
  rw [hw'] at h1
  refine wl_run hw ?_ (h _ _ _ _ _ h1 (fun _ _ _ _ h2 hm => Rd.frz (off := 0) (n := l.length) (c := grownCap w l.length 0 e) h2 hm hge hcm (by simp) (by rw [hcl, List.drop_zero, List.take_left])))
  unfold execOp
  simp only [hop, hx, Sem.run_bind, hr, Result.andThen_ok, Sem.run_pure, hsz]
  rfl
end Hp
end Go.Proofs.Ytifajcblbedcoaa
namespace Go.Proofs.Ytifajcblbedcoaa
set_option linter.unusedVariables false
set_option linter.unusedSimpArgs false
open Go.RowKit Hp
attribute [local irreducible] Go.Calls Go.wpList
set_option maxRecDepth 100000
set_option maxHeartbeats 8000000
attribute [local go_sem ↓] heldInt heldRecs heldStr heldInts
end Go.Proofs.Ytifajcblbedcoaa
namespace Go.Proofs.Ytifajcblbedcoaa
set_option linter.unusedVariables false
set_option linter.unusedSimpArgs false
open Go.RowKit Hp
attribute [local irreducible] Go.Calls Go.wpList
set_option maxRecDepth 100000
set_option maxHeartbeats 8000000
attribute [local go_sem ↓] heldInt
theorem row_slice {w0 w : World} {M : List Nat} (L1 : List HA) {L2 : List HA} {v : Value} {T : TypeId} {sz n : Nat} {xs : List Value} (h : St w0 M w (L1 ++ .row v T sz n xs :: L2)) : ∃ ao c, v = .slice ao n c ∧ n ≤ c ∧ c ≤ 9223372036854775807 := by
  obtain ⟨ao, c, e, h1, h2, _⟩ := row_form h (List.mem_append.2 (.inr (.head _)))
  exact ⟨ao, c, e, h1, h2⟩
end Go.Proofs.Ytifajcblbedcoaa
