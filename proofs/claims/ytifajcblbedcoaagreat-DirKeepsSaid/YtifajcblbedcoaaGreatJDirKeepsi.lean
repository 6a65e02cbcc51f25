/- DirKeeps, walked. -/
import Derived.Test.YtifajcblbedcoaaGreatJDirKeepsh
import Derived.Test.YtifajcblbedcoaaGreatKTy
import Derived.Test.YtifajcblbedcoaaGreatSepQ
import Derived.IntWalk
import Derived.Test.YtifajcblbedcoaaGreatD1
import Derived.Test.YtifajcblbedcoaaGreatNum
import Derived.Test.YtifajcblbedcoaaGreatSepP
import Derived.Test.YtifajcblbedcoaaGreatT7
import Derived.Test.YtifajcblbedcoaaGreatJDirKeepsc
import Derived.Test.YtifajcblbedcoaaGreatJDirKeepse
import Derived.Test.YtifajcblbedcoaaGreatJDirKeepsd
import Derived.Test.YtifajcblbedcoaaGreatJDirKeepsa
import Derived.Test.YtifajcblbedcoaaGreatJDirKeepsf
import Derived.Test.YtifajcblbedcoaaGreatSepX
import Derived.Lib.ConvBytes
namespace Go.Proofs.YtifajcblbedcoaaGreat
set_option linter.unusedVariables false
set_option linter.unusedSimpArgs false
open Go.RowKit Hp
attribute [local irreducible] Go.Calls Go.wpList tN tA tAX tS tD1 tD2 tD3 tD4 tK1 tK2 tK3 tK4 tK5 tK6 tK7 tK8 tK9 tV tV1 tV2
set_option maxRecDepth 100000
set_option maxHeartbeats 16000000
attribute [local go_sem ↓] heldInt heldInts heldRecs heldRec heldStr heldTab heldPtr heldFn
theorem known13_any (w : World) : Calls Tryz.prog 18 #[] w fun e w' => e = .returned (.bool true) ∧ St w [] w' [] := by
  obtain ⟨P0, hP0⟩ : ∃ P0 : List HA, P0 = [] := ⟨_, rfl⟩
  have hS0 : St w [] w ([] ++ P0) := by rw [hP0]; exact St.refl w
  clear hP0
  go_enter Tryz.func18, Tryz.ntmps18
  go_wp2_with (first | go_big_skip | go_big_guard | (go_at_call 22; refine (sample13_any _).mono ?_; intro e9 w9 hret; obtain ⟨a0, b0, c0, d0, P1, xs0, rfl, hin, h4⟩ := hret; have hS1 : St w [] w9 ([] ++ P1) := St.sub (St.call hS0 h4) (List.sublist_append_left _ _); have HT0 := hid hin; clear h4 hin hS0) | (refine wl_alloc hS1 rfl rfl ?_; intro g1 w1 h4; have hS2 : St w [] w1 ([.blk g1 27 (tab0)] ++ P1) := h4; clear h4 hS1) | (refine wl_storeA [] hS2 rfl rfl rfl rfl (vs := tabC tS (.slice a0 xs0.length c0) (.slice b0 tS.lives.length d0)) rfl rfl rfl ?_; intro w1 h4; have hS3 : St w [] w1 ([.blk g1 27 (tabC tS (.slice a0 xs0.length c0) (.slice b0 tS.lives.length d0))] ++ P1) := h4; clear h4 hS2) | (refine wl_loadE rfl rfl rfl ?_; refine ⟨_, Loads.atA (tabC tS (.slice a0 xs0.length c0) (.slice b0 tS.lives.length d0)) [] hS3 rfl rfl, ?_⟩) | (go_at_call 29; refine (rename13_any tS a0 b0 xs0.length c0 tS.lives.length d0 xs0 _ (HT0.out.tab hS3 tS_bd) [97] [99] (by decide) (by decide)).mono ?_; rw [tK1_eq]; intro e9 w9 hret; obtain ⟨a1, b1, c1, d1, P2, xs1, rfl, hin, hsub, h4⟩ := ret_pool (B := [.blk g1 27 (tabC tS (.slice a0 xs0.length c0) (.slice b0 tS.lives.length d0))]) hS3 hret; have hS4 : St w [] w9 ([.blk g1 27 (tabC tS (.slice a0 xs0.length c0) (.slice b0 tS.lives.length d0))] ++ P2) := h4; clear hret h4 hS3; replace HT0 := hid (HT0.out.mono hsub); have HT1 := hid hin; clear hin hsub) | (refine wl_alloc hS4 rfl rfl ?_; intro h1 w1 h4; have hS5 : St w [] w1 ([.blk h1 27 (tab0), .blk g1 27 (tabC tS (.slice a0 xs0.length c0) (.slice b0 tS.lives.length d0))] ++ P2) := h4; clear h4 hS4) | (refine wl_storeA [] hS5 rfl rfl rfl rfl (vs := tabC tK1 (.slice a1 xs1.length c1) (.slice b1 tK1.lives.length d1)) rfl rfl rfl ?_; intro w1 h4; have hS6 : St w [] w1 ([.blk h1 27 (tabC tK1 (.slice a1 xs1.length c1) (.slice b1 tK1.lives.length d1)), .blk g1 27 (tabC tS (.slice a0 xs0.length c0) (.slice b0 tS.lives.length d0))] ++ P2) := h4; clear h4 hS5) | (refine wl_loadE rfl rfl rfl ?_; refine ⟨_, Loads.atA (tabC tS (.slice a0 xs0.length c0) (.slice b0 tS.lives.length d0)) [_] hS6 rfl rfl, ?_⟩) | (go_at_call 29; refine (rename13_any tS a0 b0 xs0.length c0 tS.lives.length d0 xs0 _ (HT0.out.tab hS6 tS_bd) [97] [98] (by decide) (by decide)).mono ?_; rw [tK2_eq]; intro e9 w9 hret; obtain ⟨a2, b2, c2, d2, P3, xs2, rfl, hin, hsub, h4⟩ := ret_pool (B := [.blk h1 27 (tabC tK1 (.slice a1 xs1.length c1) (.slice b1 tK1.lives.length d1)), .blk g1 27 (tabC tS (.slice a0 xs0.length c0) (.slice b0 tS.lives.length d0))]) hS6 hret; have hS7 : St w [] w9 ([.blk h1 27 (tabC tK1 (.slice a1 xs1.length c1) (.slice b1 tK1.lives.length d1)), .blk g1 27 (tabC tS (.slice a0 xs0.length c0) (.slice b0 tS.lives.length d0))] ++ P3) := h4; clear hret h4 hS6; replace HT0 := hid (HT0.out.mono hsub); replace HT1 := hid (HT1.out.mono hsub); have HT2 := hid hin; clear hin hsub) | (refine wl_alloc hS7 rfl rfl ?_; intro h2 w1 h4; have hS8 : St w [] w1 ([.blk h2 27 (tab0), .blk h1 27 (tabC tK1 (.slice a1 xs1.length c1) (.slice b1 tK1.lives.length d1)), .blk g1 27 (tabC tS (.slice a0 xs0.length c0) (.slice b0 tS.lives.length d0))] ++ P3) := h4; clear h4 hS7) | (refine wl_storeA [] hS8 rfl rfl rfl rfl (vs := tabC tK2 (.slice a2 xs2.length c2) (.slice b2 tK2.lives.length d2)) rfl rfl rfl ?_; intro w1 h4; have hS9 : St w [] w1 ([.blk h2 27 (tabC tK2 (.slice a2 xs2.length c2) (.slice b2 tK2.lives.length d2)), .blk h1 27 (tabC tK1 (.slice a1 xs1.length c1) (.slice b1 tK1.lives.length d1)), .blk g1 27 (tabC tS (.slice a0 xs0.length c0) (.slice b0 tS.lives.length d0))] ++ P3) := h4; clear h4 hS8) | (refine wl_loadE rfl rfl rfl ?_; refine ⟨_, Loads.atA (tabC tS (.slice a0 xs0.length c0) (.slice b0 tS.lives.length d0)) [_, _] hS9 rfl rfl, ?_⟩) | (go_at_call 29; refine (rename13_any tS a0 b0 xs0.length c0 tS.lives.length d0 xs0 _ (HT0.out.tab hS9 tS_bd) [97, 64, 120] [98, 64, 120] (by decide) (by decide)).mono ?_; rw [tK3_eq]; intro e9 w9 hret; obtain ⟨a3, b3, c3, d3, P4, xs3, rfl, hin, hsub, h4⟩ := ret_pool (B := [.blk h2 27 (tabC tK2 (.slice a2 xs2.length c2) (.slice b2 tK2.lives.length d2)), .blk h1 27 (tabC tK1 (.slice a1 xs1.length c1) (.slice b1 tK1.lives.length d1)), .blk g1 27 (tabC tS (.slice a0 xs0.length c0) (.slice b0 tS.lives.length d0))]) hS9 hret; have hS10 : St w [] w9 ([.blk h2 27 (tabC tK2 (.slice a2 xs2.length c2) (.slice b2 tK2.lives.length d2)), .blk h1 27 (tabC tK1 (.slice a1 xs1.length c1) (.slice b1 tK1.lives.length d1)), .blk g1 27 (tabC tS (.slice a0 xs0.length c0) (.slice b0 tS.lives.length d0))] ++ P4) := h4; clear hret h4 hS9; replace HT0 := hid (HT0.out.mono hsub); replace HT1 := hid (HT1.out.mono hsub); replace HT2 := hid (HT2.out.mono hsub); have HT3 := hid hin; clear hin hsub) | (refine wl_alloc hS10 rfl rfl ?_; intro h3 w1 h4; have hS11 : St w [] w1 ([.blk h3 27 (tab0), .blk h2 27 (tabC tK2 (.slice a2 xs2.length c2) (.slice b2 tK2.lives.length d2)), .blk h1 27 (tabC tK1 (.slice a1 xs1.length c1) (.slice b1 tK1.lives.length d1)), .blk g1 27 (tabC tS (.slice a0 xs0.length c0) (.slice b0 tS.lives.length d0))] ++ P4) := h4; clear h4 hS10) | (refine wl_storeA [] hS11 rfl rfl rfl rfl (vs := tabC tK3 (.slice a3 xs3.length c3) (.slice b3 tK3.lives.length d3)) rfl rfl rfl ?_; intro w1 h4; have hS12 : St w [] w1 ([.blk h3 27 (tabC tK3 (.slice a3 xs3.length c3) (.slice b3 tK3.lives.length d3)), .blk h2 27 (tabC tK2 (.slice a2 xs2.length c2) (.slice b2 tK2.lives.length d2)), .blk h1 27 (tabC tK1 (.slice a1 xs1.length c1) (.slice b1 tK1.lives.length d1)), .blk g1 27 (tabC tS (.slice a0 xs0.length c0) (.slice b0 tS.lives.length d0))] ++ P4) := h4; clear h4 hS11) | (refine wl_loadE rfl rfl rfl ?_; refine ⟨_, Loads.atA (tabC tS (.slice a0 xs0.length c0) (.slice b0 tS.lives.length d0)) [_, _, _] hS12 rfl rfl, ?_⟩) | (go_at_call 29; refine (rename13_any tS a0 b0 xs0.length c0 tS.lives.length d0 xs0 _ (HT0.out.tab hS12 tS_bd) [97] [97] (by decide) (by decide)).mono ?_; rw [tK4_eq]; intro e9 w9 hret; obtain ⟨a4, b4, c4, d4, P5, xs4, rfl, hin, hsub, h4⟩ := ret_pool (B := [.blk h3 27 (tabC tK3 (.slice a3 xs3.length c3) (.slice b3 tK3.lives.length d3)), .blk h2 27 (tabC tK2 (.slice a2 xs2.length c2) (.slice b2 tK2.lives.length d2)), .blk h1 27 (tabC tK1 (.slice a1 xs1.length c1) (.slice b1 tK1.lives.length d1)), .blk g1 27 (tabC tS (.slice a0 xs0.length c0) (.slice b0 tS.lives.length d0))]) hS12 hret; have hS13 : St w [] w9 ([.blk h3 27 (tabC tK3 (.slice a3 xs3.length c3) (.slice b3 tK3.lives.length d3)), .blk h2 27 (tabC tK2 (.slice a2 xs2.length c2) (.slice b2 tK2.lives.length d2)), .blk h1 27 (tabC tK1 (.slice a1 xs1.length c1) (.slice b1 tK1.lives.length d1)), .blk g1 27 (tabC tS (.slice a0 xs0.length c0) (.slice b0 tS.lives.length d0))] ++ P5) := h4; clear hret h4 hS12; replace HT0 := hid (HT0.out.mono hsub); replace HT1 := hid (HT1.out.mono hsub); replace HT2 := hid (HT2.out.mono hsub); replace HT3 := hid (HT3.out.mono hsub); have HT4 := hid hin; clear hin hsub) | (refine wl_alloc hS13 rfl rfl ?_; intro h4n w1 h4; have hS14 : St w [] w1 ([.blk h4n 27 (tab0), .blk h3 27 (tabC tK3 (.slice a3 xs3.length c3) (.slice b3 tK3.lives.length d3)), .blk h2 27 (tabC tK2 (.slice a2 xs2.length c2) (.slice b2 tK2.lives.length d2)), .blk h1 27 (tabC tK1 (.slice a1 xs1.length c1) (.slice b1 tK1.lives.length d1)), .blk g1 27 (tabC tS (.slice a0 xs0.length c0) (.slice b0 tS.lives.length d0))] ++ P5) := h4; clear h4 hS13) | (refine wl_storeA [] hS14 rfl rfl rfl rfl (vs := tabC tK4 (.slice a4 xs4.length c4) (.slice b4 tK4.lives.length d4)) rfl rfl rfl ?_; intro w1 h4; have hS15 : St w [] w1 ([.blk h4n 27 (tabC tK4 (.slice a4 xs4.length c4) (.slice b4 tK4.lives.length d4)), .blk h3 27 (tabC tK3 (.slice a3 xs3.length c3) (.slice b3 tK3.lives.length d3)), .blk h2 27 (tabC tK2 (.slice a2 xs2.length c2) (.slice b2 tK2.lives.length d2)), .blk h1 27 (tabC tK1 (.slice a1 xs1.length c1) (.slice b1 tK1.lives.length d1)), .blk g1 27 (tabC tS (.slice a0 xs0.length c0) (.slice b0 tS.lives.length d0))] ++ P5) := h4; clear h4 hS14) | (refine wl_loadE rfl rfl rfl ?_; refine ⟨_, Loads.atA (tabC tK1 (.slice a1 xs1.length c1) (.slice b1 tK1.lives.length d1)) [_, _, _] hS15 rfl rfl, ?_⟩) | (apply wl_bsX [.string ⟨([98] : List UInt8).toArray⟩, .string ⟨([99] : List UInt8).toArray⟩, .string ⟨([99, 64, 120] : List UInt8).toArray⟩] [.string ⟨([98] : List UInt8).toArray⟩, .string ⟨([99] : List UInt8).toArray⟩, .string ⟨([99, 64, 120] : List UInt8).toArray⟩] hS15; rfl; rfl; exact rfl; exact rfl; infer_instance; infer_instance; rfl; rfl; rfl; intro gw w5 h4; have hS16 : St w [] w5 ([.blk gw 9 ([.string ⟨([98] : List UInt8).toArray⟩, .string ⟨([99] : List UInt8).toArray⟩, .string ⟨([99, 64, 120] : List UInt8).toArray⟩]), .blk h4n 27 (tabC tK4 (.slice a4 xs4.length c4) (.slice b4 tK4.lives.length d4)), .blk h3 27 (tabC tK3 (.slice a3 xs3.length c3) (.slice b3 tK3.lives.length d3)), .blk h2 27 (tabC tK2 (.slice a2 xs2.length c2) (.slice b2 tK2.lives.length d2)), .blk h1 27 (tabC tK1 (.slice a1 xs1.length c1) (.slice b1 tK1.lives.length d1)), .blk g1 27 (tabC tS (.slice a0 xs0.length c0) (.slice b0 tS.lives.length d0))] ++ P5) := h4; clear h4 hS15) | (go_at_call 24; refine (names13_any tK1 a1 xs1.length c1 _ xs1 _ 3 3 [[98], [99], [99, 64, 120]] _ (HT1.out.recs hS16) HT1.out.ok.eq (by rw [HT1.out.ok.len]; exact tK1_rl) (Rd.blk hS16 (.head _) (Nat.le_refl _) (by decide) rfl rfl) rfl (by decide)).mono ?_; rw [tK1_names]; rintro _ w9 ⟨rfl, h4⟩; have hS17 : St w [] w9 ([.blk gw 9 ([.string ⟨([98] : List UInt8).toArray⟩, .string ⟨([99] : List UInt8).toArray⟩, .string ⟨([99, 64, 120] : List UInt8).toArray⟩]), .blk h4n 27 (tabC tK4 (.slice a4 xs4.length c4) (.slice b4 tK4.lives.length d4)), .blk h3 27 (tabC tK3 (.slice a3 xs3.length c3) (.slice b3 tK3.lives.length d3)), .blk h2 27 (tabC tK2 (.slice a2 xs2.length c2) (.slice b2 tK2.lives.length d2)), .blk h1 27 (tabC tK1 (.slice a1 xs1.length c1) (.slice b1 tK1.lives.length d1)), .blk g1 27 (tabC tS (.slice a0 xs0.length c0) (.slice b0 tS.lives.length d0))] ++ P5) := St.call0 hS16 h4; clear h4 hS16) | (refine wl_loadE rfl rfl rfl ?_; refine ⟨_, Loads.atA (tabC tS (.slice a0 xs0.length c0) (.slice b0 tS.lives.length d0)) [_, _, _, _, _] hS17 rfl rfl, ?_⟩) | (go_at_call 30; refine (resize13_any tS a0 b0 xs0.length c0 tS.lives.length d0 xs0 _ (HT0.out.tab hS17 tS_bd) [97, 64, 120] 5 (by decide)).mono ?_; rw [tK5_eq]; intro e9 w9 hret; obtain ⟨a5, b5, c5, d5, P6, xs5, rfl, hin, hsub, h4⟩ := ret_pool (B := [.blk gw 9 ([.string ⟨([98] : List UInt8).toArray⟩, .string ⟨([99] : List UInt8).toArray⟩, .string ⟨([99, 64, 120] : List UInt8).toArray⟩]), .blk h4n 27 (tabC tK4 (.slice a4 xs4.length c4) (.slice b4 tK4.lives.length d4)), .blk h3 27 (tabC tK3 (.slice a3 xs3.length c3) (.slice b3 tK3.lives.length d3)), .blk h2 27 (tabC tK2 (.slice a2 xs2.length c2) (.slice b2 tK2.lives.length d2)), .blk h1 27 (tabC tK1 (.slice a1 xs1.length c1) (.slice b1 tK1.lives.length d1)), .blk g1 27 (tabC tS (.slice a0 xs0.length c0) (.slice b0 tS.lives.length d0))]) hS17 hret; have hS18 : St w [] w9 ([.blk gw 9 ([.string ⟨([98] : List UInt8).toArray⟩, .string ⟨([99] : List UInt8).toArray⟩, .string ⟨([99, 64, 120] : List UInt8).toArray⟩]), .blk h4n 27 (tabC tK4 (.slice a4 xs4.length c4) (.slice b4 tK4.lives.length d4)), .blk h3 27 (tabC tK3 (.slice a3 xs3.length c3) (.slice b3 tK3.lives.length d3)), .blk h2 27 (tabC tK2 (.slice a2 xs2.length c2) (.slice b2 tK2.lives.length d2)), .blk h1 27 (tabC tK1 (.slice a1 xs1.length c1) (.slice b1 tK1.lives.length d1)), .blk g1 27 (tabC tS (.slice a0 xs0.length c0) (.slice b0 tS.lives.length d0))] ++ P6) := h4; clear hret h4 hS17; replace HT0 := hid (HT0.out.mono hsub); replace HT1 := hid (HT1.out.mono hsub); replace HT2 := hid (HT2.out.mono hsub); replace HT3 := hid (HT3.out.mono hsub); replace HT4 := hid (HT4.out.mono hsub); have HT5 := hid hin; clear hin hsub) | (refine wl_alloc hS18 rfl rfl ?_; intro h5 w1 h4; have hS19 : St w [] w1 ([.blk h5 27 (tab0), .blk gw 9 ([.string ⟨([98] : List UInt8).toArray⟩, .string ⟨([99] : List UInt8).toArray⟩, .string ⟨([99, 64, 120] : List UInt8).toArray⟩]), .blk h4n 27 (tabC tK4 (.slice a4 xs4.length c4) (.slice b4 tK4.lives.length d4)), .blk h3 27 (tabC tK3 (.slice a3 xs3.length c3) (.slice b3 tK3.lives.length d3)), .blk h2 27 (tabC tK2 (.slice a2 xs2.length c2) (.slice b2 tK2.lives.length d2)), .blk h1 27 (tabC tK1 (.slice a1 xs1.length c1) (.slice b1 tK1.lives.length d1)), .blk g1 27 (tabC tS (.slice a0 xs0.length c0) (.slice b0 tS.lives.length d0))] ++ P6) := h4; clear h4 hS18) | (refine wl_storeA [] hS19 rfl rfl rfl rfl (vs := tabC tK5 (.slice a5 xs5.length c5) (.slice b5 tK5.lives.length d5)) rfl rfl rfl ?_; intro w1 h4; have hS20 : St w [] w1 ([.blk h5 27 (tabC tK5 (.slice a5 xs5.length c5) (.slice b5 tK5.lives.length d5)), .blk gw 9 ([.string ⟨([98] : List UInt8).toArray⟩, .string ⟨([99] : List UInt8).toArray⟩, .string ⟨([99, 64, 120] : List UInt8).toArray⟩]), .blk h4n 27 (tabC tK4 (.slice a4 xs4.length c4) (.slice b4 tK4.lives.length d4)), .blk h3 27 (tabC tK3 (.slice a3 xs3.length c3) (.slice b3 tK3.lives.length d3)), .blk h2 27 (tabC tK2 (.slice a2 xs2.length c2) (.slice b2 tK2.lives.length d2)), .blk h1 27 (tabC tK1 (.slice a1 xs1.length c1) (.slice b1 tK1.lives.length d1)), .blk g1 27 (tabC tS (.slice a0 xs0.length c0) (.slice b0 tS.lives.length d0))] ++ P6) := h4; clear h4 hS19) | (refine wl_loadE rfl rfl rfl ?_; refine ⟨_, Loads.atA (tabC tS (.slice a0 xs0.length c0) (.slice b0 tS.lives.length d0)) [_, _, _, _, _, _] hS20 rfl rfl, ?_⟩) | (go_at_call 31; refine (limits13_any tS a0 b0 xs0.length c0 tS.lives.length d0 xs0 _ (HT0.out.tab hS20 tS_bd) [97] 65 0 (by decide)).mono ?_; rw [tK6_eq]; intro e9 w9 hret; obtain ⟨a6, b6, c6, d6, P7, xs6, rfl, hin, hsub, h4⟩ := ret_pool (B := [.blk h5 27 (tabC tK5 (.slice a5 xs5.length c5) (.slice b5 tK5.lives.length d5)), .blk gw 9 ([.string ⟨([98] : List UInt8).toArray⟩, .string ⟨([99] : List UInt8).toArray⟩, .string ⟨([99, 64, 120] : List UInt8).toArray⟩]), .blk h4n 27 (tabC tK4 (.slice a4 xs4.length c4) (.slice b4 tK4.lives.length d4)), .blk h3 27 (tabC tK3 (.slice a3 xs3.length c3) (.slice b3 tK3.lives.length d3)), .blk h2 27 (tabC tK2 (.slice a2 xs2.length c2) (.slice b2 tK2.lives.length d2)), .blk h1 27 (tabC tK1 (.slice a1 xs1.length c1) (.slice b1 tK1.lives.length d1)), .blk g1 27 (tabC tS (.slice a0 xs0.length c0) (.slice b0 tS.lives.length d0))]) hS20 hret; have hS21 : St w [] w9 ([.blk h5 27 (tabC tK5 (.slice a5 xs5.length c5) (.slice b5 tK5.lives.length d5)), .blk gw 9 ([.string ⟨([98] : List UInt8).toArray⟩, .string ⟨([99] : List UInt8).toArray⟩, .string ⟨([99, 64, 120] : List UInt8).toArray⟩]), .blk h4n 27 (tabC tK4 (.slice a4 xs4.length c4) (.slice b4 tK4.lives.length d4)), .blk h3 27 (tabC tK3 (.slice a3 xs3.length c3) (.slice b3 tK3.lives.length d3)), .blk h2 27 (tabC tK2 (.slice a2 xs2.length c2) (.slice b2 tK2.lives.length d2)), .blk h1 27 (tabC tK1 (.slice a1 xs1.length c1) (.slice b1 tK1.lives.length d1)), .blk g1 27 (tabC tS (.slice a0 xs0.length c0) (.slice b0 tS.lives.length d0))] ++ P7) := h4; clear hret h4 hS20; replace HT0 := hid (HT0.out.mono hsub); replace HT1 := hid (HT1.out.mono hsub); replace HT2 := hid (HT2.out.mono hsub); replace HT3 := hid (HT3.out.mono hsub); replace HT4 := hid (HT4.out.mono hsub); replace HT5 := hid (HT5.out.mono hsub); have HT6 := hid hin; clear hin hsub) | (refine wl_alloc hS21 rfl rfl ?_; intro h6 w1 h4; have hS22 : St w [] w1 ([.blk h6 27 (tab0), .blk h5 27 (tabC tK5 (.slice a5 xs5.length c5) (.slice b5 tK5.lives.length d5)), .blk gw 9 ([.string ⟨([98] : List UInt8).toArray⟩, .string ⟨([99] : List UInt8).toArray⟩, .string ⟨([99, 64, 120] : List UInt8).toArray⟩]), .blk h4n 27 (tabC tK4 (.slice a4 xs4.length c4) (.slice b4 tK4.lives.length d4)), .blk h3 27 (tabC tK3 (.slice a3 xs3.length c3) (.slice b3 tK3.lives.length d3)), .blk h2 27 (tabC tK2 (.slice a2 xs2.length c2) (.slice b2 tK2.lives.length d2)), .blk h1 27 (tabC tK1 (.slice a1 xs1.length c1) (.slice b1 tK1.lives.length d1)), .blk g1 27 (tabC tS (.slice a0 xs0.length c0) (.slice b0 tS.lives.length d0))] ++ P7) := h4; clear h4 hS21) | (refine wl_storeA [] hS22 rfl rfl rfl rfl (vs := tabC tK6 (.slice a6 xs6.length c6) (.slice b6 tK6.lives.length d6)) rfl rfl rfl ?_; intro w1 h4; have hS23 : St w [] w1 ([.blk h6 27 (tabC tK6 (.slice a6 xs6.length c6) (.slice b6 tK6.lives.length d6)), .blk h5 27 (tabC tK5 (.slice a5 xs5.length c5) (.slice b5 tK5.lives.length d5)), .blk gw 9 ([.string ⟨([98] : List UInt8).toArray⟩, .string ⟨([99] : List UInt8).toArray⟩, .string ⟨([99, 64, 120] : List UInt8).toArray⟩]), .blk h4n 27 (tabC tK4 (.slice a4 xs4.length c4) (.slice b4 tK4.lives.length d4)), .blk h3 27 (tabC tK3 (.slice a3 xs3.length c3) (.slice b3 tK3.lives.length d3)), .blk h2 27 (tabC tK2 (.slice a2 xs2.length c2) (.slice b2 tK2.lives.length d2)), .blk h1 27 (tabC tK1 (.slice a1 xs1.length c1) (.slice b1 tK1.lives.length d1)), .blk g1 27 (tabC tS (.slice a0 xs0.length c0) (.slice b0 tS.lives.length d0))] ++ P7) := h4; clear h4 hS22) | (refine wl_loadE rfl rfl rfl ?_; refine ⟨_, Loads.atA (tabC tS (.slice a0 xs0.length c0) (.slice b0 tS.lives.length d0)) [_, _, _, _, _, _, _] hS23 rfl rfl, ?_⟩) | (go_at_call 25; refine (make13_any tS a0 b0 xs0.length c0 tS.lives.length d0 xs0 _ (HT0.out.tab hS23 tS_bd) [97, 64, 98] 1 1 (by decide)).mono ?_; rw [tK7_eq]; intro e9 w9 hret; obtain ⟨a7, b7, c7, d7, P8, xs7, rfl, hin, hsub, h4⟩ := ret_pool (B := [.blk h6 27 (tabC tK6 (.slice a6 xs6.length c6) (.slice b6 tK6.lives.length d6)), .blk h5 27 (tabC tK5 (.slice a5 xs5.length c5) (.slice b5 tK5.lives.length d5)), .blk gw 9 ([.string ⟨([98] : List UInt8).toArray⟩, .string ⟨([99] : List UInt8).toArray⟩, .string ⟨([99, 64, 120] : List UInt8).toArray⟩]), .blk h4n 27 (tabC tK4 (.slice a4 xs4.length c4) (.slice b4 tK4.lives.length d4)), .blk h3 27 (tabC tK3 (.slice a3 xs3.length c3) (.slice b3 tK3.lives.length d3)), .blk h2 27 (tabC tK2 (.slice a2 xs2.length c2) (.slice b2 tK2.lives.length d2)), .blk h1 27 (tabC tK1 (.slice a1 xs1.length c1) (.slice b1 tK1.lives.length d1)), .blk g1 27 (tabC tS (.slice a0 xs0.length c0) (.slice b0 tS.lives.length d0))]) hS23 hret; have hS24 : St w [] w9 ([.blk h6 27 (tabC tK6 (.slice a6 xs6.length c6) (.slice b6 tK6.lives.length d6)), .blk h5 27 (tabC tK5 (.slice a5 xs5.length c5) (.slice b5 tK5.lives.length d5)), .blk gw 9 ([.string ⟨([98] : List UInt8).toArray⟩, .string ⟨([99] : List UInt8).toArray⟩, .string ⟨([99, 64, 120] : List UInt8).toArray⟩]), .blk h4n 27 (tabC tK4 (.slice a4 xs4.length c4) (.slice b4 tK4.lives.length d4)), .blk h3 27 (tabC tK3 (.slice a3 xs3.length c3) (.slice b3 tK3.lives.length d3)), .blk h2 27 (tabC tK2 (.slice a2 xs2.length c2) (.slice b2 tK2.lives.length d2)), .blk h1 27 (tabC tK1 (.slice a1 xs1.length c1) (.slice b1 tK1.lives.length d1)), .blk g1 27 (tabC tS (.slice a0 xs0.length c0) (.slice b0 tS.lives.length d0))] ++ P8) := h4; clear hret h4 hS23; replace HT0 := hid (HT0.out.mono hsub); replace HT1 := hid (HT1.out.mono hsub); replace HT2 := hid (HT2.out.mono hsub); replace HT3 := hid (HT3.out.mono hsub); replace HT4 := hid (HT4.out.mono hsub); replace HT5 := hid (HT5.out.mono hsub); replace HT6 := hid (HT6.out.mono hsub); have HT7 := hid hin; clear hin hsub) | (refine wl_alloc hS24 rfl rfl ?_; intro h7 w1 h4; have hS25 : St w [] w1 ([.blk h7 27 (tab0), .blk h6 27 (tabC tK6 (.slice a6 xs6.length c6) (.slice b6 tK6.lives.length d6)), .blk h5 27 (tabC tK5 (.slice a5 xs5.length c5) (.slice b5 tK5.lives.length d5)), .blk gw 9 ([.string ⟨([98] : List UInt8).toArray⟩, .string ⟨([99] : List UInt8).toArray⟩, .string ⟨([99, 64, 120] : List UInt8).toArray⟩]), .blk h4n 27 (tabC tK4 (.slice a4 xs4.length c4) (.slice b4 tK4.lives.length d4)), .blk h3 27 (tabC tK3 (.slice a3 xs3.length c3) (.slice b3 tK3.lives.length d3)), .blk h2 27 (tabC tK2 (.slice a2 xs2.length c2) (.slice b2 tK2.lives.length d2)), .blk h1 27 (tabC tK1 (.slice a1 xs1.length c1) (.slice b1 tK1.lives.length d1)), .blk g1 27 (tabC tS (.slice a0 xs0.length c0) (.slice b0 tS.lives.length d0))] ++ P8) := h4; clear h4 hS24) | (refine wl_storeA [] hS25 rfl rfl rfl rfl (vs := tabC tK7 (.slice a7 xs7.length c7) (.slice b7 tK7.lives.length d7)) rfl rfl rfl ?_; intro w1 h4; have hS26 : St w [] w1 ([.blk h7 27 (tabC tK7 (.slice a7 xs7.length c7) (.slice b7 tK7.lives.length d7)), .blk h6 27 (tabC tK6 (.slice a6 xs6.length c6) (.slice b6 tK6.lives.length d6)), .blk h5 27 (tabC tK5 (.slice a5 xs5.length c5) (.slice b5 tK5.lives.length d5)), .blk gw 9 ([.string ⟨([98] : List UInt8).toArray⟩, .string ⟨([99] : List UInt8).toArray⟩, .string ⟨([99, 64, 120] : List UInt8).toArray⟩]), .blk h4n 27 (tabC tK4 (.slice a4 xs4.length c4) (.slice b4 tK4.lives.length d4)), .blk h3 27 (tabC tK3 (.slice a3 xs3.length c3) (.slice b3 tK3.lives.length d3)), .blk h2 27 (tabC tK2 (.slice a2 xs2.length c2) (.slice b2 tK2.lives.length d2)), .blk h1 27 (tabC tK1 (.slice a1 xs1.length c1) (.slice b1 tK1.lives.length d1)), .blk g1 27 (tabC tS (.slice a0 xs0.length c0) (.slice b0 tS.lives.length d0))] ++ P8) := h4; clear h4 hS25) | (refine wl_loadE rfl rfl rfl ?_; refine ⟨_, Loads.atA (tabC tS (.slice a0 xs0.length c0) (.slice b0 tS.lives.length d0)) [_, _, _, _, _, _, _, _] hS26 rfl rfl, ?_⟩) | (go_at_call 26; refine (snap13_any tS a0 b0 xs0.length c0 tS.lives.length d0 xs0 _ (HT0.out.tab hS26 tS_bd) [122, 64, 120] 1 (by decide)).mono ?_; rw [tK8_eq]; intro e9 w9 hret; obtain ⟨a8, b8, c8, d8, P9, xs8, rfl, hin, hsub, h4⟩ := ret_pool (B := [.blk h7 27 (tabC tK7 (.slice a7 xs7.length c7) (.slice b7 tK7.lives.length d7)), .blk h6 27 (tabC tK6 (.slice a6 xs6.length c6) (.slice b6 tK6.lives.length d6)), .blk h5 27 (tabC tK5 (.slice a5 xs5.length c5) (.slice b5 tK5.lives.length d5)), .blk gw 9 ([.string ⟨([98] : List UInt8).toArray⟩, .string ⟨([99] : List UInt8).toArray⟩, .string ⟨([99, 64, 120] : List UInt8).toArray⟩]), .blk h4n 27 (tabC tK4 (.slice a4 xs4.length c4) (.slice b4 tK4.lives.length d4)), .blk h3 27 (tabC tK3 (.slice a3 xs3.length c3) (.slice b3 tK3.lives.length d3)), .blk h2 27 (tabC tK2 (.slice a2 xs2.length c2) (.slice b2 tK2.lives.length d2)), .blk h1 27 (tabC tK1 (.slice a1 xs1.length c1) (.slice b1 tK1.lives.length d1)), .blk g1 27 (tabC tS (.slice a0 xs0.length c0) (.slice b0 tS.lives.length d0))]) hS26 hret; have hS27 : St w [] w9 ([.blk h7 27 (tabC tK7 (.slice a7 xs7.length c7) (.slice b7 tK7.lives.length d7)), .blk h6 27 (tabC tK6 (.slice a6 xs6.length c6) (.slice b6 tK6.lives.length d6)), .blk h5 27 (tabC tK5 (.slice a5 xs5.length c5) (.slice b5 tK5.lives.length d5)), .blk gw 9 ([.string ⟨([98] : List UInt8).toArray⟩, .string ⟨([99] : List UInt8).toArray⟩, .string ⟨([99, 64, 120] : List UInt8).toArray⟩]), .blk h4n 27 (tabC tK4 (.slice a4 xs4.length c4) (.slice b4 tK4.lives.length d4)), .blk h3 27 (tabC tK3 (.slice a3 xs3.length c3) (.slice b3 tK3.lives.length d3)), .blk h2 27 (tabC tK2 (.slice a2 xs2.length c2) (.slice b2 tK2.lives.length d2)), .blk h1 27 (tabC tK1 (.slice a1 xs1.length c1) (.slice b1 tK1.lives.length d1)), .blk g1 27 (tabC tS (.slice a0 xs0.length c0) (.slice b0 tS.lives.length d0))] ++ P9) := h4; clear hret h4 hS26; replace HT0 := hid (HT0.out.mono hsub); replace HT1 := hid (HT1.out.mono hsub); replace HT2 := hid (HT2.out.mono hsub); replace HT3 := hid (HT3.out.mono hsub); replace HT4 := hid (HT4.out.mono hsub); replace HT5 := hid (HT5.out.mono hsub); replace HT6 := hid (HT6.out.mono hsub); replace HT7 := hid (HT7.out.mono hsub); have HT8 := hid hin; clear hin hsub) | (refine wl_alloc hS27 rfl rfl ?_; intro h8 w1 h4; have hS28 : St w [] w1 ([.blk h8 27 (tab0), .blk h7 27 (tabC tK7 (.slice a7 xs7.length c7) (.slice b7 tK7.lives.length d7)), .blk h6 27 (tabC tK6 (.slice a6 xs6.length c6) (.slice b6 tK6.lives.length d6)), .blk h5 27 (tabC tK5 (.slice a5 xs5.length c5) (.slice b5 tK5.lives.length d5)), .blk gw 9 ([.string ⟨([98] : List UInt8).toArray⟩, .string ⟨([99] : List UInt8).toArray⟩, .string ⟨([99, 64, 120] : List UInt8).toArray⟩]), .blk h4n 27 (tabC tK4 (.slice a4 xs4.length c4) (.slice b4 tK4.lives.length d4)), .blk h3 27 (tabC tK3 (.slice a3 xs3.length c3) (.slice b3 tK3.lives.length d3)), .blk h2 27 (tabC tK2 (.slice a2 xs2.length c2) (.slice b2 tK2.lives.length d2)), .blk h1 27 (tabC tK1 (.slice a1 xs1.length c1) (.slice b1 tK1.lives.length d1)), .blk g1 27 (tabC tS (.slice a0 xs0.length c0) (.slice b0 tS.lives.length d0))] ++ P9) := h4; clear h4 hS27) | (refine wl_storeA [] hS28 rfl rfl rfl rfl (vs := tabC tK8 (.slice a8 xs8.length c8) (.slice b8 tK8.lives.length d8)) rfl rfl rfl ?_; intro w1 h4; have hS29 : St w [] w1 ([.blk h8 27 (tabC tK8 (.slice a8 xs8.length c8) (.slice b8 tK8.lives.length d8)), .blk h7 27 (tabC tK7 (.slice a7 xs7.length c7) (.slice b7 tK7.lives.length d7)), .blk h6 27 (tabC tK6 (.slice a6 xs6.length c6) (.slice b6 tK6.lives.length d6)), .blk h5 27 (tabC tK5 (.slice a5 xs5.length c5) (.slice b5 tK5.lives.length d5)), .blk gw 9 ([.string ⟨([98] : List UInt8).toArray⟩, .string ⟨([99] : List UInt8).toArray⟩, .string ⟨([99, 64, 120] : List UInt8).toArray⟩]), .blk h4n 27 (tabC tK4 (.slice a4 xs4.length c4) (.slice b4 tK4.lives.length d4)), .blk h3 27 (tabC tK3 (.slice a3 xs3.length c3) (.slice b3 tK3.lives.length d3)), .blk h2 27 (tabC tK2 (.slice a2 xs2.length c2) (.slice b2 tK2.lives.length d2)), .blk h1 27 (tabC tK1 (.slice a1 xs1.length c1) (.slice b1 tK1.lives.length d1)), .blk g1 27 (tabC tS (.slice a0 xs0.length c0) (.slice b0 tS.lives.length d0))] ++ P9) := h4; clear h4 hS28) | (refine wl_loadE rfl rfl rfl ?_; refine ⟨_, Loads.atA (tabC tS (.slice a0 xs0.length c0) (.slice b0 tS.lives.length d0)) [_, _, _, _, _, _, _, _, _] hS29 rfl rfl, ?_⟩) | (go_at_call 25; refine (make13_any tS a0 b0 xs0.length c0 tS.lives.length d0 xs0 _ (HT0.out.tab hS29 tS_bd) [98] 4 4 (by decide)).mono ?_; rw [tK9_eq]; intro e9 w9 hret; obtain ⟨a9, b9, c9, d9, P10, xs9, rfl, hin, hsub, h4⟩ := ret_pool (B := [.blk h8 27 (tabC tK8 (.slice a8 xs8.length c8) (.slice b8 tK8.lives.length d8)), .blk h7 27 (tabC tK7 (.slice a7 xs7.length c7) (.slice b7 tK7.lives.length d7)), .blk h6 27 (tabC tK6 (.slice a6 xs6.length c6) (.slice b6 tK6.lives.length d6)), .blk h5 27 (tabC tK5 (.slice a5 xs5.length c5) (.slice b5 tK5.lives.length d5)), .blk gw 9 ([.string ⟨([98] : List UInt8).toArray⟩, .string ⟨([99] : List UInt8).toArray⟩, .string ⟨([99, 64, 120] : List UInt8).toArray⟩]), .blk h4n 27 (tabC tK4 (.slice a4 xs4.length c4) (.slice b4 tK4.lives.length d4)), .blk h3 27 (tabC tK3 (.slice a3 xs3.length c3) (.slice b3 tK3.lives.length d3)), .blk h2 27 (tabC tK2 (.slice a2 xs2.length c2) (.slice b2 tK2.lives.length d2)), .blk h1 27 (tabC tK1 (.slice a1 xs1.length c1) (.slice b1 tK1.lives.length d1)), .blk g1 27 (tabC tS (.slice a0 xs0.length c0) (.slice b0 tS.lives.length d0))]) hS29 hret; have hS30 : St w [] w9 ([.blk h8 27 (tabC tK8 (.slice a8 xs8.length c8) (.slice b8 tK8.lives.length d8)), .blk h7 27 (tabC tK7 (.slice a7 xs7.length c7) (.slice b7 tK7.lives.length d7)), .blk h6 27 (tabC tK6 (.slice a6 xs6.length c6) (.slice b6 tK6.lives.length d6)), .blk h5 27 (tabC tK5 (.slice a5 xs5.length c5) (.slice b5 tK5.lives.length d5)), .blk gw 9 ([.string ⟨([98] : List UInt8).toArray⟩, .string ⟨([99] : List UInt8).toArray⟩, .string ⟨([99, 64, 120] : List UInt8).toArray⟩]), .blk h4n 27 (tabC tK4 (.slice a4 xs4.length c4) (.slice b4 tK4.lives.length d4)), .blk h3 27 (tabC tK3 (.slice a3 xs3.length c3) (.slice b3 tK3.lives.length d3)), .blk h2 27 (tabC tK2 (.slice a2 xs2.length c2) (.slice b2 tK2.lives.length d2)), .blk h1 27 (tabC tK1 (.slice a1 xs1.length c1) (.slice b1 tK1.lives.length d1)), .blk g1 27 (tabC tS (.slice a0 xs0.length c0) (.slice b0 tS.lives.length d0))] ++ P10) := h4; clear hret h4 hS29; replace HT0 := hid (HT0.out.mono hsub); replace HT1 := hid (HT1.out.mono hsub); replace HT2 := hid (HT2.out.mono hsub); replace HT3 := hid (HT3.out.mono hsub); replace HT4 := hid (HT4.out.mono hsub); replace HT5 := hid (HT5.out.mono hsub); replace HT6 := hid (HT6.out.mono hsub); replace HT7 := hid (HT7.out.mono hsub); replace HT8 := hid (HT8.out.mono hsub); have HT9 := hid hin; clear hin hsub) | (refine wl_alloc hS30 rfl rfl ?_; intro h9 w1 h4; have hS31 : St w [] w1 ([.blk h9 27 (tab0), .blk h8 27 (tabC tK8 (.slice a8 xs8.length c8) (.slice b8 tK8.lives.length d8)), .blk h7 27 (tabC tK7 (.slice a7 xs7.length c7) (.slice b7 tK7.lives.length d7)), .blk h6 27 (tabC tK6 (.slice a6 xs6.length c6) (.slice b6 tK6.lives.length d6)), .blk h5 27 (tabC tK5 (.slice a5 xs5.length c5) (.slice b5 tK5.lives.length d5)), .blk gw 9 ([.string ⟨([98] : List UInt8).toArray⟩, .string ⟨([99] : List UInt8).toArray⟩, .string ⟨([99, 64, 120] : List UInt8).toArray⟩]), .blk h4n 27 (tabC tK4 (.slice a4 xs4.length c4) (.slice b4 tK4.lives.length d4)), .blk h3 27 (tabC tK3 (.slice a3 xs3.length c3) (.slice b3 tK3.lives.length d3)), .blk h2 27 (tabC tK2 (.slice a2 xs2.length c2) (.slice b2 tK2.lives.length d2)), .blk h1 27 (tabC tK1 (.slice a1 xs1.length c1) (.slice b1 tK1.lives.length d1)), .blk g1 27 (tabC tS (.slice a0 xs0.length c0) (.slice b0 tS.lives.length d0))] ++ P10) := h4; clear h4 hS30) | (refine wl_storeA [] hS31 rfl rfl rfl rfl (vs := tabC tK9 (.slice a9 xs9.length c9) (.slice b9 tK9.lives.length d9)) rfl rfl rfl ?_; intro w1 h4; have hS32 : St w [] w1 ([.blk h9 27 (tabC tK9 (.slice a9 xs9.length c9) (.slice b9 tK9.lives.length d9)), .blk h8 27 (tabC tK8 (.slice a8 xs8.length c8) (.slice b8 tK8.lives.length d8)), .blk h7 27 (tabC tK7 (.slice a7 xs7.length c7) (.slice b7 tK7.lives.length d7)), .blk h6 27 (tabC tK6 (.slice a6 xs6.length c6) (.slice b6 tK6.lives.length d6)), .blk h5 27 (tabC tK5 (.slice a5 xs5.length c5) (.slice b5 tK5.lives.length d5)), .blk gw 9 ([.string ⟨([98] : List UInt8).toArray⟩, .string ⟨([99] : List UInt8).toArray⟩, .string ⟨([99, 64, 120] : List UInt8).toArray⟩]), .blk h4n 27 (tabC tK4 (.slice a4 xs4.length c4) (.slice b4 tK4.lives.length d4)), .blk h3 27 (tabC tK3 (.slice a3 xs3.length c3) (.slice b3 tK3.lives.length d3)), .blk h2 27 (tabC tK2 (.slice a2 xs2.length c2) (.slice b2 tK2.lives.length d2)), .blk h1 27 (tabC tK1 (.slice a1 xs1.length c1) (.slice b1 tK1.lives.length d1)), .blk g1 27 (tabC tS (.slice a0 xs0.length c0) (.slice b0 tS.lives.length d0))] ++ P10) := h4; clear h4 hS31) | (refine wl_loadE rfl rfl rfl ?_; refine ⟨_, Loads.atA (tabC tS (.slice a0 xs0.length c0) (.slice b0 tS.lives.length d0)) [_, _, _, _, _, _, _, _, _, _] hS32 rfl rfl, ?_⟩) | (go_at_call 26; refine (snap13_any tS a0 b0 xs0.length c0 tS.lives.length d0 xs0 _ (HT0.out.tab hS32 tS_bd) [97, 64, 121] 4 (by decide)).mono ?_; rw [tV_eq]; intro e9 w9 hret; obtain ⟨a10, b10, c10, d10, P11, xs10, rfl, hin, hsub, h4⟩ := ret_pool (B := [.blk h9 27 (tabC tK9 (.slice a9 xs9.length c9) (.slice b9 tK9.lives.length d9)), .blk h8 27 (tabC tK8 (.slice a8 xs8.length c8) (.slice b8 tK8.lives.length d8)), .blk h7 27 (tabC tK7 (.slice a7 xs7.length c7) (.slice b7 tK7.lives.length d7)), .blk h6 27 (tabC tK6 (.slice a6 xs6.length c6) (.slice b6 tK6.lives.length d6)), .blk h5 27 (tabC tK5 (.slice a5 xs5.length c5) (.slice b5 tK5.lives.length d5)), .blk gw 9 ([.string ⟨([98] : List UInt8).toArray⟩, .string ⟨([99] : List UInt8).toArray⟩, .string ⟨([99, 64, 120] : List UInt8).toArray⟩]), .blk h4n 27 (tabC tK4 (.slice a4 xs4.length c4) (.slice b4 tK4.lives.length d4)), .blk h3 27 (tabC tK3 (.slice a3 xs3.length c3) (.slice b3 tK3.lives.length d3)), .blk h2 27 (tabC tK2 (.slice a2 xs2.length c2) (.slice b2 tK2.lives.length d2)), .blk h1 27 (tabC tK1 (.slice a1 xs1.length c1) (.slice b1 tK1.lives.length d1)), .blk g1 27 (tabC tS (.slice a0 xs0.length c0) (.slice b0 tS.lives.length d0))]) hS32 hret; have hS33 : St w [] w9 ([.blk h9 27 (tabC tK9 (.slice a9 xs9.length c9) (.slice b9 tK9.lives.length d9)), .blk h8 27 (tabC tK8 (.slice a8 xs8.length c8) (.slice b8 tK8.lives.length d8)), .blk h7 27 (tabC tK7 (.slice a7 xs7.length c7) (.slice b7 tK7.lives.length d7)), .blk h6 27 (tabC tK6 (.slice a6 xs6.length c6) (.slice b6 tK6.lives.length d6)), .blk h5 27 (tabC tK5 (.slice a5 xs5.length c5) (.slice b5 tK5.lives.length d5)), .blk gw 9 ([.string ⟨([98] : List UInt8).toArray⟩, .string ⟨([99] : List UInt8).toArray⟩, .string ⟨([99, 64, 120] : List UInt8).toArray⟩]), .blk h4n 27 (tabC tK4 (.slice a4 xs4.length c4) (.slice b4 tK4.lives.length d4)), .blk h3 27 (tabC tK3 (.slice a3 xs3.length c3) (.slice b3 tK3.lives.length d3)), .blk h2 27 (tabC tK2 (.slice a2 xs2.length c2) (.slice b2 tK2.lives.length d2)), .blk h1 27 (tabC tK1 (.slice a1 xs1.length c1) (.slice b1 tK1.lives.length d1)), .blk g1 27 (tabC tS (.slice a0 xs0.length c0) (.slice b0 tS.lives.length d0))] ++ P11) := h4; clear hret h4 hS32; replace HT0 := hid (HT0.out.mono hsub); replace HT1 := hid (HT1.out.mono hsub); replace HT2 := hid (HT2.out.mono hsub); replace HT3 := hid (HT3.out.mono hsub); replace HT4 := hid (HT4.out.mono hsub); replace HT5 := hid (HT5.out.mono hsub); replace HT6 := hid (HT6.out.mono hsub); replace HT7 := hid (HT7.out.mono hsub); replace HT8 := hid (HT8.out.mono hsub); replace HT9 := hid (HT9.out.mono hsub); have HT10 := hid hin; clear hin hsub) | (refine wl_alloc hS33 rfl rfl ?_; intro h10 w1 h4; have hS34 : St w [] w1 ([.blk h10 27 (tab0), .blk h9 27 (tabC tK9 (.slice a9 xs9.length c9) (.slice b9 tK9.lives.length d9)), .blk h8 27 (tabC tK8 (.slice a8 xs8.length c8) (.slice b8 tK8.lives.length d8)), .blk h7 27 (tabC tK7 (.slice a7 xs7.length c7) (.slice b7 tK7.lives.length d7)), .blk h6 27 (tabC tK6 (.slice a6 xs6.length c6) (.slice b6 tK6.lives.length d6)), .blk h5 27 (tabC tK5 (.slice a5 xs5.length c5) (.slice b5 tK5.lives.length d5)), .blk gw 9 ([.string ⟨([98] : List UInt8).toArray⟩, .string ⟨([99] : List UInt8).toArray⟩, .string ⟨([99, 64, 120] : List UInt8).toArray⟩]), .blk h4n 27 (tabC tK4 (.slice a4 xs4.length c4) (.slice b4 tK4.lives.length d4)), .blk h3 27 (tabC tK3 (.slice a3 xs3.length c3) (.slice b3 tK3.lives.length d3)), .blk h2 27 (tabC tK2 (.slice a2 xs2.length c2) (.slice b2 tK2.lives.length d2)), .blk h1 27 (tabC tK1 (.slice a1 xs1.length c1) (.slice b1 tK1.lives.length d1)), .blk g1 27 (tabC tS (.slice a0 xs0.length c0) (.slice b0 tS.lives.length d0))] ++ P11) := h4; clear h4 hS33) | (refine wl_storeA [] hS34 rfl rfl rfl rfl (vs := tabC tV (.slice a10 xs10.length c10) (.slice b10 tV.lives.length d10)) rfl rfl rfl ?_; intro w1 h4; have hS35 : St w [] w1 ([.blk h10 27 (tabC tV (.slice a10 xs10.length c10) (.slice b10 tV.lives.length d10)), .blk h9 27 (tabC tK9 (.slice a9 xs9.length c9) (.slice b9 tK9.lives.length d9)), .blk h8 27 (tabC tK8 (.slice a8 xs8.length c8) (.slice b8 tK8.lives.length d8)), .blk h7 27 (tabC tK7 (.slice a7 xs7.length c7) (.slice b7 tK7.lives.length d7)), .blk h6 27 (tabC tK6 (.slice a6 xs6.length c6) (.slice b6 tK6.lives.length d6)), .blk h5 27 (tabC tK5 (.slice a5 xs5.length c5) (.slice b5 tK5.lives.length d5)), .blk gw 9 ([.string ⟨([98] : List UInt8).toArray⟩, .string ⟨([99] : List UInt8).toArray⟩, .string ⟨([99, 64, 120] : List UInt8).toArray⟩]), .blk h4n 27 (tabC tK4 (.slice a4 xs4.length c4) (.slice b4 tK4.lives.length d4)), .blk h3 27 (tabC tK3 (.slice a3 xs3.length c3) (.slice b3 tK3.lives.length d3)), .blk h2 27 (tabC tK2 (.slice a2 xs2.length c2) (.slice b2 tK2.lives.length d2)), .blk h1 27 (tabC tK1 (.slice a1 xs1.length c1) (.slice b1 tK1.lives.length d1)), .blk g1 27 (tabC tS (.slice a0 xs0.length c0) (.slice b0 tS.lives.length d0))] ++ P11) := h4; clear h4 hS34) | (refine wl_loadE rfl rfl rfl ?_; refine ⟨_, Loads.atA (tabC tV (.slice a10 xs10.length c10) (.slice b10 tV.lives.length d10)) [] hS35 rfl rfl, ?_⟩) | (go_at_call 28; refine (roll13_any tV a10 b10 xs10.length c10 tV.lives.length d10 xs10 _ (HT10.out.tab hS35 tV_bd) [97, 64, 120] (by decide)).mono ?_; rw [tV1_eq]; intro e9 w9 hret; obtain ⟨a11, b11, c11, d11, P12, xs11, rfl, hin, hsub, h4⟩ := ret_pool (B := [.blk h10 27 (tabC tV (.slice a10 xs10.length c10) (.slice b10 tV.lives.length d10)), .blk h9 27 (tabC tK9 (.slice a9 xs9.length c9) (.slice b9 tK9.lives.length d9)), .blk h8 27 (tabC tK8 (.slice a8 xs8.length c8) (.slice b8 tK8.lives.length d8)), .blk h7 27 (tabC tK7 (.slice a7 xs7.length c7) (.slice b7 tK7.lives.length d7)), .blk h6 27 (tabC tK6 (.slice a6 xs6.length c6) (.slice b6 tK6.lives.length d6)), .blk h5 27 (tabC tK5 (.slice a5 xs5.length c5) (.slice b5 tK5.lives.length d5)), .blk gw 9 ([.string ⟨([98] : List UInt8).toArray⟩, .string ⟨([99] : List UInt8).toArray⟩, .string ⟨([99, 64, 120] : List UInt8).toArray⟩]), .blk h4n 27 (tabC tK4 (.slice a4 xs4.length c4) (.slice b4 tK4.lives.length d4)), .blk h3 27 (tabC tK3 (.slice a3 xs3.length c3) (.slice b3 tK3.lives.length d3)), .blk h2 27 (tabC tK2 (.slice a2 xs2.length c2) (.slice b2 tK2.lives.length d2)), .blk h1 27 (tabC tK1 (.slice a1 xs1.length c1) (.slice b1 tK1.lives.length d1)), .blk g1 27 (tabC tS (.slice a0 xs0.length c0) (.slice b0 tS.lives.length d0))]) hS35 hret; have hS36 : St w [] w9 ([.blk h10 27 (tabC tV (.slice a10 xs10.length c10) (.slice b10 tV.lives.length d10)), .blk h9 27 (tabC tK9 (.slice a9 xs9.length c9) (.slice b9 tK9.lives.length d9)), .blk h8 27 (tabC tK8 (.slice a8 xs8.length c8) (.slice b8 tK8.lives.length d8)), .blk h7 27 (tabC tK7 (.slice a7 xs7.length c7) (.slice b7 tK7.lives.length d7)), .blk h6 27 (tabC tK6 (.slice a6 xs6.length c6) (.slice b6 tK6.lives.length d6)), .blk h5 27 (tabC tK5 (.slice a5 xs5.length c5) (.slice b5 tK5.lives.length d5)), .blk gw 9 ([.string ⟨([98] : List UInt8).toArray⟩, .string ⟨([99] : List UInt8).toArray⟩, .string ⟨([99, 64, 120] : List UInt8).toArray⟩]), .blk h4n 27 (tabC tK4 (.slice a4 xs4.length c4) (.slice b4 tK4.lives.length d4)), .blk h3 27 (tabC tK3 (.slice a3 xs3.length c3) (.slice b3 tK3.lives.length d3)), .blk h2 27 (tabC tK2 (.slice a2 xs2.length c2) (.slice b2 tK2.lives.length d2)), .blk h1 27 (tabC tK1 (.slice a1 xs1.length c1) (.slice b1 tK1.lives.length d1)), .blk g1 27 (tabC tS (.slice a0 xs0.length c0) (.slice b0 tS.lives.length d0))] ++ P12) := h4; clear hret h4 hS35; replace HT0 := hid (HT0.out.mono hsub); replace HT1 := hid (HT1.out.mono hsub); replace HT2 := hid (HT2.out.mono hsub); replace HT3 := hid (HT3.out.mono hsub); replace HT4 := hid (HT4.out.mono hsub); replace HT5 := hid (HT5.out.mono hsub); replace HT6 := hid (HT6.out.mono hsub); replace HT7 := hid (HT7.out.mono hsub); replace HT8 := hid (HT8.out.mono hsub); replace HT9 := hid (HT9.out.mono hsub); replace HT10 := hid (HT10.out.mono hsub); have HT11 := hid hin; clear hin hsub) | (refine wl_alloc hS36 rfl rfl ?_; intro h11 w1 h4; have hS37 : St w [] w1 ([.blk h11 27 (tab0), .blk h10 27 (tabC tV (.slice a10 xs10.length c10) (.slice b10 tV.lives.length d10)), .blk h9 27 (tabC tK9 (.slice a9 xs9.length c9) (.slice b9 tK9.lives.length d9)), .blk h8 27 (tabC tK8 (.slice a8 xs8.length c8) (.slice b8 tK8.lives.length d8)), .blk h7 27 (tabC tK7 (.slice a7 xs7.length c7) (.slice b7 tK7.lives.length d7)), .blk h6 27 (tabC tK6 (.slice a6 xs6.length c6) (.slice b6 tK6.lives.length d6)), .blk h5 27 (tabC tK5 (.slice a5 xs5.length c5) (.slice b5 tK5.lives.length d5)), .blk gw 9 ([.string ⟨([98] : List UInt8).toArray⟩, .string ⟨([99] : List UInt8).toArray⟩, .string ⟨([99, 64, 120] : List UInt8).toArray⟩]), .blk h4n 27 (tabC tK4 (.slice a4 xs4.length c4) (.slice b4 tK4.lives.length d4)), .blk h3 27 (tabC tK3 (.slice a3 xs3.length c3) (.slice b3 tK3.lives.length d3)), .blk h2 27 (tabC tK2 (.slice a2 xs2.length c2) (.slice b2 tK2.lives.length d2)), .blk h1 27 (tabC tK1 (.slice a1 xs1.length c1) (.slice b1 tK1.lives.length d1)), .blk g1 27 (tabC tS (.slice a0 xs0.length c0) (.slice b0 tS.lives.length d0))] ++ P12) := h4; clear h4 hS36) | (refine wl_storeA [] hS37 rfl rfl rfl rfl (vs := tabC tV1 (.slice a11 xs11.length c11) (.slice b11 tV1.lives.length d11)) rfl rfl rfl ?_; intro w1 h4; have hS38 : St w [] w1 ([.blk h11 27 (tabC tV1 (.slice a11 xs11.length c11) (.slice b11 tV1.lives.length d11)), .blk h10 27 (tabC tV (.slice a10 xs10.length c10) (.slice b10 tV.lives.length d10)), .blk h9 27 (tabC tK9 (.slice a9 xs9.length c9) (.slice b9 tK9.lives.length d9)), .blk h8 27 (tabC tK8 (.slice a8 xs8.length c8) (.slice b8 tK8.lives.length d8)), .blk h7 27 (tabC tK7 (.slice a7 xs7.length c7) (.slice b7 tK7.lives.length d7)), .blk h6 27 (tabC tK6 (.slice a6 xs6.length c6) (.slice b6 tK6.lives.length d6)), .blk h5 27 (tabC tK5 (.slice a5 xs5.length c5) (.slice b5 tK5.lives.length d5)), .blk gw 9 ([.string ⟨([98] : List UInt8).toArray⟩, .string ⟨([99] : List UInt8).toArray⟩, .string ⟨([99, 64, 120] : List UInt8).toArray⟩]), .blk h4n 27 (tabC tK4 (.slice a4 xs4.length c4) (.slice b4 tK4.lives.length d4)), .blk h3 27 (tabC tK3 (.slice a3 xs3.length c3) (.slice b3 tK3.lives.length d3)), .blk h2 27 (tabC tK2 (.slice a2 xs2.length c2) (.slice b2 tK2.lives.length d2)), .blk h1 27 (tabC tK1 (.slice a1 xs1.length c1) (.slice b1 tK1.lives.length d1)), .blk g1 27 (tabC tS (.slice a0 xs0.length c0) (.slice b0 tS.lives.length d0))] ++ P12) := h4; clear h4 hS37) | (refine wl_loadE rfl rfl rfl ?_; refine ⟨_, Loads.atA (tabC tV (.slice a10 xs10.length c10) (.slice b10 tV.lives.length d10)) [_] hS38 rfl rfl, ?_⟩) | (go_at_call 28; refine (roll13_any tV a10 b10 xs10.length c10 tV.lives.length d10 xs10 _ (HT10.out.tab hS38 tV_bd) [97, 64, 121] (by decide)).mono ?_; rw [tV2_eq]; intro e9 w9 hret; obtain ⟨a12, b12, c12, d12, P13, xs12, rfl, hin, hsub, h4⟩ := ret_pool (B := [.blk h11 27 (tabC tV1 (.slice a11 xs11.length c11) (.slice b11 tV1.lives.length d11)), .blk h10 27 (tabC tV (.slice a10 xs10.length c10) (.slice b10 tV.lives.length d10)), .blk h9 27 (tabC tK9 (.slice a9 xs9.length c9) (.slice b9 tK9.lives.length d9)), .blk h8 27 (tabC tK8 (.slice a8 xs8.length c8) (.slice b8 tK8.lives.length d8)), .blk h7 27 (tabC tK7 (.slice a7 xs7.length c7) (.slice b7 tK7.lives.length d7)), .blk h6 27 (tabC tK6 (.slice a6 xs6.length c6) (.slice b6 tK6.lives.length d6)), .blk h5 27 (tabC tK5 (.slice a5 xs5.length c5) (.slice b5 tK5.lives.length d5)), .blk gw 9 ([.string ⟨([98] : List UInt8).toArray⟩, .string ⟨([99] : List UInt8).toArray⟩, .string ⟨([99, 64, 120] : List UInt8).toArray⟩]), .blk h4n 27 (tabC tK4 (.slice a4 xs4.length c4) (.slice b4 tK4.lives.length d4)), .blk h3 27 (tabC tK3 (.slice a3 xs3.length c3) (.slice b3 tK3.lives.length d3)), .blk h2 27 (tabC tK2 (.slice a2 xs2.length c2) (.slice b2 tK2.lives.length d2)), .blk h1 27 (tabC tK1 (.slice a1 xs1.length c1) (.slice b1 tK1.lives.length d1)), .blk g1 27 (tabC tS (.slice a0 xs0.length c0) (.slice b0 tS.lives.length d0))]) hS38 hret; have hS39 : St w [] w9 ([.blk h11 27 (tabC tV1 (.slice a11 xs11.length c11) (.slice b11 tV1.lives.length d11)), .blk h10 27 (tabC tV (.slice a10 xs10.length c10) (.slice b10 tV.lives.length d10)), .blk h9 27 (tabC tK9 (.slice a9 xs9.length c9) (.slice b9 tK9.lives.length d9)), .blk h8 27 (tabC tK8 (.slice a8 xs8.length c8) (.slice b8 tK8.lives.length d8)), .blk h7 27 (tabC tK7 (.slice a7 xs7.length c7) (.slice b7 tK7.lives.length d7)), .blk h6 27 (tabC tK6 (.slice a6 xs6.length c6) (.slice b6 tK6.lives.length d6)), .blk h5 27 (tabC tK5 (.slice a5 xs5.length c5) (.slice b5 tK5.lives.length d5)), .blk gw 9 ([.string ⟨([98] : List UInt8).toArray⟩, .string ⟨([99] : List UInt8).toArray⟩, .string ⟨([99, 64, 120] : List UInt8).toArray⟩]), .blk h4n 27 (tabC tK4 (.slice a4 xs4.length c4) (.slice b4 tK4.lives.length d4)), .blk h3 27 (tabC tK3 (.slice a3 xs3.length c3) (.slice b3 tK3.lives.length d3)), .blk h2 27 (tabC tK2 (.slice a2 xs2.length c2) (.slice b2 tK2.lives.length d2)), .blk h1 27 (tabC tK1 (.slice a1 xs1.length c1) (.slice b1 tK1.lives.length d1)), .blk g1 27 (tabC tS (.slice a0 xs0.length c0) (.slice b0 tS.lives.length d0))] ++ P13) := h4; clear hret h4 hS38; replace HT0 := hid (HT0.out.mono hsub); replace HT1 := hid (HT1.out.mono hsub); replace HT2 := hid (HT2.out.mono hsub); replace HT3 := hid (HT3.out.mono hsub); replace HT4 := hid (HT4.out.mono hsub); replace HT5 := hid (HT5.out.mono hsub); replace HT6 := hid (HT6.out.mono hsub); replace HT7 := hid (HT7.out.mono hsub); replace HT8 := hid (HT8.out.mono hsub); replace HT9 := hid (HT9.out.mono hsub); replace HT10 := hid (HT10.out.mono hsub); replace HT11 := hid (HT11.out.mono hsub); have HT12 := hid hin; clear hin hsub) | (refine wl_alloc hS39 rfl rfl ?_; intro h12 w1 h4; have hS40 : St w [] w1 ([.blk h12 27 (tab0), .blk h11 27 (tabC tV1 (.slice a11 xs11.length c11) (.slice b11 tV1.lives.length d11)), .blk h10 27 (tabC tV (.slice a10 xs10.length c10) (.slice b10 tV.lives.length d10)), .blk h9 27 (tabC tK9 (.slice a9 xs9.length c9) (.slice b9 tK9.lives.length d9)), .blk h8 27 (tabC tK8 (.slice a8 xs8.length c8) (.slice b8 tK8.lives.length d8)), .blk h7 27 (tabC tK7 (.slice a7 xs7.length c7) (.slice b7 tK7.lives.length d7)), .blk h6 27 (tabC tK6 (.slice a6 xs6.length c6) (.slice b6 tK6.lives.length d6)), .blk h5 27 (tabC tK5 (.slice a5 xs5.length c5) (.slice b5 tK5.lives.length d5)), .blk gw 9 ([.string ⟨([98] : List UInt8).toArray⟩, .string ⟨([99] : List UInt8).toArray⟩, .string ⟨([99, 64, 120] : List UInt8).toArray⟩]), .blk h4n 27 (tabC tK4 (.slice a4 xs4.length c4) (.slice b4 tK4.lives.length d4)), .blk h3 27 (tabC tK3 (.slice a3 xs3.length c3) (.slice b3 tK3.lives.length d3)), .blk h2 27 (tabC tK2 (.slice a2 xs2.length c2) (.slice b2 tK2.lives.length d2)), .blk h1 27 (tabC tK1 (.slice a1 xs1.length c1) (.slice b1 tK1.lives.length d1)), .blk g1 27 (tabC tS (.slice a0 xs0.length c0) (.slice b0 tS.lives.length d0))] ++ P13) := h4; clear h4 hS39) | (refine wl_storeA [] hS40 rfl rfl rfl rfl (vs := tabC tV2 (.slice a12 xs12.length c12) (.slice b12 tV2.lives.length d12)) rfl rfl rfl ?_; intro w1 h4; have hS41 : St w [] w1 ([.blk h12 27 (tabC tV2 (.slice a12 xs12.length c12) (.slice b12 tV2.lives.length d12)), .blk h11 27 (tabC tV1 (.slice a11 xs11.length c11) (.slice b11 tV1.lives.length d11)), .blk h10 27 (tabC tV (.slice a10 xs10.length c10) (.slice b10 tV.lives.length d10)), .blk h9 27 (tabC tK9 (.slice a9 xs9.length c9) (.slice b9 tK9.lives.length d9)), .blk h8 27 (tabC tK8 (.slice a8 xs8.length c8) (.slice b8 tK8.lives.length d8)), .blk h7 27 (tabC tK7 (.slice a7 xs7.length c7) (.slice b7 tK7.lives.length d7)), .blk h6 27 (tabC tK6 (.slice a6 xs6.length c6) (.slice b6 tK6.lives.length d6)), .blk h5 27 (tabC tK5 (.slice a5 xs5.length c5) (.slice b5 tK5.lives.length d5)), .blk gw 9 ([.string ⟨([98] : List UInt8).toArray⟩, .string ⟨([99] : List UInt8).toArray⟩, .string ⟨([99, 64, 120] : List UInt8).toArray⟩]), .blk h4n 27 (tabC tK4 (.slice a4 xs4.length c4) (.slice b4 tK4.lives.length d4)), .blk h3 27 (tabC tK3 (.slice a3 xs3.length c3) (.slice b3 tK3.lives.length d3)), .blk h2 27 (tabC tK2 (.slice a2 xs2.length c2) (.slice b2 tK2.lives.length d2)), .blk h1 27 (tabC tK1 (.slice a1 xs1.length c1) (.slice b1 tK1.lives.length d1)), .blk g1 27 (tabC tS (.slice a0 xs0.length c0) (.slice b0 tS.lives.length d0))] ++ P13) := h4; clear h4 hS40) | (go_at_call 8; refine (awake13_any _).mono ?_; rintro _ w9 ⟨rfl, h4⟩; have hE := St.call0 hS41 h4; clear h4 hS41))
  go_ret
  exact ⟨rfl, hE.nil⟩
end Go.Proofs.YtifajcblbedcoaaGreat
namespace Go.Proofs.YtifajcblbedcoaaGreat
set_option linter.unusedVariables false
set_option linter.unusedSimpArgs false
open Go.RowKit Hp
attribute [local irreducible] Go.Calls
set_option maxHeartbeats 1000000
/-- The number below n that x says. -/
def pickI (x n : Int) : Int := if n < 1 then 0 else x % n
theorem pickI_nat {x : Int} {n : Nat} (h : 0 < n) : ∃ k : Nat, k < n ∧ pickI x n = k := by
  have h1 := Int.emod_nonneg x (show (n : Int) ≠ 0 by omega)
  have h2 := Int.emod_lt_of_pos x (show (0 : Int) < n by omega)
  refine ⟨(x % n).toNat, by omega, ?_⟩
  unfold pickI
  rw [if_neg (by omega)]
  omega
theorem pick_spec (x n : Int) (w : World) (hx : -9223372036854775808 ≤ x ∧ x ≤ 9223372036854775807) (hn : -9223372036854775808 ≤ n ∧ n ≤ 9223372036854775807) :
    Calls Tryz.prog 19 #[.int .i64 x, .int .i64 n] w fun e w' => e = .returned (.int .i64 (pickI x n)) ∧ St w [] w' [] := by
  have hst := St.refl w
  by_cases h1 : n < 1
  · have d1 : decide (n < 1) = true := decide_eq_true h1
    have e : pickI x n = 0 := by unfold pickI; rw [if_pos h1]
    rw [e]
    clear h1 e
    go_enter Tryz.func19, Tryz.ntmps19
    go_wp2_with (first | go_big_skip | go_big_guard | fail)
    go_ret
    exact ⟨rfl, hst⟩
  · have d1 : decide (n < 1) = false := decide_eq_false h1
    obtain ⟨r, hr⟩ : ∃ r, r = Int.tmod x n := ⟨_, rfl⟩
    have q1 := Int.tmod_lt_of_pos x (show (0 : Int) < n by omega)
    have q2 := Int.lt_tmod_of_pos x (show (0 : Int) < n by omega)
    rw [← hr] at q1 q2
    have hw : IntKind.i64.wrap r = r := IntWalk.i64_in _ (by omega)
    have f1 : ∀ T, binOp .rem T (.int .i64 x) (.int .i64 n) = pure (.int .i64 r) := by
      intro T
      have hn0 : n ≠ 0 := by omega
      simp only [binOp]
      simp [Op.intDiv, hn0, ← hr, hw]
    have em : x % n = if r < 0 then r + n else r := by
      rw [hr, Int.tmod_eq_emod]
      have := Int.emod_nonneg x (show n ≠ 0 by omega)
      have := Int.emod_lt_of_pos x (show (0 : Int) < n by omega)
      split <;> (split <;> omega)
    have e : pickI x n = if r < 0 then r + n else r := by unfold pickI; rw [if_neg h1, em]
    rw [e]
    clear em e hr h1
    by_cases h2 : r < 0
    · have d2 : decide (r < 0) = true := decide_eq_true h2
      have z0 : IntKind.i64.wrap (r + n) = r + n := IntWalk.i64_in _ (by omega)
      rw [if_pos h2]
      clear h2
      go_enter Tryz.func19, Tryz.ntmps19
      go_wp2_with (first | go_big_skip | go_big_guard | fail)
      go_ret
      exact ⟨rfl, hst⟩
    · have d2 : decide (r < 0) = false := decide_eq_false h2
      rw [if_neg h2]
      clear h2
      go_enter Tryz.func19, Tryz.ntmps19
      go_wp2_with (first | go_big_skip | go_big_guard | fail)
      go_ret
      exact ⟨rfl, hst⟩
end Go.Proofs.YtifajcblbedcoaaGreat
namespace Go.Proofs.YtifajcblbedcoaaGreat
set_option linter.unusedVariables false
set_option linter.unusedSimpArgs false
open Go.RowKit Hp
attribute [local irreducible] Go.Calls Go.wpList
set_option maxRecDepth 100000
set_option maxHeartbeats 4000000
theorem rowP_at {w0 w : World} {M : List Nat} {p : Value → Bool} {v : Value} {T : TypeId} {sz n : Nat} {xs : List Value} (L1 : List HA) {L2 : List HA} (h : St w0 M w (L1 ++ .rowP p v T sz n xs :: L2)) : ∃ ao c, v = .slice ao n c := by
  obtain ⟨ao, c, e, _⟩ := rowP_form h (List.mem_append.2 (.inr (.head _)))
  exact ⟨ao, c, e⟩
end Go.Proofs.YtifajcblbedcoaaGreat
namespace Go.Proofs.YtifajcblbedcoaaGreat
set_option linter.unusedVariables false
set_option linter.unusedSimpArgs false
open Go.RowKit Hp
attribute [local irreducible] Go.Calls Go.wpList
set_option maxRecDepth 100000
set_option maxHeartbeats 4000000
attribute [local go_sem ↓] heldInt heldBool
/-- A reader, as cells: the bytes, how far it has come, whether they ended within a field. -/
def rdC (bv : Value) (s : GS) : List Value := [bv, .int .i64 (s.pos : Int), .bool s.short]
end Go.Proofs.YtifajcblbedcoaaGreat
namespace Go.Proofs.YtifajcblbedcoaaGreat
set_option linter.unusedVariables false
set_option linter.unusedSimpArgs false
open Go.RowKit Hp
attribute [local irreducible] Go.Calls Go.wpList
set_option maxRecDepth 100000
set_option maxHeartbeats 4000000
end Go.Proofs.YtifajcblbedcoaaGreat
namespace Go.Proofs.YtifajcblbedcoaaGreat
set_option linter.unusedVariables false
set_option linter.unusedSimpArgs false
open Go.RowKit Hp
attribute [local irreducible] Go.Calls Go.wpList
set_option maxRecDepth 100000
set_option maxHeartbeats 8000000
theorem heldErr (A : Addr) : loadVar 41 A = loadVarH 41 A := rfl
instance dZI : TyZ Tryz.prog 3 [.int .i64 0] := ⟨by kernel_rfl⟩
section
attribute [local go_sem ↓] heldRec heldErr
end
section
attribute [local go_sem ↓] heldRec heldErr
end
end Go.Proofs.YtifajcblbedcoaaGreat
namespace Go.Proofs.YtifajcblbedcoaaGreat
set_option linter.unusedVariables false
set_option linter.unusedSimpArgs false
open Go.RowKit
namespace Hp
section
variable {P : Program}
variable {w0 w : World} {M : List Nat} {L1 L2 : List HA}

theorem freeze_other (w : World) (a : Addr) (n k : Nat) (h : k ≠ a.block) : (w.freeze a n).heap[k]? = w.heap[k]? := by
  unfold World.freeze
  split
  · rfl
  · simp only [Array.getElem?_modify]
    rw [if_neg (fun e => h e.symm)]
theorem freeze_here (w : World) (g off n : Nat) (cs : Array Value) (T : TypeId) (h : w.heap[g]? = some (.cells cs T (0, 0))) (hn : n ≠ 0) : (w.freeze ⟨g, off, none⟩ n).heap[g]? = some (.cells cs T (off, off + n)) := by
  unfold World.freeze
  rw [if_neg hn]
  simp only [Array.getElem?_modify, if_true, h, Option.map_some]
  simp
theorem freeze_size (w : World) (a : Addr) (n : Nat) : (w.freeze a n).heap.size = w.heap.size := by
  unfold World.freeze
  split <;> simp
theorem freeze_os (w : World) (a : Addr) (n : Nat) : (w.freeze a n).os = w.os ∧ (w.freeze a n).tape = w.tape ∧ (w.freeze a n).output = w.output := by
  unfold World.freeze
  split <;> exact ⟨rfl, rfl, rfl⟩

theorem St.freeze {g : Nat} {T : TypeId} {cs : List Value} (h : St w0 M w (L1 ++ .blk g T cs :: L2)) (off n : Nat) (hn : n ≠ 0) : St w0 M (w.freeze ⟨g, off, none⟩ n) (L1 ++ .frz (off, off + n) g T cs :: L2) := by
  have hmem : HA.blk g T cs ∈ L1 ++ .blk g T cs :: L2 := by simp
  have hown := h.own _ hmem g rfl
  have hap := h.apart
  unfold Apart at hap
  rw [List.pairwise_append, List.pairwise_cons] at hap
  have hother : ∀ x, x ∈ L1 ∨ x ∈ L2 → ∀ k, x.foot = some k → k ≠ g := by
    rintro x (hx | hx) k hk rfl
    · exact hap.2.2 x hx (.blk k T cs) (by simp) k hk rfl
    · exact hap.2.1.1 x hx k rfl hk
  obtain ⟨f1, f2, f3⟩ := freeze_os w ⟨g, off, none⟩ n
  refine ⟨f1.trans h.os, f2.trans h.tape, f3.trans h.output, by rw [freeze_size]; exact h.size, fun k hk hM => ?_, fun x hx => ?_, fun x hx k hk => ?_, ?_⟩
  · rw [freeze_other w _ n k (by rintro rfl; rcases hown with h1 | h1; exact absurd hk (Nat.not_lt.2 h1); exact hM h1)]; exact h.old k hk hM
  · rcases List.mem_append.1 hx with hx | hx
    · exact HA.keep (h.all x (by simp [hx])) fun k hk => freeze_other w _ n k (hother x (.inl hx) k hk)
    · rcases List.mem_cons.1 hx with rfl | hx
      · exact freeze_here w g off n cs.toArray T (h.all _ hmem) hn
      · exact HA.keep (h.all x (by simp [hx])) fun k hk => freeze_other w _ n k (hother x (.inr hx) k hk)
  · rcases List.mem_append.1 hx with hx | hx
    · exact h.own x (by simp [hx]) k hk
    · rcases List.mem_cons.1 hx with rfl | hx
      · simp [HA.foot] at hk; subst hk; exact hown
      · exact h.own x (by simp [hx]) k hk
  · unfold Apart
    rw [List.pairwise_append, List.pairwise_cons]
    refine ⟨hap.1, ⟨fun y hy k hk => hap.2.1.1 y hy k hk, hap.2.1.2⟩, fun x hx y hy k hk => ?_⟩
    rcases List.mem_cons.1 hy with rfl | hy
    · exact hap.2.2 x hx (.blk g T cs) (by simp) k hk
    · exact hap.2.2 x hx y (by simp [hy]) k hk

/-- The conversion of a literal's bytes to their own type marks the block. -/
theorem wl_convSS {ops : Array Oper} {rest : List Oper} {o : Oper} {a : Act} {Q : Exit → Act → World → Prop} {t e : TypeId} {x : Operand} {g n c : Nat} {T : TypeId} {cs : List Value} (hst : St w0 M w (L1 ++ .blk g T cs :: L2))
    (hop : o.op = .convert t t x) (hw : Region.wanted o (yielded ops a.tmps) = true) (hx : a.eval x = .slice (some ⟨g, 0, none⟩) n c) [ht : TySl P t e] [he : TyI P e .u8]
    (h : ∀ w', St w0 M w' (L1 ++ .frz (cs.length, cs.length + 1) g T cs :: L2) → wpList P ops Q rest (a.put o.dst (.slice (some ⟨g, 0, none⟩) n c)) w') : wpList P ops Q (o :: rest) a w := by
  have hg : w.heap[g]? = some (.cells cs.toArray T (0, 0)) := hst.all (.blk g T cs) (by simp)
  have hsh : w.shape? g = some (T, cs.length) := by
    unfold World.shape?
    rw [hg]
    simp
  refine wl_run hw ?_ (h _ (hst.freeze cs.length 1 (by decide)))
  unfold execOp
  simp [hop, hx, convert, run_underlying ht.out, run_underlying he.out, markStringish, hsh]

theorem Rd.frz {g off n c sz : Nat} {T : TypeId} {m : Nat × Nat} {cs xs : List Value} {L : List HA} (hst : St w0 M w L) (hm : HA.frz m g T cs ∈ L) (hn : n ≤ c) (hc : c ≤ maxLen) (hl : xs.length = n * sz) (hx : (cs.drop off).take xs.length = xs) :
    Rd w (.slice (some ⟨g, off, none⟩) n c) sz n xs := by
  refine Rd.mk hn hc hl fun j v hv => ?_
  have h := hst.all _ hm
  unfold HA.holds at h
  rw [cell_of_row w g _ _ T _ h]
  rw [← hx, List.getElem?_take] at hv
  split at hv
  · simpa using hv
  · simp at hv
theorem Rd.frz0 {g n sz : Nat} {T : TypeId} {m : Nat × Nat} {cs : List Value} {L : List HA} (hst : St w0 M w L) (hm : HA.frz m g T cs ∈ L) (hl : cs.length = n * sz) (hn : n ≤ 9223372036854775807) : Rd w (.slice (some ⟨g, 0, none⟩) n n) sz n cs :=
  Rd.frz hst hm (Nat.le_refl _) (by unfold maxLen; omega) hl (by simp)
end
end Hp
end Go.Proofs.YtifajcblbedcoaaGreat
namespace Go.Proofs.YtifajcblbedcoaaGreat
set_option linter.unusedVariables false
set_option linter.unusedSimpArgs false
open Go.RowKit
namespace Hp
variable {P : Program} {w0 w : World} {M : List Nat} {L : List HA}
theorem wl_convSB {ops : Array Oper} {rest : List Oper} {o : Oper} {a : Act} {Q : Exit → Act → World → Prop} {src dst e : TypeId} {x : Operand} {l : List UInt8} (hst : St w0 M w L)
    (hop : o.op = .convert src dst x) (hw : Region.wanted o (yielded ops a.tmps) = true) (hx : a.eval x = .string ⟨l.toArray⟩) [hs : TyStr P src] [hd : TySl P dst e] [he : TyI P e .u8] (hl : l.length ≤ 100000)
    (h : ∀ bv mk g cs w', St w0 M w' (.frz mk g e cs :: L) → (∀ (w1 w2 : World) (M2 : List Nat) (L2 : List HA), St w1 M2 w2 L2 → HA.frz mk g e cs ∈ L2 → Rd w2 bv 1 l.length (bytesV l)) → wpList P ops Q rest (a.put o.dst bv) w') : wpList P ops Q (o :: rest) a w := by
  have hr := Lib.run_convert_string_bytes (P := P) w src dst e ⟨l.toArray⟩ hs.out hd.out he.out
  obtain ⟨cs, hcs⟩ : ∃ cs : List Value, cs = (Lib.bytesCells w e ⟨l.toArray⟩).toList := ⟨_, rfl⟩
  have hcs' : cs.toArray = Lib.bytesCells w e ⟨l.toArray⟩ := by rw [hcs]
  have hsz : (⟨l.toArray⟩ : ByteArray).size = l.length := by simp [ByteArray.size]
  have hge := grownCap_ge w l.length 0 e
  have hcm : grownCap w l.length 0 e ≤ maxLen := grownCap_le_maxLen w l.length 0 e (by unfold maxLen; omega)
  have hcl : cs = bytesV l ++ List.replicate (grownCap w l.length 0 e - l.length) (.int .u8 0) := by
    rw [hcs]
    unfold Lib.bytesCells bytesV
    rw [hsz]
    simp
  have h1 := St.freeze (L1 := []) (St.alloc hst.drew e cs) (Lib.bytesCells w e ⟨l.toArray⟩).size 1 (by decide)
  have hw' : (w.drew.alloc (.cells cs.toArray e)).freeze ⟨w.drew.heap.size, (Lib.bytesCells w e ⟨l.toArray⟩).size, none⟩ 1 = Lib.bytesWorld w e ⟨l.toArray⟩ := by
    rw [hcs']
    rfl
  rw [hw'] at h1
  refine wl_run hw ?_ (h _ _ _ _ _ h1 (fun _ _ _ _ h2 hm => Rd.frz (off := 0) (n := l.length) (c := grownCap w l.length 0 e) h2 hm hge hcm (by simp) (by rw [hcl, List.drop_zero, List.take_left])))
  unfold execOp
  simp only [hop, hx, Sem.run_bind, hr, Result.andThen_ok, Sem.run_pure, hsz]
  rfl
end Hp
end Go.Proofs.YtifajcblbedcoaaGreat
namespace Go.Proofs.YtifajcblbedcoaaGreat
set_option linter.unusedVariables false
set_option linter.unusedSimpArgs false
open Go.RowKit Hp
attribute [local irreducible] Go.Calls Go.wpList
set_option maxRecDepth 100000
set_option maxHeartbeats 8000000
attribute [local go_sem ↓] heldInt heldRecs heldStr heldInts
end Go.Proofs.YtifajcblbedcoaaGreat
namespace Go.Proofs.YtifajcblbedcoaaGreat
set_option linter.unusedVariables false
set_option linter.unusedSimpArgs false
open Go.RowKit Hp
attribute [local irreducible] Go.Calls Go.wpList
set_option maxRecDepth 100000
set_option maxHeartbeats 8000000
attribute [local go_sem ↓] heldInt
theorem row_slice {w0 w : World} {M : List Nat} (L1 : List HA) {L2 : List HA} {v : Value} {T : TypeId} {sz n : Nat} {xs : List Value} (h : St w0 M w (L1 ++ .row v T sz n xs :: L2)) : ∃ ao c, v = .slice ao n c ∧ n ≤ c ∧ c ≤ 9223372036854775807 := by
  obtain ⟨ao, c, e, h1, h2, _⟩ := row_form h (List.mem_append.2 (.inr (.head _)))
  exact ⟨ao, c, e, h1, h2⟩
end Go.Proofs.YtifajcblbedcoaaGreat
namespace Go.Proofs.YtifajcblbedcoaaGreat
set_option linter.unusedVariables false
set_option linter.unusedSimpArgs false
open Go.RowKit Hp
attribute [local irreducible] Go.Calls Go.wpList
set_option maxRecDepth 100000
set_option maxHeartbeats 8000000
def bareT : TC := ⟨2, [], 0, 0, 0, 0, [0, 0]⟩
def oneR : RC := { id := 1, kind := 1, size := 1, made := 1, own := 0, origin := 0, quota := 0, reserve := 0, name := [97], l := [], b := 0, v := 0, S := nones }
def oneT : TC := ⟨2, [oneR], 0, 0, 0, 0, [0, 0]⟩
def noT : TC := ⟨0, [], 0, 0, 0, 0, []⟩
theorem bare_ok : bareT.ok = true := by decide +kernel
theorem one_ok : oneT.ok = true := by decide +kernel
def bareB : List UInt8 := [0, 0, 0, 2, 0, 0, 0, 0, 0, 0, 0, 0, 0, 0, 0, 2, 0, 0, 0, 0, 0, 0, 0, 0]
theorem bare_bytes : bareT.bytes = bareB := by decide +kernel
theorem one_len : oneT.bytes.length = 93 := by decide +kernel
theorem one_a : findP [97] oneT.recs = (0, true) := by decide +kernel
theorem one_b : findP [98] oneT.recs = (0, false) := by decide +kernel
theorem nil_err : gErr [] = 4 ∧ gAt [] = 0 ∧ gOK [] = false := by decide +kernel
def oneC : List Value := cellsR (.slice none 0 0, oneR)
theorem bldBare (ao : Option Addr) (n c : Nat) : Tryz.prog.built 27 [(0, .int .i64 2), (3, .slice ao n c)] = some #[.int .i64 2, .slice none 0 0, .int .i64 0, .int .i64 0, .int .i64 0, .int .i64 0, .slice ao n c] := by kernel_rfl
theorem bldOne : Tryz.prog.built 53 [(0, .int .i64 1), (1, .string ⟨#[97]⟩), (2, .int .i64 1), (3, .int .i64 1), (5, .int .i64 1)] = some oneC.toArray := by kernel_rfl
theorem oneC_len : oneC.length = 44 := rfl
theorem oneC_ones : oneC.all (·.oneCell') = true := rfl
theorem results_cellD {fn : Func} {p : Tmp} {ty : TypeId} {tmps : Array Value} {P : Program} {w : World} {A : Addr} {v : Value} (h : fn.results = #[.cell p ty]) (hp : tmps.getD p undef = .pointer (some A)) (hl : Loads P w ty A v) :
    (results fn tmps).run P w = .ok v w := by
  have hl' : (loadVar ty A).run P w = .ok v w := hl
  have hp' : tmps[p]?.getD undef = .pointer (some A) := by simpa using hp
  simp [results, h, hp', asAddr, hl', Sem.run_bind]
theorem oneIn (w : World) : RC.In w ((.slice none 0 0 : Value), oneR) := ⟨⟨L32.nones, none, 0, 0, rfl, Rd.nil _ _, rfl⟩, by decide⟩
theorem noIn (w : World) : TabIn w noT none 0 0 none 0 0 [] := ⟨⟨Rd.nil _ _, rfl, fun _ h => by cases h⟩, rfl, Rd.nil _ _, rfl, by decide, by decide⟩
theorem bareIn {w0 w : World} {M : List Nat} {L : List HA} {h : Nat} (hst : St w0 M w L) (h2 : HA.blk h 3 (numsV [0, 0]) ∈ L) : TabIn w bareT none 0 0 (some ⟨h, 0, none⟩) 2 2 [] :=
  ⟨⟨Rd.nil _ _, rfl, fun _ h => by cases h⟩, rfl, Rd.blk hst h2 (Nat.le_refl _) (by decide) rfl rfl, rfl, by decide, by decide⟩
theorem one2In {w0 w : World} {M : List Nat} {L : List HA} {g h : Nat} (hst : St w0 M w L) (h1 : HA.blk g 53 oneC ∈ L) (h2 : HA.blk h 3 (numsV [0, 0]) ∈ L) : TabIn w oneT (some ⟨g, 0, none⟩) 1 1 (some ⟨h, 0, none⟩) 2 2 [(.slice none 0 0, oneR)] :=
  ⟨⟨Rd.blk hst h1 (Nat.le_refl _) (by decide) rfl rfl, rfl, fun x hx => by
    rw [List.mem_singleton] at hx
    subst hx
    exact oneIn w⟩, rfl, Rd.blk hst h2 (Nat.le_refl _) (by decide) rfl rfl, rfl, by decide, by decide⟩
end Go.Proofs.YtifajcblbedcoaaGreat
namespace Go.Proofs.YtifajcblbedcoaaGreat
set_option linter.unusedVariables false
set_option linter.unusedSimpArgs false
open Go.RowKit Hp
attribute [local irreducible] Go.Calls Go.wpList PV.same hasB doR
set_option maxRecDepth 100000
set_option maxHeartbeats 8000000
theorem heldAct (A : Addr) : loadVar 34 A = loadVarH 34 A := rfl
attribute [local go_sem ↓] heldInt heldInts heldRecs heldRec heldStr heldTab heldPtr heldFn heldAct
theorem AD.Ok.old {w0 w : World} {L : List HA} {y : AD} (hst : St w0 [] w L) (h : y.Ok w0) : y.Ok w := ⟨h.kind, h.n, h.txg, PV.In.old hst h.p⟩
def NmB (xs : List AD) : Prop := ∀ x ∈ xs, x.nm.length ≤ 9223372036854775807 ∧ x.tn.length ≤ 9223372036854775807
def IffB (b : Bool) (p : Prop) : Prop := b = false ↔ p
theorem long_is {w0 w : World} {L : List HA} (hst : St w0 [] w L) {ao : Option Addr} {N c : Nat} {xs : List AD} (hv : Rd w0 (.slice ao N c) 40 N (xs.flatMap AD.cells)) (hN : xs.length = N) (hx : ∀ x ∈ xs, x.Ok w0) (hnb : NmB xs) (b : Bool) (hb : IffB b (shortD xs N)) :
    Calls Tryz.prog 7 #[.slice ao N c] w fun e w' => e = .returned (.bool b) ∧ St w [] w' [] :=
  (longD_any ao N c xs w (Rd.old hst hv) hN (fun x h => (hx x h).old hst) hnb).mono fun e w' ⟨⟨b', he, hb'⟩, h4⟩ => ⟨by
    have : b' = b := by unfold IffB at hb; cases b <;> cases b' <;> simp_all
    rw [he, this], h4⟩
theorem InP.rngA {w0 w : World} {M : List Nat} {B P : List HA} {t : TC} {al ar : Option Addr} {cr cl j lb lo : Nat} {xs : List (Value × RC)} {x : Value × RC} (h : InP P t ar al cr cl xs) (hst : St w0 M w (B ++ P)) (ha : ar = some ⟨lb, lo, none⟩) (hx : xs[j]? = some x) : w.rangeAt lb (lo + j * 44) (cellsR x) := by
  have hlt := (List.getElem?_eq_some_iff.1 hx).1
  obtain ⟨x', b, off, hx', he, _, hr⟩ := RecsIn.at (h.recs hst) hlt
  rw [ha] at he
  cases he
  rw [hx] at hx'
  cases hx'
  exact hr
theorem keeps13_long (devs : Int) (hd : -9223372036854775808 ≤ devs ∧ devs ≤ 9223372036854775807) (ao : Option Addr) (N c : Nat) (xs : List AD) (w : World) (hv : Rd w (.slice ao N c) 40 N (xs.flatMap AD.cells)) (hN : xs.length = N) (hx : ∀ x ∈ xs, x.Ok w) (hnb : NmB xs) (hs : ¬ shortD xs N) :
    Calls Tryz.prog 5 #[.int .i64 devs, .slice ao N c] w fun e w' => e = .returned (.bool true) ∧ St w [] w' [] := by
  obtain ⟨P0, hP0⟩ : ∃ P0 : List HA, P0 = [] := ⟨_, rfl⟩
  have hS0 : St w [] w ([] ++ P0) := by rw [hP0]; exact St.refl w
  clear hP0
  obtain ⟨kd, hkd, hpk⟩ := pickI_nat (x := devs) (n := 7) (by decide)
  obtain ⟨hnw, hok0⟩ := new_ok hkd
  generalize (TC.mk 1 [] 0 0 0 0 (List.replicate (2 + kd) 0)) = t0 at hnw hok0
  have z0 : IntKind.i64.wrap (2 + (kd : Int)) = 2 + (kd : Int) := IntWalk.i64_in _ (by omega)
  have HNW := hid hnw
  have HOK0 := hid hok0
  have HPK := hid (show pickI devs 7 = (kd : Int) from hpk)
  have HD := hid hd
  have HV := hid hv
  have HN := hid hN
  have HXX := hid hx
  have HNB := hid hnb
  have HLB := hid (show IffB true (shortD xs N) from Iff.intro (fun h => (by cases h)) (fun h => absurd h hs))
  have HSH := hid hs
  have hb1 := hv.bd.1
  have hb2 := hv.bd.2.1
  clear hnw hok0 hpk hd hv hN hx hnb hs hkd
  go_enter Tryz.func5, Tryz.ntmps5
  go_wp2_with (first | go_big_skip | go_big_guard | (go_at_call 18; refine (known13_any _).mono ?_; rintro _ w9 ⟨rfl, h4⟩; have hS1 : St w [] w9 ([] ++ P0) := St.call0 hS0 h4; clear h4 hS0) | (go_at_call 19; refine (pick_spec devs 7 _ HD.out (by decide)).mono ?_; rw [HPK.out]; rintro _ w9 ⟨rfl, h4⟩; have hS2 : St w [] w9 ([] ++ P0) := St.call0 hS1 h4; clear h4 hS1) | (go_at_call 13; refine (new13_any (2 + (kd : Int)) _).mono ?_; rw [HNW.out]; intro e9 w9 hret; obtain ⟨a1, b1, c1, d1, P1, xs1, rfl, hin, hsub, h4⟩ := ret_pool (B := []) hS2 hret; have hS3 : St w [] w9 ([] ++ P1) := h4; clear hret h4 hS2; have HT1 := hid hin; clear hin hsub) | (refine wl_alloc hS3 rfl rfl ?_; intro g6 w1 h4; have hS4 : St w [] w1 ([.blk g6 27 (tab0)] ++ P1) := h4; clear h4 hS3) | (refine wl_storeA [] hS4 rfl rfl rfl rfl (vs := tabC t0 (.slice a1 xs1.length c1) (.slice b1 t0.lives.length d1)) rfl rfl rfl ?_; intro w1 h4; have hS5 : St w [] w1 ([.blk g6 27 (tabC t0 (.slice a1 xs1.length c1) (.slice b1 t0.lives.length d1))] ++ P1) := h4; clear h4 hS4) | (go_at_call 7; refine (long_is hS5 HV.out HN.out HXX.out HNB.out true HLB.out).mono ?_; rintro _ w9 ⟨rfl, h4⟩; have hS6 : St w [] w9 ([.blk g6 27 (tabC t0 (.slice a1 xs1.length c1) (.slice b1 t0.lives.length d1))] ++ P1) := St.call0 hS5 h4; clear h4 hS5))
  go_ret
  exact ⟨rfl, hS6.nil⟩
theorem keeps13_short (devs : Int) (hd : -9223372036854775808 ≤ devs ∧ devs ≤ 9223372036854775807) (ao : Option Addr) (N c : Nat) (xs : List AD) (w : World) (hv : Rd w (.slice ao N c) 40 N (xs.flatMap AD.cells)) (hN : xs.length = N) (hx : ∀ x ∈ xs, x.Ok w) (hnb : NmB xs) (hs : shortD xs N) :
    Calls Tryz.prog 5 #[.int .i64 devs, .slice ao N c] w fun e w' => e = .returned (.bool true) ∧ St w [] w' [] := by
  obtain ⟨P0, hP0⟩ : ∃ P0 : List HA, P0 = [] := ⟨_, rfl⟩
  have hS0 : St w [] w ([] ++ P0) := by rw [hP0]; exact St.refl w
  clear hP0
  obtain ⟨kd, hkd, hpk⟩ := pickI_nat (x := devs) (n := 7) (by decide)
  obtain ⟨hnw, hok0⟩ := new_ok hkd
  generalize (TC.mk 1 [] 0 0 0 0 (List.replicate (2 + kd) 0)) = t0 at hnw hok0
  have z0 : IntKind.i64.wrap (2 + (kd : Int)) = 2 + (kd : Int) := IntWalk.i64_in _ (by omega)
  have HNW := hid hnw
  have HOK0 := hid hok0
  have HPK := hid (show pickI devs 7 = (kd : Int) from hpk)
  have HD := hid hd
  have HV := hid hv
  have HN := hid hN
  have HXX := hid hx
  have HNB := hid hnb
  have HLB := hid (show IffB false (shortD xs N) from Iff.intro (fun _ => hs) (fun _ => rfl))
  have HSH := hid hs
  have hb1 := hv.bd.1
  have hb2 := hv.bd.2.1
  clear hnw hok0 hpk hd hv hN hx hnb hs hkd
  go_enter Tryz.func5, Tryz.ntmps5
  go_wp2_with (first | go_big_skip | go_big_guard | (go_at_call 18; refine (known13_any _).mono ?_; rintro _ w9 ⟨rfl, h4⟩; have hS1 : St w [] w9 ([] ++ P0) := St.call0 hS0 h4; clear h4 hS0) | (go_at_call 19; refine (pick_spec devs 7 _ HD.out (by decide)).mono ?_; rw [HPK.out]; rintro _ w9 ⟨rfl, h4⟩; have hS2 : St w [] w9 ([] ++ P0) := St.call0 hS1 h4; clear h4 hS1) | (go_at_call 13; refine (new13_any (2 + (kd : Int)) _).mono ?_; rw [HNW.out]; intro e9 w9 hret; obtain ⟨a1, b1, c1, d1, P1, xs1, rfl, hin, hsub, h4⟩ := ret_pool (B := []) hS2 hret; have hS3 : St w [] w9 ([] ++ P1) := h4; clear hret h4 hS2; have HT1 := hid hin; clear hin hsub) | (refine wl_alloc hS3 rfl rfl ?_; intro g6 w1 h4; have hS4 : St w [] w1 ([.blk g6 27 (tab0)] ++ P1) := h4; clear h4 hS3) | (refine wl_storeA [] hS4 rfl rfl rfl rfl (vs := tabC t0 (.slice a1 xs1.length c1) (.slice b1 t0.lives.length d1)) rfl rfl rfl ?_; intro w1 h4; have hS5 : St w [] w1 ([.blk g6 27 (tabC t0 (.slice a1 xs1.length c1) (.slice b1 t0.lives.length d1))] ++ P1) := h4; clear h4 hS4) | (go_at_call 7; refine (long_is hS5 HV.out HN.out HXX.out HNB.out false HLB.out).mono ?_; rintro _ w9 ⟨rfl, h4⟩; have hS6 : St w [] w9 ([.blk g6 27 (tabC t0 (.slice a1 xs1.length c1) (.slice b1 t0.lives.length d1))] ++ P1) := St.call0 hS5 h4; clear h4 hS5))
  have hst : St w [] _ ([.blk g6 27 (tabC t0 (.slice a1 xs1.length c1) (.slice b1 t0.lives.length d1))] ++ P1) := hS6
  clear hS6
  go_loopw [8] (fun i wr => ∃ k : Nat, k ≤ N ∧ i = .int .i64 (k : Int) ∧ ∃ (T : TC) (a0 b0 : Option Addr) (c0 d0 : Nat) (P0 : List HA) (xs0 : List (Value × RC)), OkP T ∧ InP P0 T a0 b0 c0 d0 xs0 ∧ St w [] wr ([.blk g6 27 (tabC T (.slice a0 xs0.length c0) (.slice b0 T.lives.length d0))] ++ P0)) (fun i _ => N - (intOf i).toNat)
  case atStart => exact ⟨0, Nat.zero_le _, rfl, t0, _, _, _, _, P1, xs1, HOK0.out, HT1.out, hst⟩
  case round =>
    clear hst
    obtain ⟨k, hk, rfl, T, a0, b0, c0, d0, P0, xs0, hok, hin, hst⟩ := hrel
    have HOK := hid hok
    have HT0 := hid hin
    clear hin hok
    have HTB := hid (show T.recs.length ≤ 1000000 ∧ T.lives.length ≤ 1000000 by have q := HOK.out; have := q.many; have := q.devs; omega)
    by_cases hlt : k < N
    · have dk : decide ((k : Int) < (N : Int)) = true := decide_eq_true (by omega)
      have z1 : IntKind.i64.wrap ((k : Int) + 1) = (k : Int) + 1 := IntWalk.i64_in _ (by omega)
      obtain ⟨y, hy⟩ : ∃ y, xs[k]? = some y := ⟨_, List.getElem?_eq_getElem (by rw [HN.out]; exact hlt)⟩
      have hym := List.mem_of_getElem? hy
      have hyo := HXX.out y hym
      obtain ⟨bb, bo, rfl, _⟩ := HV.out.at hlt
      have HRY := hid (ads_range HV.out (fun z hz => (HXX.out z hz).p.1) hy)
      have HLY := hid (AD.len hyo.p.1)
      have HYO := hid hyo
      have hsm := HSH.out.2 y hym
      have HF := hid (show ∀ (w1 : World) (L : List HA), St w [] w1 L → y.Few w1 from fun w1 L h => ⟨by omega, by omega, PV.In.old h hyo.p, by omega⟩)
      clear hy hym hyo hsm
      go_upto_region 8 with (first | go_big_skip | go_big_guard)
      (try simp only [Act.put, List.setIfInBounds_toArray, List.set_cons_zero, List.set_cons_succ])
      go_cut [9, 10, 40, 46, 47, 48] (fun v9 v10 _ _ _ _ wx => ∃ (g9 : Nat) (a9 b9 : Option Addr) (c9 d9 : Nat) (P9 : List HA) (xs9 : List (Value × RC)), v9 = .pointer (some ⟨g9, 0, none⟩) ∧ v10 = .int .i64 (doR T y).1 ∧ InP P9 (doR T y).2 a9 b9 c9 d9 xs9 ∧ InP P9 T a0 b0 c0 d0 xs0 ∧ St w [] wx ([.blk g9 27 (tabC (doR T y).2 (.slice a9 xs9.length c9) (.slice b9 (doR T y).2.lives.length d9)), .blk g6 27 (tabC T (.slice a0 xs0.length c0) (.slice b0 T.lives.length d0))] ++ P9))
      case first =>
        have hD := hst.drew
        clear hst
        refine wp_region_held_drew (S := (fun w' => (loadVarH 27 ⟨g6, 0, none⟩).run Tryz.prog w' = .ok (.agg (List.toArray (tabC T (.slice a0 xs0.length c0) (.slice b0 T.lives.length d0)))) w' ∧ (loadVarH 34 ⟨bb, bo + k * 40, none⟩).run Tryz.prog w' = .ok (.agg y.cells.toArray) w')) (by kernel_rfl) (by exact ⟨ldA (tabC T (.slice a0 xs0.length c0) (.slice b0 T.lives.length d0)) [] hD (rfl) (rfl), ldOA hD HLY.out HRY.out⟩) (fun hHeld => ?_)
        refine tq 0 41 ?_
        refine tq 1 42 ?_
        refine tq 2 43 ?_
        refine tq 3 44 ?_
        refine tq 4 45 ?_
        refine wpAnyH_ready (rs := [5, 9]) (by kernel_rfl) (by simp) ?_
        refine (AllReadyH.cons (o := ⟨some 46, _, _, _, _, _⟩) rfl (fun K hK => ?_) (AllReadyH.cons (o := ⟨some 9, _, _, _, _, _⟩) rfl (fun K hK => ?_) AllReadyH.nil))
        · rw [if_pos (by rfl)]
          go_simp
          go_at_call 11
          refine (does_pool (B := [.blk g6 27 (tabC T (.slice a0 xs0.length c0) (.slice b0 T.lives.length d0))]) hD HT0.out HTB.out (HF.out _ _ hD)).mono ?_
          rintro e9 wC ⟨a9, b9, c9, d9, P9, xs9, rfl, hin, hsub, h4⟩
          have hCD : St w [] wC ([.blk g6 27 (tabC T (.slice a0 xs0.length c0) (.slice b0 T.lives.length d0))] ++ P9) := h4
          clear h4
          have HT9 := hid hin
          have HTM := hid (HT0.out.mono hsub)
          clear hin hsub
          refine hK.out _ _ ?_ (fun hHeld => ?_)
          · exact ⟨ldA (tabC T (.slice a0 xs0.length c0) (.slice b0 T.lives.length d0)) [] hCD (rfl) (rfl), ldOA hCD HLY.out HRY.out⟩
          clear hK K
          (try simp only [Act.put, List.setIfInBounds_toArray, List.set_cons_zero, List.set_cons_succ])
          refine tq 6 40 ?_
          refine tq 7 47 ?_
          refine tq 8 48 ?_
          refine wpAnyH_ready (rs := [9]) (by kernel_rfl) (by simp) ?_
          refine (AllReadyH.cons (o := ⟨some 9, _, _, _, _, _⟩) rfl (fun K hK => ?_) AllReadyH.nil)
          refine ow_if (by rfl) ?_
          refine wl_alloc hCD rfl rfl ?_
          intro g9 wA h4
          have hAD : St w [] wA ([.blk g9 27 tab0, .blk g6 27 (tabC T (.slice a0 xs0.length c0) (.slice b0 T.lives.length d0))] ++ P9) := h4
          clear h4
          refine q0_nil ?_
          refine hK.out _ _ ?_ (fun hHeld => ?_)
          · exact ⟨ldA (tabC T (.slice a0 xs0.length c0) (.slice b0 T.lives.length d0)) [_] hAD (rfl) (rfl), ldOA hAD HLY.out HRY.out⟩
          clear hK K
          (try simp only [Act.put, List.setIfInBounds_toArray, List.set_cons_zero, List.set_cons_succ])
          refine wpAnyH_ready (rs := [10]) (by kernel_rfl) (by simp) ?_
          refine (AllReadyH.cons (o := ⟨none, _, _, _, _, _⟩) rfl (fun K hK => ?_) AllReadyH.nil)
          refine ow_if (by rfl) ?_
          refine wl_storeA [] hAD rfl rfl rfl rfl (vs := tabC (doR T y).2 (.slice a9 xs9.length c9) (.slice b9 (doR T y).2.lives.length d9)) rfl rfl rfl ?_
          intro wS h4
          have hS : St w [] wS ([.blk g9 27 (tabC (doR T y).2 (.slice a9 xs9.length c9) (.slice b9 (doR T y).2.lives.length d9)), .blk g6 27 (tabC T (.slice a0 xs0.length c0) (.slice b0 T.lives.length d0))] ++ P9) := h4
          clear h4
          refine q0_nil ?_
          refine hK.out _ _ ?_ (fun hHeld => ?_)
          · exact ⟨ldA (tabC T (.slice a0 xs0.length c0) (.slice b0 T.lives.length d0)) [_] hS (rfl) (rfl), ldOA hS HLY.out HRY.out⟩
          clear hK K
          (try simp only [Act.put, List.setIfInBounds_toArray, List.set_cons_zero, List.set_cons_succ])
          refine tq 11 10 ?_
          refine wpAnyH_done (by kernel_rfl) ?_ _
          clear hHeld
          go_wp2_with (first | go_big_skip | go_big_guard | fail)
          go_meet
          exact ⟨g9, a9, b9, c9, d9, P9, xs9, rfl, rfl, HT9.out, HTM.out, hS⟩
        · refine ow_if (by rfl) ?_
          refine wl_alloc hD rfl rfl ?_
          intro g9 wA h4
          have hAD : St w [] wA ([.blk g9 27 tab0, .blk g6 27 (tabC T (.slice a0 xs0.length c0) (.slice b0 T.lives.length d0))] ++ P0) := h4
          clear h4
          refine q0_nil ?_
          refine hK.out _ _ ?_ (fun hHeld => ?_)
          · exact ⟨ldA (tabC T (.slice a0 xs0.length c0) (.slice b0 T.lives.length d0)) [_] hAD (rfl) (rfl), ldOA hAD HLY.out HRY.out⟩
          clear hK K
          (try simp only [Act.put, List.setIfInBounds_toArray, List.set_cons_zero, List.set_cons_succ])
          refine wpAnyH_ready (rs := [5]) (by kernel_rfl) (by simp) ?_
          refine (AllReadyH.cons (o := ⟨some 46, _, _, _, _, _⟩) rfl (fun K hK => ?_) AllReadyH.nil)
          rw [if_pos (by rfl)]
          go_simp
          go_at_call 11
          refine (does_pool (B := [.blk g9 27 tab0, .blk g6 27 (tabC T (.slice a0 xs0.length c0) (.slice b0 T.lives.length d0))]) hAD HT0.out HTB.out (HF.out _ _ hAD)).mono ?_
          rintro e9 wC ⟨a9, b9, c9, d9, P9, xs9, rfl, hin, hsub, h4⟩
          have hCD : St w [] wC ([.blk g9 27 tab0, .blk g6 27 (tabC T (.slice a0 xs0.length c0) (.slice b0 T.lives.length d0))] ++ P9) := h4
          clear h4
          have HT9 := hid hin
          have HTM := hid (HT0.out.mono hsub)
          clear hin hsub
          refine hK.out _ _ ?_ (fun hHeld => ?_)
          · exact ⟨ldA (tabC T (.slice a0 xs0.length c0) (.slice b0 T.lives.length d0)) [_] hCD (rfl) (rfl), ldOA hCD HLY.out HRY.out⟩
          clear hK K
          (try simp only [Act.put, List.setIfInBounds_toArray, List.set_cons_zero, List.set_cons_succ])
          refine tq 6 40 ?_
          refine tq 7 47 ?_
          refine tq 8 48 ?_
          refine wpAnyH_ready (rs := [10]) (by kernel_rfl) (by simp) ?_
          refine (AllReadyH.cons (o := ⟨none, _, _, _, _, _⟩) rfl (fun K hK => ?_) AllReadyH.nil)
          refine ow_if (by rfl) ?_
          refine wl_storeA [] hCD rfl rfl rfl rfl (vs := tabC (doR T y).2 (.slice a9 xs9.length c9) (.slice b9 (doR T y).2.lives.length d9)) rfl rfl rfl ?_
          intro wS h4
          have hS : St w [] wS ([.blk g9 27 (tabC (doR T y).2 (.slice a9 xs9.length c9) (.slice b9 (doR T y).2.lives.length d9)), .blk g6 27 (tabC T (.slice a0 xs0.length c0) (.slice b0 T.lives.length d0))] ++ P9) := h4
          clear h4
          refine q0_nil ?_
          refine hK.out _ _ ?_ (fun hHeld => ?_)
          · exact ⟨ldA (tabC T (.slice a0 xs0.length c0) (.slice b0 T.lives.length d0)) [_] hS (rfl) (rfl), ldOA hS HLY.out HRY.out⟩
          clear hK K
          (try simp only [Act.put, List.setIfInBounds_toArray, List.set_cons_zero, List.set_cons_succ])
          refine tq 11 10 ?_
          refine wpAnyH_done (by kernel_rfl) ?_ _
          clear hHeld
          go_wp2_with (first | go_big_skip | go_big_guard | fail)
          go_meet
          exact ⟨g9, a9, b9, c9, d9, P9, xs9, rfl, rfl, HT9.out, HTM.out, hS⟩
      case rest =>
        clear hst
        obtain ⟨g9, a9, b9, c9, d9, P9, xs9, rfl, rfl, h9, hm9, hS⟩ := hcut
        have HT9 := hid h9
        have HTM := hid hm9
        clear h9 hm9
        by_cases hz : (doR T y).1 = 0
        · have HK := hid (do_keeps HOK.out hz)
          have dz : ((doR T y).1 != 0) = false := by rw [hz]; rfl
          clear hz
          obtain ⟨m1, m2, m3, m4⟩ := more_facts HK.out
          obtain ⟨M, hM⟩ : ∃ M, M = moreOf T (doR T y).2 := ⟨_, rfl⟩
          rw [← hM] at m2 m3 m4
          have HUB := hid (show (doR T y).2.recs.length ≤ 1000000 ∧ (doR T y).2.lives.length ≤ 1000000 by have q := HK.out.k.ok; have := q.many; have := q.devs; omega)
          have HCK := hid (err_yes (okP_iff.2 HK.out.k.ok))
          have q9 : IntKind.i64.wrap ((xs9.length : Int) - (xs0.length : Int)) = M := by
            have e1 := HT9.out.ok.len
            have e2 := HT0.out.ok.len
            have e3 := HUB.out.1
            have e4 := HTB.out.1
            rw [hM]
            unfold moreOf
            rw [← e1, ← e2]
            exact IntWalk.i64_in _ (by omega)
          have e5 : decide ((doR T y).2.next < T.next) = false := decide_eq_false m1
          have e6 : IntKind.i64.wrap ((doR T y).2.next - T.next) = max M 0 := by
            rw [m2]
            exact IntWalk.i64_in _ (by omega)
          have e7 : decide (1 < M) = false := decide_eq_false m3
          have e8 : decide (M < -1) = false := decide_eq_false m4
          have HM := hid hM
          clear m1 m2 m3 m4 hM
          go_wp2_with (first | go_big_skip | go_big_guard | (refine wl_loadE rfl rfl rfl ?_; first | refine ⟨_, Loads.atA (tabC (doR T y).2 (.slice a9 xs9.length c9) (.slice b9 (doR T y).2.lives.length d9)) [] hS rfl rfl, ?_⟩ | refine ⟨_, Loads.atA (tabC T (.slice a0 xs0.length c0) (.slice b0 T.lives.length d0)) [_] hS rfl rfl, ?_⟩ | refine ⟨_, Loads.at [] hS rfl, ?_⟩ | refine ⟨_, Loads.at [_] hS rfl, ?_⟩) | (go_at_call 20; refine (check12_any (doR T y).2 a9 b9 xs9.length c9 (doR T y).2.lives.length d9 xs9 _ (HT9.out.tab hS HUB.out).R HT9.out.ok.eq (by rw [HT9.out.ok.len]; exact HUB.out.1) (HT9.out.tab hS HUB.out).L rfl HUB.out.2).mono ?_; rw [HCK.out]; rintro _ w9 ⟨rfl, h4⟩; replace hS := St.call0 hS h4; clear h4))
          have hL : St w [] _ ([.blk g9 27 (tabC (doR T y).2 (.slice a9 xs9.length c9) (.slice b9 (doR T y).2.lives.length d9)), .blk g6 27 (tabC T (.slice a0 xs0.length c0) (.slice b0 T.lives.length d0))] ++ P9) := hS
          clear hS
          have HA3 := hid (fun (h8 : y.kind ≠ 8) (h0 : y.kind ≠ 0) (r : RC) (hr : r ∈ (doR T y).2.recs) (sv : Value) => froms_has (HK.out.froms h8 h0) hr sv)
          have HA4 := hid (fun (h8 : y.kind ≠ 8) (h3 : y.kind ≠ 3) (h0 : y.kind ≠ 4) (r : RC) (hr : r ∈ T.recs) (sv : Value) => tos_has (HK.out.tos h8 h3 h0) hr sv)
          have HA5 := hid (fun (m1 : M = 1) (r : RC) (hr : r ∈ (doR T y).2.recs) (hi : r.id = T.next) => made_facts HK.out (HM.out.symm.trans m1) hr hi)
          have HKD := hid (show w.cell? ⟨bb, bo + k * 40, none⟩ = some (.int .i64 y.kind) from HRY.out 0 _ rfl)
          have HKT := hid (show w.cell? ⟨bb, bo + k * 40 + 4, none⟩ = some (.int .i64 y.txg) from HRY.out 4 _ rfl)
          have hn9 : xs9.length ≤ 16 := by rw [HT9.out.ok.len]; exact HK.out.k.ok.many
          have hn0 : xs0.length ≤ 16 := by rw [HT0.out.ok.len]; exact HOK.out.many
          go_loopw [12] (fun i wr => ∃ j : Nat, j ≤ xs9.length ∧ i = .int .i64 (j : Int) ∧ St w [] wr ([.blk g9 27 (tabC (doR T y).2 (.slice a9 xs9.length c9) (.slice b9 (doR T y).2.lives.length d9)), .blk g6 27 (tabC T (.slice a0 xs0.length c0) (.slice b0 T.lives.length d0))] ++ P9)) (fun i _ => xs9.length - (intOf i).toNat)
          case atStart => exact ⟨0, Nat.zero_le _, rfl, hL⟩
          case round =>
            clear hL
            obtain ⟨j, hj, rfl, hL⟩ := hrel
            by_cases hlj : j < xs9.length
            · have ej : decide ((j : Int) < (xs9.length : Int)) = true := decide_eq_true (by omega)
              have z2 : IntKind.i64.wrap ((j : Int) + 1) = (j : Int) + 1 := IntWalk.i64_in _ (by omega)
              obtain ⟨x, lb, lo, hx, rfl, hin, hr⟩ := RecsIn.at (HT9.out.recs hL) hlj
              have HX := hid hx
              have HIX := hid hin
              have HX44 := hid (cellsR_len hin.L)
              have HLX := hid hin.L
              have HPX := hid (PV.len (p := x.2.pv x.1) hin.L)
              have HRX := hid hr
              have hxm : x.2 ∈ (doR T y).2.recs := by rw [← HT9.out.ok.eq]; exact List.mem_map_of_mem (List.mem_of_getElem? hx)
              have HA1 := hid (fun (h8 : y.kind ≠ 8) (h0 : y.kind ≠ 0) => HA3.out h8 h0 x.2 hxm x.1)
              have HA2 := hid (fun (m1 : M = 1) (hi : x.2.id = T.next) => HA5.out m1 x.2 hxm hi)
              clear hx hin hr hxm
              go_wp2_with (first | go_big_skip | go_big_guard | (refine wl_loadE rfl rfl rfl ?_; first | refine ⟨_, Loads.at [] hL rfl, ?_⟩ | refine ⟨_, Loads.oldA (cs := cellsR x) (St.refl _) HX44.out HRX.out, ?_⟩) | (refine wl_index rfl rfl rfl rfl hlj ?_) | (refine wl_alloc hL rfl rfl ?_; intro g13 w2 hM; clear hL) | (refine wl_storeA [] hM rfl rfl rfl rfl (by exact HX44.out) (cellsR_ones HIX.out) rfl ?_; intro w3 h4; have hX : St w [] w3 ([.blk g13 53 (cellsR x), .blk g9 27 (tabC (doR T y).2 (.slice (some ⟨lb, lo, none⟩) xs9.length c9) (.slice b9 (doR T y).2.lives.length d9)), .blk g6 27 (tabC T (.slice a0 xs0.length c0) (.slice b0 T.lives.length d0))] ++ P9) := h4; clear hM h4))
              by_cases k8 : y.kind = 8
              · have d8 : (y.kind != 8) = false := by rw [k8]; rfl
                clear k8
                by_cases m1 : M = 1
                · have dm : (M == 1) = true := by rw [m1]; rfl
                  by_cases i1 : x.2.id = T.next
                  · have di : (x.2.id == T.next) = true := by rw [i1]; exact beq_self_eq_true _
                    have dx : (x.2.made != y.txg) = false := by rw [HA2.out m1 i1]; exact bne_self_eq_false _
                    clear m1 i1
                    as_aux_lemma =>
                      have hE := hX.drew
                      clear hX
                      refine wp_region_held_drew (S := (fun w' => (loadVarH 3 ⟨bb, bo + k * 40, none⟩).run Tryz.prog w' = .ok (.int .i64 y.kind) w' ∧ (loadVarH 3 ⟨bb, bo + k * 40 + 4, none⟩).run Tryz.prog w' = .ok (.int .i64 y.txg) w' ∧ (loadVarH 27 ⟨g6, 0, none⟩).run Tryz.prog w' = .ok (.agg (List.toArray (tabC T (.slice a0 xs0.length c0) (.slice b0 T.lives.length d0)))) w' ∧ (loadVarH 32 ⟨g13, 4, none⟩).run Tryz.prog w' = .ok (.agg (List.toArray ((x.2.pv x.1).cells))) w' ∧ (loadVarH 3 ⟨g13, 0, none⟩).run Tryz.prog w' = .ok (.int .i64 x.2.id) w' ∧ (loadVarH 3 ⟨g13, 39, none⟩).run Tryz.prog w' = .ok (.int .i64 x.2.made) w' ∧ (loadVarH 3 ⟨g6, 0, none⟩).run Tryz.prog w' = .ok (.int .i64 T.next) w')) (by kernel_rfl) (by exact ⟨ldO hE HKD.out, ldO hE HKT.out, ldA (tabC T (.slice a0 xs0.length c0) (.slice b0 T.lives.length d0)) [_, _] hE (rfl) (rfl), ldA ((x.2.pv x.1).cells) [] hE (HPX.out) (cellsR_root HLX.out), ldS [] hE rfl, ldS [] hE (cellsR_39 HLX.out), ldS [_, _] hE rfl⟩) (fun hHeld => ?_)
                      refine tq 0 102 ?_
                      refine tq 1 103 ?_
                      refine tq 2 104 ?_
                      refine tq 3 105 ?_
                      refine tq 4 106 ?_
                      refine tq 5 107 ?_
                      refine tq 6 108 ?_
                      refine tu 7 109 ?_
                      refine tu 8 110 ?_
                      refine tu 9 111 ?_
                      refine tu 10 112 ?_
                      refine tu 11 113 ?_
                      refine tu 12 114 ?_
                      refine tq 13 115 ?_
                      refine tq 14 116 ?_
                      refine tu 15 117 ?_
                      refine tu 16 118 ?_
                      refine tu 17 119 ?_
                      refine wpAnyH_ready (rs := [18]) (by kernel_rfl) (by simp) ?_
                      refine (AllReadyH.cons (o := ⟨some 120, _, _, _, _, _⟩) rfl (fun K hK => ?_) AllReadyH.nil)
                      rw [if_neg (by rw [show Region.wanted _ _ = false from rfl]; exact Bool.false_ne_true)]
                      refine hK.out _ _ ?_ (fun hHeld => ?_)
                      · exact ⟨ldO hE HKD.out, ldO hE HKT.out, ldA (tabC T (.slice a0 xs0.length c0) (.slice b0 T.lives.length d0)) [_, _] hE (rfl) (rfl), ldA ((x.2.pv x.1).cells) [] hE (HPX.out) (cellsR_root HLX.out), ldS [] hE rfl, ldS [] hE (cellsR_39 HLX.out), ldS [_, _] hE rfl⟩
                      clear hK K
                      (try simp only [Act.put, List.setIfInBounds_toArray, List.set_cons_zero, List.set_cons_succ])
                      refine tu 19 121 ?_
                      refine tq 20 122 ?_
                      refine tq 21 123 ?_
                      refine tq 22 124 ?_
                      refine tq 23 125 ?_
                      refine tq 24 126 ?_
                      refine tq 25 127 ?_
                      refine tq 27 129 ?_
                      refine tq 26 128 ?_
                      refine tq 28 130 ?_
                      refine tq 29 131 ?_
                      refine tq 30 132 ?_
                      refine tq 31 133 ?_
                      refine tq 32 134 ?_
                      refine tq 34 136 ?_
                      refine tq 35 137 ?_
                      refine tq 33 135 ?_
                      refine tq 36 138 ?_
                      refine tq 37 139 ?_
                      refine tq 38 140 ?_
                      refine tq 39 141 ?_
                      refine tq 40 142 ?_
                      refine tq 41 143 ?_
                      refine wpAnyH_done (by kernel_rfl) ?_ _
                      clear hHeld
                      go_wp2_with (first | go_big_skip | go_big_guard | fail)
                      go_roundw
                      case rel => exact ⟨j + 1, by omega, rfl, St.sub hE (.cons _ (List.Sublist.refl _))⟩
                      case measure => simp [intOf]; omega
                  · have di : (x.2.id == T.next) = false := by rw [beq_eq_false_iff_ne]; exact i1
                    clear m1 i1
                    as_aux_lemma =>
                      have hE := hX.drew
                      clear hX
                      refine wp_region_held_drew (S := (fun w' => (loadVarH 3 ⟨bb, bo + k * 40, none⟩).run Tryz.prog w' = .ok (.int .i64 y.kind) w' ∧ (loadVarH 3 ⟨bb, bo + k * 40 + 4, none⟩).run Tryz.prog w' = .ok (.int .i64 y.txg) w' ∧ (loadVarH 27 ⟨g6, 0, none⟩).run Tryz.prog w' = .ok (.agg (List.toArray (tabC T (.slice a0 xs0.length c0) (.slice b0 T.lives.length d0)))) w' ∧ (loadVarH 32 ⟨g13, 4, none⟩).run Tryz.prog w' = .ok (.agg (List.toArray ((x.2.pv x.1).cells))) w' ∧ (loadVarH 3 ⟨g13, 0, none⟩).run Tryz.prog w' = .ok (.int .i64 x.2.id) w' ∧ (loadVarH 3 ⟨g13, 39, none⟩).run Tryz.prog w' = .ok (.int .i64 x.2.made) w' ∧ (loadVarH 3 ⟨g6, 0, none⟩).run Tryz.prog w' = .ok (.int .i64 T.next) w')) (by kernel_rfl) (by exact ⟨ldO hE HKD.out, ldO hE HKT.out, ldA (tabC T (.slice a0 xs0.length c0) (.slice b0 T.lives.length d0)) [_, _] hE (rfl) (rfl), ldA ((x.2.pv x.1).cells) [] hE (HPX.out) (cellsR_root HLX.out), ldS [] hE rfl, ldS [] hE (cellsR_39 HLX.out), ldS [_, _] hE rfl⟩) (fun hHeld => ?_)
                      refine tq 0 102 ?_
                      refine tq 1 103 ?_
                      refine tq 2 104 ?_
                      refine tq 3 105 ?_
                      refine tq 4 106 ?_
                      refine tq 5 107 ?_
                      refine tq 6 108 ?_
                      refine tu 7 109 ?_
                      refine tu 8 110 ?_
                      refine tu 9 111 ?_
                      refine tu 10 112 ?_
                      refine tu 11 113 ?_
                      refine tu 12 114 ?_
                      refine tq 13 115 ?_
                      refine tq 14 116 ?_
                      refine tu 15 117 ?_
                      refine tu 16 118 ?_
                      refine tu 17 119 ?_
                      refine wpAnyH_ready (rs := [18]) (by kernel_rfl) (by simp) ?_
                      refine (AllReadyH.cons (o := ⟨some 120, _, _, _, _, _⟩) rfl (fun K hK => ?_) AllReadyH.nil)
                      rw [if_neg (by rw [show Region.wanted _ _ = false from rfl]; exact Bool.false_ne_true)]
                      refine hK.out _ _ ?_ (fun hHeld => ?_)
                      · exact ⟨ldO hE HKD.out, ldO hE HKT.out, ldA (tabC T (.slice a0 xs0.length c0) (.slice b0 T.lives.length d0)) [_, _] hE (rfl) (rfl), ldA ((x.2.pv x.1).cells) [] hE (HPX.out) (cellsR_root HLX.out), ldS [] hE rfl, ldS [] hE (cellsR_39 HLX.out), ldS [_, _] hE rfl⟩
                      clear hK K
                      (try simp only [Act.put, List.setIfInBounds_toArray, List.set_cons_zero, List.set_cons_succ])
                      refine tu 19 121 ?_
                      refine tq 20 122 ?_
                      refine tq 21 123 ?_
                      refine tq 22 124 ?_
                      refine tq 23 125 ?_
                      refine tq 24 126 ?_
                      refine tq 25 127 ?_
                      refine tq 27 129 ?_
                      refine tq 26 128 ?_
                      refine tq 28 130 ?_
                      refine tq 29 131 ?_
                      refine tq 30 132 ?_
                      refine tq 31 133 ?_
                      refine tu 32 134 ?_
                      refine tu 34 136 ?_
                      refine tu 35 137 ?_
                      refine tu 33 135 ?_
                      refine tu 36 138 ?_
                      refine tu 37 139 ?_
                      refine tu 38 140 ?_
                      refine tu 39 141 ?_
                      refine tq 40 142 ?_
                      refine tq 41 143 ?_
                      refine wpAnyH_done (by kernel_rfl) ?_ _
                      clear hHeld
                      go_wp2_with (first | go_big_skip | go_big_guard | fail)
                      go_roundw
                      case rel => exact ⟨j + 1, by omega, rfl, St.sub hE (.cons _ (List.Sublist.refl _))⟩
                      case measure => simp [intOf]; omega
                · have dm : (M == 1) = false := by rw [beq_eq_false_iff_ne]; exact m1
                  clear m1
                  as_aux_lemma =>
                    have hE := hX.drew
                    clear hX
                    refine wp_region_held_drew (S := (fun w' => (loadVarH 3 ⟨bb, bo + k * 40, none⟩).run Tryz.prog w' = .ok (.int .i64 y.kind) w' ∧ (loadVarH 3 ⟨bb, bo + k * 40 + 4, none⟩).run Tryz.prog w' = .ok (.int .i64 y.txg) w' ∧ (loadVarH 27 ⟨g6, 0, none⟩).run Tryz.prog w' = .ok (.agg (List.toArray (tabC T (.slice a0 xs0.length c0) (.slice b0 T.lives.length d0)))) w' ∧ (loadVarH 32 ⟨g13, 4, none⟩).run Tryz.prog w' = .ok (.agg (List.toArray ((x.2.pv x.1).cells))) w' ∧ (loadVarH 3 ⟨g13, 0, none⟩).run Tryz.prog w' = .ok (.int .i64 x.2.id) w' ∧ (loadVarH 3 ⟨g13, 39, none⟩).run Tryz.prog w' = .ok (.int .i64 x.2.made) w' ∧ (loadVarH 3 ⟨g6, 0, none⟩).run Tryz.prog w' = .ok (.int .i64 T.next) w')) (by kernel_rfl) (by exact ⟨ldO hE HKD.out, ldO hE HKT.out, ldA (tabC T (.slice a0 xs0.length c0) (.slice b0 T.lives.length d0)) [_, _] hE (rfl) (rfl), ldA ((x.2.pv x.1).cells) [] hE (HPX.out) (cellsR_root HLX.out), ldS [] hE rfl, ldS [] hE (cellsR_39 HLX.out), ldS [_, _] hE rfl⟩) (fun hHeld => ?_)
                    refine tq 0 102 ?_
                    refine tq 1 103 ?_
                    refine tq 2 104 ?_
                    refine tq 3 105 ?_
                    refine tq 4 106 ?_
                    refine tq 5 107 ?_
                    refine tq 6 108 ?_
                    refine tu 7 109 ?_
                    refine tu 8 110 ?_
                    refine tu 9 111 ?_
                    refine tu 10 112 ?_
                    refine tu 11 113 ?_
                    refine tu 12 114 ?_
                    refine tq 13 115 ?_
                    refine tq 14 116 ?_
                    refine tu 15 117 ?_
                    refine tu 16 118 ?_
                    refine tu 17 119 ?_
                    refine wpAnyH_ready (rs := [18]) (by kernel_rfl) (by simp) ?_
                    refine (AllReadyH.cons (o := ⟨some 120, _, _, _, _, _⟩) rfl (fun K hK => ?_) AllReadyH.nil)
                    rw [if_neg (by rw [show Region.wanted _ _ = false from rfl]; exact Bool.false_ne_true)]
                    refine hK.out _ _ ?_ (fun hHeld => ?_)
                    · exact ⟨ldO hE HKD.out, ldO hE HKT.out, ldA (tabC T (.slice a0 xs0.length c0) (.slice b0 T.lives.length d0)) [_, _] hE (rfl) (rfl), ldA ((x.2.pv x.1).cells) [] hE (HPX.out) (cellsR_root HLX.out), ldS [] hE rfl, ldS [] hE (cellsR_39 HLX.out), ldS [_, _] hE rfl⟩
                    clear hK K
                    (try simp only [Act.put, List.setIfInBounds_toArray, List.set_cons_zero, List.set_cons_succ])
                    refine tu 19 121 ?_
                    refine tq 20 122 ?_
                    refine tq 21 123 ?_
                    refine tq 22 124 ?_
                    refine tq 23 125 ?_
                    refine tq 24 126 ?_
                    refine tu 25 127 ?_
                    refine tu 27 129 ?_
                    refine tu 26 128 ?_
                    refine tu 28 130 ?_
                    refine tu 29 131 ?_
                    refine tq 30 132 ?_
                    refine tq 31 133 ?_
                    refine tu 32 134 ?_
                    refine tu 34 136 ?_
                    refine tu 35 137 ?_
                    refine tu 33 135 ?_
                    refine tu 36 138 ?_
                    refine tu 37 139 ?_
                    refine tu 38 140 ?_
                    refine tu 39 141 ?_
                    refine tq 40 142 ?_
                    refine tq 41 143 ?_
                    refine wpAnyH_done (by kernel_rfl) ?_ _
                    clear hHeld
                    go_wp2_with (first | go_big_skip | go_big_guard | fail)
                    go_roundw
                    case rel => exact ⟨j + 1, by omega, rfl, St.sub hE (.cons _ (List.Sublist.refl _))⟩
                    case measure => simp [intOf]; omega
              · have d8 : (y.kind != 8) = true := by rw [bne_iff_ne]; exact k8
                by_cases k0 : y.kind = 0
                · have dk0 : (y.kind != 0) = false := by rw [k0]; rfl
                  clear k8 k0
                  by_cases m1 : M = 1
                  · have dm : (M == 1) = true := by rw [m1]; rfl
                    by_cases i1 : x.2.id = T.next
                    · have di : (x.2.id == T.next) = true := by rw [i1]; exact beq_self_eq_true _
                      have dx : (x.2.made != y.txg) = false := by rw [HA2.out m1 i1]; exact bne_self_eq_false _
                      clear m1 i1
                      as_aux_lemma =>
                        have hE := hX.drew
                        clear hX
                        refine wp_region_held_drew (S := (fun w' => (loadVarH 3 ⟨bb, bo + k * 40, none⟩).run Tryz.prog w' = .ok (.int .i64 y.kind) w' ∧ (loadVarH 3 ⟨bb, bo + k * 40 + 4, none⟩).run Tryz.prog w' = .ok (.int .i64 y.txg) w' ∧ (loadVarH 27 ⟨g6, 0, none⟩).run Tryz.prog w' = .ok (.agg (List.toArray (tabC T (.slice a0 xs0.length c0) (.slice b0 T.lives.length d0)))) w' ∧ (loadVarH 32 ⟨g13, 4, none⟩).run Tryz.prog w' = .ok (.agg (List.toArray ((x.2.pv x.1).cells))) w' ∧ (loadVarH 3 ⟨g13, 0, none⟩).run Tryz.prog w' = .ok (.int .i64 x.2.id) w' ∧ (loadVarH 3 ⟨g13, 39, none⟩).run Tryz.prog w' = .ok (.int .i64 x.2.made) w' ∧ (loadVarH 3 ⟨g6, 0, none⟩).run Tryz.prog w' = .ok (.int .i64 T.next) w')) (by kernel_rfl) (by exact ⟨ldO hE HKD.out, ldO hE HKT.out, ldA (tabC T (.slice a0 xs0.length c0) (.slice b0 T.lives.length d0)) [_, _] hE (rfl) (rfl), ldA ((x.2.pv x.1).cells) [] hE (HPX.out) (cellsR_root HLX.out), ldS [] hE rfl, ldS [] hE (cellsR_39 HLX.out), ldS [_, _] hE rfl⟩) (fun hHeld => ?_)
                        refine tq 0 102 ?_
                        refine tq 1 103 ?_
                        refine tq 2 104 ?_
                        refine tq 3 105 ?_
                        refine tq 4 106 ?_
                        refine tq 5 107 ?_
                        refine tq 6 108 ?_
                        refine tq 7 109 ?_
                        refine tq 8 110 ?_
                        refine tq 9 111 ?_
                        refine tq 10 112 ?_
                        refine tq 11 113 ?_
                        refine tq 12 114 ?_
                        refine tq 13 115 ?_
                        refine tq 14 116 ?_
                        refine tu 15 117 ?_
                        refine tu 16 118 ?_
                        refine tu 17 119 ?_
                        refine wpAnyH_ready (rs := [18]) (by kernel_rfl) (by simp) ?_
                        refine (AllReadyH.cons (o := ⟨some 120, _, _, _, _, _⟩) rfl (fun K hK => ?_) AllReadyH.nil)
                        rw [if_neg (by rw [show Region.wanted _ _ = false from rfl]; exact Bool.false_ne_true)]
                        refine hK.out _ _ ?_ (fun hHeld => ?_)
                        · exact ⟨ldO hE HKD.out, ldO hE HKT.out, ldA (tabC T (.slice a0 xs0.length c0) (.slice b0 T.lives.length d0)) [_, _] hE (rfl) (rfl), ldA ((x.2.pv x.1).cells) [] hE (HPX.out) (cellsR_root HLX.out), ldS [] hE rfl, ldS [] hE (cellsR_39 HLX.out), ldS [_, _] hE rfl⟩
                        clear hK K
                        (try simp only [Act.put, List.setIfInBounds_toArray, List.set_cons_zero, List.set_cons_succ])
                        refine tu 19 121 ?_
                        refine tq 20 122 ?_
                        refine tq 21 123 ?_
                        refine tq 22 124 ?_
                        refine tq 23 125 ?_
                        refine tq 24 126 ?_
                        refine tq 25 127 ?_
                        refine tq 27 129 ?_
                        refine tq 26 128 ?_
                        refine tq 28 130 ?_
                        refine tq 29 131 ?_
                        refine tq 30 132 ?_
                        refine tq 31 133 ?_
                        refine tq 32 134 ?_
                        refine tq 34 136 ?_
                        refine tq 35 137 ?_
                        refine tq 33 135 ?_
                        refine tq 36 138 ?_
                        refine tq 37 139 ?_
                        refine tq 38 140 ?_
                        refine tq 39 141 ?_
                        refine tq 40 142 ?_
                        refine tq 41 143 ?_
                        refine wpAnyH_done (by kernel_rfl) ?_ _
                        clear hHeld
                        go_wp2_with (first | go_big_skip | go_big_guard | fail)
                        go_roundw
                        case rel => exact ⟨j + 1, by omega, rfl, St.sub hE (.cons _ (List.Sublist.refl _))⟩
                        case measure => simp [intOf]; omega
                    · have di : (x.2.id == T.next) = false := by rw [beq_eq_false_iff_ne]; exact i1
                      clear m1 i1
                      as_aux_lemma =>
                        have hE := hX.drew
                        clear hX
                        refine wp_region_held_drew (S := (fun w' => (loadVarH 3 ⟨bb, bo + k * 40, none⟩).run Tryz.prog w' = .ok (.int .i64 y.kind) w' ∧ (loadVarH 3 ⟨bb, bo + k * 40 + 4, none⟩).run Tryz.prog w' = .ok (.int .i64 y.txg) w' ∧ (loadVarH 27 ⟨g6, 0, none⟩).run Tryz.prog w' = .ok (.agg (List.toArray (tabC T (.slice a0 xs0.length c0) (.slice b0 T.lives.length d0)))) w' ∧ (loadVarH 32 ⟨g13, 4, none⟩).run Tryz.prog w' = .ok (.agg (List.toArray ((x.2.pv x.1).cells))) w' ∧ (loadVarH 3 ⟨g13, 0, none⟩).run Tryz.prog w' = .ok (.int .i64 x.2.id) w' ∧ (loadVarH 3 ⟨g13, 39, none⟩).run Tryz.prog w' = .ok (.int .i64 x.2.made) w' ∧ (loadVarH 3 ⟨g6, 0, none⟩).run Tryz.prog w' = .ok (.int .i64 T.next) w')) (by kernel_rfl) (by exact ⟨ldO hE HKD.out, ldO hE HKT.out, ldA (tabC T (.slice a0 xs0.length c0) (.slice b0 T.lives.length d0)) [_, _] hE (rfl) (rfl), ldA ((x.2.pv x.1).cells) [] hE (HPX.out) (cellsR_root HLX.out), ldS [] hE rfl, ldS [] hE (cellsR_39 HLX.out), ldS [_, _] hE rfl⟩) (fun hHeld => ?_)
                        refine tq 0 102 ?_
                        refine tq 1 103 ?_
                        refine tq 2 104 ?_
                        refine tq 3 105 ?_
                        refine tq 4 106 ?_
                        refine tq 5 107 ?_
                        refine tq 6 108 ?_
                        refine tq 7 109 ?_
                        refine tq 8 110 ?_
                        refine tq 9 111 ?_
                        refine tq 10 112 ?_
                        refine tq 11 113 ?_
                        refine tq 12 114 ?_
                        refine tq 13 115 ?_
                        refine tq 14 116 ?_
                        refine tu 15 117 ?_
                        refine tu 16 118 ?_
                        refine tu 17 119 ?_
                        refine wpAnyH_ready (rs := [18]) (by kernel_rfl) (by simp) ?_
                        refine (AllReadyH.cons (o := ⟨some 120, _, _, _, _, _⟩) rfl (fun K hK => ?_) AllReadyH.nil)
                        rw [if_neg (by rw [show Region.wanted _ _ = false from rfl]; exact Bool.false_ne_true)]
                        refine hK.out _ _ ?_ (fun hHeld => ?_)
                        · exact ⟨ldO hE HKD.out, ldO hE HKT.out, ldA (tabC T (.slice a0 xs0.length c0) (.slice b0 T.lives.length d0)) [_, _] hE (rfl) (rfl), ldA ((x.2.pv x.1).cells) [] hE (HPX.out) (cellsR_root HLX.out), ldS [] hE rfl, ldS [] hE (cellsR_39 HLX.out), ldS [_, _] hE rfl⟩
                        clear hK K
                        (try simp only [Act.put, List.setIfInBounds_toArray, List.set_cons_zero, List.set_cons_succ])
                        refine tu 19 121 ?_
                        refine tq 20 122 ?_
                        refine tq 21 123 ?_
                        refine tq 22 124 ?_
                        refine tq 23 125 ?_
                        refine tq 24 126 ?_
                        refine tq 25 127 ?_
                        refine tq 27 129 ?_
                        refine tq 26 128 ?_
                        refine tq 28 130 ?_
                        refine tq 29 131 ?_
                        refine tq 30 132 ?_
                        refine tq 31 133 ?_
                        refine tu 32 134 ?_
                        refine tu 34 136 ?_
                        refine tu 35 137 ?_
                        refine tu 33 135 ?_
                        refine tu 36 138 ?_
                        refine tu 37 139 ?_
                        refine tu 38 140 ?_
                        refine tu 39 141 ?_
                        refine tq 40 142 ?_
                        refine tq 41 143 ?_
                        refine wpAnyH_done (by kernel_rfl) ?_ _
                        clear hHeld
                        go_wp2_with (first | go_big_skip | go_big_guard | fail)
                        go_roundw
                        case rel => exact ⟨j + 1, by omega, rfl, St.sub hE (.cons _ (List.Sublist.refl _))⟩
                        case measure => simp [intOf]; omega
                  · have dm : (M == 1) = false := by rw [beq_eq_false_iff_ne]; exact m1
                    clear m1
                    as_aux_lemma =>
                      have hE := hX.drew
                      clear hX
                      refine wp_region_held_drew (S := (fun w' => (loadVarH 3 ⟨bb, bo + k * 40, none⟩).run Tryz.prog w' = .ok (.int .i64 y.kind) w' ∧ (loadVarH 3 ⟨bb, bo + k * 40 + 4, none⟩).run Tryz.prog w' = .ok (.int .i64 y.txg) w' ∧ (loadVarH 27 ⟨g6, 0, none⟩).run Tryz.prog w' = .ok (.agg (List.toArray (tabC T (.slice a0 xs0.length c0) (.slice b0 T.lives.length d0)))) w' ∧ (loadVarH 32 ⟨g13, 4, none⟩).run Tryz.prog w' = .ok (.agg (List.toArray ((x.2.pv x.1).cells))) w' ∧ (loadVarH 3 ⟨g13, 0, none⟩).run Tryz.prog w' = .ok (.int .i64 x.2.id) w' ∧ (loadVarH 3 ⟨g13, 39, none⟩).run Tryz.prog w' = .ok (.int .i64 x.2.made) w' ∧ (loadVarH 3 ⟨g6, 0, none⟩).run Tryz.prog w' = .ok (.int .i64 T.next) w')) (by kernel_rfl) (by exact ⟨ldO hE HKD.out, ldO hE HKT.out, ldA (tabC T (.slice a0 xs0.length c0) (.slice b0 T.lives.length d0)) [_, _] hE (rfl) (rfl), ldA ((x.2.pv x.1).cells) [] hE (HPX.out) (cellsR_root HLX.out), ldS [] hE rfl, ldS [] hE (cellsR_39 HLX.out), ldS [_, _] hE rfl⟩) (fun hHeld => ?_)
                      refine tq 0 102 ?_
                      refine tq 1 103 ?_
                      refine tq 2 104 ?_
                      refine tq 3 105 ?_
                      refine tq 4 106 ?_
                      refine tq 5 107 ?_
                      refine tq 6 108 ?_
                      refine tq 7 109 ?_
                      refine tq 8 110 ?_
                      refine tq 9 111 ?_
                      refine tq 10 112 ?_
                      refine tq 11 113 ?_
                      refine tq 12 114 ?_
                      refine tq 13 115 ?_
                      refine tq 14 116 ?_
                      refine tu 15 117 ?_
                      refine tu 16 118 ?_
                      refine tu 17 119 ?_
                      refine wpAnyH_ready (rs := [18]) (by kernel_rfl) (by simp) ?_
                      refine (AllReadyH.cons (o := ⟨some 120, _, _, _, _, _⟩) rfl (fun K hK => ?_) AllReadyH.nil)
                      rw [if_neg (by rw [show Region.wanted _ _ = false from rfl]; exact Bool.false_ne_true)]
                      refine hK.out _ _ ?_ (fun hHeld => ?_)
                      · exact ⟨ldO hE HKD.out, ldO hE HKT.out, ldA (tabC T (.slice a0 xs0.length c0) (.slice b0 T.lives.length d0)) [_, _] hE (rfl) (rfl), ldA ((x.2.pv x.1).cells) [] hE (HPX.out) (cellsR_root HLX.out), ldS [] hE rfl, ldS [] hE (cellsR_39 HLX.out), ldS [_, _] hE rfl⟩
                      clear hK K
                      (try simp only [Act.put, List.setIfInBounds_toArray, List.set_cons_zero, List.set_cons_succ])
                      refine tu 19 121 ?_
                      refine tq 20 122 ?_
                      refine tq 21 123 ?_
                      refine tq 22 124 ?_
                      refine tq 23 125 ?_
                      refine tq 24 126 ?_
                      refine tu 25 127 ?_
                      refine tu 27 129 ?_
                      refine tu 26 128 ?_
                      refine tu 28 130 ?_
                      refine tu 29 131 ?_
                      refine tq 30 132 ?_
                      refine tq 31 133 ?_
                      refine tu 32 134 ?_
                      refine tu 34 136 ?_
                      refine tu 35 137 ?_
                      refine tu 33 135 ?_
                      refine tu 36 138 ?_
                      refine tu 37 139 ?_
                      refine tu 38 140 ?_
                      refine tu 39 141 ?_
                      refine tq 40 142 ?_
                      refine tq 41 143 ?_
                      refine wpAnyH_done (by kernel_rfl) ?_ _
                      clear hHeld
                      go_wp2_with (first | go_big_skip | go_big_guard | fail)
                      go_roundw
                      case rel => exact ⟨j + 1, by omega, rfl, St.sub hE (.cons _ (List.Sublist.refl _))⟩
                      case measure => simp [intOf]; omega
                · have dk0 : (y.kind != 0) = true := by rw [bne_iff_ne]; exact k0
                  have HH := hid (HA1.out k8 k0)
                  clear k8 k0
                  by_cases m1 : M = 1
                  · have dm : (M == 1) = true := by rw [m1]; rfl
                    by_cases i1 : x.2.id = T.next
                    · have di : (x.2.id == T.next) = true := by rw [i1]; exact beq_self_eq_true _
                      have dx : (x.2.made != y.txg) = false := by rw [HA2.out m1 i1]; exact bne_self_eq_false _
                      clear m1 i1
                      as_aux_lemma =>
                        have hE := hX.drew
                        clear hX
                        refine wp_region_held_drew (S := (fun w' => (loadVarH 3 ⟨bb, bo + k * 40, none⟩).run Tryz.prog w' = .ok (.int .i64 y.kind) w' ∧ (loadVarH 3 ⟨bb, bo + k * 40 + 4, none⟩).run Tryz.prog w' = .ok (.int .i64 y.txg) w' ∧ (loadVarH 27 ⟨g6, 0, none⟩).run Tryz.prog w' = .ok (.agg (List.toArray (tabC T (.slice a0 xs0.length c0) (.slice b0 T.lives.length d0)))) w' ∧ (loadVarH 32 ⟨g13, 4, none⟩).run Tryz.prog w' = .ok (.agg (List.toArray ((x.2.pv x.1).cells))) w' ∧ (loadVarH 3 ⟨g13, 0, none⟩).run Tryz.prog w' = .ok (.int .i64 x.2.id) w' ∧ (loadVarH 3 ⟨g13, 39, none⟩).run Tryz.prog w' = .ok (.int .i64 x.2.made) w' ∧ (loadVarH 3 ⟨g6, 0, none⟩).run Tryz.prog w' = .ok (.int .i64 T.next) w')) (by kernel_rfl) (by exact ⟨ldO hE HKD.out, ldO hE HKT.out, ldA (tabC T (.slice a0 xs0.length c0) (.slice b0 T.lives.length d0)) [_, _] hE (rfl) (rfl), ldA ((x.2.pv x.1).cells) [] hE (HPX.out) (cellsR_root HLX.out), ldS [] hE rfl, ldS [] hE (cellsR_39 HLX.out), ldS [_, _] hE rfl⟩) (fun hHeld => ?_)
                        refine tq 0 102 ?_
                        refine tq 1 103 ?_
                        refine tq 2 104 ?_
                        refine tq 3 105 ?_
                        refine tq 4 106 ?_
                        refine tq 5 107 ?_
                        refine tq 6 108 ?_
                        refine tq 7 109 ?_
                        refine tq 8 110 ?_
                        refine tq 9 111 ?_
                        refine tq 10 112 ?_
                        refine tq 11 113 ?_
                        refine tq 12 114 ?_
                        refine tq 13 115 ?_
                        refine tq 14 116 ?_
                        refine tq 15 117 ?_
                        refine tq 16 118 ?_
                        refine tq 17 119 ?_
                        refine wpAnyH_ready (rs := [18]) (by kernel_rfl) (by simp) ?_
                        refine (AllReadyH.cons (o := ⟨some 120, _, _, _, _, _⟩) rfl (fun K hK => ?_) AllReadyH.nil)
                        rw [if_pos (by rfl)]
                        go_simp
                        go_at_call 21
                        refine (has13_any T a0 xs0.length c0 (.slice b0 T.lives.length d0) xs0 (x.2.pv x.1) _ (HTM.out.recs hE) HTM.out.ok.eq (by have := HOK.out.many; have := HTM.out.ok.len; omega) ((HT9.out.recs hE).each x (List.mem_of_getElem? HX.out)).1).mono ?_
                        rw [HH.out]
                        rintro _ w9 ⟨rfl, h4⟩
                        have hC : St w [] w9 ([.blk g13 53 (cellsR x), .blk g9 27 (tabC (doR T y).2 (.slice (some ⟨lb, lo, none⟩) xs9.length c9) (.slice b9 (doR T y).2.lives.length d9)), .blk g6 27 (tabC T (.slice a0 xs0.length c0) (.slice b0 T.lives.length d0))] ++ P9) := St.call0 hE h4
                        clear h4
                        refine hK.out _ _ ?_ (fun hHeld => ?_)
                        · exact ⟨ldO hC HKD.out, ldO hC HKT.out, ldA (tabC T (.slice a0 xs0.length c0) (.slice b0 T.lives.length d0)) [_, _] hC (rfl) (rfl), ldA ((x.2.pv x.1).cells) [] hC (HPX.out) (cellsR_root HLX.out), ldS [] hC rfl, ldS [] hC (cellsR_39 HLX.out), ldS [_, _] hC rfl⟩
                        clear hK K
                        (try simp only [Act.put, List.setIfInBounds_toArray, List.set_cons_zero, List.set_cons_succ])
                        refine tq 19 121 ?_
                        refine tq 20 122 ?_
                        refine tq 21 123 ?_
                        refine tq 22 124 ?_
                        refine tq 23 125 ?_
                        refine tq 24 126 ?_
                        refine tq 25 127 ?_
                        refine tq 27 129 ?_
                        refine tq 26 128 ?_
                        refine tq 28 130 ?_
                        refine tq 29 131 ?_
                        refine tq 30 132 ?_
                        refine tq 31 133 ?_
                        refine tq 32 134 ?_
                        refine tq 34 136 ?_
                        refine tq 35 137 ?_
                        refine tq 33 135 ?_
                        refine tq 36 138 ?_
                        refine tq 37 139 ?_
                        refine tq 38 140 ?_
                        refine tq 39 141 ?_
                        refine tq 40 142 ?_
                        refine tq 41 143 ?_
                        refine wpAnyH_done (by kernel_rfl) ?_ _
                        clear hHeld
                        go_wp2_with (first | go_big_skip | go_big_guard | fail)
                        go_roundw
                        case rel => exact ⟨j + 1, by omega, rfl, St.sub hC (.cons _ (List.Sublist.refl _))⟩
                        case measure => simp [intOf]; omega
                    · have di : (x.2.id == T.next) = false := by rw [beq_eq_false_iff_ne]; exact i1
                      clear m1 i1
                      as_aux_lemma =>
                        have hE := hX.drew
                        clear hX
                        refine wp_region_held_drew (S := (fun w' => (loadVarH 3 ⟨bb, bo + k * 40, none⟩).run Tryz.prog w' = .ok (.int .i64 y.kind) w' ∧ (loadVarH 3 ⟨bb, bo + k * 40 + 4, none⟩).run Tryz.prog w' = .ok (.int .i64 y.txg) w' ∧ (loadVarH 27 ⟨g6, 0, none⟩).run Tryz.prog w' = .ok (.agg (List.toArray (tabC T (.slice a0 xs0.length c0) (.slice b0 T.lives.length d0)))) w' ∧ (loadVarH 32 ⟨g13, 4, none⟩).run Tryz.prog w' = .ok (.agg (List.toArray ((x.2.pv x.1).cells))) w' ∧ (loadVarH 3 ⟨g13, 0, none⟩).run Tryz.prog w' = .ok (.int .i64 x.2.id) w' ∧ (loadVarH 3 ⟨g13, 39, none⟩).run Tryz.prog w' = .ok (.int .i64 x.2.made) w' ∧ (loadVarH 3 ⟨g6, 0, none⟩).run Tryz.prog w' = .ok (.int .i64 T.next) w')) (by kernel_rfl) (by exact ⟨ldO hE HKD.out, ldO hE HKT.out, ldA (tabC T (.slice a0 xs0.length c0) (.slice b0 T.lives.length d0)) [_, _] hE (rfl) (rfl), ldA ((x.2.pv x.1).cells) [] hE (HPX.out) (cellsR_root HLX.out), ldS [] hE rfl, ldS [] hE (cellsR_39 HLX.out), ldS [_, _] hE rfl⟩) (fun hHeld => ?_)
                        refine tq 0 102 ?_
                        refine tq 1 103 ?_
                        refine tq 2 104 ?_
                        refine tq 3 105 ?_
                        refine tq 4 106 ?_
                        refine tq 5 107 ?_
                        refine tq 6 108 ?_
                        refine tq 7 109 ?_
                        refine tq 8 110 ?_
                        refine tq 9 111 ?_
                        refine tq 10 112 ?_
                        refine tq 11 113 ?_
                        refine tq 12 114 ?_
                        refine tq 13 115 ?_
                        refine tq 14 116 ?_
                        refine tq 15 117 ?_
                        refine tq 16 118 ?_
                        refine tq 17 119 ?_
                        refine wpAnyH_ready (rs := [18]) (by kernel_rfl) (by simp) ?_
                        refine (AllReadyH.cons (o := ⟨some 120, _, _, _, _, _⟩) rfl (fun K hK => ?_) AllReadyH.nil)
                        rw [if_pos (by rfl)]
                        go_simp
                        go_at_call 21
                        refine (has13_any T a0 xs0.length c0 (.slice b0 T.lives.length d0) xs0 (x.2.pv x.1) _ (HTM.out.recs hE) HTM.out.ok.eq (by have := HOK.out.many; have := HTM.out.ok.len; omega) ((HT9.out.recs hE).each x (List.mem_of_getElem? HX.out)).1).mono ?_
                        rw [HH.out]
                        rintro _ w9 ⟨rfl, h4⟩
                        have hC : St w [] w9 ([.blk g13 53 (cellsR x), .blk g9 27 (tabC (doR T y).2 (.slice (some ⟨lb, lo, none⟩) xs9.length c9) (.slice b9 (doR T y).2.lives.length d9)), .blk g6 27 (tabC T (.slice a0 xs0.length c0) (.slice b0 T.lives.length d0))] ++ P9) := St.call0 hE h4
                        clear h4
                        refine hK.out _ _ ?_ (fun hHeld => ?_)
                        · exact ⟨ldO hC HKD.out, ldO hC HKT.out, ldA (tabC T (.slice a0 xs0.length c0) (.slice b0 T.lives.length d0)) [_, _] hC (rfl) (rfl), ldA ((x.2.pv x.1).cells) [] hC (HPX.out) (cellsR_root HLX.out), ldS [] hC rfl, ldS [] hC (cellsR_39 HLX.out), ldS [_, _] hC rfl⟩
                        clear hK K
                        (try simp only [Act.put, List.setIfInBounds_toArray, List.set_cons_zero, List.set_cons_succ])
                        refine tq 19 121 ?_
                        refine tq 20 122 ?_
                        refine tq 21 123 ?_
                        refine tq 22 124 ?_
                        refine tq 23 125 ?_
                        refine tq 24 126 ?_
                        refine tq 25 127 ?_
                        refine tq 27 129 ?_
                        refine tq 26 128 ?_
                        refine tq 28 130 ?_
                        refine tq 29 131 ?_
                        refine tq 30 132 ?_
                        refine tq 31 133 ?_
                        refine tu 32 134 ?_
                        refine tu 34 136 ?_
                        refine tu 35 137 ?_
                        refine tu 33 135 ?_
                        refine tu 36 138 ?_
                        refine tu 37 139 ?_
                        refine tu 38 140 ?_
                        refine tu 39 141 ?_
                        refine tq 40 142 ?_
                        refine tq 41 143 ?_
                        refine wpAnyH_done (by kernel_rfl) ?_ _
                        clear hHeld
                        go_wp2_with (first | go_big_skip | go_big_guard | fail)
                        go_roundw
                        case rel => exact ⟨j + 1, by omega, rfl, St.sub hC (.cons _ (List.Sublist.refl _))⟩
                        case measure => simp [intOf]; omega
                  · have dm : (M == 1) = false := by rw [beq_eq_false_iff_ne]; exact m1
                    clear m1
                    as_aux_lemma =>
                      have hE := hX.drew
                      clear hX
                      refine wp_region_held_drew (S := (fun w' => (loadVarH 3 ⟨bb, bo + k * 40, none⟩).run Tryz.prog w' = .ok (.int .i64 y.kind) w' ∧ (loadVarH 3 ⟨bb, bo + k * 40 + 4, none⟩).run Tryz.prog w' = .ok (.int .i64 y.txg) w' ∧ (loadVarH 27 ⟨g6, 0, none⟩).run Tryz.prog w' = .ok (.agg (List.toArray (tabC T (.slice a0 xs0.length c0) (.slice b0 T.lives.length d0)))) w' ∧ (loadVarH 32 ⟨g13, 4, none⟩).run Tryz.prog w' = .ok (.agg (List.toArray ((x.2.pv x.1).cells))) w' ∧ (loadVarH 3 ⟨g13, 0, none⟩).run Tryz.prog w' = .ok (.int .i64 x.2.id) w' ∧ (loadVarH 3 ⟨g13, 39, none⟩).run Tryz.prog w' = .ok (.int .i64 x.2.made) w' ∧ (loadVarH 3 ⟨g6, 0, none⟩).run Tryz.prog w' = .ok (.int .i64 T.next) w')) (by kernel_rfl) (by exact ⟨ldO hE HKD.out, ldO hE HKT.out, ldA (tabC T (.slice a0 xs0.length c0) (.slice b0 T.lives.length d0)) [_, _] hE (rfl) (rfl), ldA ((x.2.pv x.1).cells) [] hE (HPX.out) (cellsR_root HLX.out), ldS [] hE rfl, ldS [] hE (cellsR_39 HLX.out), ldS [_, _] hE rfl⟩) (fun hHeld => ?_)
                      refine tq 0 102 ?_
                      refine tq 1 103 ?_
                      refine tq 2 104 ?_
                      refine tq 3 105 ?_
                      refine tq 4 106 ?_
                      refine tq 5 107 ?_
                      refine tq 6 108 ?_
                      refine tq 7 109 ?_
                      refine tq 8 110 ?_
                      refine tq 9 111 ?_
                      refine tq 10 112 ?_
                      refine tq 11 113 ?_
                      refine tq 12 114 ?_
                      refine tq 13 115 ?_
                      refine tq 14 116 ?_
                      refine tq 15 117 ?_
                      refine tq 16 118 ?_
                      refine tq 17 119 ?_
                      refine wpAnyH_ready (rs := [18]) (by kernel_rfl) (by simp) ?_
                      refine (AllReadyH.cons (o := ⟨some 120, _, _, _, _, _⟩) rfl (fun K hK => ?_) AllReadyH.nil)
                      rw [if_pos (by rfl)]
                      go_simp
                      go_at_call 21
                      refine (has13_any T a0 xs0.length c0 (.slice b0 T.lives.length d0) xs0 (x.2.pv x.1) _ (HTM.out.recs hE) HTM.out.ok.eq (by have := HOK.out.many; have := HTM.out.ok.len; omega) ((HT9.out.recs hE).each x (List.mem_of_getElem? HX.out)).1).mono ?_
                      rw [HH.out]
                      rintro _ w9 ⟨rfl, h4⟩
                      have hC : St w [] w9 ([.blk g13 53 (cellsR x), .blk g9 27 (tabC (doR T y).2 (.slice (some ⟨lb, lo, none⟩) xs9.length c9) (.slice b9 (doR T y).2.lives.length d9)), .blk g6 27 (tabC T (.slice a0 xs0.length c0) (.slice b0 T.lives.length d0))] ++ P9) := St.call0 hE h4
                      clear h4
                      refine hK.out _ _ ?_ (fun hHeld => ?_)
                      · exact ⟨ldO hC HKD.out, ldO hC HKT.out, ldA (tabC T (.slice a0 xs0.length c0) (.slice b0 T.lives.length d0)) [_, _] hC (rfl) (rfl), ldA ((x.2.pv x.1).cells) [] hC (HPX.out) (cellsR_root HLX.out), ldS [] hC rfl, ldS [] hC (cellsR_39 HLX.out), ldS [_, _] hC rfl⟩
                      clear hK K
                      (try simp only [Act.put, List.setIfInBounds_toArray, List.set_cons_zero, List.set_cons_succ])
                      refine tq 19 121 ?_
                      refine tq 20 122 ?_
                      refine tq 21 123 ?_
                      refine tq 22 124 ?_
                      refine tq 23 125 ?_
                      refine tq 24 126 ?_
                      refine tu 25 127 ?_
                      refine tu 27 129 ?_
                      refine tu 26 128 ?_
                      refine tu 28 130 ?_
                      refine tu 29 131 ?_
                      refine tq 30 132 ?_
                      refine tq 31 133 ?_
                      refine tu 32 134 ?_
                      refine tu 34 136 ?_
                      refine tu 35 137 ?_
                      refine tu 33 135 ?_
                      refine tu 36 138 ?_
                      refine tu 37 139 ?_
                      refine tu 38 140 ?_
                      refine tu 39 141 ?_
                      refine tq 40 142 ?_
                      refine tq 41 143 ?_
                      refine wpAnyH_done (by kernel_rfl) ?_ _
                      clear hHeld
                      go_wp2_with (first | go_big_skip | go_big_guard | fail)
                      go_roundw
                      case rel => exact ⟨j + 1, by omega, rfl, St.sub hC (.cons _ (List.Sublist.refl _))⟩
                      case measure => simp [intOf]; omega
            · have ej : decide ((j : Int) < (xs9.length : Int)) = false := decide_eq_false (by omega)
              go_wp2_with (first | go_big_skip | go_big_guard | (refine wl_loadE rfl rfl rfl ?_; first | refine ⟨_, Loads.at [] hL rfl, ?_⟩ | refine ⟨_, Loads.at [_] hL rfl, ?_⟩ | refine ⟨_, Loads.atA (tabC (doR T y).2 (.slice a9 xs9.length c9) (.slice b9 (doR T y).2.lives.length d9)) [] hL rfl rfl, ?_⟩))
              clear hlj hj ej
              go_loopw [14] (fun i wr => ∃ j : Nat, j ≤ xs0.length ∧ i = .int .i64 (j : Int) ∧ St w [] wr ([.blk g9 27 (tabC (doR T y).2 (.slice a9 xs9.length c9) (.slice b9 (doR T y).2.lives.length d9)), .blk g6 27 (tabC T (.slice a0 xs0.length c0) (.slice b0 T.lives.length d0))] ++ P9)) (fun i _ => xs0.length - (intOf i).toNat)
              case atStart => exact ⟨0, Nat.zero_le _, rfl, hL⟩
              case round =>
                clear hL
                obtain ⟨j, hj, rfl, hL⟩ := hrel
                by_cases hlj : j < xs0.length
                · have ej : decide ((j : Int) < (xs0.length : Int)) = true := decide_eq_true (by omega)
                  have z2 : IntKind.i64.wrap ((j : Int) + 1) = (j : Int) + 1 := IntWalk.i64_in _ (by omega)
                  obtain ⟨x, lb, lo, hx, rfl, hin, hr⟩ := RecsIn.at (HTM.out.recs hL) hlj
                  have HX := hid hx
                  have HPX := hid (PV.len (p := x.2.pv x.1) hin.L)
                  have hxm : x.2 ∈ T.recs := by rw [← HTM.out.ok.eq]; exact List.mem_map_of_mem (List.mem_of_getElem? hx)
                  have HA1 := hid (fun (h8 : y.kind ≠ 8) (h3 : y.kind ≠ 3) (h0 : y.kind ≠ 4) => HA4.out h8 h3 h0 x.2 hxm x.1)
                  clear hx hin hr hxm
                  go_wp2_with (first | go_big_skip | go_big_guard | (refine wl_loadE rfl rfl rfl ?_; refine ⟨_, Loads.at [_] hL rfl, ?_⟩))
                  by_cases k8 : y.kind = 8
                  · have d8 : (y.kind != 8) = false := by rw [k8]; rfl
                    clear k8
                    as_aux_lemma =>
                      have hE := hL.drew
                      clear hL
                      refine wp_region_held_drew (S := (fun w' => (loadVarH 3 ⟨bb, bo + k * 40, none⟩).run Tryz.prog w' = .ok (.int .i64 y.kind) w' ∧ (loadVarH 27 ⟨g9, 0, none⟩).run Tryz.prog w' = .ok (.agg (List.toArray (tabC (doR T y).2 (.slice a9 xs9.length c9) (.slice b9 (doR T y).2.lives.length d9)))) w' ∧ (loadVarH 22 ⟨g6, 1, none⟩).run Tryz.prog w' = .ok (.slice (some ⟨lb, lo, none⟩) xs0.length c0) w' ∧ (loadVarH 32 ⟨lb, lo + j * 44 + 4, none⟩).run Tryz.prog w' = .ok (.agg (x.2.pv x.1).cells.toArray) w')) (by kernel_rfl) (by exact ⟨ldO hE HKD.out, ldA (tabC (doR T y).2 (.slice a9 xs9.length c9) (.slice b9 (doR T y).2.lives.length d9)) [] hE (rfl) (rfl), ldS [_] hE rfl, ldOA (St.refl _) HPX.out (rangeR_root (HTM.out.rngA hE rfl HX.out))⟩) (fun hHeld => ?_)
                      refine tq 0 151 ?_
                      refine tq 1 152 ?_
                      refine tq 2 153 ?_
                      refine tq 3 154 ?_
                      refine tq 4 155 ?_
                      refine tq 5 156 ?_
                      refine tq 6 157 ?_
                      refine tu 7 158 ?_
                      refine tu 8 159 ?_
                      refine tu 9 160 ?_
                      refine tu 10 161 ?_
                      refine tu 11 162 ?_
                      refine tu 12 163 ?_
                      refine tq 13 164 ?_
                      refine tq 14 165 ?_
                      refine tu 15 166 ?_
                      refine tu 16 167 ?_
                      refine tu 17 168 ?_
                      refine tu 18 169 ?_
                      refine tu 19 170 ?_
                      refine tu 20 171 ?_
                      refine tq 21 172 ?_
                      refine tq 22 173 ?_
                      refine tu 23 174 ?_
                      refine tu 24 175 ?_
                      refine tu 26 177 ?_
                      refine tu 25 176 ?_
                      refine tu 27 178 ?_
                      refine tu 28 179 ?_
                      refine tu 29 180 ?_
                      refine wpAnyH_ready (rs := [30]) (by kernel_rfl) (by simp) ?_
                      refine (AllReadyH.cons (o := ⟨some 181, _, _, _, _, _⟩) rfl (fun K hK => ?_) AllReadyH.nil)
                      rw [if_neg (by rw [show Region.wanted _ _ = false from rfl]; exact Bool.false_ne_true)]
                      refine hK.out _ _ ?_ (fun hHeld => ?_)
                      · exact ⟨ldO hE HKD.out, ldA (tabC (doR T y).2 (.slice a9 xs9.length c9) (.slice b9 (doR T y).2.lives.length d9)) [] hE (rfl) (rfl), ldS [_] hE rfl, ldOA (St.refl _) HPX.out (rangeR_root (HTM.out.rngA hE rfl HX.out))⟩
                      clear hK K
                      (try simp only [Act.put, List.setIfInBounds_toArray, List.set_cons_zero, List.set_cons_succ])
                      refine tu 31 182 ?_
                      refine tq 32 183 ?_
                      refine wpAnyH_done (by kernel_rfl) ?_ _
                      clear hHeld
                      go_wp2_with (first | go_big_skip | go_big_guard | fail)
                      go_roundw
                      case rel => exact ⟨j + 1, by omega, rfl, hE⟩
                      case measure => simp [intOf]; omega
                  · have d8 : (y.kind != 8) = true := by rw [bne_iff_ne]; exact k8
                    by_cases k3 : y.kind = 3
                    · have d3 : (y.kind != 3) = false := by rw [k3]; rfl
                      clear k8 k3
                      as_aux_lemma =>
                        have hE := hL.drew
                        clear hL
                        refine wp_region_held_drew (S := (fun w' => (loadVarH 3 ⟨bb, bo + k * 40, none⟩).run Tryz.prog w' = .ok (.int .i64 y.kind) w' ∧ (loadVarH 27 ⟨g9, 0, none⟩).run Tryz.prog w' = .ok (.agg (List.toArray (tabC (doR T y).2 (.slice a9 xs9.length c9) (.slice b9 (doR T y).2.lives.length d9)))) w' ∧ (loadVarH 22 ⟨g6, 1, none⟩).run Tryz.prog w' = .ok (.slice (some ⟨lb, lo, none⟩) xs0.length c0) w' ∧ (loadVarH 32 ⟨lb, lo + j * 44 + 4, none⟩).run Tryz.prog w' = .ok (.agg (x.2.pv x.1).cells.toArray) w')) (by kernel_rfl) (by exact ⟨ldO hE HKD.out, ldA (tabC (doR T y).2 (.slice a9 xs9.length c9) (.slice b9 (doR T y).2.lives.length d9)) [] hE (rfl) (rfl), ldS [_] hE rfl, ldOA (St.refl _) HPX.out (rangeR_root (HTM.out.rngA hE rfl HX.out))⟩) (fun hHeld => ?_)
                        refine tq 0 151 ?_
                        refine tq 1 152 ?_
                        refine tq 2 153 ?_
                        refine tq 3 154 ?_
                        refine tq 4 155 ?_
                        refine tq 5 156 ?_
                        refine tq 6 157 ?_
                        refine tq 7 158 ?_
                        refine tq 8 159 ?_
                        refine tq 9 160 ?_
                        refine tq 10 161 ?_
                        refine tq 11 162 ?_
                        refine tq 12 163 ?_
                        refine tq 13 164 ?_
                        refine tq 14 165 ?_
                        refine tu 15 166 ?_
                        refine tu 16 167 ?_
                        refine tu 17 168 ?_
                        refine tu 18 169 ?_
                        refine tu 19 170 ?_
                        refine tu 20 171 ?_
                        refine tq 21 172 ?_
                        refine tq 22 173 ?_
                        refine tu 23 174 ?_
                        refine tu 24 175 ?_
                        refine tu 26 177 ?_
                        refine tu 25 176 ?_
                        refine tu 27 178 ?_
                        refine tu 28 179 ?_
                        refine tu 29 180 ?_
                        refine wpAnyH_ready (rs := [30]) (by kernel_rfl) (by simp) ?_
                        refine (AllReadyH.cons (o := ⟨some 181, _, _, _, _, _⟩) rfl (fun K hK => ?_) AllReadyH.nil)
                        rw [if_neg (by rw [show Region.wanted _ _ = false from rfl]; exact Bool.false_ne_true)]
                        refine hK.out _ _ ?_ (fun hHeld => ?_)
                        · exact ⟨ldO hE HKD.out, ldA (tabC (doR T y).2 (.slice a9 xs9.length c9) (.slice b9 (doR T y).2.lives.length d9)) [] hE (rfl) (rfl), ldS [_] hE rfl, ldOA (St.refl _) HPX.out (rangeR_root (HTM.out.rngA hE rfl HX.out))⟩
                        clear hK K
                        (try simp only [Act.put, List.setIfInBounds_toArray, List.set_cons_zero, List.set_cons_succ])
                        refine tu 31 182 ?_
                        refine tq 32 183 ?_
                        refine wpAnyH_done (by kernel_rfl) ?_ _
                        clear hHeld
                        go_wp2_with (first | go_big_skip | go_big_guard | fail)
                        go_roundw
                        case rel => exact ⟨j + 1, by omega, rfl, hE⟩
                        case measure => simp [intOf]; omega
                    · have d3 : (y.kind != 3) = true := by rw [bne_iff_ne]; exact k3
                      by_cases k4 : y.kind = 4
                      · have d4 : (y.kind != 4) = false := by rw [k4]; rfl
                        clear k8 k3 k4
                        as_aux_lemma =>
                          have hE := hL.drew
                          clear hL
                          refine wp_region_held_drew (S := (fun w' => (loadVarH 3 ⟨bb, bo + k * 40, none⟩).run Tryz.prog w' = .ok (.int .i64 y.kind) w' ∧ (loadVarH 27 ⟨g9, 0, none⟩).run Tryz.prog w' = .ok (.agg (List.toArray (tabC (doR T y).2 (.slice a9 xs9.length c9) (.slice b9 (doR T y).2.lives.length d9)))) w' ∧ (loadVarH 22 ⟨g6, 1, none⟩).run Tryz.prog w' = .ok (.slice (some ⟨lb, lo, none⟩) xs0.length c0) w' ∧ (loadVarH 32 ⟨lb, lo + j * 44 + 4, none⟩).run Tryz.prog w' = .ok (.agg (x.2.pv x.1).cells.toArray) w')) (by kernel_rfl) (by exact ⟨ldO hE HKD.out, ldA (tabC (doR T y).2 (.slice a9 xs9.length c9) (.slice b9 (doR T y).2.lives.length d9)) [] hE (rfl) (rfl), ldS [_] hE rfl, ldOA (St.refl _) HPX.out (rangeR_root (HTM.out.rngA hE rfl HX.out))⟩) (fun hHeld => ?_)
                          refine tq 0 151 ?_
                          refine tq 1 152 ?_
                          refine tq 2 153 ?_
                          refine tq 3 154 ?_
                          refine tq 4 155 ?_
                          refine tq 5 156 ?_
                          refine tq 6 157 ?_
                          refine tq 7 158 ?_
                          refine tq 8 159 ?_
                          refine tq 9 160 ?_
                          refine tq 10 161 ?_
                          refine tq 11 162 ?_
                          refine tq 12 163 ?_
                          refine tq 13 164 ?_
                          refine tq 14 165 ?_
                          refine tq 15 166 ?_
                          refine tq 16 167 ?_
                          refine tq 17 168 ?_
                          refine tq 18 169 ?_
                          refine tq 19 170 ?_
                          refine tq 20 171 ?_
                          refine tq 21 172 ?_
                          refine tq 22 173 ?_
                          refine tu 23 174 ?_
                          refine tu 24 175 ?_
                          refine tu 26 177 ?_
                          refine tu 25 176 ?_
                          refine tu 27 178 ?_
                          refine tu 28 179 ?_
                          refine tu 29 180 ?_
                          refine wpAnyH_ready (rs := [30]) (by kernel_rfl) (by simp) ?_
                          refine (AllReadyH.cons (o := ⟨some 181, _, _, _, _, _⟩) rfl (fun K hK => ?_) AllReadyH.nil)
                          rw [if_neg (by rw [show Region.wanted _ _ = false from rfl]; exact Bool.false_ne_true)]
                          refine hK.out _ _ ?_ (fun hHeld => ?_)
                          · exact ⟨ldO hE HKD.out, ldA (tabC (doR T y).2 (.slice a9 xs9.length c9) (.slice b9 (doR T y).2.lives.length d9)) [] hE (rfl) (rfl), ldS [_] hE rfl, ldOA (St.refl _) HPX.out (rangeR_root (HTM.out.rngA hE rfl HX.out))⟩
                          clear hK K
                          (try simp only [Act.put, List.setIfInBounds_toArray, List.set_cons_zero, List.set_cons_succ])
                          refine tu 31 182 ?_
                          refine tq 32 183 ?_
                          refine wpAnyH_done (by kernel_rfl) ?_ _
                          clear hHeld
                          go_wp2_with (first | go_big_skip | go_big_guard | fail)
                          go_roundw
                          case rel => exact ⟨j + 1, by omega, rfl, hE⟩
                          case measure => simp [intOf]; omega
                      · have d4 : (y.kind != 4) = true := by rw [bne_iff_ne]; exact k4
                        have HH := hid (HA1.out k8 k3 k4)
                        clear k8 k3 k4
                        as_aux_lemma =>
                          have hE := hL.drew
                          clear hL
                          refine wp_region_held_drew (S := (fun w' => (loadVarH 3 ⟨bb, bo + k * 40, none⟩).run Tryz.prog w' = .ok (.int .i64 y.kind) w' ∧ (loadVarH 27 ⟨g9, 0, none⟩).run Tryz.prog w' = .ok (.agg (List.toArray (tabC (doR T y).2 (.slice a9 xs9.length c9) (.slice b9 (doR T y).2.lives.length d9)))) w' ∧ (loadVarH 22 ⟨g6, 1, none⟩).run Tryz.prog w' = .ok (.slice (some ⟨lb, lo, none⟩) xs0.length c0) w' ∧ (loadVarH 32 ⟨lb, lo + j * 44 + 4, none⟩).run Tryz.prog w' = .ok (.agg (x.2.pv x.1).cells.toArray) w')) (by kernel_rfl) (by exact ⟨ldO hE HKD.out, ldA (tabC (doR T y).2 (.slice a9 xs9.length c9) (.slice b9 (doR T y).2.lives.length d9)) [] hE (rfl) (rfl), ldS [_] hE rfl, ldOA (St.refl _) HPX.out (rangeR_root (HTM.out.rngA hE rfl HX.out))⟩) (fun hHeld => ?_)
                          refine tq 0 151 ?_
                          refine tq 1 152 ?_
                          refine tq 2 153 ?_
                          refine tq 3 154 ?_
                          refine tq 4 155 ?_
                          refine tq 5 156 ?_
                          refine tq 6 157 ?_
                          refine tq 7 158 ?_
                          refine tq 8 159 ?_
                          refine tq 9 160 ?_
                          refine tq 10 161 ?_
                          refine tq 11 162 ?_
                          refine tq 12 163 ?_
                          refine tq 13 164 ?_
                          refine tq 14 165 ?_
                          refine tq 15 166 ?_
                          refine tq 16 167 ?_
                          refine tq 17 168 ?_
                          refine tq 18 169 ?_
                          refine tq 19 170 ?_
                          refine tq 20 171 ?_
                          refine tq 21 172 ?_
                          refine tq 22 173 ?_
                          refine tq 23 174 ?_
                          refine tq 24 175 ?_
                          refine tq 26 177 ?_
                          refine tq 25 176 ?_
                          refine tq 27 178 ?_
                          refine tq 28 179 ?_
                          refine tq 29 180 ?_
                          refine wpAnyH_ready (rs := [30]) (by kernel_rfl) (by simp) ?_
                          refine (AllReadyH.cons (o := ⟨some 181, _, _, _, _, _⟩) rfl (fun K hK => ?_) AllReadyH.nil)
                          rw [if_pos (by rfl)]
                          go_simp
                          go_at_call 21
                          refine (has13_any (doR T y).2 a9 xs9.length c9 (.slice b9 (doR T y).2.lives.length d9) xs9 (x.2.pv x.1) _ (HT9.out.recs hE) HT9.out.ok.eq (by have := HK.out.k.ok.many; have := HT9.out.ok.len; omega) ((HTM.out.recs hE).each x (List.mem_of_getElem? HX.out)).1).mono ?_
                          rw [HH.out]
                          rintro _ w9 ⟨rfl, h4⟩
                          have hC : St w [] w9 ([.blk g9 27 (tabC (doR T y).2 (.slice a9 xs9.length c9) (.slice b9 (doR T y).2.lives.length d9)), .blk g6 27 (tabC T (.slice (some ⟨lb, lo, none⟩) xs0.length c0) (.slice b0 T.lives.length d0))] ++ P9) := St.call0 hE h4
                          clear h4
                          refine hK.out _ _ ?_ (fun hHeld => ?_)
                          · exact ⟨ldO hC HKD.out, ldA (tabC (doR T y).2 (.slice a9 xs9.length c9) (.slice b9 (doR T y).2.lives.length d9)) [] hC (rfl) (rfl), ldS [_] hC rfl, ldOA (St.refl _) HPX.out (rangeR_root (HTM.out.rngA hC rfl HX.out))⟩
                          clear hK K
                          (try simp only [Act.put, List.setIfInBounds_toArray, List.set_cons_zero, List.set_cons_succ])
                          refine tq 31 182 ?_
                          refine tq 32 183 ?_
                          refine wpAnyH_done (by kernel_rfl) ?_ _
                          clear hHeld
                          go_wp2_with (first | go_big_skip | go_big_guard | fail)
                          go_roundw
                          case rel => exact ⟨j + 1, by omega, rfl, hC⟩
                          case measure => simp [intOf]; omega
                · have ej : decide ((j : Int) < (xs0.length : Int)) = false := decide_eq_false (by omega)
                  go_wp2_with (first | go_big_skip | go_big_guard | (refine wl_loadE rfl rfl rfl ?_; first | refine ⟨_, Loads.at [] hL rfl, ?_⟩ | refine ⟨_, Loads.at [_] hL rfl, ?_⟩ | refine ⟨_, Loads.atA (tabC (doR T y).2 (.slice a9 xs9.length c9) (.slice b9 (doR T y).2.lives.length d9)) [] hL rfl rfl, ?_⟩) | (refine wl_storeA [_] hL rfl rfl rfl rfl (vs := tabC (doR T y).2 (.slice a9 xs9.length c9) (.slice b9 (doR T y).2.lives.length d9)) rfl rfl rfl ?_; intro w4 hL2; clear hL))
                  go_roundw
                  case rel => exact ⟨k + 1, by omega, rfl, (doR T y).2, _, _, _, _, P9, xs9, HK.out.k.ok, HT9.out, St.sub hL2 (.cons _ (List.Sublist.refl _))⟩
                  case measure => simp [intOf]; omega
        · have HSB := hid (show (doR T y).2.sameB noT = true by rw [do_bad hz]; rfl)
          have HUB := hid (show (doR T y).2.recs.length ≤ 1000000 ∧ (doR T y).2.lives.length ≤ 1000000 by rw [do_bad hz]; decide)
          have dz : ((doR T y).1 != 0) = true := by rw [bne_iff_ne]; exact hz
          clear hz
          go_wp2_with (first | go_big_skip | go_big_guard | (refine wl_loadE rfl rfl rfl ?_; first | refine ⟨_, Loads.atA (tabC (doR T y).2 (.slice a9 xs9.length c9) (.slice b9 (doR T y).2.lives.length d9)) [] hS rfl rfl, ?_⟩ | refine ⟨_, Loads.atA (tabC T (.slice a0 xs0.length c0) (.slice b0 T.lives.length d0)) [_] hS rfl rfl, ?_⟩ | refine ⟨_, Loads.at [] hS rfl, ?_⟩ | refine ⟨_, Loads.at [_] hS rfl, ?_⟩) | (refine wl_build0 rfl rfl ?_) | (go_at_call 15; refine (kitTable_any _ _ _ _ none none _ _ _ _ 0 0 0 0 xs9 [] _ (HT9.out.tab hS HUB.out) (noIn _)).mono ?_; rw [HSB.out]; rintro _ w9 ⟨rfl, h4⟩; have hS2 := St.call0 hS h4; clear h4))
          go_roundw
          case rel => exact ⟨k + 1, by omega, rfl, T, _, _, _, _, P9, xs0, HOK.out, HTM.out, St.sub hS2 (.cons _ (List.Sublist.refl _))⟩
          case measure => simp [intOf]; omega
    · have dk : decide ((k : Int) < (N : Int)) = false := decide_eq_false (by omega)
      have HCK := hid (err_yes (okP_iff.2 HOK.out))
      go_wp2_with (first | go_big_skip | go_big_guard | (refine wl_loadE rfl rfl rfl ?_; refine ⟨_, Loads.atA (tabC T (.slice a0 xs0.length c0) (.slice b0 T.lives.length d0)) [] hst rfl rfl, ?_⟩) | (go_at_call 20; refine (check12_any T a0 b0 xs0.length c0 T.lives.length d0 xs0 _ (HT0.out.tab hst HTB.out).R HT0.out.ok.eq (by rw [HT0.out.ok.len]; exact HTB.out.1) (HT0.out.tab hst HTB.out).L rfl HTB.out.2).mono ?_; rw [HCK.out]; rintro _ w9 ⟨rfl, h4⟩; replace hst := St.call0 hst h4; clear h4))
      go_ret
      exact ⟨rfl, hst.nil⟩
theorem keeps13_any (devs : Int) (hd : -9223372036854775808 ≤ devs ∧ devs ≤ 9223372036854775807) (ao : Option Addr) (N c : Nat) (xs : List AD) (w : World) (hv : Rd w (.slice ao N c) 40 N (xs.flatMap AD.cells)) (hN : xs.length = N) (hx : ∀ x ∈ xs, x.Ok w) (hnb : NmB xs) :
    Calls Tryz.prog 5 #[.int .i64 devs, .slice ao N c] w fun e w' => e = .returned (.bool true) ∧ St w [] w' [] := by
  by_cases hs : shortD xs N
  · exact keeps13_short devs hd ao N c xs w hv hN hx hnb hs
  · exact keeps13_long devs hd ao N c xs w hv hN hx hnb hs
end Go.Proofs.YtifajcblbedcoaaGreat
