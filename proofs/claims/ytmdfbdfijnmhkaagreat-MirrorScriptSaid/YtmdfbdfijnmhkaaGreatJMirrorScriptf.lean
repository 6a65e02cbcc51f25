import Derived.Test.YtmdfbdfijnmhkaaGreatJMirrorScripte
import Derived.Test.YtmdfbdfijnmhkaaGreatProg
import Derived.Test.YtmdfbdfijnmhkaaGreatJMirrorScripta
import Derived.Test.YtmdfbdfijnmhkaaGreatJMirrorScriptb
import Derived.RangeFuncNested
import Derived.RangeFuncBound
import Derived.RangeFuncCalls
import Derived.RangeFuncLeaves
import Derived.Shelf.Abstract
import Derived.Shelf.RegionOpen
import Derived.OwnWalkIn
import Derived.TacticsInMore
import Derived.LoopNIn
import Derived.LoopIn
import Derived.WalkKit
import Derived.IntWalk
import Derived.Deep.RegionHeld3
import Derived.Outline
import Derived.Deep.DeepCutAuto
namespace Go.Proofs.YtmdfbdfijnmhkaaGreat
set_option linter.unusedVariables false
set_option linter.unusedSimpArgs false
set_option maxRecDepth 100000
set_option maxHeartbeats 4000000
section
open Go.RowKit Hp
attribute [local irreducible] Go.Calls Go.wpList
def zeroE : List ER := List.replicate 8 ⟨0, 0, 0⟩
theorem mirNew_any {w0 w : World} {M : List Nat} {R : List HA} {ga : Nat} {x : GA} {a : AR} (hS : St w0 M w (yj ga x a ++ R)) (hn : a.devs ≠ []) :
  Calls Tryz.prog 30 #[.pointer (some ⟨ga, 0, none⟩)] w fun e w' => ∃ gm, e = .returned (.tuple #[PM gm, .int .i64 0]) ∧ St w0 M w' (mP gm ga x ⟨a, zeroE⟩ ++ R) := by
 have hst := hS; have d1 : ((a.devs.length : Int) == 0) = false := by
  cases hd : a.devs with
  | nil => exact absurd hd hn
  | cons d l => simp; omega
 have HA := ya (ArrAll.of hS (fun p hp => List.mem_append_left _ hp) hn); clear hS hn; go_enter Tryz.func30, Tryz.ntmps30; go_wp2_with (first | (go_at_call 67; refine jc hst (yag HA.out.toArrAt) fun w9 hst => ?_) | (refine yH (cs := mirC ga ⟨a, zeroE⟩) [(0, .pointer (some ⟨ga, 0, none⟩))] rfl rfl (by exact rfl) (by kernel_rfl) ?_) | (refine zj hst fun gm w8 hst2 => ?_; clear hst)); go_ret2; exact ⟨gm, rfl, hst2⟩
theorem zM {w : World} {gm ga : Nat} {x : GA} {m : MV} (h : MirAt w gm ga x m) : Calls Tryz.prog 62 #[PM gm] w fun e w' => e = .returned (.bool false) ∧ St w [] w' [] := by
 have hst := St.refl w; have H := ya h.c; clear h; unfold PM; go_enter Tryz.func62, Tryz.ntmps62; go_wp2_with (first | (refine jl (Loads.old hst H.out) ?_)); go_ret; exact ⟨rfl, hst⟩
section
theorem loadedIm (A : Addr) : loadVar 3 A = yn 3 A := rfl
theorem loadedAm (A : Addr) : loadVar 23 A = yn 23 A := rfl
attribute [local go_sem ↓] loadedIm loadedAm
theorem qT {w : World} {gm ga : Nat} {x : GA} {m : MV} (h : MirAt w gm ga x m) (ao : Option Addr) (n c : Nat) (l : List (Int × Int)) (hA : Rd w (.slice ao n c) 2 n (yu l)) (hn : l.length = n) :
  Calls Tryz.prog 63 #[PM gm, .slice ao n c] w fun e w' => e = .returned (.bool (m.lies l)) ∧ St w [] w' [] := by
 have hst := St.refl w; have hbd := hA.bd; have hbd1 := hbd.1; have hbd2 := hbd.2.1; clear hbd; have H := ya h; have Hn := ya hn; obtain ⟨nd, hnd⟩ : ∃ nd, nd = m.a.devs.length := ⟨_, rfl⟩; obtain ⟨ns, hns⟩ : ∃ ns, ns = m.a.secs := ⟨_, rfl⟩; have Hnd := ya hnd; have Hns := ya hns; clear h hn hnd hns; unfold PM; go_enter Tryz.func63, Tryz.ntmps63; go_wp2; go_loopw [9] (fun i wr => ∃ k : Nat, k ≤ n ∧ i = .int .i64 k ∧ Hid (∀ q, q < k → (m.a.inS (l.getD q (0, 0)).1 (l.getD q (0, 0)).2 && decide (5 ≤ (l.getD q (0, 0)).2)) = true) ∧ St w [] wr []) (fun i _ => n - (intOf i).toNat)
 case atStart => exact ⟨0, Nat.zero_le _, rfl, ya (fun q hq => by omega), hst⟩
 case round =>
  clear hst; obtain ⟨k, hk, rfl, hq, hst2⟩ := hrel; by_cases hlt : k < n
  ·obtain ⟨b, off, rfl, hr⟩ := hA.at hlt; obtain ⟨z, hz⟩ : ∃ z, z = l.getD k (0, 0) := ⟨_, rfl⟩; have hb := z7 hr (k := k) (by rw [Hn]; exact hlt); rw [← hz] at hb; have Hz := ya hz; have HB := ya hb; have HQ := ya hq; clear hz hb hq; have d0 : decide ((k : Int) < (n : Int)) = true := zD (by omega); go_wp2_with (first | (refine yA (hlt) ?_) | (refine jl (zf hst2 rfl (HB.out)) ?_) | (refine yN hst2 fun g6 w3 hst3 => ?_; clear hst2) | (refine ye [] hst3 rfl rfl rfl (v := .agg (List.toArray _)) rfl rfl rfl ?_ ?_; (exact Nat.le_refl _); intro w4 hst4; clear hst3; (simp [yw] at hst4))); have HN := ya (in_parts m.a z); rw [← Hnd, ← Hns] at HN; by_cases c1 : z.1 < 0
   ·have f0 : decide (z.1 < 0) = true := zD c1; have hD := hst4.drew; clear hst4; refine wD (S := fun w' => Ld 3 g6 0 (.int .i64 z.1) w' ∧ Ld 3 g6 1 (.int .i64 z.2) w' ∧ Ld 23 gm 0 (.pointer (some ⟨ga, 0, none⟩)) w') ⟨Loads.at [] hD rfl, Loads.at [] hD rfl, Loads.old hD H.out.c⟩ fun hHeld => ?_; refine jt 0 (h:=jt 1 (h:=jt 2 (h:=jt 3 (h:=ju 4 (h:=ju 6 (h:=ju 5 (h:=ju 7 (h:=ju 8 (h:=ju 9 (h:=?_)))))))))); refine wpAnyH_ready (rs := [10]) (by kernel_rfl) (by simp) ?_; refine (AllReadyH.cons (o := ⟨some 23, _, _, _, _, _⟩) rfl (fun K hK => ?_) AllReadyH.nil); rw [if_neg (by rw [show Region.wanted _ _ = false from rfl]; exact Bool.false_ne_true)]; refine kD hK ⟨Loads.at [] hD rfl, Loads.at [] hD rfl, Loads.old hD H.out.c⟩ (h:=fun hHeld => ?_); refine ju 11 (h:=jt 12 (h:=jt 13 (h:=ju 14 (h:=ju 15 (h:=ju 16 (h:=jt 17 (h:=jt 18 (h:=ju 19 (h:=ju 21 (h:=ju 20 (h:=ju 22 (h:=ju 23 (h:=ju 24 (h:=?_)))))))))))))); refine wpAnyH_ready (rs := [25]) (by kernel_rfl) (by simp) ?_; refine (AllReadyH.cons (o := ⟨some 38, _, _, _, _, _⟩) rfl (fun K hK => ?_) AllReadyH.nil); rw [if_neg (by rw [show Region.wanted _ _ = false from rfl]; exact Bool.false_ne_true)]; refine kD hK ⟨Loads.at [] hD rfl, Loads.at [] hD rfl, Loads.old hD H.out.c⟩ (h:=fun hHeld => ?_); refine ju 26 (h:=jt 27 (h:=?_)); refine jn ?_; clear hHeld; go_wp2; go_ret; exact ⟨zO (lies_no (k := k) (by rw [Hn]; exact hlt) (by rw [← Hz, HN]; exact zF (by omega))).symm, hD.nil⟩
   by_cases c2 : z.1 ≥ (nd : Int)
   ·have f0 : decide (z.1 < 0) = false := zF c1; have f1 : decide (z.1 ≥ (nd : Int)) = true := zD c2; have hD := hst4.drew; clear hst4; refine wD (S := fun w' => Ld 3 g6 0 (.int .i64 z.1) w' ∧ Ld 3 g6 1 (.int .i64 z.2) w' ∧ Ld 23 gm 0 (.pointer (some ⟨ga, 0, none⟩)) w') ⟨Loads.at [] hD rfl, Loads.at [] hD rfl, Loads.old hD H.out.c⟩ fun hHeld => ?_; refine jt 0 (h:=jt 1 (h:=jt 2 (h:=jt 3 (h:=jt 4 (h:=jt 6 (h:=jt 5 (h:=jt 7 (h:=jt 8 (h:=jt 9 (h:=?_)))))))))); refine yF 10 (h0:=fun K hK => ?_); go_simp; go_at_call 67; have HD9 := yag (ArrAt.later hD H.out.arr.toArrAt); rw [← Hnd] at HD9; refine HD9.mono ?_; clear HD9; rintro _ w9 ⟨rfl, h4⟩; have hE := St.call0 hD h4; clear h4; refine kD hK ⟨Loads.at [] hE rfl, Loads.at [] hE rfl, Loads.old hE H.out.c⟩ (h:=fun hHeld => ?_); refine jt 11 (h:=jt 12 (h:=jt 13 (h:=ju 14 (h:=ju 15 (h:=ju 16 (h:=jt 17 (h:=jt 18 (h:=ju 19 (h:=ju 21 (h:=ju 20 (h:=ju 22 (h:=ju 23 (h:=ju 24 (h:=?_)))))))))))))); refine wpAnyH_ready (rs := [25]) (by kernel_rfl) (by simp) ?_; refine (AllReadyH.cons (o := ⟨some 38, _, _, _, _, _⟩) rfl (fun K hK => ?_) AllReadyH.nil); rw [if_neg (by rw [show Region.wanted _ _ = false from rfl]; exact Bool.false_ne_true)]; refine kD hK ⟨Loads.at [] hE rfl, Loads.at [] hE rfl, Loads.old hE H.out.c⟩ (h:=fun hHeld => ?_); refine ju 26 (h:=jt 27 (h:=?_)); refine jn ?_; clear hHeld; go_wp2; go_ret; exact ⟨zO (lies_no (k := k) (by rw [Hn]; exact hlt) (by rw [← Hz, HN]; exact zF (by omega))).symm, hE.nil⟩
   by_cases c3 : z.2 < 5
   ·have f0 : decide (z.1 < 0) = false := zF c1; have f1 : decide (z.1 ≥ (nd : Int)) = false := zF c2; have f2 : decide (z.2 < 5) = true := zD c3; have hD := hst4.drew; clear hst4; refine wD (S := fun w' => Ld 3 g6 0 (.int .i64 z.1) w' ∧ Ld 3 g6 1 (.int .i64 z.2) w' ∧ Ld 23 gm 0 (.pointer (some ⟨ga, 0, none⟩)) w') ⟨Loads.at [] hD rfl, Loads.at [] hD rfl, Loads.old hD H.out.c⟩ fun hHeld => ?_; refine jt 0 (h:=jt 1 (h:=jt 2 (h:=jt 3 (h:=jt 4 (h:=jt 6 (h:=jt 5 (h:=jt 7 (h:=jt 8 (h:=jt 9 (h:=?_)))))))))); refine yF 10 (h0:=fun K hK => ?_); go_simp; go_at_call 67; have HD9 := yag (ArrAt.later hD H.out.arr.toArrAt); rw [← Hnd] at HD9; refine HD9.mono ?_; clear HD9; rintro _ w9 ⟨rfl, h4⟩; have hE := St.call0 hD h4; clear h4; refine kD hK ⟨Loads.at [] hE rfl, Loads.at [] hE rfl, Loads.old hE H.out.c⟩ (h:=fun hHeld => ?_); refine jt 11 (h:=jt 12 (h:=jt 13 (h:=jt 14 (h:=jt 15 (h:=jt 16 (h:=jt 17 (h:=jt 18 (h:=ju 19 (h:=ju 21 (h:=ju 20 (h:=ju 22 (h:=ju 23 (h:=ju 24 (h:=?_)))))))))))))); refine wpAnyH_ready (rs := [25]) (by kernel_rfl) (by simp) ?_; refine (AllReadyH.cons (o := ⟨some 38, _, _, _, _, _⟩) rfl (fun K hK => ?_) AllReadyH.nil); rw [if_neg (by rw [show Region.wanted _ _ = false from rfl]; exact Bool.false_ne_true)]; refine kD hK ⟨Loads.at [] hE rfl, Loads.at [] hE rfl, Loads.old hE H.out.c⟩ (h:=fun hHeld => ?_); refine ju 26 (h:=jt 27 (h:=?_)); refine jn ?_; clear hHeld; go_wp2; go_ret; exact ⟨zO (lies_no (k := k) (by rw [Hn]; exact hlt) (by rw [← Hz, HN]; exact zF (by omega))).symm, hE.nil⟩
   by_cases c4 : z.2 ≥ (ns : Int)
   ·have f0 : decide (z.1 < 0) = false := zF c1; have f1 : decide (z.1 ≥ (nd : Int)) = false := zF c2; have f2 : decide (z.2 < 5) = false := zF c3; have f3 : decide (z.2 ≥ (ns : Int)) = true := zD c4; have hD := hst4.drew; clear hst4; refine wD (S := fun w' => Ld 3 g6 0 (.int .i64 z.1) w' ∧ Ld 3 g6 1 (.int .i64 z.2) w' ∧ Ld 23 gm 0 (.pointer (some ⟨ga, 0, none⟩)) w') ⟨Loads.at [] hD rfl, Loads.at [] hD rfl, Loads.old hD H.out.c⟩ fun hHeld => ?_; refine jt 0 (h:=jt 1 (h:=jt 2 (h:=jt 3 (h:=jt 4 (h:=jt 6 (h:=jt 5 (h:=jt 7 (h:=jt 8 (h:=jt 9 (h:=?_)))))))))); refine yF 10 (h0:=fun K hK => ?_); go_simp; go_at_call 67; have HD9 := yag (ArrAt.later hD H.out.arr.toArrAt); rw [← Hnd] at HD9; refine HD9.mono ?_; clear HD9; rintro _ w9 ⟨rfl, h4⟩; have hE := St.call0 hD h4; clear h4; refine kD hK ⟨Loads.at [] hE rfl, Loads.at [] hE rfl, Loads.old hE H.out.c⟩ (h:=fun hHeld => ?_); refine jt 11 (h:=jt 12 (h:=jt 13 (h:=jt 14 (h:=jt 15 (h:=jt 16 (h:=jt 17 (h:=jt 18 (h:=jt 19 (h:=jt 21 (h:=jt 20 (h:=jt 22 (h:=jt 23 (h:=jt 24 (h:=?_)))))))))))))); refine yF 25 (h0:=fun K hK => ?_); go_simp; go_at_call 48; have HD9 := yaU (ArrAt.later hE H.out.arr.toArrAt); rw [← Hns] at HD9; refine HD9.mono ?_; clear HD9; rintro _ w8 ⟨rfl, h4⟩; have hF := St.call0 hE h4; clear h4; refine kD hK ⟨Loads.at [] hF rfl, Loads.at [] hF rfl, Loads.old hF H.out.c⟩ (h:=fun hHeld => ?_); refine jt 26 (h:=jt 27 (h:=?_)); refine jn ?_; clear hHeld; go_wp2; go_ret; exact ⟨zO (lies_no (k := k) (by rw [Hn]; exact hlt) (by rw [← Hz, HN]; exact zF (by omega))).symm, hF.nil⟩
   have f0 : decide (z.1 < 0) = false := zF c1; have f1 : decide (z.1 ≥ (nd : Int)) = false := zF c2; have f2 : decide (z.2 < 5) = false := zF c3; have f3 : decide (z.2 ≥ (ns : Int)) = false := zF c4; have hD := hst4.drew; clear hst4; refine wD (S := fun w' => Ld 3 g6 0 (.int .i64 z.1) w' ∧ Ld 3 g6 1 (.int .i64 z.2) w' ∧ Ld 23 gm 0 (.pointer (some ⟨ga, 0, none⟩)) w') ⟨Loads.at [] hD rfl, Loads.at [] hD rfl, Loads.old hD H.out.c⟩ fun hHeld => ?_; refine jt 0 (h:=jt 1 (h:=jt 2 (h:=jt 3 (h:=jt 4 (h:=jt 6 (h:=jt 5 (h:=jt 7 (h:=jt 8 (h:=jt 9 (h:=?_)))))))))); refine yF 10 (h0:=fun K hK => ?_); go_simp; go_at_call 67; have HD9 := yag (ArrAt.later hD H.out.arr.toArrAt); rw [← Hnd] at HD9; refine HD9.mono ?_; clear HD9; rintro _ w9 ⟨rfl, h4⟩; have hE := St.call0 hD h4; clear h4; refine kD hK ⟨Loads.at [] hE rfl, Loads.at [] hE rfl, Loads.old hE H.out.c⟩ (h:=fun hHeld => ?_); refine jt 11 (h:=jt 12 (h:=jt 13 (h:=jt 14 (h:=jt 15 (h:=jt 16 (h:=jt 17 (h:=jt 18 (h:=jt 19 (h:=jt 21 (h:=jt 20 (h:=jt 22 (h:=jt 23 (h:=jt 24 (h:=?_)))))))))))))); refine yF 25 (h0:=fun K hK => ?_); go_simp; go_at_call 48; have HD9 := yaU (ArrAt.later hE H.out.arr.toArrAt); rw [← Hns] at HD9; refine HD9.mono ?_; clear HD9; rintro _ w8 ⟨rfl, h4⟩; have hF := St.call0 hE h4; clear h4; refine kD hK ⟨Loads.at [] hF rfl, Loads.at [] hF rfl, Loads.old hF H.out.c⟩ (h:=fun hHeld => ?_); refine jt 26 (h:=jt 27 (h:=?_)); refine jn ?_; clear hHeld; go_wp2; have hy : Hid (∀ q, q < k + 1 → (m.a.inS (l.getD q (0, 0)).1 (l.getD q (0, 0)).2 && decide (5 ≤ (l.getD q (0, 0)).2)) = true) := ya (fun q hq => by
    by_cases e : q = k
    ·rw [e, ← Hz, HN]; exact zD (by omega)
    ·exact HQ.out q (by omega))
   go_roundw
   case rel => exact ⟨k + 1, by omega, by go_num, hy, hF.nil⟩
   case measure => simp [intOf]; omega
  ·have d0 : decide ((k : Int) < (n : Int)) = false := zF (by omega); have HY := ya (lies_yes (m := m) (l := l) fun q hq' => hq.out q (by rw [Hn] at hq'; omega)); clear hq; go_wp2; go_ret; exact ⟨zO HY.symm, hst2⟩
end
theorem some16_any (n : Nat) (hn : n ≤ 1000000) (w : World) : Calls Tryz.prog 65 #[.int .i64 n] w fun e w' => e = .returned (.tuple #[.int .i64 n, .int .i64 (if n = 0 then 13 else 0)]) ∧ St w [] w' [] := by
 have hst := St.refl w; by_cases h0 : n = 0
 ·subst h0; go_enter Tryz.func65, Tryz.ntmps65; go_wp2; go_ret2; exact ⟨rfl, hst⟩
 ·have d0 : ((n : Int) == 0) = false := by simp; omega
  rw [if_neg h0]; clear h0; go_enter Tryz.func65, Tryz.ntmps65; go_wp2; go_ret2; exact ⟨rfl, hst⟩
end
section
open Hp
instance hyS3 : TyS Tryz.prog 3 := ⟨by kernel_rfl⟩
instance hyS4 : TyS Tryz.prog 4 := ⟨by kernel_rfl⟩
instance hyS5 : TyS Tryz.prog 5 := ⟨by kernel_rfl⟩
instance hyS22 : TyS Tryz.prog 28 := ⟨by kernel_rfl⟩
instance hyI3 : TyI Tryz.prog 3 .i64 := ⟨by kernel_rfl⟩
instance hyI5 : TyI Tryz.prog 5 .u8 := ⟨by kernel_rfl⟩
instance hyStr9 : TyStr Tryz.prog 9 := ⟨by kernel_rfl⟩
instance hySl22 : TySl Tryz.prog 28 5 := ⟨by kernel_rfl⟩
instance hyE5 : TyE Tryz.prog 5 1 1 := ⟨by kernel_rfl⟩
instance hyE3 : TyE Tryz.prog 3 1 8 := ⟨by kernel_rfl⟩
instance hyN3 : TyN Tryz.prog 3 1 := ⟨by kernel_rfl⟩
instance hyN4 : TyN Tryz.prog 4 1 := ⟨by kernel_rfl⟩
instance hyN5 : TyN Tryz.prog 5 1 := ⟨by kernel_rfl⟩
instance hyN22 : TyN Tryz.prog 28 1 := ⟨by kernel_rfl⟩
instance hyZ5 : TyZ Tryz.prog 5 [.int .u8 0] := ⟨by kernel_rfl⟩
instance hyE22 : TyE Tryz.prog 28 1 24 := ⟨by kernel_rfl⟩
instance hyZ22 : TyZ Tryz.prog 28 [.slice none 0 0] := ⟨by kernel_rfl⟩
instance hyS25 : TyS Tryz.prog 119 := ⟨by kernel_rfl⟩
instance hyN25 : TyN Tryz.prog 119 1 := ⟨by kernel_rfl⟩
instance hySl25 : TySl Tryz.prog 119 28 := ⟨by kernel_rfl⟩
instance hyZ25 : TyZ Tryz.prog 119 [.slice none 0 0] := ⟨by kernel_rfl⟩
instance hyZ3 : TyZ Tryz.prog 3 [.int .i64 0] := ⟨by kernel_rfl⟩
instance hyS35 : TyS Tryz.prog 115 := ⟨by kernel_rfl⟩
instance hyN35 : TyN Tryz.prog 115 1 := ⟨by kernel_rfl⟩
instance hyA36 : TyA Tryz.prog 116 8 := ⟨by kernel_rfl⟩
instance hyN36 : TyN Tryz.prog 116 8 := ⟨by kernel_rfl⟩
instance hyZ36 : TyZ Tryz.prog 116 (List.replicate 8 (.int .u32 0)) := ⟨by kernel_rfl⟩
instance hyA58 : TyA Tryz.prog 117 8 := ⟨by kernel_rfl⟩
instance hyN58 : TyN Tryz.prog 117 8 := ⟨by kernel_rfl⟩
instance hyZ58 : TyZ Tryz.prog 117 (List.replicate 8 (.int .u32 0)) := ⟨by kernel_rfl⟩
instance hyA60 : TyA Tryz.prog 169 64 := ⟨by kernel_rfl⟩
instance hyN60 : TyN Tryz.prog 169 64 := ⟨by kernel_rfl⟩
instance hyZ60 : TyZ Tryz.prog 169 (List.replicate 64 (.int .u32 0)) := ⟨by kernel_rfl⟩
instance hyA76 : TyA Tryz.prog 172 16 := ⟨by kernel_rfl⟩
instance hyN76 : TyN Tryz.prog 172 16 := ⟨by kernel_rfl⟩
instance hyZ76 : TyZ Tryz.prog 172 (List.replicate 16 (.int .u32 0)) := ⟨by kernel_rfl⟩
end
section
open Go.RowKit
namespace Hp
variable {P : Program}
theorem op_inRound {l n : Nat} {o : Oper} {a : Act} {w : World} {K : Act → World → Prop} {Q : Exit → Act → World → Prop} (hd : ∀ c, o.op ≠ .defer c) (h : o.wp P a w K Q) : o.wpIn (Fence.wide.inRound l) n P a w K Q := by
 refine ⟨fun _ _ => trivial, ?_⟩; rw [Oper.semAt_plain _ _ _ hd]; unfold Oper.wp at h
 revert h
 generalize (execOp a.eval o).run P w = r; intro h; cases r with
 | ok x w' =>
  cases x <;> simp only [Oper.upon, Oper.uponIn] at h ⊢ <;>
   first
    | exact h
    | exact h.elim
    | exact ⟨fun h => (by cases h), CallsIn.inRound l (callsIn_wide.2 h)⟩
    | exact ⟨fun h => (by cases h), fun c cs _ => let ⟨v, w', r, s⟩ := h c cs; ⟨v, w', r, stepsIn_wide.2 s⟩⟩
 | halt x w' => cases x <;> simp only [Oper.upon, Oper.uponIn] at h ⊢ <;> exact h
def yaO (ops : List Oper) : Bool := ops.all fun o => match o.op with
 | .defer _ => false
 | _ => true
theorem noDefer_mem {ops : List Oper} (h : yaO ops = true) {o : Oper} (ho : o ∈ ops) : ∀ c, o.op ≠ .defer c := by
 intro c hc; have := List.all_eq_true.1 h o ho; rw [hc] at this; cases this
theorem opI_inRound {l n i : Nat} {ops : Array Oper} {a : Act} {w : World} {K : Act → World → Prop} {Q : Exit → Act → World → Prop} (hd : yaO ops.toList = true) (hQ : ¬ LetsOut Q) (h : wpOp P ops Q i K a w) : wpOpIn (Fence.wide.inRound l) n P ops Q i K a w := by
 unfold wpOp at h; unfold wpOpIn; cases ho : ops[i]? with
 | none => simpa [ho] using h
 | some o =>
  simp only [ho] at h ⊢; have hm : o ∈ ops.toList := by
   obtain ⟨hlt, e⟩ := Array.getElem?_eq_some_iff.1 ho; rw [← e]; simp
  split
  ·rename_i hw
   simp only [hw, if_true] at h; rcases h with h | h
   ·exact op_inRound (noDefer_mem hd hm) h
   ·exact absurd h.2 hQ
  ·rename_i hw
   simp only [hw] at h; exact ⟨fun _ _ => trivial, h⟩
theorem any_inRound {l n : Nat} {ops : Array Oper} {Q : Exit → Act → World → Prop} {md : Region.Mode} (hd : yaO ops.toList = true) (hQ : ¬ LetsOut Q) : ∀ (fuel : Nat) (listed : Array Bool) (a : Act) (w : World), wpAny P md ops Q fuel listed a w → wpAnyIn (Fence.wide.inRound l) n P md ops Q fuel listed a w
 | 0, _, _, _, h => h
 | fuel + 1, listed, a, w, h => ⟨h.1, fun i hi => wpOpIn_mono (fun a w hh => any_inRound hd hQ fuel _ a w hh) (opI_inRound hd hQ (h.2 i hi))⟩
theorem region_last_inRound {l n id : Nat} {L : Array Oper} {o : Oper} {S : World → Prop} {a : Act} {w : World} {Q : Exit → Act → World → Prop} (hm : P.follows .mixedOrders = true) (hd : yaO L.toList = true) (hQ : ¬ LetsOut Q) (ho : L.back? = some o) (hB : lastB L.pop o = true) (hS : S w.drew)
  (h : S w.drew → wpAnyH P .any L.pop (QL P L.pop o Q) S L.pop.size (Array.replicate L.pop.size false) a w.drew) : (Code.region id L true).wpIn (Fence.wide.inRound l) n P Q a w := by
 have e := push_pop ho; refine wpIn_region_any hm (any_inRound hd hQ _ _ a _ ?_); have h1 := wpAny_last hB _ _ a w.drew (by simp) (wpAny_of_held _ _ _ _ (h hS)); rw [e] at h1; have h2 : L.size = L.pop.size + 1 := by (conv => lhs; rw [← e]); simp
 have h3 : (Array.replicate L.pop.size false).push false = Array.replicate L.size false := by rw [h2, Array.replicate_succ]
 rw [h3, ← h2] at h1; exact h1
theorem list_inRound {l n : Nat} {ops : Array Oper} {Q : Exit → Act → World → Prop} (hQ : ¬ LetsOut Q) : ∀ (L : List Oper) (a : Act) (w : World), yaO L = true → wpList P ops Q L a w → wpListIn (Fence.wide.inRound l) n P ops Q L a w
 | [], _, _, _, h => h
 | o :: L, a, w, hd, h => by
  unfold wpList at h; unfold wpListIn; have hd2 : yaO L = true := by
   simp only [yaO, List.all_cons, Bool.and_eq_true] at hd; exact hd.2
  split
  ·rename_i hw
   simp only [hw, if_true] at h; rcases h with h | h
   ·exact Oper.wpIn_mono (fun a w hh => list_inRound hQ L a w hd2 hh) (op_inRound (noDefer_mem hd zH) h)
   ·exact absurd h.2 hQ
  ·rename_i hw
   simp only [hw] at h; exact ⟨fun _ _ => trivial, list_inRound hQ L _ w hd2 h⟩
theorem qD {w0 w w' : World} {M : List Nat} {L : List HA} {B : Nat} {row : Option Nat} (hB : w0.heap.size ≤ B) (h : St w0 M w L) (hg : w.grownBy w' row) (hr : ∀ r, row = some r → B ≤ r ∧ ∃ o : Obj, w.heap[r]? = some o ∧ o.isCells = false) : St w0 M w' L := by
 have key : ∀ k, k < w.heap.size → (∀ r, row = some r → k ≠ r) → w'.heap[k]? = w.heap[k]? := fun k hk hne => hg.block k hk (fun e => (hne k e.symm) rfl); have cells : ∀ (k : Nat) (c : Array Value) (t : TypeId) (m : Nat × Nat), w.heap[k]? = some (.cells c t m) → ∀ r, row = some r → k ≠ r := by
  rintro k c t m hk r e rfl; obtain ⟨_, o, ho, hc⟩ := hr k e; rw [hk] at ho; cases ho; cases hc
 have foot : ∀ x ∈ L, ∀ k, x.foot = some k → ∀ r, row = some r → k ≠ r := by
  intro x hx k hk; have hh := h.all x hx; cases x with
  | blk g T cs =>
   cases hk; exact cells _ _ _ _ hh
  | row v T sz n xs =>
   obtain ⟨_, h2⟩ := hh; rcases h2 with ⟨rfl, _⟩ | ⟨g, cap, cur, rfl, _, hc, _⟩
   ·cases hk
   ·cases hk; exact cells _ _ _ _ hc
  | rowP p v T sz n xs =>
   obtain ⟨⟨_, h2⟩, _⟩ := hh; rcases h2 with ⟨rfl, _⟩ | ⟨g, cap, cur, rfl, _, hc, _⟩
   ·cases hk
   ·cases hk; exact cells _ _ _ _ hc
  | frz m g T cs =>
   cases hk; exact cells _ _ _ _ hh
 refine ⟨hg.os.trans h.os, hg.tape.trans h.tape, hg.output.trans h.output, Nat.le_trans h.size hg.size, fun k hk hM => ?_, fun x hx => ?_, h.own, h.apart⟩
 ·rw [key k (Nat.lt_of_lt_of_le hk h.size) (fun r e => by have := (hr r e).1; omega)]; exact h.old k hk hM
 ·exact qx (h.all x hx) fun k hk => key k (h.lt hx hk) (foot x hx k hk)
end Hp
end
section
open Go.RowKit Go.Shelf Hp
attribute [local go_sem] Oper.semAt_some
def Keep2 (a b : Nat) (W W' : World) : Prop := W'.heap[a]? = W.heap[a]? ∧ W'.heap[b]? = W.heap[b]?
theorem Keep2.trans {a b : Nat} {A B C : World} (h : Keep2 a b A B) (k : Keep2 a b B C) : Keep2 a b A C := ⟨k.1.trans h.1, k.2.trans h.2⟩
theorem Keep2.c1 {a b : Nat} {A B : World} {v : Value} (h : Keep2 a b A B) (hc : A.cell? ⟨a, 0, none⟩ = some v) : B.cell? ⟨a, 0, none⟩ = some v := (World.cell?_of_block h.1).trans hc
theorem Keep2.c2 {a b : Nat} {A B : World} {v : Value} (h : Keep2 a b A B) (hc : A.cell? ⟨b, 0, none⟩ = some v) : B.cell? ⟨b, 0, none⟩ = some v := (World.cell?_of_block h.2).trans hc
theorem keep2_b {a b : Nat} {w : World} (ha : a < w.heap.size) (hb : b < w.heap.size) (W : World) (l : Nat) (o o' : Obj) (hl : w.heap.size ≤ l) (h : W.heap[l]? = some o) (_ : o.isCells = false) (_ : o.isWalk = false) : Keep2 a b W (W.putObj l o') := by
 have hg := grownBy_putObj' W l o'; have hlt : l < W.heap.size := (Array.getElem?_eq_some_iff.1 h).1; exact ⟨hg.block a (by omega) (by simp; omega), hg.block b (by omega) (by simp; omega)⟩
theorem finTake_succ {m k : Nat} (h : k < m) : (List.finRange m).take (k + 1) = (List.finRange m).take k ++ [⟨k, h⟩] := by
 rw [List.take_succ_eq_append_getElem (by simpa using h)]; simp
theorem chunk1_in (n l Bs Bn b off m cap : Nat) (hn : 1 ≤ n) (hm : 64 * m ≤ 1000000) (hcap : 64 * m ≤ cap) (hcm : cap ≤ 9223372036854775807) (J Jx : List (Fin m) → World → Prop)
  (hY : ∀ pre x W, J pre W → pre.length < m → YieldAt Fence.wide (n - 1) Tryz.prog l #[.slice (some ⟨b, off + 64 * x.1, none⟩) 64 64] W fun e W' =>
   (e = .returned (.bool true) ∧ J (pre ++ [x]) W' ∧ Keep2 Bs Bn W W') ∨ (e = .returned (.bool false) ∧ Jx (pre ++ [x]) W'))
  (W : World) (hBs : W.cell? ⟨Bs, 0, none⟩ = some (.slice (some ⟨b, off, none⟩) (64 * m) cap)) (hBn : W.cell? ⟨Bn, 0, none⟩ = some (.int .i64 64)) (h0 : J [] W) (hJd : ∀ pre W, J pre W → J pre W.drew) :
  CallsIn Fence.wide n Tryz.prog 146 #[.func (.yield l) #[] #[], .pointer (some ⟨Bs, 0, none⟩), .pointer (some ⟨Bn, 0, none⟩)] W fun e W' => (∃ v, e = .returned v) ∧
   ((∃ ys, ys = List.finRange m ∧ J ys W') ∨ (∃ pre, (∃ k, k ≤ m ∧ pre = (List.finRange m).take k) ∧ Jx pre W')) := by
 refine callsIn_of_wp Tryz.func146 rfl trivial ?_ rfl; simp only [Tryz.ntmps146, List.size_toArray, List.length_cons, List.length_nil, Nat.reduceAdd, Nat.reduceSub, Array.replicate_succ, Array.replicate_zero, List.push_toArray, List.append_toArray, List.nil_append, List.cons_append]; gi_wp2; gi_loopw [4] (fun i wr => ∃ k : Nat, k ≤ m ∧ i = .int .i64 ((64 * k : Nat) : Int) ∧ J ((List.finRange m).take k) wr ∧ Keep2 Bs Bn W wr) (fun i _ => 64 * m - (intOf i).toNat)
 case atStart => exact ⟨0, Nat.zero_le _, rfl, h0, ⟨rfl, rfl⟩⟩
 case round =>
  obtain ⟨k, hk, rfl, hJs, hnx⟩ := hrel; have c1 : wr.cell? ⟨Bs, 0, none⟩ = some (.slice (some ⟨b, off, none⟩) (64 * m) cap) := hnx.c1 hBs; have c2 : wr.cell? ⟨Bn, 0, none⟩ = some (.int .i64 64) := hnx.c2 hBn; by_cases hlt : k < m
  ·have d1 : ((64 * k : Nat) : Int) < ((64 * m : Nat) : Int) := by omega
   have d2 : (64 * k : Nat) ≤ 64 * m := by omega
   have d3 : ¬ (cap = 64 * k) := by omega
   have d6 : (0 : Int) ≤ 64 * (k : Int) := by omega
   have d7 : (64 * (k : Int)).toNat = 64 * k := by omega
   have d8 : 64 * (k : Int) ≤ 64 * (m : Int) := by omega
   have d9 : min (64 : Int) (64 * (m : Int) - 64 * k) = 64 := by omega
   have d4 : ((64 * m - 64 * k : Nat) : Int) = 64 * (m : Int) - 64 * k := by omega
   have d5 : min (64 : Int) ((64 * m - 64 * k : Nat) : Int) = 64 := by omega
   obtain ⟨fn, tmps, assign, body, hy, hR⟩ := hY ((List.finRange m).take k) ⟨k, hlt⟩ wr.drew (hJd _ _ hJs) (by simp; omega); dsimp only at hy; gi_wp2; refine wpIn_wide.2 ?_; refine wD (S := fun w' => w'.cell? ⟨Bs, 0, none⟩ = some (.slice (some ⟨b, off, none⟩) (64 * m) cap) ∧ w'.cell? ⟨Bn, 0, none⟩ = some (.int .i64 64)) ⟨c1, c2⟩ fun hHeld => ?_; refine jt 0 (h:=jt 1 (h:=jt 2 (h:=jt 3 (h:=jt 4 (h:=jt 5 (h:=jt 6 (h:=?_))))))); refine jn ?_; clear hHeld; have c4 : wr.drew.cell? ⟨Bn, 0, none⟩ = some (.int .i64 64) := c2; gi_wp2; refine hR.mono ?_; rintro e W3 (⟨rfl, hJ3, hk3⟩ | ⟨rfl, hJx3⟩)
   ·have c3 : W3.cell? ⟨Bn, 0, none⟩ = some (.int .i64 64) := hk3.c2 c4; gi_wp2; go_roundw
    case rel => exact ⟨k + 1, by omega, by go_num, by rw [finTake_succ hlt]; exact hJ3, Keep2.trans (B := wr.drew) hnx hk3⟩
    case measure => simp [intOf]; omega
   ·gi_wp2; refine bodyPost_ret (results_none rfl _ _ _) rfl ?_; exact ⟨⟨_, rfl⟩, .inr ⟨_, ⟨k + 1, by omega, (finTake_succ hlt).symm⟩, hJx3⟩⟩
  ·obtain rfl : k = m := by omega
   gi_wp2; go_end0; exact ⟨⟨_, rfl⟩, .inl ⟨_, List.take_of_length_le (by simp), hJs⟩⟩
theorem chunk_in (ao : Option Addr) (n c : Nat) (w : World) : Calls Tryz.prog 113 #[.slice ao n c, .int .i64 64] w fun e w' =>
  ∃ g h, e = .returned (.func (.func 146) #[] #[.pointer (some ⟨g, 0, none⟩), .pointer (some ⟨h, 0, none⟩)]) ∧ St w [] w' [.blk h 3 [.int .i64 64], .blk g 28 [.slice ao n c]] := by
 have hst := St.refl w; go_enter Tryz.func113, Tryz.ntmps113; go_wp2_with (first | (refine jl (Loads.at [] hst2 rfl) ?_) | (refine zbo hst fun g _ hst1 => ?_; clear hst) | (refine zbo hst1 fun h _ hst2 => ?_; clear hst1)); go_ret; exact ⟨g, h, rfl, hst2⟩
theorem abides_drew {β : Type} {B : Nat} {J : β → World → Prop} (h : AbidesFrom B J) {s : β} {W : World} (hs : J s W) : J s W.drew :=
 h s W W.drew none hs ⟨rfl, rfl, rfl, Nat.le_refl _, fun _ _ _ => rfl⟩ (fun _ e => by cases e)
theorem chunk_stops (n Bs Bn b off m cap : Nat) (w : World) (hn : 1 ≤ n) (hm : 64 * m ≤ 1000000) (hcap : 64 * m ≤ cap) (hcm : cap ≤ 9223372036854775807) (hb : Bs < w.heap.size) (hb2 : Bn < w.heap.size)
  (hBs : w.cell? ⟨Bs, 0, none⟩ = some (.slice (some ⟨b, off, none⟩) (64 * m) cap)) (hBn : w.cell? ⟨Bn, 0, none⟩ = some (.int .i64 64)) :
  SeqStopsK Fence.wide n Tryz.prog 146 #[.pointer (some ⟨Bs, 0, none⟩), .pointer (some ⟨Bn, 0, none⟩)] (fun x : Fin m => #[Value.slice (some ⟨b, off + 64 * x.1, none⟩) 64 64]) (Keep2 Bs Bn) (fun ys => ys = List.finRange m) (fun _ => True) m w := fun l J Jx W hW hJ _ hY h0 => by
 have h1 := (hW.cell (p := ⟨Bs, 0, none⟩) hb).trans hBs; have h2 := (hW.cell (p := ⟨Bn, 0, none⟩) hb2).trans hBn; refine (chunk1_in n l Bs Bn b off m cap hn hm hcap hcm J Jx hY W h1 h2 h0 (fun _ _ h => abides_drew hJ h)).mono ?_; rintro e W' ⟨he, ⟨ys, rfl, hj⟩ | ⟨pre, ⟨k, hk, rfl⟩, hj⟩⟩
 ·exact ⟨he, .inl ⟨_, rfl, hj⟩⟩
 ·exact ⟨he, .inr ⟨_, trivial, hj⟩⟩
end
section
open Go.RowKit Go.Shelf
namespace Hp
variable {P : Program}
def rgAct (a : Act) (p t : Nat) (v : Value) : Act := { tmps := (a.tmps.setIfInBounds p v).setIfInBounds t v, defers := [] }
theorem wp_rangeF {α : Type} (p t : Nat) {g : Operand} {assign body : Code} {Q : Exit → Act → World → Prop} {a : Act} {w : World} {gf : Nat} {lb : Array Value} (hg : a.eval g = .func (.func gf) #[] lb) (eg : Enters P gf)
  {enc : α → Value} {Kp : World → World → Prop} {S : List α → Prop} {N : Nat} (hseq : SeqStopsK Fence.wide 4 P gf lb (fun x => #[enc x]) Kp S (fun _ => True) N w)
  (hKt : ∀ {A B C : World}, Kp A B → Kp B C → Kp A C) (hKb : ∀ (W : World) (l : Nat) (o o' : Obj), w.heap.size ≤ l → W.heap[l]? = some o → o.isCells = false → o.isWalk = false → Kp W (W.putObj l o'))
  (I : List α → World → Prop) (hI : OwnFrom w.heap.size I) (h0 : I [] w)
  (hassign : ∀ (l : Nat) (x : α) (W : World) (K : Act → World → Prop), K (rgAct a p t (enc x)) W → assign.wpIn (Fence.wide.inRound l) 3 P (Exit.then K (fun _ _ _ => False)) { tmps := a.tmps.setIfInBounds p (enc x), defers := [] } W)
  (hbody : ∀ (l : Nat) (pre : List α) (x : α) (W : World), I pre W → pre.length < N → body.wpIn (Fence.wide.inRound l) 3 P (ownPostK Kp I (fun _ _ _ => False) (pre ++ [x]) W) (rgAct a p t (enc x)) W)
  (hdone : ∀ (D : Nat) (xs : List α) (W : World), w.heap.size ≤ D → S xs → I xs W → W.heap[D]? = some (.deferred (some [])) → Q .normal { a with defers := { target := .collected D, args := #[] } :: a.defers } W) :
  (Code.rangeFunc g #[p] assign body).wp P Q a w := by
 refine (wpIn_wide (n := 5)).1 ?_; exact wpIn_rangeFunc_ownF (F := Fence.wide) (n := 5) (encs := fun x => #[enc x]) rfl (by decide) hg trivial eg hseq hKt hKb (Below.refl _ _) (fun _ => rfl) I (fun _ _ _ => False) hI (fun _ _ _ _ _ hs _ _ => hs) h0 (fun x => rgAct a p t (enc x))
  (fun l x W K hK => by
   have h := hassign l x W K hK; have e : Array.foldl (fun (t : Array Value) (q : Tmp × Value) => match q with | (p, v) => t.setIfInBounds p v) a.tmps (#[p].zip #[enc x]) = a.tmps.setIfInBounds p (enc x) := by simp
   rw [← e] at h; exact h) (fun l pre x W hI hl => hbody l pre x W hI hl) (fun D xs W hD hS hI hK => hdone D xs W hD hS hI hK) (fun _ _ _ _ _ _ h _ => h.elim)
theorem eqInSliceNil (w : World) (d : Nat) (t e : TypeId) (a : Option Addr) (n c : Nat) (h : P.underlying t = some (.slice e)) : (Op.equalIn (d + 1) t (.slice a n c) (.slice none 0 0)).run P w = .ok a.isNone w := by
 cases a <;> simp [Op.equalIn, run_underlying h]
theorem eqSliceNil (w : World) (t e : TypeId) (a : Option Addr) (n c : Nat) (h : P.underlying t = some (.slice e)) : (binOp .eql t (.slice a n c) (.slice none 0 0)).run P w = .ok (.bool a.isNone) w := by
 simp only [binOp]; simp [Op.equal, Op.maxDepth, eqInSliceNil w 9999 t e a n c h]
theorem St.selfM {w0 w : World} {M : List Nat} {L : List HA} (h : St w0 M w L) : St w (L.filterMap HA.foot) w L :=
 ⟨rfl, rfl, rfl, Nat.le_refl _, fun _ _ _ => rfl, h.all, fun x hx k hk => .inr (List.mem_filterMap.2 ⟨x, hx, hk⟩), h.apart⟩
theorem foot_cells {w : World} {x : HA} (h : x.holds w) {k : Nat} (hk : x.foot = some k) : ∃ c t m, w.heap[k]? = some (.cells c t m) := by
 cases x with
 | blk g T cs =>
  cases hk; exact ⟨_, _, _, h⟩
 | row v T sz n xs =>
  obtain ⟨_, h2⟩ := h; rcases h2 with ⟨rfl, _⟩ | ⟨g, cap, cur, rfl, _, hc, _⟩
  ·cases hk
  ·cases hk; exact ⟨_, _, _, hc⟩
 | rowP p v T sz n xs =>
  obtain ⟨⟨_, h2⟩, _⟩ := h; rcases h2 with ⟨rfl, _⟩ | ⟨g, cap, cur, rfl, _, hc, _⟩
  ·cases hk
  ·cases hk; exact ⟨_, _, _, hc⟩
 | frz m g T cs =>
  cases hk; exact ⟨_, _, _, h⟩
theorem zP {w0 w w' : World} {M : List Nat} {L L' : List HA} (h : St w0 M w L) (h' : St w (L.filterMap HA.foot) w' L') : KeepsOthers w w' := by
 refine ⟨h'.size, fun k o hk ho => ?_⟩; have hlt : k < w.heap.size := (Array.getElem?_eq_some_iff.1 hk).1; rw [h'.old k hlt (fun hm => ?_)]
 ·exact hk
 ·obtain ⟨x, hx, hf⟩ := List.mem_filterMap.1 hm; obtain ⟨c, t, m, hc⟩ := foot_cells (h.all x hx) hf; rw [hk] at hc; cases hc; cases ho
theorem zm {w0 w w' : World} {M : List Nat} {L L' : List HA} (h : St w0 M w L) (h' : St w (L.filterMap HA.foot) w' L') : St w0 M w' L' := by
 have := St.callG L [] (by rw [List.append_nil]; exact h) h' (fun k hk => List.mem_filterMap.1 hk); rwa [List.append_nil] at this
theorem St.putObj {w0 w : World} {M : List Nat} {L : List HA} {D : Nat} {o o' : Obj} (hD : w0.heap.size ≤ D) (h : St w0 M w L) (ho : w.heap[D]? = some o) (hc : o.isCells = false) : St w0 M (w.putObj D o') L :=
 qD hD h (grownBy_putObj' w D o') (fun r e => by cases e; exact ⟨Nat.le_refl _, o, ho, hc⟩)
end Hp
end
section
open Go.RowKit Go.Shelf Hp
attribute [local irreducible] Go.Calls
theorem Hp.St.nilP {w0 w : World} {M : List Nat} {L : List HA} (p : Value → Bool) (T : TypeId) (sz : Nat) (h : St w0 M w L) : St w0 M w (.rowP p (.slice none 0 0) T sz 0 [] :: L) :=
 St.toP (L1 := []) (jY T sz h) (fun g cs hg _ => by cases hg)
theorem eqNil (ao : Option Addr) (n c : Nat) (w : World) : (binOp .eql 28 (.slice ao n c) (.slice none 0 0)).run Tryz.prog w = .ok (.bool ao.isNone) w :=
 eqSliceNil w _ _ ao n c (show Tryz.prog.underlying 28 = some (.slice 5) by kernel_rfl)
attribute [local go_sem ↓] eqNil
theorem clone_any (ao : Option Addr) (n c : Nat) (bs : List UInt8) (w : World) (hA : Rd w (.slice ao n c) 1 n (yb bs)) (hn : bs.length = n) (hb : n ≤ 100000) :
  Calls Tryz.prog 112 #[.slice ao n c] w fun e w' => ∃ v, e = .returned v ∧ St w [] w' [.rowP yP v 5 1 n (yb bs)] := by
 have hst := St.refl w; have Hn := ya hn; rcases hA.casesF with ⟨he, h0, hb0⟩ | ⟨A, c', he, _⟩
 ·cases he; have e0 : bs = [] := by simpa [yb] using hb0
  subst e0; clear hA hn hb Hn h0 hb0; go_enter Tryz.func112, Tryz.ntmps112; go_wp2; go_ret; exact ⟨_, rfl, St.nilP yP _ 1 hst⟩
 ·cases he; clear hn; go_enter Tryz.func112, Tryz.ntmps112; go_wp2_with (first | (refine za [] [] hst (h:=fun g3 w3 hst3 => ?_); clear hst; have hst4 := St.toRowP yP (n := 0) (cap := 0) (sz := 1) hst3 rfl (by decide) (by decide) rfl; clear hst3) | (apply yar [] hst4; rfl; rfl; exact rfl; exact rfl; infer_instance; infer_instance; infer_instance; infer_instance; exact Rd.old hst4 hA; exact yD bs; rfl; exact yaH bs; (unfold maxLen; omega); intro v9 w9 hst9 _; clear hst4)); go_ret; rw [Nat.zero_add] at hst9; exact ⟨v9, rfl, hst9⟩
end
section
open Go.RowKit Go.Shelf Hp
attribute [local irreducible] Go.Calls
def lenS : Value → Nat
 | .slice _ n _ => n
 | _ => 0
theorem Hp.St.rowPSlice {w0 w : World} {M : List Nat} (L1 : List HA) {L2 : List HA} {p : Value → Bool} {v : Value} {T : TypeId} {sz n : Nat} {xs : List Value} (h : St w0 M w (L1 ++ .rowP p v T sz n xs :: L2)) : ∃ ao c, v = .slice ao n c := yZ L1 h.unP
theorem noughts_ne {n j : Nat} (h : j < zn n) : (n + 1 + j) % 64 ≠ 56 := by
 unfold zn at h; omega
theorem noughts_eq (n : Nat) : (n + 1 + zn n) % 64 = 56 := noughts_mod n
def qF (bs : List UInt8) (j : Nat) : List UInt8 := bs ++ 128 :: List.replicate j 0
theorem padB_succ (bs : List UInt8) (j : Nat) : yb (qF bs j) ++ [.int .u8 0] = yb (qF bs (j + 1)) := by
 simp [qF, yb, List.replicate_succ']
theorem filled_pad (bs : List UInt8) {n : Nat} (hn : bs.length = n) : qF bs (zn n) ++ (qG (8 * n) 8).take 8 = qP bs := by
 subst hn; rw [List.take_of_length_le (by rw [length_numB]; exact Nat.le_refl _)]; simp [qF, qP]
theorem rowP_some {w0 w : World} {M : List Nat} {L : List HA} {p : Value → Bool} {v : Value} {T : TypeId} {sz n : Nat} {xs : List Value} (h : St w0 M w L) (hm : HA.rowP p v T sz n xs ∈ L) (hn : 0 < n) : ∃ g cap, v = .slice (some ⟨g, 0, none⟩) n cap ∧ n ≤ cap ∧ cap ≤ 9223372036854775807 := by
 obtain ⟨⟨_, h2⟩, _⟩ := h.ownsP hm; rcases h2 with ⟨rfl, rfl⟩ | ⟨g, cap, cur, rfl, _, hc, hnc, hcm, _⟩
 ·omega
 ·exact ⟨g, cap, rfl, hnc, hcm⟩
def jJ (T : TypeId) : List Value → List (List UInt8) → List HA
 | v :: vs, p :: ps => .rowP yP v T 1 p.length (yb p) :: jJ T vs ps
 | _, _ => []
theorem rowsB_snoc (T : TypeId) : ∀ (vs : List Value) (ps : List (List UInt8)) (v : Value) (p : List UInt8), vs.length = ps.length → jJ T (vs ++ [v]) (ps ++ [p]) = jJ T vs ps ++ [.rowP yP v T 1 p.length (yb p)]
 | [], [], _, _, _ => rfl
 | u :: vs, q :: ps, v, p, h => by
  have := rowsB_snoc T vs ps v p (by simpa using h); simp only [List.cons_append, jJ, this]
theorem perm_row {α : Type} (x a b : α) (R B : List α) : (x :: a :: b :: (R ++ B)).Perm (a :: b :: ((R ++ [x]) ++ B)) := by
 have h := (List.perm_middle (a := x) (l₁ := a :: b :: R) (l₂ := B)).symm; simpa using h
theorem Rd_chunk {w : World} {b c n x : Nat} {F : List UInt8} (h : Rd w (.slice (some ⟨b, 0, none⟩) n c) 1 n (yb F)) (hl : F.length = n) (hx : 64 * x + 64 ≤ n) : Rd w (.slice (some ⟨b, 0 + 64 * x, none⟩) 64 64) 1 64 (yb (qO F x)) := by
 obtain ⟨b', off', e, hr⟩ := h.at (k := 0) (by omega); cases e; refine Rd.mk (Nat.le_refl _) (by unfold maxLen; omega) (by simp [qO]; omega) ?_; intro j v hj; have hj2 : (yb F)[64 * x + j]? = some v := by
  simp only [qO, yb, List.map_take, List.map_drop] at hj ⊢; rw [List.getElem?_take] at hj; split at hj
  ·rwa [List.getElem?_drop] at hj
  ·cases hj
 have := hr _ _ hj2; rwa [← Nat.add_assoc] at this
theorem ybd {F : List UInt8} {x m : Nat} (hl : F.length = 64 * m) (hx : x < m) : (qO F x).length = 64 := by
 simp [qO]; omega
def fillI (w : World) (g6 ga gs gn cap m : Nat) (F : List UInt8) (pre : List (Fin m)) (W : World) : Prop := ∃ (ov : Value) (vs : List Value), vs.length = pre.length ∧
 St w [] W (.blk g6 119 [ov] :: .row ov 28 1 pre.length vs :: (jJ 5 vs (pre.map fun x => qO F x.1) ++ [.blk gn 3 [.int .i64 64], .blk gs 28 [.slice (some ⟨ga, 0, none⟩) (64 * m) cap], .rowP yP (.slice (some ⟨ga, 0, none⟩) (64 * m) cap) 5 1 (64 * m) (yb F)]))
theorem loadedLL (A : Addr) : loadVar 119 A = yn 119 A := rfl
attribute [local go_sem] Oper.semAt_some
attribute [local go_sem ↓] loadedLL
theorem fill_any (ao : Option Addr) (n c : Nat) (bs : List UInt8) (w : World) (hA : Rd w (.slice ao n c) 1 n (yb bs)) (hn : bs.length = n) (hb : n ≤ 100000) :
  Calls Tryz.prog 60 #[.slice ao n c] w fun e w' => ∃ out vs, e = .returned out ∧ vs.length = (pieces bs).length ∧ St w [] w' (.row out 28 1 vs.length vs :: jJ 5 vs (pieces bs)) := by
 have hst := St.refl w; have Hn := ya hn; clear hn; refine (callsIn_wide (n := 5)).1 ?_; refine callsIn_of_wp_marks Tryz.func60 rfl trivial ?_ rfl; simp only [Tryz.ntmps60, List.size_toArray, List.length_cons, List.length_nil, Nat.reduceAdd, Nat.reduceSub, Array.replicate_succ, Array.replicate_zero, List.push_toArray, List.append_toArray, List.nil_append, List.cons_append]; refine wpIn_wide.2 ?_; go_wp2_with (first | (go_at_call 112; refine (clone_any ao n c bs _ (Rd.old hst hA) Hn.out hb).mono ?_; rintro _ _ ⟨v0, rfl, h4⟩; have hst1 := St.call hst h4; clear h4 hst) | (refine za [.int _ _] [.int _ _] hst1 (h:=fun gb _ hst2 => ?_); clear hst1) | (apply yar [_] hst2; rfl; rfl; exact rfl; exact rfl; infer_instance; infer_instance; infer_instance; infer_instance; exact (j3 hst2 rfl (by decide)); exact rfl; rfl; rfl; (unfold maxLen; omega); intro v1 w9 hst3 _; clear hst2)); have hst4 : St w [] w9 [.rowP yP v1 5 1 (n + 1 + 0) (yb (qF bs 0))] := by
  have h := St.sub hst3 (.cons _ (List.Sublist.refl _)); have e : yb bs ++ [.int .u8 128] = yb (qF bs 0) := by simp [qF, yb]
  rw [← e]; exact h
 clear hst3; go_loopw [3] (fun u wr => ∃ j : Nat, j ≤ zn n ∧ St w [] wr [.rowP yP u 5 1 (n + 1 + j) (yb (qF bs j))]) (fun u _ => n + 1 + zn n - lenS u)
 case atStart => exact ⟨0, by omega, hst4⟩
 case round =>
  clear hst4; obtain ⟨j, hj, hst⟩ := hrel; obtain ⟨au, cu, hu⟩ := St.rowPSlice [] hst; obtain ⟨L, hL⟩ : ∃ L, L = n + 1 + j := ⟨_, rfl⟩; have hnl : zn n < 64 := by unfold zn; omega
  have hlen : (Builtin.len_ #[28] 3 #[u3]).run Tryz.prog wr = .ok (.int .i64 (L : Int)) wr := by subst hu; rw [hL]; rfl
  have hL1 : L ≤ 200000 := by omega
  have Hu := ya hu; obtain ⟨r, hr⟩ : ∃ r, r = L % 64 := ⟨_, rfl⟩; have e1 : Int.tmod (L : Int) 64 = (r : Int) := by rw [Int.tmod_eq_emod_of_nonneg (by omega)]; omega
  have e2 : (L : Int) % 64 = (r : Int) := by omega
  clear hu; by_cases hjn : j < zn n
  ·have hne := noughts_ne hjn; have d1 : ((r : Int) != 56) = true := by simp; omega
   rw [← hL] at hst; have HL := ya hL; clear hL hr hne; go_wp2_with (first | (refine za [.int _ _] [.int _ _] hst (h:=fun gb _ hst2 => ?_); clear hst) | (apply yar [_] hst2; rfl; rfl; exact rfl; exact rfl; infer_instance; infer_instance; infer_instance; infer_instance; exact (j3 hst2 rfl (by decide)); exact rfl; rfl; rfl; (unfold maxLen; omega); intro v1 w9 hst3 _; clear hst2)); have hst5 : St w [] w9 [.rowP yP v1 5 1 (n + 1 + (j + 1)) (yb (qF bs (j + 1)))] := by
    have h := St.sub hst3 (.cons _ (List.Sublist.refl _)); rw [← padB_succ, show n + 1 + (j + 1) = L + 1 by rw [HL.out]; omega]; exact h
   clear hst3; obtain ⟨a9, c9, hu9⟩ := St.rowPSlice [] hst5; have Hu9 := ya hu9; clear hu9; go_roundw
   case rel => exact ⟨j + 1, by omega, hst5⟩
   case measure =>
    rw [Hu9, Hu]; show n + 1 + zn n - (n + 1 + (j + 1)) < n + 1 + zn n - (n + 1 + j); omega
  ·have ej : j = zn n := by omega
   subst ej; have hq := noughts_eq n; have d1 : ((r : Int) != 56) = false := by simp; omega
   have HL := ya hL; rw [← hL] at hst; have h8 : (n : Int) * 8 ≤ 800000 := by omega
   clear hL hr hq hj hjn; go_wp2; obtain ⟨M, hM⟩ : ∃ M : Int, M = (n : Int) * 8 := ⟨_, rfl⟩; rw [← hM]; have HM := ya hM; clear hM h8 e1 e2 d1 hlen; have hst6 : St w [] wr [.rowP yP u3 5 1 (L + 0) (yb (qF bs (zn n) ++ (qG (8 * n) 8).take 0))] := by simpa using hst
   clear hst; go_loopw [3, 23] (fun u q wr => ∃ i : Nat, i ≤ 8 ∧ q = .int .i64 i ∧ St w [] wr [.rowP yP u 5 1 (L + i) (yb (qF bs (zn n) ++ (qG (8 * n) 8).take i))]) (fun _ q _ => 8 - (intOf q).toNat)
   case atStart => exact ⟨0, by omega, rfl, hst6⟩
   case round =>
    clear hst6; obtain ⟨i, hi, rfl, hst⟩ := hrel; by_cases hi8 : i < 8
    ·obtain ⟨Q, hQ⟩ : ∃ Q : Int, Q = M / 2 ^ (56 - 8 * (i : Int)).toNat := ⟨_, rfl⟩; have f1 : ∀ T, binOp .shr T (.int .u64 M) (.int .i64 (56 - 8 * (i : Int))) = pure (.int .u64 Q) := by
      intro T; show Op.shift .shr .u64 M .i64 (56 - 8 * (i : Int)) = _; rw [shift_shr .u64 .i64 M _ (by omega) (by show _ ≤ (64 : Int); omega), hQ]
     have f3 : Q % 256 = ((byteAt (8 * n) (7 - i)).toNat : Int) := by
      rw [hQ, byteAt_int, HM, show (56 - 8 * (i : Int)).toNat = 8 * (7 - i) by omega, Int.mul_comm]
     have f2 : IntKind.u8.wrap Q = ((byteAt (8 * n) (7 - i)).toNat : Int) := f3; obtain ⟨Y, hY⟩ : ∃ Y, Y = byteAt (8 * n) (7 - i) := ⟨_, rfl⟩; rw [← hY] at f2 f3; have HY := ya hY; clear hY hQ; go_wp2_with (first | (refine za [.int _ _] [.int _ _] hst (h:=fun gb _ hst2 => ?_); clear hst) | (apply yar (ys := yb [Y]) [_] hst2; rfl; rfl; exact rfl; exact rfl; infer_instance; infer_instance; infer_instance; infer_instance; exact (j3 hst2 rfl (by decide)); exact rfl; rfl; exact yaH _; (unfold maxLen; omega); intro v1 w9 hst3 _; clear hst2)); have hst5 : St w [] w9 [.rowP yP v1 5 1 (L + (i + 1)) (yb (qF bs (zn n) ++ (qG (8 * n) 8).take (i + 1)))] := by
      have h := St.sub hst3 (.cons _ (List.Sublist.refl _)); rw [numB_take _ _ _ hi8, ← List.append_assoc, yaW _ [_], show 8 - 1 - i = 7 - i by omega, ← HY]; exact h
     clear hst3; go_roundw
     case rel => exact ⟨i + 1, by omega, by go_num, hst5⟩
     case measure => simp [intOf]; omega
    ·have ei : i = 8 := by omega
     subst ei; obtain ⟨F, hF⟩ : ∃ F, F = qP bs := ⟨_, rfl⟩; obtain ⟨m, hm⟩ : ∃ m, m = F.length / 64 := ⟨_, rfl⟩; have hFl : F.length = 64 * m := by
      have h1 := filled_mod bs; rw [← hF] at h1; omega
     have hLm : L + 8 = 64 * m := by rw [← hFl, hF, ybE, Hn, HL]; omega
     rw [filled_pad bs Hn.out, ← hF, hLm] at hst; have HF := ya hF; have HFl := ya hFl; have Hm := ya hm; have hm0 : 0 < m := by omega
     have hm1 : 64 * m ≤ 1000000 := by omega
     obtain ⟨ga, cap, rfl, hcap, hcm⟩ := rowP_some hst zH (by omega); clear hF hm hFl hLm hi hi8; go_wp2_with (first | (refine yN hst fun g6 _ hst2 => ?_; clear hst) | (go_at_call 113; refine (chunk_in _ _ _ _).mono ?_; rintro _ wq ⟨gs, gn, rfl, h4⟩; have hst3 := St.call hst2 h4; clear h4 hst2)); have hst4 : St w [] wq (.blk g6 119 [.slice none 0 0] :: .row (.slice none 0 0) 28 1 0 [] :: ([] ++ [.blk gn 3 [.int .i64 64], .blk gs 28 [.slice (some ⟨ga, 0, none⟩) (64 * m) cap], .rowP yP (.slice (some ⟨ga, 0, none⟩) (64 * m) cap) 5 1 (64 * m) (yb F)])) :=
      yy (L1 := [_]) (jY 28 1 (yy (L1 := [_, _]) hst3))
     have hgs := hst3.lt (x := .blk gs 28 [.slice (some ⟨ga, 0, none⟩) (64 * m) cap]) (by simp) rfl; have hgn := hst3.lt (x := .blk gn 3 [.int .i64 64]) (by simp) rfl; have cgs : wq.cell? ⟨gs, 0, none⟩ = some (.slice (some ⟨ga, 0, none⟩) (64 * m) cap) := hst3.cell (T := 28) (cs := [.slice (some ⟨ga, 0, none⟩) (64 * m) cap]) (by simp) rfl; have cgn : wq.cell? ⟨gn, 0, none⟩ = some (.int .i64 64) := hst3.cell (T := 3) (cs := [.int .i64 64]) (by simp) rfl; refine wp_rangeF 38 7 (gf := 146) rfl (enters_of Tryz.func146 (by kernel_rfl) rfl) (enc := fun x : Fin m => .slice (some ⟨ga, 0 + 64 * x.1, none⟩) 64 64)
      ((chunk_stops 4 gs gn ga 0 m cap wq (by decide) hm1 hcap hcm hgs hgn cgs cgn)) (fun h k => h.trans k) (keep2_b hgs hgn) (fillI w g6 ga gs gn cap m F) (fun s A B row hs hg hr => ?own) ⟨_, [], rfl, hst4⟩ ?assign ?body ?done
     case own =>
      obtain ⟨ov, vs, h1, h2⟩ := hs; exact ⟨ov, vs, h1, qD hst4.size h2 hg hr⟩
     case assign =>
      intro l x W K hK; simp only [rgAct, List.setIfInBounds_toArray, List.set_cons_zero, List.set_cons_succ] at hK ⊢; gi_wp2; exact hK
     case body =>
      rintro l pre x W ⟨ov, vs, hvl, hs0⟩ hlen; have hs := hs0.selfM; have hx := x.2; have hcl := ybd HFl.out hx; simp only [rgAct, List.setIfInBounds_toArray, List.set_cons_zero, List.set_cons_succ]; gi_wp2; have hD := hs.drew; clear hs; refine region_last_inRound (S := (fun w' => (yn 119 ⟨g6, 0, none⟩).run Tryz.prog w' = .ok (ov) w')) (by kernel_rfl) (by kernel_rfl) (fun ⟨_, _, h⟩ => h) rfl (by kernel_rfl) (by exact yp [] hD rfl) (fun hHeld => ?_); simp only [List.pop_toArray, List.dropLast, List.size_toArray, List.length_cons, List.length_nil]; refine jt 0 (h:=jt 1 (h:=?_)); refine wpAnyH_ready (rs := [2]) (by kernel_rfl) (by simp) ?_; refine (AllReadyH.cons (o := ⟨some 41, _, _, _, _, _⟩) rfl (fun K hK => ?_) AllReadyH.nil); have hrd := Rd_chunk (x := x.1) (Rd.rowP hD (p := yP) (v := .slice (some ⟨ga, 0, none⟩) (64 * m) cap) (T := 5) (sz := 1) (n := 64 * m) (xs := yb F) (by simp)) HFl.out (by omega); rw [Nat.zero_add] at hrd; rw [if_pos (by rfl)]; apply ow_appP [] (St.nilP yP 5 1 hD); rfl; rfl; exact rfl; infer_instance; infer_instance; infer_instance; infer_instance; exact hrd; exact yD _; rfl; exact yaH _
      ·unfold maxLen; omega
      intro v2 w2 hE _; rw [Nat.zero_add] at hE; obtain ⟨ax, cx, rfl⟩ := St.rowPSlice [] hE; refine kD hK (yp [_] hE rfl) (h:=fun hHeld => ?_); refine rW 3 (h:=fun K hK => ?_); refine za [.slice _ _ _] [.slice _ _ _] hE (h:=fun g8 w3 hF => ?_); refine kQ hK (yp [_, _] hF rfl) (h:=fun hHeld => ?_); refine rW 4 (h:=fun K hK => ?_); apply wl_appX [_, _, _] hF; rfl; rfl; exact rfl; exact rfl; infer_instance; infer_instance; infer_instance; exact (j3 hF rfl (by decide)); exact rfl
      ·unfold maxLen; omega
      intro v4 w4 hG _; refine kQ hK (yp [_, _] hG rfl) (h:=fun hHeld => ?_); refine jn ?_; clear hHeld; refine yaG ?_; obtain ⟨a4, c4, rfl⟩ := yZ [_, _, _] hG; refine ye [_, _] hG rfl rfl rfl (v := .slice _ _ _) rfl rfl rfl ?_ ?_
      ·exact Nat.le_refl _
      intro w5 hH; have hN : St W _ w5 (.blk g8 28 [.slice ax 64 cx] :: .rowP yP (.slice ax 64 cx) 5 1 64 ([] ++ yb (qO F x.1)) :: .blk g6 119 [.slice a4 (pre.length + 1) c4] :: .row (.slice a4 (pre.length + 1) c4) 28 1 (pre.length + 1) (vs ++ [.slice ax 64 cx]) :: (jJ 5 vs (pre.map fun x => qO F x.1) ++ [.blk gn 3 [.int .i64 64], .blk gs 28 [.slice (some ⟨ga, 0, none⟩) (64 * m) cap], .rowP yP (.slice (some ⟨ga, 0, none⟩) (64 * m) cap) 5 1 (64 * m) (yb F)])) := hH; have hJ := St.perm (St.sub (zm hs0 hN) (.cons _ (List.Sublist.refl _))) (perm_row _ _ _ _ _); refine ⟨zP hs0 hN, ⟨(hN.all (.blk gs 28 [.slice (some ⟨ga, 0, none⟩) (64 * m) cap]) (by simp)).trans (hs0.all (.blk gs 28 [.slice (some ⟨ga, 0, none⟩) (64 * m) cap]) (by simp)).symm, (hN.all (.blk gn 3 [.int .i64 64]) (by simp)).trans (hs0.all (.blk gn 3 [.int .i64 64]) (by simp)).symm⟩, ?_⟩; refine ⟨.slice a4 (pre.length + 1) c4, vs ++ [.slice ax 64 cx], by simp [hvl], ?_⟩; have e : jJ 5 (vs ++ [.slice ax 64 cx]) ((pre ++ [x]).map fun x => qO F x.1) = jJ 5 vs (pre.map fun x => qO F x.1) ++ [.rowP yP (.slice ax 64 cx) 5 1 64 ([] ++ yb (qO F x.1))] := by
       rw [List.map_append, List.map_singleton, rowsB_snoc _ _ _ _ _ (by rw [List.length_map, hvl]), hcl]; rfl
      rw [e, List.length_append, List.length_singleton]; exact hJ
     case done =>
      rintro D xs W hD rfl ⟨ov, vs, hvl, hs⟩ hK; go_wp2_with (first | (refine jl (Loads.at [] hs rfl) ?_)); obtain ⟨vf, hvf⟩ : ∃ vf, vf = (List.finRange m).map fun x : Fin m => qO F x.1 := ⟨_, rfl⟩; have hp : vf = pieces bs := by
       rw [hvf, pieces, ← HF, ← Hm]; apply List.ext_getElem (by simp); intro i h1 h2; simp
      refine ⟨by simp, .inl ⟨_, _, rfl, run_takeDeferred hK, ?_⟩⟩; have hs2 : St w [] (W.putObj D (.deferred none)) _ := St.putObj (Nat.le_trans hst4.size hD) hs hK rfl; refine ⟨_, results_tmp rfl _ _ _, ov, vs, rfl, ?_, ?_⟩
      ·rw [hvl, ← hp, hvf]; simp
      ·rw [← hp, hvf, hvl]; refine St.sub hs2 (.cons _ (.cons_cons _ ?_)); exact List.sublist_append_left _ _
end
section
open Go.RowKit Hp
theorem wrap32 (n : Nat) : IntKind.u32.wrap (n : Int) = ((n % 4294967296 : Nat) : Int) := by
 show (n : Int) % 4294967296 = _; omega
theorem add32 (T : TypeId) (x y : Wd) : binOp .add T (.int .u32 (wI x)) (.int .u32 (wI y)) = pure (.int .u32 (wI (x + y))) := by
 have h : IntKind.u32.wrap ((x.toNat : Int) + (y.toNat : Int)) = ((x + y).toNat : Int) := by
  rw [← Int.natCast_add, wrap32, BitVec.toNat_add]
 show pure (Value.int .u32 (IntKind.u32.wrap ((x.toNat : Int) + (y.toNat : Int)))) = _; rw [h]; rfl
theorem ofInt32 (x : Wd) : BitVec.ofInt 32 (x.toNat : Int) = x := by
 rw [BitVec.ofInt_natCast, BitVec.ofNat_toNat, BitVec.setWidth_eq]
theorem back32 (z : Wd) : IntKind.u32.wrap ((z.toNat : Nat) : Int) = (z.toNat : Int) := by
 have := z.isLt; rw [wrap32, Nat.mod_eq_of_lt this]
theorem and32 (T : TypeId) (x y : Wd) : binOp .and T (.int .u32 (wI x)) (.int .u32 (wI y)) = pure (.int .u32 (wI (x &&& y))) := by
 show pure (Value.int .u32 (IntKind.u32.wrap ((BitVec.ofInt 32 (x.toNat : Int) &&& BitVec.ofInt 32 (y.toNat : Int)).toNat : Int))) = _; rw [ofInt32, ofInt32, back32]; rfl
theorem or32 (T : TypeId) (x y : Wd) : binOp .or T (.int .u32 (wI x)) (.int .u32 (wI y)) = pure (.int .u32 (wI (x ||| y))) := by
 show pure (Value.int .u32 (IntKind.u32.wrap ((BitVec.ofInt 32 (x.toNat : Int) ||| BitVec.ofInt 32 (y.toNat : Int)).toNat : Int))) = _; rw [ofInt32, ofInt32, back32]; rfl
theorem xor32 (T : TypeId) (x y : Wd) : binOp .xor T (.int .u32 (wI x)) (.int .u32 (wI y)) = pure (.int .u32 (wI (x ^^^ y))) := by
 show pure (Value.int .u32 (IntKind.u32.wrap ((BitVec.ofInt 32 (x.toNat : Int) ^^^ BitVec.ofInt 32 (y.toNat : Int)).toNat : Int))) = _; rw [ofInt32, ofInt32, back32]; rfl
theorem not32 (x : Wd) : Op.unary .xor (.int .u32 (wI x)) = pure (.int .u32 (wI (~~~x))) := by
 have h : BitVec.ofInt 32 4294967295 ^^^ x = ~~~x := by
  have : BitVec.ofInt 32 4294967295 = BitVec.allOnes 32 := by decide
  rw [this, BitVec.allOnes_xor]
 show pure (Value.int .u32 (IntKind.u32.wrap ((BitVec.ofInt 32 4294967295 ^^^ BitVec.ofInt 32 (x.toNat : Int)).toNat : Int))) = _; rw [ofInt32, h, back32]; rfl
theorem shlN (T : TypeId) (x : Wd) (yk : IntKind) (n : Nat) (hn : n ≤ 32) : binOp .shl T (.int .u32 (wI x)) (.int yk (n : Int)) = pure (.int .u32 (wI (x <<< n))) := by
 show Op.shift .shl .u32 (x.toNat : Int) yk (n : Int) = _; rw [shift_shl .u32 yk (x.toNat : Int) (n : Int) (by omega) (by show (n : Int) ≤ 32; omega)]; have h : IntKind.u32.wrap ((x.toNat : Int) * 2 ^ (n : Int).toNat) = ((x <<< n).toNat : Int) := by
  rw [Int.toNat_natCast, BitVec.toNat_shiftLeft, Nat.shiftLeft_eq]; have : (x.toNat : Int) * 2 ^ n = ((x.toNat * 2 ^ n : Nat) : Int) := by push_cast; rfl
  rw [this, wrap32]
 rw [h]; rfl
theorem shrN (T : TypeId) (x : Wd) (yk : IntKind) (n : Nat) (hn : n ≤ 32) : binOp .shr T (.int .u32 (wI x)) (.int yk (n : Int)) = pure (.int .u32 (wI (x >>> n))) := by
 show Op.shift .shr .u32 (x.toNat : Int) yk (n : Int) = _; rw [shift_shr .u32 yk (x.toNat : Int) (n : Int) (by omega) (by show (n : Int) ≤ 32; omega)]; have h : (x.toNat : Int) / 2 ^ (n : Int).toNat = ((x >>> n).toNat : Int) := by
  rw [Int.toNat_natCast, BitVec.toNat_ushiftRight, Nat.shiftRight_eq_div_pow]; push_cast; rfl
 rw [h]; rfl
section
variable {P : Program} (T : TypeId) (x y : Wd) (w : World)
theorem shr3u64e : binOp .shr T (.int .u32 (wI x)) (.int .u64 3) = pure (.int .u32 (wI (x >>> 3))) := shrN T x .u64 3 (by decide)
theorem shl8u64e : binOp .shl T (.int .u32 (wI x)) (.int .u64 8) = pure (.int .u32 (wI (x <<< 8))) := shlN T x .u64 8 (by decide)
theorem shr10u64e : binOp .shr T (.int .u32 (wI x)) (.int .u64 10) = pure (.int .u32 (wI (x >>> 10))) := shrN T x .u64 10 (by decide)
theorem shl16u64e : binOp .shl T (.int .u32 (wI x)) (.int .u64 16) = pure (.int .u32 (wI (x <<< 16))) := shlN T x .u64 16 (by decide)
theorem shl24u64e : binOp .shl T (.int .u32 (wI x)) (.int .u64 24) = pure (.int .u32 (wI (x <<< 24))) := shlN T x .u64 24 (by decide)
end
theorem and31 : ∀ n : Nat, n < 32 → 0 < n → bits .and .u64 (IntKind.u64.wrap (-(n : Int))) 31 = ((32 - n : Nat) : Int) := by decide +kernel
end
section
open Go.RowKit Hp
attribute [local irreducible] Go.Calls
theorem j4 {fn : Func} {p q : Tmp} {ty : TypeId} {tmps : Array Value} {P : Program} {w : World} {A : Addr} {v : Value} (h : fn.results = #[.cell p ty, .tmp q]) (hp : tmps.getD p undef = .pointer (some A)) (hl : Loads P w ty A v) :
  (results fn tmps).run P w = .ok (.tuple #[v, tmps.getD q undef]) w := by
 have hl' : (loadVar ty A).run P w = .ok v w := hl; have hp' : tmps[p]?.getD undef = .pointer (some A) := by simpa using hp
 simp [results, h, hp', asAddr, hl', Sem.run_bind]
theorem qj (x : Wd) (n : Nat) (w : World) (h0 : 0 < n) (h32 : n < 32) : Calls Tryz.prog 115 #[.int .u32 (wI x), .int .i64 (n : Int)] w fun e w' => e = .returned (.int .u32 (wI (jd x n))) ∧ w = w' := by
 obtain ⟨m, hm⟩ : ∃ m, m = 32 - n := ⟨_, rfl⟩; have h1 : bits .and .u64 (IntKind.u64.wrap (IntKind.i64.wrap (-(n : Int)))) 31 = (m : Int) := by
  have : IntKind.i64.wrap (-(n : Int)) = -(n : Int) := IntWalk.i64_in _ (by omega); rw [this, hm]; exact and31 n h32 h0
 have h1b : bits .and .u64 (IntKind.u64.wrap (-(n : Int))) 31 = (m : Int) := by rw [hm]; exact and31 n h32 h0
 have h2 : IntKind.u64.wrap (32 - (m : Int)) = (n : Int) := by
  show (32 - (m : Int)) % 18446744073709551616 = _; omega
 have e1 : ∀ T, binOp .shl T (.int .u32 (wI x)) (.int .u64 (m : Int)) = pure (.int .u32 (wI (x <<< m))) := fun T => shlN T x .u64 m (by omega); have e2 : ∀ T, binOp .shr T (.int .u32 (wI x)) (.int .u64 (n : Int)) = pure (.int .u32 (wI (x >>> n))) := fun T => shrN T x .u64 n (by omega); have e3 : ∀ T, binOp .or T (.int .u32 (wI (x <<< m))) (.int .u32 (wI (x >>> n))) = pure (.int .u32 (wI (x <<< m ||| x >>> n))) := fun T => or32 T _ _; have Hr := ya (show x <<< m ||| x >>> n = jd x n by rw [hm, jd, BitVec.or_comm]); clear hm; go_enter Tryz.func115, Tryz.ntmps115; go_wp2; go_ret; rw [Hr]; exact ⟨rfl, rfl⟩
theorem keys_any (w : World) : Calls Tryz.prog 114 #[] w fun e w' => e = .returned (.agg (yf kT).toArray) ∧ St w [] w' [] := by
 have hst := St.refl w; go_enter Tryz.func114, Tryz.ntmps114; go_wp2_with (first | (refine yN hst fun g _ hst1 => ?_; clear hst) | (refine wl_buildS (cs := yf kT) rfl rfl (by kernel_rfl) ?_) | (refine ji [] hst1 fun _ hst2 => ?_; clear hst1)); have hl := yl (P := Tryz.prog) (off := 0) (T := 169) (yf kT) [] hst2 rfl rfl; refine bodyPost_ret (yW rfl rfl hl) rfl ⟨rfl, hst2.nil⟩
theorem table_any (w : World) : Calls Tryz.prog 168 #[] w fun e w' => e = .returned (.agg (yf kT).toArray) ∧ St w [] w' [] := by
 have hst := St.refl w; go_enter Tryz.func168, Tryz.ntmps168; go_wp2_with (first | (refine yN hst fun g _ hst1 => ?_; clear hst) | (refine wl_buildS (cs := yf kT) rfl rfl (by kernel_rfl) ?_) | (refine ji [] hst1 fun _ hst2 => ?_; clear hst1)); have hl := yl (P := Tryz.prog) (off := 0) (T := 169) (yf kT) [] hst2 rfl rfl; refine bodyPost_ret (yW rfl rfl hl) rfl ⟨rfl, hst2.nil⟩
end
section
open Hp
def win (p : List UInt8) : Nat → List Wd
 | 0 => List.replicate 16 0
 | i + 1 => (win p i).set (i % 16) (zK p i)
theorem length_win (p : List UInt8) (i : Nat) : (win p i).length = 16 := by
 induction i with
 | zero => rfl
 | succ i ih => simp [win, ih]
theorem win_get (p : List UInt8) {i t : Nat} (h : t < i) (h2 : i ≤ t + 16) : (win p i).getD (t % 16) 0 = zK p t := by
 induction i with
 | zero => omega
 | succ i ih =>
  have hm := Nat.mod_lt i (show 0 < 16 by decide); by_cases e : t = i
  ·subst e; simp only [win, List.getD]; rw [List.getElem?_set_self (by rw [length_win]; exact hm)]; rfl
  ·have hne : i % 16 ≠ t % 16 := by omega
   rw [← ih (by omega) (by omega)]; simp only [win, List.getD]; rw [List.getElem?_set_ne hne]
theorem jm (l : List Wd) : (yf l).length = l.length := by simp [yf]
theorem zx (l : List Wd) {k : Nat} (hk : k < l.length) : (yf l)[k]? = some (.int .u32 (wI (l.getD k 0))) := by
 simp [yf, List.getD, hk]
theorem put_words (l : List Wd) {k : Nat} (hk : k < l.length) (x : Wd) : yw (yf l) k [.int .u32 (wI x)] = yf (l.set k x) := by
 have h1 : l.set k x = l.take k ++ x :: l.drop (k + 1) := by
  rw [List.set_eq_take_append_cons_drop, if_pos hk]
 rw [h1]; simp [yw, yf]
theorem ones_words (l : List Wd) : (yf l).all (·.oneCell') = true := by
 rw [List.all_eq_true]; intro v hv; simp only [yf, List.mem_map] at hv; obtain ⟨x, _, rfl⟩ := hv; rfl
end
section
open Go.RowKit Hp
attribute [local irreducible] Go.Calls
theorem loadedB (A : Addr) : loadVar 5 A = yn 5 A := rfl
theorem loadedW (A : Addr) : loadVar 115 A = yn 115 A := rfl
theorem storedW (A : Addr) (v : Value) : storeVar 115 A v = storeVarH 115 A v := rfl
theorem conv8 (b : UInt8) (w : World) : (convert 5 115 (.int .u8 (b.toNat : Int))).run Tryz.prog w = .ok (.int .u32 (wI (BitVec.ofNat 32 b.toNat))) w := by
 have hb := b.toNat_lt; have h : IntKind.u32.wrap (b.toNat : Int) = wI (BitVec.ofNat 32 b.toNat) := by
  rw [wrap32, wI, BitVec.toNat_ofNat]
 unfold convert; rw [Sem.run_bind, run_underlying (show Tryz.prog.underlying 5 = some (.int .u8) by kernel_rfl), Result.andThen_ok, Sem.run_bind, run_underlying (show Tryz.prog.underlying 115 = some (.int .u32) by kernel_rfl), Result.andThen_ok]; show (pure (Value.int .u32 (IntKind.u32.wrap (b.toNat : Int))) : Sem Value).run Tryz.prog w = _; rw [h]; rfl
theorem ldOM {w0 w : World} {M : List Nat} {L : List HA} {T : TypeId} {A : Addr} {v : Value} (hst : St w0 M w L) [ht : TyS Tryz.prog T] (h : w0.cell? A = some v) (hM : A.block ∉ M) : (yn T A).run Tryz.prog w = .ok v w := Loads.cell ht.out (hst.old_cell h hM)
section
attribute [local go_sem ↓] loadedB loadedW storedW conv8
attribute [local go_sem 5000] add32 and32 or32 xor32 not32 shl8u64e shl16u64e shl24u64e shr3u64e shr10u64e
theorem word_lo (g b off c i : Nat) (p : List UInt8) (w : World) (hg : w.heap[g]? = some (.cells (yf (win p i)).toArray 172 (0, 0))) (hp : Rd w (.slice (some ⟨b, off, none⟩) 64 c) 1 64 (yb p)) (hl : p.length = 64) (hi : i < 16) (hbg : b ≠ g) :
  Calls Tryz.prog 116 #[.pointer (some ⟨g, 0, none⟩), .int .i64 i, .slice (some ⟨b, off, none⟩) 64 c] w fun e w' => e = .returned (.int .u32 (wI (zK p i))) ∧ St w [g] w' [.blk g 172 (yf (win p (i + 1)))] := by
 have hst := St.one w g _ _ hg; have hbd := hp.bd; obtain ⟨b', off', hbo, hr⟩ := hp.at (k := 0) (by omega); cases hbo; have Hl := ya hl; obtain ⟨x0, h0⟩ : ∃ x, x = p.getD (4 * i) 0 := ⟨_, rfl⟩; obtain ⟨x1, h1⟩ : ∃ x, x = p.getD (4 * i + 1) 0 := ⟨_, rfl⟩; obtain ⟨x2, h2⟩ : ∃ x, x = p.getD (4 * i + 2) 0 := ⟨_, rfl⟩; obtain ⟨x3, h3⟩ : ∃ x, x = p.getD (4 * i + 3) 0 := ⟨_, rfl⟩; have k0 := ya (show w.cell? ⟨b, off + 4 * i, none⟩ = some (.int .u8 (x0.toNat : Int)) by rw [h0]; exact ya5 hr (k := 4 * i) (by omega)); have k1 := ya (show w.cell? ⟨b, off + 4 * i + 1, none⟩ = some (.int .u8 (x1.toNat : Int)) by rw [h1]; exact ya5 hr (k := 4 * i + 1) (by omega)); have k2 := ya (show w.cell? ⟨b, off + 4 * i + 2, none⟩ = some (.int .u8 (x2.toNat : Int)) by rw [h2]; exact ya5 hr (k := 4 * i + 2) (by omega)); have k3 := ya (show w.cell? ⟨b, off + 4 * i + 3, none⟩ = some (.int .u8 (x3.toNat : Int)) by rw [h3]; exact ya5 hr (k := 4 * i + 3) (by omega)); have Hx := ya (show (BitVec.ofNat 32 x0.toNat <<< 24 ||| BitVec.ofNat 32 x1.toNat <<< 16 ||| BitVec.ofNat 32 x2.toNat <<< 8 ||| BitVec.ofNat 32 x3.toNat : Wd) = zK p i by rw [wdAt_lo p hi, h0, h1, h2, h3]; rfl); clear h0 h1 h2 h3; have hng : b ∉ [g] := by simpa using hbg
 have hli := ya (length_win p i); have z0 : IntKind.i64.wrap (4 * (i : Int)) = 4 * (i : Int) := IntWalk.i64_in _ (by omega); have z1 : IntKind.i64.wrap (4 * (i : Int) + 4) = 4 * (i : Int) + 4 := IntWalk.i64_in _ (by omega); have z2 : Int.tmod (i : Int) 16 = (i : Int) := by rw [Int.tmod_eq_emod_of_nonneg (by omega)]; omega
 have b1 : 4 * (i : Int) + 4 ≤ 64 := by omega
 have b2 : (i : Int) < 16 := by omega
 have b3 : 64 ≤ c := hbd.1; have Hd := ya hbd; clear hl hbd; go_enter Tryz.func116, Tryz.ntmps116; go_wp2; have hstD := hst.drew; clear hst; refine wD (S := fun w' => Ld 5 b (off + 4 * i) (.int .u8 (x0.toNat : Int)) w' ∧ Ld 5 b (off + 4 * i + 1) (.int .u8 (x1.toNat : Int)) w' ∧ Ld 5 b (off + 4 * i + 2) (.int .u8 (x2.toNat : Int)) w' ∧ Ld 5 b (off + 4 * i + 3) (.int .u8 (x3.toNat : Int)) w') ⟨ldOM hstD k0.out hng, ldOM hstD k1.out hng, ldOM hstD k2.out hng, ldOM hstD k3.out hng⟩ fun hHeld => ?_; refine jt 0 (h:=jt 1 (h:=jt 2 (h:=jt 3 (h:=jt 4 (h:=jt 5 (h:=jt 6 (h:=jt 7 (h:=jt 8 (h:=jt 9 (h:=jt 10 (h:=jt 11 (h:=jt 12 (h:=jt 13 (h:=jt 14 (h:=jt 15 (h:=jt 16 (h:=jt 17 (h:=jt 18 (h:=jt 19 (h:=jt 20 (h:=jt 21 (h:=jt 22 (h:=jt 23 (h:=?_)))))))))))))))))))))))); refine yF 24 (h0:=fun K hK => ?_); apply ow_storeS (off := i) (v := .int .u32 (wI (zK p i))) [] hstD; rfl; exact rfl; exact (by rw [← Hx]; exact rfl); infer_instance; exact rfl; exact rfl; exact (by rw [jm, hli.out]; omega); intro w9 hst2; refine kD hK ⟨ldOM hst2 k0.out hng, ldOM hst2 k1.out hng, ldOM hst2 k2.out hng, ldOM hst2 k3.out hng⟩ (h:=fun hHeld => ?_); refine jn ?_; clear hHeld hstD; have hst3 : St w [g] w9 [.blk g 172 (yf (win p (i + 1)))] := by
  rw [show win p (i + 1) = (win p i).set i (zK p i) from by rw [win, Nat.mod_eq_of_lt hi], ← put_words _ (by rw [hli.out]; omega)]; exact hst2
 clear hst2; have hget := ya (show (yf (win p (i + 1)))[i]? = some (.int .u32 (wI (zK p i))) by
  rw [zx _ (by rw [length_win]; omega)]; have := win_get p (i := i + 1) (t := i) (by omega) (by omega); rw [Nat.mod_eq_of_lt hi] at this; rw [this])
 go_wp2_with (first | (refine jl (Loads.at [] hst3 (hget.out)) ?_)); go_ret; exact ⟨rfl, hst3⟩
end
theorem words_set_get (l : List Wd) (k j : Nat) (x : Wd) (h : j ≠ k) : (l.set k x).getD j 0 = l.getD j 0 := by
 simp only [List.getD]; rw [List.getElem?_set_ne (Ne.symm h)]
theorem ybn (l : List Wd) (k : Nat) (x : Wd) (h : k < l.length) : (l.set k x).getD k 0 = x := by
 simp only [List.getD]; rw [List.getElem?_set_self h]; rfl
theorem st_set {w0 w : World} {M : List Nat} {g T k : Nat} {l : List Wd} {x : Wd} (hk : k < l.length) (h : St w0 M w ([] ++ .blk g T (yw (yf l) k (Value.cells (.int .u32 (wI x))).toList) :: [])) : St w0 M w [.blk g T (yf (l.set k x))] := by
 rw [← put_words l hk x]; exact h
theorem right_2 (x : Wd) (w : World) : Calls Tryz.prog 115 #[.int .u32 (wI x), .int .i64 2] w fun e w1 => e = .returned (.int .u32 (wI (jd x 2))) ∧ w = w1 := qj x 2 w (by decide) (by decide)
theorem right_6 (x : Wd) (w : World) : Calls Tryz.prog 115 #[.int .u32 (wI x), .int .i64 6] w fun e w1 => e = .returned (.int .u32 (wI (jd x 6))) ∧ w = w1 := qj x 6 w (by decide) (by decide)
theorem right_7 (x : Wd) (w : World) : Calls Tryz.prog 115 #[.int .u32 (wI x), .int .i64 7] w fun e w1 => e = .returned (.int .u32 (wI (jd x 7))) ∧ w = w1 := qj x 7 w (by decide) (by decide)
theorem right_11 (x : Wd) (w : World) : Calls Tryz.prog 115 #[.int .u32 (wI x), .int .i64 11] w fun e w1 => e = .returned (.int .u32 (wI (jd x 11))) ∧ w = w1 := qj x 11 w (by decide) (by decide)
theorem right_13 (x : Wd) (w : World) : Calls Tryz.prog 115 #[.int .u32 (wI x), .int .i64 13] w fun e w1 => e = .returned (.int .u32 (wI (jd x 13))) ∧ w = w1 := qj x 13 w (by decide) (by decide)
theorem right_17 (x : Wd) (w : World) : Calls Tryz.prog 115 #[.int .u32 (wI x), .int .i64 17] w fun e w1 => e = .returned (.int .u32 (wI (jd x 17))) ∧ w = w1 := qj x 17 w (by decide) (by decide)
theorem right_18 (x : Wd) (w : World) : Calls Tryz.prog 115 #[.int .u32 (wI x), .int .i64 18] w fun e w1 => e = .returned (.int .u32 (wI (jd x 18))) ∧ w = w1 := qj x 18 w (by decide) (by decide)
theorem right_19 (x : Wd) (w : World) : Calls Tryz.prog 115 #[.int .u32 (wI x), .int .i64 19] w fun e w1 => e = .returned (.int .u32 (wI (jd x 19))) ∧ w = w1 := qj x 19 w (by decide) (by decide)
theorem right_22 (x : Wd) (w : World) : Calls Tryz.prog 115 #[.int .u32 (wI x), .int .i64 22] w fun e w1 => e = .returned (.int .u32 (wI (jd x 22))) ∧ w = w1 := qj x 22 w (by decide) (by decide)
theorem right_25 (x : Wd) (w : World) : Calls Tryz.prog 115 #[.int .u32 (wI x), .int .i64 25] w fun e w1 => e = .returned (.int .u32 (wI (jd x 25))) ∧ w = w1 := qj x 25 w (by decide) (by decide)
section
attribute [local go_sem ↓] loadedB loadedW storedW conv8
attribute [local go_sem 5000] add32 and32 or32 xor32 not32 shl8u64e shl16u64e shl24u64e shr3u64e shr10u64e
theorem word_hi (g i : Nat) (p : List UInt8) (v : Value) (w : World) (hg : w.heap[g]? = some (.cells (yf (win p i)).toArray 172 (0, 0))) (hi : 16 ≤ i) (hi2 : i < 64) :
  Calls Tryz.prog 116 #[.pointer (some ⟨g, 0, none⟩), .int .i64 i, v] w fun e w' => e = .returned (.int .u32 (wI (zK p i))) ∧ St w [g] w' [.blk g 172 (yf (win p (i + 1)))] := by
 have hst := St.one w g _ _ hg; obtain ⟨k, hk⟩ : ∃ k, k = i % 16 := ⟨_, rfl⟩; obtain ⟨ra, hra⟩ : ∃ k, k = (i - 15) % 16 := ⟨_, rfl⟩; obtain ⟨rb, hrb⟩ : ∃ k, k = (i - 2) % 16 := ⟨_, rfl⟩; obtain ⟨rc, hrc⟩ : ∃ k, k = (i - 7) % 16 := ⟨_, rfl⟩; obtain ⟨l0, hl0⟩ : ∃ l, l = win p i := ⟨_, rfl⟩; obtain ⟨C, hC⟩ : ∃ x, x = l0.getD k 0 := ⟨_, rfl⟩; obtain ⟨X, hX⟩ : ∃ x, x = l0.getD ra 0 := ⟨_, rfl⟩; obtain ⟨Y, hY⟩ : ∃ x, x = l0.getD rb 0 := ⟨_, rfl⟩; obtain ⟨Z, hZ⟩ : ∃ x, x = l0.getD rc 0 := ⟨_, rfl⟩; have hlen : l0.length = 16 := by rw [hl0, length_win]
 have eC : C = zK p (i - 16) := by rw [hC, hl0, hk, ← win_get p (i := i) (t := i - 16) (by omega) (by omega)]; congr 1; omega
 have eX : X = zK p (i - 15) := by rw [hX, hl0, hra, ← win_get p (i := i) (t := i - 15) (by omega) (by omega)]
 have eY : Y = zK p (i - 2) := by rw [hY, hl0, hrb, ← win_get p (i := i) (t := i - 2) (by omega) (by omega)]
 have eZ : Z = zK p (i - 7) := by rw [hZ, hl0, hrc, ← win_get p (i := i) (t := i - 7) (by omega) (by omega)]
 have HW := ya (show C + sg0 X + Z + sg1 Y = zK p i by rw [wdAt_hi p hi, eC, eX, eY, eZ]); have HN := ya (show win p (i + 1) = l0.set k (zK p i) by rw [win, hl0, hk]); have hnc : rc ≠ k := by omega
 have bk : k < 16 := by omega
 have ba : ra < 16 := by omega
 have bb : rb < 16 := by omega
 have bc : rc < 16 := by omega
 have z2 : Int.tmod (i : Int) 16 = (k : Int) := by rw [Int.tmod_eq_emod_of_nonneg (by omega)]; omega
 have w15 : IntKind.i64.wrap ((i : Int) - 15) = ((i - 15 : Nat) : Int) := by rw [IntWalk.i64_in _ (by omega)]; omega
 have w2 : IntKind.i64.wrap ((i : Int) - 2) = ((i - 2 : Nat) : Int) := by rw [IntWalk.i64_in _ (by omega)]; omega
 have w7 : IntKind.i64.wrap ((i : Int) - 7) = ((i - 7 : Nat) : Int) := by rw [IntWalk.i64_in _ (by omega)]; omega
 have m15 : Int.tmod ((i - 15 : Nat) : Int) 16 = (ra : Int) := by rw [Int.tmod_eq_emod_of_nonneg (by omega)]; omega
 have m2 : Int.tmod ((i - 2 : Nat) : Int) 16 = (rb : Int) := by rw [Int.tmod_eq_emod_of_nonneg (by omega)]; omega
 have m7 : Int.tmod ((i - 7 : Nat) : Int) 16 = (rc : Int) := by rw [Int.tmod_eq_emod_of_nonneg (by omega)]; omega
 have d16 : decide ((i : Int) < 16) = false := by simp; omega
 have bk2 : (k : Int) < 16 := by omega
 have ba2 : (ra : Int) < 16 := by omega
 have bb2 : (rb : Int) < 16 := by omega
 have bc2 : (rc : Int) < 16 := by omega
 rw [← hl0] at hst; have Hlen := ya hlen; have gC := ya (show (yf l0)[k]? = some (.int .u32 (wI C)) by rw [zx _ (by omega), hC]); have gX := ya (show (yf l0)[ra]? = some (.int .u32 (wI X)) by rw [zx _ (by omega), hX]); have gY := ya (show (yf l0)[rb]? = some (.int .u32 (wI Y)) by rw [zx _ (by omega), hY]); have g1 := ya (show (yf (l0.set k (C + sg0 X)))[k]? = some (.int .u32 (wI (C + sg0 X))) by rw [zx _ (by simp; omega), ybn _ _ _ (by omega)]); have gZ := ya (show (yf (l0.set k (C + sg0 X)))[rc]? = some (.int .u32 (wI Z)) by rw [zx _ (by simp; omega), words_set_get _ _ _ _ hnc, hZ]); have g2 := ya (show (yf (l0.set k (C + sg0 X + Z)))[k]? = some (.int .u32 (wI (C + sg0 X + Z))) by rw [zx _ (by simp; omega), ybn _ _ _ (by omega)]); have g3 := ya (show (yf (l0.set k (zK p i)))[k]? = some (.int .u32 (wI (zK p i))) by rw [zx _ (by simp; omega), ybn _ _ _ (by omega)]); have n1 := ya (show (l0.set k (C + sg0 X)).length = 16 by simp; omega); have n2 := ya (show (l0.set k (C + sg0 X + Z)).length = 16 by simp; omega); clear hC hX hY hZ eC eX eY eZ hlen hl0 hk hra hrb hrc hg hnc; go_enter Tryz.func116, Tryz.ntmps116; go_wp2; have hD := hst.drew; clear hst; refine wD (S := fun w' => Ld 115 g ra (.int .u32 (wI (X))) w' ∧ Ld 115 g rb (.int .u32 (wI (Y))) w') ⟨yp [] hD (gX.out), yp [] hD (gY.out)⟩ fun hHeld => ?_; refine jt 0 (h:=jt 1 (h:=jt 2 (h:=jt 3 (h:=jt 4 (h:=jt 5 (h:=jt 6 (h:=jt 7 (h:=jt 8 (h:=jt 9 (h:=jt 10 (h:=jt 11 (h:=jt 12 (h:=jt 13 (h:=jt 14 (h:=jt 15 (h:=?_)))))))))))))))); refine jn ?_; clear hHeld; go_wp2; replace hD := hD.drew; refine jU (S := (fun w' => (yn 115 ⟨g, k, none⟩).run Tryz.prog w' = .ok (.int .u32 (wI (C))) w')) (by kernel_rfl) rfl (by kernel_rfl) (by exact yp [] hD (gC.out)) (fun hHeld => ?_); simp only [List.pop_toArray, List.dropLast, List.size_toArray, List.length_cons, List.length_nil]; refine jt 0 (h:=jt 1 (h:=jt 2 (h:=jt 3 (h:=jt 5 (h:=jt 8 (h:=jt 9 (h:=?_))))))); refine yF 4 (h0:=fun K hK => ?_); go_simp; go_at_call 115; refine (right_7 _ _).mono ?_; rintro _ _ ⟨rfl, rfl⟩; refine kD hK (yp [] hD (gC.out)) (h:=fun hHeld => ?_); refine yF 6 (h0:=fun K hK => ?_); go_simp; go_at_call 115; refine (right_18 _ _).mono ?_; rintro _ _ ⟨rfl, rfl⟩; refine kD hK (yp [] hD (gC.out)) (h:=fun hHeld => ?_); refine jt 7 (h:=jt 10 (h:=jt 11 (h:=jt 12 (h:=?_)))); refine jn ?_; clear hHeld; refine yaG ?_; refine ye [] hD rfl rfl rfl (v := .int .u32 (wI (C + sg0 X))) rfl rfl rfl (by rw [jm, Hlen]; show k + 1 ≤ 16; omega) ?_; intro w1 h1; replace h1 := st_set (by rw [Hlen]; exact bk) h1; clear hD; (try simp only [Act.put, List.setIfInBounds_toArray, List.set_cons_zero, List.set_cons_succ]); go_wp2; have hD := h1.drew; clear h1; refine jU (S := (fun w' => (yn 115 ⟨g, k, none⟩).run Tryz.prog w' = .ok (.int .u32 (wI (C + sg0 X))) w' ∧ (yn 115 ⟨g, rc, none⟩).run Tryz.prog w' = .ok (.int .u32 (wI (Z))) w')) (by kernel_rfl) rfl (by kernel_rfl) (by exact ⟨yp [] hD (g1.out), yp [] hD (gZ.out)⟩) (fun hHeld => ?_); simp only [List.pop_toArray, List.dropLast, List.size_toArray, List.length_cons, List.length_nil]; refine jt 0 (h:=jt 1 (h:=jt 2 (h:=jt 3 (h:=jt 4 (h:=jt 5 (h:=jt 6 (h:=jt 7 (h:=jt 8 (h:=jt 9 (h:=jt 10 (h:=jt 11 (h:=?_)))))))))))); refine jn ?_; clear hHeld; refine yaG ?_; refine ye [] hD rfl rfl rfl (v := .int .u32 (wI (C + sg0 X + Z))) rfl rfl rfl (by rw [jm, n1.out]; show k + 1 ≤ 16; omega) ?_; intro w2 h2; replace h2 := st_set (by rw [n1.out]; exact bk) h2; clear hD; (try simp only [Act.put, List.setIfInBounds_toArray, List.set_cons_zero, List.set_cons_succ]); rw [List.set_set] at h2; go_wp2; have hD := h2.drew; clear h2; refine jU (S := (fun w' => (yn 115 ⟨g, k, none⟩).run Tryz.prog w' = .ok (.int .u32 (wI (C + sg0 X + Z))) w')) (by kernel_rfl) rfl (by kernel_rfl) (by exact yp [] hD (g2.out)) (fun hHeld => ?_); simp only [List.pop_toArray, List.dropLast, List.size_toArray, List.length_cons, List.length_nil]; refine jt 0 (h:=jt 1 (h:=jt 2 (h:=jt 3 (h:=jt 5 (h:=jt 8 (h:=jt 9 (h:=?_))))))); refine yF 4 (h0:=fun K hK => ?_); go_simp; go_at_call 115; refine (right_17 _ _).mono ?_; rintro _ _ ⟨rfl, rfl⟩; refine kD hK (yp [] hD (g2.out)) (h:=fun hHeld => ?_); refine yF 6 (h0:=fun K hK => ?_); go_simp; go_at_call 115; refine (right_19 _ _).mono ?_; rintro _ _ ⟨rfl, rfl⟩; refine kD hK (yp [] hD (g2.out)) (h:=fun hHeld => ?_); refine jt 7 (h:=jt 10 (h:=jt 11 (h:=jt 12 (h:=?_)))); refine jn ?_; clear hHeld; refine yaG ?_; refine ye [] hD rfl rfl rfl (v := .int .u32 (wI (zK p i))) (by rw [← HW]; exact rfl) rfl rfl (by rw [jm, n2.out]; show k + 1 ≤ 16; omega) ?_; intro w3 h3; replace h3 := st_set (by rw [n2.out]; exact bk) h3; clear hD; (try simp only [Act.put, List.setIfInBounds_toArray, List.set_cons_zero, List.set_cons_succ]); rw [List.set_set] at h3; go_wp2_with (first | (refine jl (Loads.at [] h3 (g3.out)) ?_)); go_ret; rw [HN]; exact ⟨rfl, h3⟩
end
theorem word_any (g b off c i : Nat) (p : List UInt8) (w : World) (hg : w.heap[g]? = some (.cells (yf (win p i)).toArray 172 (0, 0))) (hp : Rd w (.slice (some ⟨b, off, none⟩) 64 c) 1 64 (yb p)) (hl : p.length = 64) (hi : i < 64) (hbg : b ≠ g) :
  Calls Tryz.prog 116 #[.pointer (some ⟨g, 0, none⟩), .int .i64 i, .slice (some ⟨b, off, none⟩) 64 c] w fun e w' => e = .returned (.int .u32 (wI (zK p i))) ∧ St w [g] w' [.blk g 172 (yf (win p (i + 1)))] := by
 by_cases h : i < 16
 ·exact word_lo g b off c i p w hg hp hl h hbg
 ·exact word_hi g i p _ w hg (by omega) hi
theorem Hp.St.ne_new {w0 w : World} {L : List HA} {g T b : Nat} {cs : List Value} (h : St w0 [] w L) (hm : HA.blk g T cs ∈ L) (hb : b < w0.heap.size) : b ≠ g := by
 rcases h.own _ hm g rfl with h1 | h1
 ·omega
 ·cases h1
theorem Rd_lt {w : World} {b off c n : Nat} {xs : List UInt8} (h : Rd w (.slice (some ⟨b, off, none⟩) n c) 1 n (yb xs)) (hn : 0 < n) : b < w.heap.size := by
 have hl := h.bd.2.2; obtain ⟨b', off', e, hr⟩ := h.at (k := 0) hn; cases e; rw [length_bytesV] at hl; have := ya5 hr (k := 0) (by omega); exact World.block_lt_of_cell? w _ this
theorem bld8 (a b c d e f g h : Int) : Tryz.prog.built 117 [(0, .int .u32 a), (1, .int .u32 b), (2, .int .u32 c), (3, .int .u32 d), (4, .int .u32 e), (5, .int .u32 f), (6, .int .u32 g), (7, .int .u32 h)] = some #[.int .u32 a, .int .u32 b, .int .u32 c, .int .u32 d, .int .u32 e, .int .u32 f, .int .u32 g, .int .u32 h] := by kernel_rfl
theorem st_setL {w0 w : World} {M : List Nat} {g T k : Nat} {l : List Wd} {x : Wd} (L1 : List HA) {L2 : List HA} (hk : k < l.length) (h : St w0 M w (L1 ++ .blk g T (yw (yf l) k (Value.cells (.int .u32 (wI x))).toList) :: L2)) : St w0 M w (L1 ++ .blk g T (yf (l.set k x)) :: L2) := by
 rw [← put_words l hk x]; exact h
def qs (x y : List Wd) : Nat → List Wd
 | 0 => x
 | j + 1 => (qs x y j).set j (x.getD j 0 + y.getD j 0)
theorem length_addP (x y : List Wd) (j : Nat) : (qs x y j).length = x.length := by
 induction j with
 | zero => rfl
 | succ j ih => simp [qs, ih]
theorem addP_get (x y : List Wd) : ∀ (j i : Nat), j ≤ i → (qs x y j).getD i 0 = x.getD i 0
 | 0, _, _ => rfl
 | j + 1, i, h => by
  rw [qs, words_set_get _ _ _ _ (by omega), addP_get x y j i (by omega)]
theorem addP_all (s r : S8) : qs s.list r.list 8 = (s.add r).list := rfl
theorem loadedSt (A : Addr) : loadVar 117 A = yn 117 A := rfl
section
attribute [local go_sem ↓] loadedB loadedW storedW conv8 loadedSt
attribute [local go_sem 5000] add32 and32 or32 xor32 not32 shl8u64e shl16u64e shl24u64e shr3u64e shr10u64e
theorem turned_any (s : S8) (p : List UInt8) (b off c : Nat) (w : World) (hp : Rd w (.slice (some ⟨b, off, none⟩) 64 c) 1 64 (yb p)) (hl : p.length = 64) :
  Calls Tryz.prog 61 #[.agg (yf s.list).toArray, .slice (some ⟨b, off, none⟩) 64 c] w fun e w' => e = .returned (.agg (yf (s.turn p).list).toArray) ∧ St w [] w' [] := by
 have hst := St.refl w; have Hl := ya hl; have hb := Rd_lt hp (by decide); clear hl; go_enter Tryz.func61, Tryz.ntmps61; go_upto_region 1 with (first | go_big_skip | go_big_guard | (refine zj hst fun g2 _ hst1 => ?_; clear hst) | (refine yN hst1 fun g4 _ hst2 => ?_; clear hst1)); (try simp only [pL]); go_cut [5, 6] (fun a b wx => ∃ g5 g6, a = .pointer (some ⟨g5, 0, none⟩) ∧ b = .pointer (some ⟨g6, 0, none⟩) ∧ St w [] wx [.blk g6 169 (yf kT), .blk g5 117 (yf s.list), .blk g4 117 (List.replicate 8 (.int .u32 0)), .blk g2 117 (yf s.list)])
 case first =>
  have hD := hst2.drew; clear hst2; refine wD (S := fun w' => Ld 117 g2 0 (.agg (List.toArray (yf s.list))) w') (ldA (yf s.list) [_] hD (rfl) (rfl)) fun hHeld => ?_; refine jt 0 (h:=?_); refine jx3 1 2 3 (h0:=fun _ hK => ?_) (h1:=fun _ hK => ?_) (h2:=fun _ hK => ?_)
  ·go_simp; go_at_call 114; refine jc hD (keys_any _) fun _ hN1 => ?_; refine kD hK (ldA (yf s.list) [_] hN1 (rfl) (rfl)) (h:=fun hHeld => ?_); refine jx2 2 3 (h0:=fun _ hK => ?_) (h1:=fun _ hK => ?_)
   ·apply qI hN1; rfl; infer_instance; intro g5 _ hN2; refine kD hK (ldA (yf s.list) [_, _] hN2 (rfl) (rfl)) (h:=fun hHeld => ?_); refine yF 3 (h0:=fun _ hK => ?_); apply qI hN2; rfl; infer_instance; intro g6 _ hN3; refine kD hK (ldA (yf s.list) [_, _, _] hN3 (rfl) (rfl)) (h:=fun hHeld => ?_); refine yF 4 (h0:=fun _ hK => ?_); apply jG [_] hN3; rfl; exact rfl; exact rfl; infer_instance; exact rfl; exact rfl; exact rfl; intro _ hN4; refine kD hK (ldA (yf s.list) [_, _, _] hN4 (rfl) (rfl)) (h:=fun hHeld => ?_); refine yF 5 (h0:=fun _ hK => ?_); apply jG [] hN4; rfl; exact rfl; exact rfl; infer_instance; exact rfl; exact rfl; exact rfl; intro _ hN5; refine kD hK (ldA (yf s.list) [_, _, _] hN5 (rfl) (rfl)) (h:=fun hHeld => ?_); refine jn ?_; clear hHeld; go_wp2; go_meet; exact ⟨g5, g6, rfl, rfl, (yy (L1 := [_, _, _]) (yy (L1 := [_, _, _]) (yy (L1 := [_, _, _]) (yy (L1 := [_, _, _]) hN5))))⟩
   ·apply qI hN1; rfl; infer_instance; intro g6 _ hN6; refine kD hK (ldA (yf s.list) [_, _] hN6 (rfl) (rfl)) (h:=fun hHeld => ?_); refine yF 2 (h0:=fun _ hK => ?_); apply qI hN6; rfl; infer_instance; intro g5 _ hN7; refine kD hK (ldA (yf s.list) [_, _, _] hN7 (rfl) (rfl)) (h:=fun hHeld => ?_); refine yF 4 (h0:=fun _ hK => ?_); apply jG [] hN7; rfl; exact rfl; exact rfl; infer_instance; exact rfl; exact rfl; exact rfl; intro _ hN8; refine kD hK (ldA (yf s.list) [_, _, _] hN8 (rfl) (rfl)) (h:=fun hHeld => ?_); refine yF 5 (h0:=fun _ hK => ?_); apply jG [_] hN8; rfl; exact rfl; exact rfl; infer_instance; exact rfl; exact rfl; exact rfl; intro _ hN9; refine kD hK (ldA (yf s.list) [_, _, _] hN9 (rfl) (rfl)) (h:=fun hHeld => ?_); refine jn ?_; clear hHeld; go_wp2; go_meet; exact ⟨g5, g6, rfl, rfl, (yy (L1 := [_, _, _]) (yy (L1 := [_, _]) (yy (L1 := [_, _, _]) (yy (L1 := [_, _, _]) hN9))))⟩
  ·apply qI hD; rfl; infer_instance; intro g5 _ hN10; refine kD hK (ldA (yf s.list) [_, _] hN10 (rfl) (rfl)) (h:=fun hHeld => ?_); refine jx2 1 3 (h0:=fun _ hK => ?_) (h1:=fun _ hK => ?_)
   ·go_simp; go_at_call 114; refine jc hN10 (keys_any _) fun _ hN11 => ?_; refine kD hK (ldA (yf s.list) [_, _] hN11 (rfl) (rfl)) (h:=fun hHeld => ?_); refine yF 3 (h0:=fun _ hK => ?_); apply qI hN11; rfl; infer_instance; intro g6 _ hN12; refine kD hK (ldA (yf s.list) [_, _, _] hN12 (rfl) (rfl)) (h:=fun hHeld => ?_); refine yF 4 (h0:=fun _ hK => ?_); apply jG [_] hN12; rfl; exact rfl; exact rfl; infer_instance; exact rfl; exact rfl; exact rfl; intro _ hN13; refine kD hK (ldA (yf s.list) [_, _, _] hN13 (rfl) (rfl)) (h:=fun hHeld => ?_); refine yF 5 (h0:=fun _ hK => ?_); apply jG [] hN13; rfl; exact rfl; exact rfl; infer_instance; exact rfl; exact rfl; exact rfl; intro _ hN14; refine kD hK (ldA (yf s.list) [_, _, _] hN14 (rfl) (rfl)) (h:=fun hHeld => ?_); refine jn ?_; clear hHeld; go_wp2; go_meet; exact ⟨g5, g6, rfl, rfl, (yy (L1 := [_, _, _]) (yy (L1 := [_, _, _]) (yy (L1 := [_, _, _]) (yy (L1 := [_, _, _]) hN14))))⟩
   ·apply qI hN10; rfl; infer_instance; intro g6 _ hN15; refine kD hK (ldA (yf s.list) [_, _, _] hN15 (rfl) (rfl)) (h:=fun hHeld => ?_); refine yF 1 (h0:=fun _ hK => ?_); go_simp; go_at_call 114; refine jc hN15 (keys_any _) fun _ hN16 => ?_; refine kD hK (ldA (yf s.list) [_, _, _] hN16 (rfl) (rfl)) (h:=fun hHeld => ?_); refine yF 4 (h0:=fun _ hK => ?_); apply jG [_] hN16; rfl; exact rfl; exact rfl; infer_instance; exact rfl; exact rfl; exact rfl; intro _ hN17; refine kD hK (ldA (yf s.list) [_, _, _] hN17 (rfl) (rfl)) (h:=fun hHeld => ?_); refine yF 5 (h0:=fun _ hK => ?_); apply jG [] hN17; rfl; exact rfl; exact rfl; infer_instance; exact rfl; exact rfl; exact rfl; intro _ hN18; refine kD hK (ldA (yf s.list) [_, _, _] hN18 (rfl) (rfl)) (h:=fun hHeld => ?_); refine jn ?_; clear hHeld; go_wp2; go_meet; exact ⟨g5, g6, rfl, rfl, (yy (L1 := [_, _, _]) (yy (L1 := [_, _, _]) (yy (L1 := [_, _, _]) (yy (L1 := [_, _, _]) hN18))))⟩
  ·apply qI hD; rfl; infer_instance; intro g6 _ hN19; refine kD hK (ldA (yf s.list) [_, _] hN19 (rfl) (rfl)) (h:=fun hHeld => ?_); refine jx2 1 2 (h0:=fun _ hK => ?_) (h1:=fun _ hK => ?_)
   ·go_simp; go_at_call 114; refine jc hN19 (keys_any _) fun _ hN20 => ?_; refine kD hK (ldA (yf s.list) [_, _] hN20 (rfl) (rfl)) (h:=fun hHeld => ?_); refine yF 2 (h0:=fun _ hK => ?_); apply qI hN20; rfl; infer_instance; intro g5 _ hN21; refine kD hK (ldA (yf s.list) [_, _, _] hN21 (rfl) (rfl)) (h:=fun hHeld => ?_); refine yF 4 (h0:=fun _ hK => ?_); apply jG [] hN21; rfl; exact rfl; exact rfl; infer_instance; exact rfl; exact rfl; exact rfl; intro _ hN22; refine kD hK (ldA (yf s.list) [_, _, _] hN22 (rfl) (rfl)) (h:=fun hHeld => ?_); refine yF 5 (h0:=fun _ hK => ?_); apply jG [_] hN22; rfl; exact rfl; exact rfl; infer_instance; exact rfl; exact rfl; exact rfl; intro _ hN23; refine kD hK (ldA (yf s.list) [_, _, _] hN23 (rfl) (rfl)) (h:=fun hHeld => ?_); refine jn ?_; clear hHeld; go_wp2; go_meet; exact ⟨g5, g6, rfl, rfl, (yy (L1 := [_, _, _]) (yy (L1 := [_, _]) (yy (L1 := [_, _, _]) (yy (L1 := [_, _, _]) hN23))))⟩
   ·apply qI hN19; rfl; infer_instance; intro g5 _ hN24; refine kD hK (ldA (yf s.list) [_, _, _] hN24 (rfl) (rfl)) (h:=fun hHeld => ?_); refine yF 1 (h0:=fun _ hK => ?_); go_simp; go_at_call 114; refine jc hN24 (keys_any _) fun _ hN25 => ?_; refine kD hK (ldA (yf s.list) [_, _, _] hN25 (rfl) (rfl)) (h:=fun hHeld => ?_); refine yF 4 (h0:=fun _ hK => ?_); apply jG [] hN25; rfl; exact rfl; exact rfl; infer_instance; exact rfl; exact rfl; exact rfl; intro _ hN26; refine kD hK (ldA (yf s.list) [_, _, _] hN26 (rfl) (rfl)) (h:=fun hHeld => ?_); refine yF 5 (h0:=fun _ hK => ?_); apply jG [_] hN26; rfl; exact rfl; exact rfl; infer_instance; exact rfl; exact rfl; exact rfl; intro _ hN27; refine kD hK (ldA (yf s.list) [_, _, _] hN27 (rfl) (rfl)) (h:=fun hHeld => ?_); refine jn ?_; clear hHeld; go_wp2; go_meet; exact ⟨g5, g6, rfl, rfl, (yy (L1 := [_, _, _]) (yy (L1 := [_, _]) (yy (L1 := [_, _, _]) (yy (L1 := [_, _, _]) hN27))))⟩
 case rest =>
  clear hst2; obtain ⟨g5, g6, rfl, rfl, hst3⟩ := hcut; go_wp2_with (first | (refine yN hst3 fun g7 _ hst4 => ?_; clear hst3)); have hst5 : St w [] _ [.blk g7 172 (yf (win p 0)), .blk g6 169 (yf kT), .blk g5 117 (yf s.list), .blk g4 117 (List.replicate 8 (.int .u32 0)), .blk g2 117 (yf (rnds s p 0).list)] := hst4; clear hst4; go_loopw [16] (fun q wr => ∃ i : Nat, i ≤ 64 ∧ q = .int .i64 i ∧ St w [] wr [.blk g7 172 (yf (win p i)), .blk g6 169 (yf kT), .blk g5 117 (yf s.list), .blk g4 117 (List.replicate 8 (.int .u32 0)), .blk g2 117 (yf (rnds s p i).list)]) (fun q _ => 64 - (intOf q).toNat)
  case atStart => exact ⟨0, by omega, rfl, hst5⟩
  case round =>
   clear hst5; obtain ⟨i, hi, rfl, hst⟩ := hrel; by_cases hi64 : i < 64
   ·obtain ⟨r, hr⟩ : ∃ r, r = rnds s p i := ⟨_, rfl⟩; obtain ⟨K, hK⟩ : ∃ K, K = kT.getD i 0 := ⟨_, rfl⟩; obtain ⟨D, hD0⟩ : ∃ D, D = zK p i := ⟨_, rfl⟩; have HR := ya (show rnds s p (i + 1) = r.rnd K D by rw [hr, hK, hD0]; rfl); have HD := ya hD0; rw [← hr] at hst; have gK := ya (show (yf kT)[i]? = some (.int .u32 (wI K)) by rw [zx kT (by exact hi64), hK]); have hi2 : (i : Int) < 64 := by omega
    clear hr hK hD0; go_wp2; have hD := hst.drew; clear hst; refine wD (S := fun w' => Ld 115 g2 0 (.int .u32 (wI r.a)) w' ∧ Ld 115 g2 4 (.int .u32 (wI r.e)) w') ⟨yp [_, _, _, _] hD rfl, yp [_, _, _, _] hD rfl⟩ fun hHeld => ?_; refine jt 0 (h:=jt 1 (h:=jt 2 (h:=jt 3 (h:=jt 4 (h:=jt 5 (h:=?_)))))); refine jn ?_; clear hHeld; go_wp2; replace hD := hD.drew; refine wD (S := fun w' => Ld 115 g2 7 (.int .u32 (wI r.h)) w' ∧ Ld 115 g2 5 (.int .u32 (wI r.f)) w' ∧ Ld 115 g2 6 (.int .u32 (wI r.g)) w' ∧ Ld 115 g6 i (.int .u32 (wI K)) w') ⟨yp [_, _, _, _] hD rfl, yp [_, _, _, _] hD rfl, yp [_, _, _, _] hD rfl, yp [_] hD (gK.out)⟩ fun hHeld => ?_; refine jt 0 (h:=jt 1 (h:=jt 2 (h:=jt 4 (h:=jt 7 (h:=jt 11 (h:=jt 12 (h:=jt 13 (h:=jt 14 (h:=jt 15 (h:=jt 16 (h:=jt 17 (h:=jt 18 (h:=jt 19 (h:=jt 20 (h:=jt 22 (h:=jt 23 (h:=jt 24 (h:=jt 26 (h:=jt 27 (h:=?_)))))))))))))))))))); refine yF 3 (h0:=fun _ hK => ?_); go_simp; go_at_call 115; refine (right_6 _ _).mono ?_; rintro _ _ ⟨rfl, rfl⟩; refine kD hK ⟨yp [_, _, _, _] hD rfl, yp [_, _, _, _] hD rfl, yp [_, _, _, _] hD rfl, yp [_] hD (gK.out)⟩ (h:=fun hHeld => ?_); refine yF 5 (h0:=fun _ hK => ?_); go_simp; go_at_call 115; refine (right_11 _ _).mono ?_; rintro _ _ ⟨rfl, rfl⟩; refine kD hK ⟨yp [_, _, _, _] hD rfl, yp [_, _, _, _] hD rfl, yp [_, _, _, _] hD rfl, yp [_] hD (gK.out)⟩ (h:=fun hHeld => ?_); refine jt 6 (h:=?_); refine yF 8 (h0:=fun _ hK => ?_); go_simp; go_at_call 115; refine (right_25 _ _).mono ?_; rintro _ _ ⟨rfl, rfl⟩; refine kD hK ⟨yp [_, _, _, _] hD rfl, yp [_, _, _, _] hD rfl, yp [_, _, _, _] hD rfl, yp [_] hD (gK.out)⟩ (h:=fun hHeld => ?_); refine jt 9 (h:=jt 10 (h:=jt 21 (h:=jt 25 (h:=?_)))); refine yF 28 (h0:=fun _ hK => ?_); go_simp; go_at_call 116; refine (word_any g7 b off c i p _ (hD.all _ zH) (Rd.old hD hp) Hl.out hi64 (St.ne_new hD zH hb)).mono ?_; rw [← HD]; rintro _ _ ⟨rfl, h4⟩; have hE := qp [] hD h4; clear h4; refine kD hK ⟨yp [_, _, _, _] hE rfl, yp [_, _, _, _] hE rfl, yp [_, _, _, _] hE rfl, yp [_] hE (gK.out)⟩ (h:=fun hHeld => ?_); refine jt 29 (h:=jt 30 (h:=?_)); refine jn ?_; clear hHeld; go_wp2; have hF := hE.drew; clear hE; refine wD (S := fun w' => Ld 115 g2 1 (.int .u32 (wI r.b)) w' ∧ Ld 115 g2 2 (.int .u32 (wI r.c)) w') ⟨yp [_, _, _, _] hF rfl, yp [_, _, _, _] hF rfl⟩ fun hHeld => ?_; refine jt 0 (h:=jt 2 (h:=jt 5 (h:=jt 8 (h:=jt 9 (h:=jt 10 (h:=jt 11 (h:=jt 12 (h:=jt 13 (h:=jt 14 (h:=jt 15 (h:=jt 16 (h:=jt 17 (h:=jt 18 (h:=jt 19 (h:=jt 20 (h:=jt 21 (h:=jt 22 (h:=?_)))))))))))))))))); refine yF 1 (h0:=fun _ hK => ?_); go_simp; go_at_call 115; refine (right_2 _ _).mono ?_; rintro _ _ ⟨rfl, rfl⟩; refine kD hK ⟨yp [_, _, _, _] hF rfl, yp [_, _, _, _] hF rfl⟩ (h:=fun hHeld => ?_); refine yF 3 (h0:=fun _ hK => ?_); go_simp; go_at_call 115; refine (right_13 _ _).mono ?_; rintro _ _ ⟨rfl, rfl⟩; refine kD hK ⟨yp [_, _, _, _] hF rfl, yp [_, _, _, _] hF rfl⟩ (h:=fun hHeld => ?_); refine jt 4 (h:=?_); refine yF 6 (h0:=fun _ hK => ?_); go_simp; go_at_call 115; refine (right_22 _ _).mono ?_; rintro _ _ ⟨rfl, rfl⟩; refine kD hK ⟨yp [_, _, _, _] hF rfl, yp [_, _, _, _] hF rfl⟩ (h:=fun hHeld => ?_); refine jt 7 (h:=jt 23 (h:=jt 24 (h:=?_))); refine jn ?_; clear hHeld; go_wp2_with (first | (refine jl (Loads.at [_, _, _, _] hF rfl) ?_) | (apply yH [(0, .int .u32 _), (1, .int .u32 _), (2, .int .u32 _), (3, .int .u32 _), (4, .int .u32 _), (5, .int .u32 _), (6, .int .u32 _), (7, .int .u32 _)]; rfl; rfl; exact rfl; exact bld8 _ _ _ _ _ _ _ _) | (refine ji [_, _, _, _] hF fun w11 hst11 => ?_; clear hF)); have hst12 : St w [] w11 [.blk g7 172 (yf (win p (i + 1))), .blk g6 169 (yf kT), .blk g5 117 (yf s.list), .blk g4 117 (List.replicate 8 (.int .u32 0)), .blk g2 117 (yf (r.rnd K D).list)] := hst11; rw [← HR] at hst12; clear hst11; go_roundw
    case rel => exact ⟨i + 1, by omega, by go_num, hst12⟩
    case measure => simp [intOf]; omega
   ·have e : i = 64 := by omega
    subst e; rw [show ((64 : Nat) : Int) = 64 from rfl]; clear hi hi64; obtain ⟨r, hr⟩ : ∃ r, r = rnds s p 64 := ⟨_, rfl⟩; obtain ⟨F, hF⟩ : ∃ F, F = r.add s := ⟨_, rfl⟩; have HR := ya (show s.turn p = F by rw [hF, hr]; rfl); have HF := ya hF; rw [← hr] at hst; clear hr hF; have hst0 : St w [] wr [.blk g7 172 (yf (win p 64)), .blk g6 169 (yf kT), .blk g5 117 (yf s.list), .blk g4 117 (List.replicate 8 (.int .u32 0)), .blk g2 117 (yf (qs r.list s.list 0))] := hst; clear hst; go_wp2; go_loopw [96] (fun q wr => ∃ j : Nat, j ≤ 8 ∧ q = .int .i64 j ∧ St w [] wr [.blk g7 172 (yf (win p 64)), .blk g6 169 (yf kT), .blk g5 117 (yf s.list), .blk g4 117 (List.replicate 8 (.int .u32 0)), .blk g2 117 (yf (qs r.list s.list j))]) (fun q _ => 8 - (intOf q).toNat)
    case atStart => exact ⟨0, by omega, rfl, hst0⟩
    case round =>
     clear hst0; obtain ⟨j, hj, rfl, hst⟩ := hrel; by_cases hj8 : j < 8
     ·have hjz : (j : Int) < 8 := by omega
      have hlr : (qs r.list s.list j).length = 8 := length_addP _ _ _; obtain ⟨A, hA⟩ : ∃ A, A = r.list.getD j 0 := ⟨_, rfl⟩; obtain ⟨B, hB⟩ : ∃ A, A = s.list.getD j 0 := ⟨_, rfl⟩; have gA := ya (show (yf (qs r.list s.list j))[j]? = some (.int .u32 (wI A)) by rw [zx _ (by omega), addP_get _ _ _ _ (Nat.le_refl _), hA]); have gB := ya (show (yf s.list)[j]? = some (.int .u32 (wI B)) by rw [zx _ (by exact hj8), hB]); have HA2 := ya (show (qs r.list s.list j).set j (A + B) = qs r.list s.list (j + 1) by rw [hA, hB]; rfl); have Hlr := ya hlr; clear hA hB hlr; go_wp2; have hD := hst.drew; clear hst; refine jU (S := (fun w' => (yn 115 ⟨g2, j, none⟩).run Tryz.prog w' = .ok (.int .u32 (wI A)) w' ∧ (yn 115 ⟨g5, j, none⟩).run Tryz.prog w' = .ok (.int .u32 (wI B)) w')) (by kernel_rfl) rfl (by kernel_rfl) (by exact ⟨yp [_, _, _, _] hD (gA.out), yp [_, _] hD (gB.out)⟩) (fun hHeld => ?_); simp only [List.pop_toArray, List.dropLast, List.size_toArray, List.length_cons, List.length_nil]; refine jt 0 (h:=jt 1 (h:=jt 2 (h:=jt 3 (h:=jt 4 (h:=jt 5 (h:=jt 6 (h:=jt 7 (h:=?_)))))))); refine jn ?_; clear hHeld; refine yaG ?_; refine ye [_, _, _, _] hD rfl rfl rfl (v := .int .u32 (wI (A + B))) rfl rfl rfl (by rw [jm, Hlr]; show j + 1 ≤ 8; omega) ?_; intro w1 h1; have h2 := st_setL [_, _, _, _] (by rw [Hlr]; exact hj8) h1; rw [HA2] at h2; clear h1 hD; (try simp only [pL]); go_wp2; go_roundw
      case rel => exact ⟨j + 1, by omega, by go_num, h2⟩
      case measure => simp [intOf]; omega
     ·have e : j = 8 := by omega
      subst e; rw [addP_all, ← HF] at hst; go_wp2_with (first | (refine jl (yl (yf F.list) [_, _, _, _] hst (rfl) (rfl)) ?_) | (refine ji [_, _, _] hst fun w12 hst12 => ?_; clear hst)); have hl := yl (P := Tryz.prog) (off := 0) (T := 117) (yf F.list) [_, _, _] hst12 rfl rfl; refine bodyPost_ret (yW rfl rfl hl) rfl ⟨by rw [HR], hst12.nil⟩
end
def qN (p : List UInt8) (k : Nat) : List Wd := wds p k ++ List.replicate (64 - k) 0
theorem qS (p : List UInt8) {k : Nat} (h : k ≤ 64) : (qN p k).length = 64 := by
 simp [qN, jL]; omega
theorem fillW_get (p : List UInt8) {k j : Nat} (h : j < k) : (qN p k).getD j 0 = zK p j := by
 rw [← wds_get p h]; simp only [qN, List.getD]; rw [List.getElem?_append_left (by rw [jL]; exact h)]
theorem fillW_set (p : List UInt8) {k : Nat} (h : k < 64) : (qN p k).set k (zK p k) = qN p (k + 1) := by
 unfold qN; have e : List.replicate (64 - k) (0 : Wd) = 0 :: List.replicate (64 - (k + 1)) 0 := by
  rw [show 64 - k = (64 - (k + 1)) + 1 by omega, List.replicate_succ]
 rw [e, List.set_append_right _ _ (by rw [jL]; exact Nat.le_refl _), jL, Nat.sub_self, List.set_cons_zero, wds]; simp [zK]
section
attribute [local go_sem ↓] loadedB loadedW storedW conv8
attribute [local go_sem 5000] add32 and32 or32 xor32 not32 shl8u64e shl16u64e shl24u64e shr3u64e shr10u64e
theorem jx (x : Wd) (n : Nat) (w : World) (h0 : 0 < n) (h32 : n < 32) : Calls Tryz.prog 170 #[.int .u32 (wI x), .int .i64 (n : Int)] w fun e w' => e = .returned (.int .u32 (wI (jd x n))) ∧ St w [] w' [] := by
 have hst := St.refl w; obtain ⟨m, hm⟩ : ∃ m, m = 32 - n := ⟨_, rfl⟩; have h2 : IntKind.i64.wrap (32 - (n : Int)) = (m : Int) := by rw [IntWalk.i64_in _ (by omega)]; omega
 have e1 : ∀ T, binOp .shl T (.int .u32 (wI x)) (.int .i64 (m : Int)) = pure (.int .u32 (wI (x <<< m))) := fun T => shlN T x .i64 m (by omega); have e2 : ∀ T, binOp .shr T (.int .u32 (wI x)) (.int .i64 (n : Int)) = pure (.int .u32 (wI (x >>> n))) := fun T => shrN T x .i64 n (by omega); have Hr := ya (show x >>> n ||| x <<< m = jd x n by rw [hm, jd]); clear hm; go_enter Tryz.func170, Tryz.ntmps170; go_wp2; have hD := hst.drew; clear hst; refine wD (S := fun w' => True) trivial fun hHeld => ?_; refine jt 0 (h:=jt 1 (h:=jt 2 (h:=jt 3 (h:=jt 4 (h:=jt 5 (h:=jt 6 (h:=jt 7 (h:=jt 8 (h:=?_))))))))); refine jn ?_; clear hHeld; go_wp2; go_ret; rw [Hr]; exact ⟨rfl, hD⟩
theorem refRight_2 (x : Wd) (w : World) : Calls Tryz.prog 170 #[.int .u32 (wI x), .int .i64 2] w fun e w1 => e = .returned (.int .u32 (wI (jd x 2))) ∧ St w [] w1 [] := jx x 2 w (by decide) (by decide)
theorem refRight_6 (x : Wd) (w : World) : Calls Tryz.prog 170 #[.int .u32 (wI x), .int .i64 6] w fun e w1 => e = .returned (.int .u32 (wI (jd x 6))) ∧ St w [] w1 [] := jx x 6 w (by decide) (by decide)
theorem refRight_7 (x : Wd) (w : World) : Calls Tryz.prog 170 #[.int .u32 (wI x), .int .i64 7] w fun e w1 => e = .returned (.int .u32 (wI (jd x 7))) ∧ St w [] w1 [] := jx x 7 w (by decide) (by decide)
theorem refRight_11 (x : Wd) (w : World) : Calls Tryz.prog 170 #[.int .u32 (wI x), .int .i64 11] w fun e w1 => e = .returned (.int .u32 (wI (jd x 11))) ∧ St w [] w1 [] := jx x 11 w (by decide) (by decide)
theorem refRight_13 (x : Wd) (w : World) : Calls Tryz.prog 170 #[.int .u32 (wI x), .int .i64 13] w fun e w1 => e = .returned (.int .u32 (wI (jd x 13))) ∧ St w [] w1 [] := jx x 13 w (by decide) (by decide)
theorem refRight_17 (x : Wd) (w : World) : Calls Tryz.prog 170 #[.int .u32 (wI x), .int .i64 17] w fun e w1 => e = .returned (.int .u32 (wI (jd x 17))) ∧ St w [] w1 [] := jx x 17 w (by decide) (by decide)
theorem refRight_18 (x : Wd) (w : World) : Calls Tryz.prog 170 #[.int .u32 (wI x), .int .i64 18] w fun e w1 => e = .returned (.int .u32 (wI (jd x 18))) ∧ St w [] w1 [] := jx x 18 w (by decide) (by decide)
theorem refRight_19 (x : Wd) (w : World) : Calls Tryz.prog 170 #[.int .u32 (wI x), .int .i64 19] w fun e w1 => e = .returned (.int .u32 (wI (jd x 19))) ∧ St w [] w1 [] := jx x 19 w (by decide) (by decide)
theorem refRight_22 (x : Wd) (w : World) : Calls Tryz.prog 170 #[.int .u32 (wI x), .int .i64 22] w fun e w1 => e = .returned (.int .u32 (wI (jd x 22))) ∧ St w [] w1 [] := jx x 22 w (by decide) (by decide)
theorem refRight_25 (x : Wd) (w : World) : Calls Tryz.prog 170 #[.int .u32 (wI x), .int .i64 25] w fun e w1 => e = .returned (.int .u32 (wI (jd x 25))) ∧ St w [] w1 [] := jx x 25 w (by decide) (by decide)
theorem words_any (p : List UInt8) (b off c : Nat) (w : World) (hp : Rd w (.slice (some ⟨b, off, none⟩) 64 c) 1 64 (yb p)) (hl : p.length = 64) :
  Calls Tryz.prog 169 #[.slice (some ⟨b, off, none⟩) 64 c] w fun e w' => e = .returned (.agg (yf (wds p 64)).toArray) ∧ St w [] w' [] := by
 have hst := St.refl w; obtain ⟨b', off', hbo, hr⟩ := hp.at (k := 0) (by omega); cases hbo; have Hl := ya hl; have Hr := ya (show ∀ k, k < 64 → w.cell? ⟨b, off + k, none⟩ = some (.int .u8 ((p.getD k 0).toNat : Int)) from fun k hk => ya5 hr (by omega)); clear hl hr; go_enter Tryz.func169, Tryz.ntmps169; go_wp2_with (first | (refine yN hst fun g2 _ hst1 => ?_; clear hst) | (refine yN hst1 fun g3 _ hst2 => ?_; clear hst1)); have hst3 : St w [] _ [.blk g3 169 (yf (qN p 0)), .blk g2 169 (List.replicate 64 (.int .u32 0))] := hst2; clear hst2; go_loopw [4] (fun q wr => ∃ k : Nat, k ≤ 16 ∧ q = .int .i64 k ∧ St w [] wr [.blk g3 169 (yf (qN p k)), .blk g2 169 (List.replicate 64 (.int .u32 0))]) (fun q _ => 16 - (intOf q).toNat)
 case atStart => exact ⟨0, by omega, rfl, hst3⟩
 case round =>
  clear hst3; obtain ⟨k, hk, rfl, hst⟩ := hrel; by_cases hk16 : k < 16
  ·skip
   obtain ⟨x0, h0⟩ : ∃ x, x = p.getD (4 * k) 0 := ⟨_, rfl⟩; have k0 := ya (show w.cell? ⟨b, off + 4 * k, none⟩ = some (.int .u8 (x0.toNat : Int)) by rw [h0]; exact Hr.out _ (by omega)); have z0 : IntKind.i64.wrap (4 * (k : Int)) = 4 * (k : Int) := IntWalk.i64_in _ (by omega); have n0 : (4 * (k : Int)).toNat = 4 * k := by omega
   have b0 : 4 * (k : Int) < 64 := by omega
   have c0 : 0 ≤ 4 * (k : Int) := by omega
   obtain ⟨x1, h1⟩ : ∃ x, x = p.getD (4 * k + 1) 0 := ⟨_, rfl⟩; have k1 := ya (show w.cell? ⟨b, off + (4 * k + 1), none⟩ = some (.int .u8 (x1.toNat : Int)) by rw [h1]; exact Hr.out _ (by omega)); have z1 : IntKind.i64.wrap (4 * (k : Int) + 1) = 4 * (k : Int) + 1 := IntWalk.i64_in _ (by omega); have n1 : (4 * (k : Int) + 1).toNat = 4 * k + 1 := by omega
   have b1 : 4 * (k : Int) + 1 < 64 := by omega
   have c1 : 0 ≤ 4 * (k : Int) + 1 := by omega
   obtain ⟨x2, h2⟩ : ∃ x, x = p.getD (4 * k + 2) 0 := ⟨_, rfl⟩; have k2 := ya (show w.cell? ⟨b, off + (4 * k + 2), none⟩ = some (.int .u8 (x2.toNat : Int)) by rw [h2]; exact Hr.out _ (by omega)); have z2 : IntKind.i64.wrap (4 * (k : Int) + 2) = 4 * (k : Int) + 2 := IntWalk.i64_in _ (by omega); have n2 : (4 * (k : Int) + 2).toNat = 4 * k + 2 := by omega
   have b2 : 4 * (k : Int) + 2 < 64 := by omega
   have c2 : 0 ≤ 4 * (k : Int) + 2 := by omega
   obtain ⟨x3, h3⟩ : ∃ x, x = p.getD (4 * k + 3) 0 := ⟨_, rfl⟩; have k3 := ya (show w.cell? ⟨b, off + (4 * k + 3), none⟩ = some (.int .u8 (x3.toNat : Int)) by rw [h3]; exact Hr.out _ (by omega)); have z3 : IntKind.i64.wrap (4 * (k : Int) + 3) = 4 * (k : Int) + 3 := IntWalk.i64_in _ (by omega); have n3 : (4 * (k : Int) + 3).toNat = 4 * k + 3 := by omega
   have b3 : 4 * (k : Int) + 3 < 64 := by omega
   have c3 : 0 ≤ 4 * (k : Int) + 3 := by omega
   have Hx := ya (show (BitVec.ofNat 32 x0.toNat <<< 24 ||| BitVec.ofNat 32 x1.toNat <<< 16 ||| BitVec.ofNat 32 x2.toNat <<< 8 ||| BitVec.ofNat 32 x3.toNat : Wd) = zK p k by rw [wdAt_lo p hk16, h0, h1, h2, h3]; rfl); have Hf := ya (qS p (show k ≤ 64 by omega)); have hk64 : (k : Int) < 64 := by omega
   clear h0 h1 h2 h3; go_wp2; have hD := hst.drew; clear hst; refine jU (S := (fun w' => (yn 5 ⟨b, off + 4 * k, none⟩).run Tryz.prog w' = .ok (.int .u8 (x0.toNat : Int)) w' ∧ (yn 5 ⟨b, off + (4 * k + 1), none⟩).run Tryz.prog w' = .ok (.int .u8 (x1.toNat : Int)) w' ∧ (yn 5 ⟨b, off + (4 * k + 2), none⟩).run Tryz.prog w' = .ok (.int .u8 (x2.toNat : Int)) w' ∧ (yn 5 ⟨b, off + (4 * k + 3), none⟩).run Tryz.prog w' = .ok (.int .u8 (x3.toNat : Int)) w')) (by kernel_rfl) rfl (by kernel_rfl) (by exact ⟨ldO hD (k0.out), ldO hD (k1.out), ldO hD (k2.out), ldO hD (k3.out)⟩) (fun hHeld => ?_); simp only [List.pop_toArray, List.dropLast, List.size_toArray, List.length_cons, List.length_nil]; refine jt 0 (h:=jt 1 (h:=jt 2 (h:=jt 3 (h:=jt 4 (h:=jt 5 (h:=jt 6 (h:=jt 7 (h:=jt 8 (h:=jt 9 (h:=jt 10 (h:=jt 11 (h:=jt 12 (h:=jt 13 (h:=jt 14 (h:=jt 15 (h:=jt 16 (h:=jt 17 (h:=jt 18 (h:=jt 19 (h:=jt 20 (h:=jt 21 (h:=jt 22 (h:=jt 23 (h:=jt 24 (h:=jt 25 (h:=jt 26 (h:=jt 27 (h:=jt 28 (h:=jt 29 (h:=jt 30 (h:=jt 31 (h:=jt 32 (h:=jt 33 (h:=jt 34 (h:=?_))))))))))))))))))))))))))))))))))); refine jn ?_; clear hHeld; refine yaG ?_; refine ye [] hD rfl rfl rfl (v := .int .u32 (wI (zK p k))) (by rw [← Hx]; exact rfl) rfl rfl (by rw [jm, Hf]; show k + 1 ≤ 64; omega) ?_; intro w1 h1; have h2 := st_setL [] (by rw [Hf]; omega) h1; rw [fillW_set p (by omega)] at h2; clear h1 hD; (try simp only [pL]); go_wp2; go_roundw
   case rel => exact ⟨k + 1, by omega, by go_num, h2⟩
   case measure => simp [intOf]; omega
  ·have e : k = 16 := by omega
   subst e; rw [show ((16 : Nat) : Int) = 16 from rfl]; clear hk hk16; go_wp2; go_loopw [5] (fun q wr => ∃ k : Nat, 16 ≤ k ∧ k ≤ 64 ∧ q = .int .i64 k ∧ St w [] wr [.blk g3 169 (yf (qN p k)), .blk g2 169 (List.replicate 64 (.int .u32 0))]) (fun q _ => 64 - (intOf q).toNat)
   case atStart => exact ⟨16, by omega, by omega, rfl, hst⟩
   case round =>
    clear hst; obtain ⟨k, hk0, hk, rfl, hst⟩ := hrel; by_cases hk64 : k < 64
    ·skip
     obtain ⟨C, hC⟩ : ∃ x, x = zK p (k - 16) := ⟨_, rfl⟩; have gC := ya (show (yf (qN p k))[k - 16]? = some (.int .u32 (wI C)) by rw [zx _ (by rw [qS p hk]; omega), fillW_get p (by omega), hC]); have w16 : IntKind.i64.wrap ((k : Int) - 16) = ((k - 16 : Nat) : Int) := by rw [IntWalk.i64_in _ (by omega)]; omega
     have b16 : ((k - 16 : Nat) : Int) < 64 := by omega
     obtain ⟨X, hX⟩ : ∃ x, x = zK p (k - 15) := ⟨_, rfl⟩; have gX := ya (show (yf (qN p k))[k - 15]? = some (.int .u32 (wI X)) by rw [zx _ (by rw [qS p hk]; omega), fillW_get p (by omega), hX]); have w15 : IntKind.i64.wrap ((k : Int) - 15) = ((k - 15 : Nat) : Int) := by rw [IntWalk.i64_in _ (by omega)]; omega
     have b15 : ((k - 15 : Nat) : Int) < 64 := by omega
     obtain ⟨Z, hZ⟩ : ∃ x, x = zK p (k - 7) := ⟨_, rfl⟩; have gZ := ya (show (yf (qN p k))[k - 7]? = some (.int .u32 (wI Z)) by rw [zx _ (by rw [qS p hk]; omega), fillW_get p (by omega), hZ]); have w7 : IntKind.i64.wrap ((k : Int) - 7) = ((k - 7 : Nat) : Int) := by rw [IntWalk.i64_in _ (by omega)]; omega
     have b7 : ((k - 7 : Nat) : Int) < 64 := by omega
     obtain ⟨Y, hY⟩ : ∃ x, x = zK p (k - 2) := ⟨_, rfl⟩; have gY := ya (show (yf (qN p k))[k - 2]? = some (.int .u32 (wI Y)) by rw [zx _ (by rw [qS p hk]; omega), fillW_get p (by omega), hY]); have w2 : IntKind.i64.wrap ((k : Int) - 2) = ((k - 2 : Nat) : Int) := by rw [IntWalk.i64_in _ (by omega)]; omega
     have b2 : ((k - 2 : Nat) : Int) < 64 := by omega
     have HW := ya (show C + sg0 X + Z + sg1 Y = zK p k by rw [wdAt_hi p hk0, hC, hX, hY, hZ]); have Hf := ya (qS p hk); have bk : (k : Int) < 64 := by omega
     clear hC hX hY hZ; go_wp2; have hD := hst.drew; clear hst; refine wD (S := fun w' => Ld 115 g3 (k - 15) (.int .u32 (wI X)) w' ∧ Ld 115 g3 (k - 2) (.int .u32 (wI Y)) w') ⟨yp [] hD (gX.out), yp [] hD (gY.out)⟩ fun hHeld => ?_; refine jt 0 (h:=jt 1 (h:=jt 2 (h:=jt 3 (h:=jt 4 (h:=jt 5 (h:=jt 6 (h:=jt 7 (h:=jt 8 (h:=jt 9 (h:=?_)))))))))); refine jn ?_; clear hHeld; go_wp2; replace hD := hD.drew; refine jU (S := (fun w' => (yn 115 ⟨g3, k - 16, none⟩).run Tryz.prog w' = .ok (.int .u32 (wI C)) w' ∧ (yn 115 ⟨g3, k - 7, none⟩).run Tryz.prog w' = .ok (.int .u32 (wI Z)) w')) (by kernel_rfl) rfl (by kernel_rfl) (by exact ⟨yp [] hD (gC.out), yp [] hD (gZ.out)⟩) (fun hHeld => ?_); simp only [List.pop_toArray, List.dropLast, List.size_toArray, List.length_cons, List.length_nil]; refine jt 0 (h:=jt 1 (h:=jt 2 (h:=jt 3 (h:=jt 4 (h:=jt 5 (h:=jt 7 (h:=jt 10 (h:=jt 11 (h:=jt 14 (h:=jt 15 (h:=jt 16 (h:=jt 17 (h:=jt 19 (h:=jt 21 (h:=jt 24 (h:=jt 25 (h:=?_))))))))))))))))); refine yF 6 (h0:=fun K hK => ?_); go_simp; go_at_call 170; refine jc hD (refRight_7 _ _) fun _ hR1 => ?_; refine kD hK ⟨yp [] hR1 (gC.out), yp [] hR1 (gZ.out)⟩ (h:=fun hHeld => ?_); refine yF 8 (h0:=fun K hK => ?_); go_simp; go_at_call 170; refine jc hR1 (refRight_18 _ _) fun _ hR2 => ?_; refine kD hK ⟨yp [] hR2 (gC.out), yp [] hR2 (gZ.out)⟩ (h:=fun hHeld => ?_); refine jt 9 (h:=jt 12 (h:=jt 13 (h:=jt 18 (h:=?_)))); refine yF 20 (h0:=fun K hK => ?_); go_simp; go_at_call 170; refine jc hR2 (refRight_17 _ _) fun _ hR3 => ?_; refine kD hK ⟨yp [] hR3 (gC.out), yp [] hR3 (gZ.out)⟩ (h:=fun hHeld => ?_); refine yF 22 (h0:=fun K hK => ?_); go_simp; go_at_call 170; refine jc hR3 (refRight_19 _ _) fun _ hR4 => ?_; refine kD hK ⟨yp [] hR4 (gC.out), yp [] hR4 (gZ.out)⟩ (h:=fun hHeld => ?_); refine jt 23 (h:=jt 26 (h:=jt 27 (h:=jt 28 (h:=?_)))); refine jn ?_; clear hHeld; refine yaG ?_; refine ye [] hR4 rfl rfl rfl (v := .int .u32 (wI (zK p k))) (by rw [← HW]; exact rfl) rfl rfl (by rw [jm, Hf]; show k + 1 ≤ 64; omega) ?_; intro w1 h1; have h2 := st_setL [] (by rw [Hf]; omega) h1; rw [fillW_set p (by omega)] at h2; clear h1; (try simp only [pL]); go_wp2; go_roundw
     case rel => exact ⟨k + 1, by omega, by omega, by go_num, h2⟩
     case measure => simp [intOf]; omega
    ·have e : k = 64 := by omega
     subst e; have e2 : qN p 64 = wds p 64 := by simp [qN]
     rw [e2] at hst; obtain ⟨F, hF⟩ : ∃ F, F = wds p 64 := ⟨_, rfl⟩; have HF := ya hF; have Hlen := ya (show (yf F).length = 64 by rw [jm, hF, jL]); rw [← hF] at hst; clear hF e2 hk0 hk hk64; go_wp2_with (first | (refine jl (yl (yf F) [] hst (Hlen.out) (by rw [List.drop_zero, List.take_length])) ?_) | (refine yx [_] hst rfl rfl rfl rfl Hlen.out (ones_words _) rfl ?_; intro w12 hst12; clear hst)); have hl := yl (P := Tryz.prog) (off := 0) (T := 169) (yf F) [_] hst12 Hlen.out (by rw [List.drop_zero, List.take_length]); refine bodyPost_ret (yW rfl rfl hl) rfl ⟨by rw [HF], hst12.nil⟩
end
theorem bld8A (a b c d e f g h : Int) : Tryz.prog.built 116 [(0, .int .u32 a), (1, .int .u32 b), (2, .int .u32 c), (3, .int .u32 d), (4, .int .u32 e), (5, .int .u32 f), (6, .int .u32 g), (7, .int .u32 h)] = some #[.int .u32 a, .int .u32 b, .int .u32 c, .int .u32 d, .int .u32 e, .int .u32 f, .int .u32 g, .int .u32 h] := by kernel_rfl
def zS : S8 := ⟨0, 0, 0, 0, 0, 0, 0, 0⟩
instance hyB36 : TyB Tryz.prog 116 (yf zS.list) := ⟨by kernel_rfl⟩
def turnOut (s : S8) (p : List UInt8) (w : World) (e : Ending) (w' : World) : Prop :=
 (if p.length = 64 then e = .returned (.tuple #[.agg (yf (s.turn p).list).toArray, .int .i64 0]) else e = .returned (.tuple #[.agg (yf zS.list).toArray, .int .i64 2])) ∧ St w [] w' []
theorem refTurn_no (s : S8) (p : List UInt8) (ao : Option Addr) (n c : Nat) (w : World) (hl : p.length = n) (hn : n ≠ 64) :
  Calls Tryz.prog 167 #[.agg (yf s.list).toArray, .slice ao n c] w (turnOut s p w) := by
 have hst := St.refl w; have d : ((n : Int) != 64) = true := by simp; omega
 have Hn := ya hn; have Hl := ya hl; clear hn hl; go_enter Tryz.func167, Tryz.ntmps167; go_wp2_with (first | (refine zj hst fun g2 _ hst1 => ?_; clear hst) | (refine yN hst1 fun g4 _ hst2 => ?_; clear hst1) | (refine jP rfl rfl ?_) | (refine ji [] hst2 fun _ hst3 => ?_; clear hst2)); have hl := yl (P := Tryz.prog) (off := 0) (T := 116) (yf zS.list) [] hst3 rfl rfl; refine bodyPost_ret (j4 rfl rfl hl) rfl ?_; unfold turnOut; rw [if_neg (by rw [Hl.out]; exact Hn.out)]; exact ⟨rfl, hst3.nil⟩
theorem start_any (w : World) : Calls Tryz.prog 59 #[] w fun e w' => e = .returned (.agg (yf S8.start.list).toArray) ∧ St w [] w' [] := by
 have hst := St.refl w; go_enter Tryz.func59, Tryz.ntmps59; go_wp2_with (first | (refine yN hst fun g _ hst1 => ?_; clear hst) | (refine wl_buildS (cs := yf S8.start.list) rfl rfl (by kernel_rfl) ?_) | (refine ji [] hst1 fun _ hst2 => ?_; clear hst1)); have hl := yl (P := Tryz.prog) (off := 0) (T := 116) (yf S8.start.list) [] hst2 rfl rfl; refine bodyPost_ret (yW rfl rfl hl) rfl ⟨rfl, hst2.nil⟩
theorem refStart_any (w : World) : Calls Tryz.prog 165 #[] w fun e w' => e = .returned (.agg (yf S8.start.list).toArray) ∧ St w [] w' [] := by
 have hst := St.refl w; go_enter Tryz.func165, Tryz.ntmps165; go_wp2_with (first | (refine yN hst fun g _ hst1 => ?_; clear hst) | (refine wl_buildS (cs := yf S8.start.list) rfl rfl (by kernel_rfl) ?_) | (refine ji [] hst1 fun _ hst2 => ?_; clear hst1)); have hl := yl (P := Tryz.prog) (off := 0) (T := 116) (yf S8.start.list) [] hst2 rfl rfl; refine bodyPost_ret (yW rfl rfl hl) rfl ⟨rfl, hst2.nil⟩
section
attribute [local go_sem ↓] loadedB loadedW storedW conv8
attribute [local go_sem 5000] add32 and32 or32 xor32 not32 shl8u64e shl16u64e shl24u64e shr3u64e shr10u64e
theorem refTurn_yes (s : S8) (p : List UInt8) (b off c : Nat) (w : World) (hp : Rd w (.slice (some ⟨b, off, none⟩) 64 c) 1 64 (yb p)) (hl : p.length = 64) :
  Calls Tryz.prog 167 #[.agg (yf s.list).toArray, .slice (some ⟨b, off, none⟩) 64 c] w (turnOut s p w) := by
 have hst := St.refl w; have Hl := ya hl; clear hl; obtain ⟨V, hV⟩ : ∃ V, V = wds p 64 := ⟨_, rfl⟩; have HV := ya (show ∀ j, j < 64 → (yf V)[j]? = some (.int .u32 (wI (zK p j))) from fun j hj => by rw [hV, zx _ (by rw [jL]; exact hj), wds_get p hj]); have HVl := ya (show (yf V).length = 64 by rw [hV, jm, jL]); have HV2 := ya hV; clear hV; go_enter Tryz.func167, Tryz.ntmps167; go_wp2_with (first | (refine jl (yl (yf s.list) [_, _, _] hst8 (rfl) (rfl)) ?_) | (refine zj hst fun g2 _ hst1 => ?_; clear hst) | (refine yN hst1 fun g4 _ hst2 => ?_; clear hst1) | (go_at_call 168; refine jc hst2 (table_any _) fun _ hst3 => ?_; clear hst2) | (go_at_call 169; refine (words_any p b off c _ (Rd.old hst3 hp) Hl.out).mono ?_; rw [← HV2]; rintro _ _ ⟨rfl, h4⟩; have hst4 := St.call0 hst3 h4; clear h4 hst3) | (refine yN hst4 fun g6 _ hst5 => ?_; clear hst4) | (refine yN hst5 fun g7 _ hst6 => ?_; clear hst5) | (refine ji [_] hst6 fun _ hst7 => ?_; clear hst6) | (refine yx [] hst7 rfl rfl rfl rfl HVl.out (ones_words _) rfl ?_; intro _ hst8; clear hst7) | (refine yN hst8 fun g8 _ hst9 => ?_; clear hst8) | (refine ji [] hst9 fun _ hst10 => ?_; clear hst9)); have hst11 : St w [] _ [.blk g8 116 (yf (rnds s p 0).list), .blk g7 169 (yf V), .blk g6 169 (yf kT), .blk g4 116 (List.replicate 8 (.int .u32 0)), .blk g2 116 (yf s.list)] := hst10; clear hst10; go_loopw [9] (fun q wr => ∃ i : Nat, i ≤ 64 ∧ q = .int .i64 i ∧ St w [] wr [.blk g8 116 (yf (rnds s p i).list), .blk g7 169 (yf V), .blk g6 169 (yf kT), .blk g4 116 (List.replicate 8 (.int .u32 0)), .blk g2 116 (yf s.list)]) (fun q _ => 64 - (intOf q).toNat)
 case atStart => exact ⟨0, by omega, rfl, hst11⟩
 case round =>
  clear hst11; obtain ⟨i, hi, rfl, hst⟩ := hrel; by_cases hi64 : i < 64
  ·obtain ⟨r, hr⟩ : ∃ r, r = rnds s p i := ⟨_, rfl⟩; obtain ⟨K, hK⟩ : ∃ K, K = kT.getD i 0 := ⟨_, rfl⟩; obtain ⟨D, hD0⟩ : ∃ D, D = zK p i := ⟨_, rfl⟩; have HR := ya (show rnds s p (i + 1) = r.rnd K D by rw [hr, hK, hD0]; rfl); rw [← hr] at hst; have gK := ya (show (yf kT)[i]? = some (.int .u32 (wI K)) by rw [zx kT (by exact hi64), hK]); have gD := ya (show (yf V)[i]? = some (.int .u32 (wI D)) by rw [hD0]; exact HV.out i hi64); have hi2 : (i : Int) < 64 := by omega
   clear hr hK hD0; go_wp2; have hD := hst.drew; clear hst; refine wD (S := fun w' => Ld 115 g8 0 (.int .u32 (wI r.a)) w' ∧ Ld 115 g8 1 (.int .u32 (wI r.b)) w' ∧ Ld 115 g8 2 (.int .u32 (wI r.c)) w' ∧ Ld 115 g8 4 (.int .u32 (wI r.e)) w' ∧ Ld 115 g8 5 (.int .u32 (wI r.f)) w' ∧ Ld 115 g8 6 (.int .u32 (wI r.g)) w') ⟨yp [] hD rfl, yp [] hD rfl, yp [] hD rfl, yp [] hD rfl, yp [] hD rfl, yp [] hD rfl⟩ fun hHeld => ?_; refine jt 0 (h:=jt 1 (h:=jt 2 (h:=jt 3 (h:=jt 4 (h:=jt 5 (h:=jt 6 (h:=jt 7 (h:=jt 8 (h:=jt 9 (h:=jt 10 (h:=jt 11 (h:=jt 12 (h:=jt 13 (h:=jt 14 (h:=jt 15 (h:=jt 16 (h:=jt 17 (h:=?_)))))))))))))))))); refine jn ?_; clear hHeld; go_wp2; replace hD := hD.drew; refine wD (S := fun w' => Ld 115 g8 7 (.int .u32 (wI r.h)) w' ∧ Ld 115 g6 i (.int .u32 (wI K)) w' ∧ Ld 115 g7 i (.int .u32 (wI D)) w') ⟨yp [] hD rfl, yp [_, _] hD (gK.out), yp [_] hD (gD.out)⟩ fun hHeld => ?_; refine jt 0 (h:=jt 1 (h:=jt 2 (h:=jt 4 (h:=jt 7 (h:=jt 11 (h:=jt 12 (h:=jt 13 (h:=jt 14 (h:=jt 15 (h:=jt 16 (h:=jt 17 (h:=jt 18 (h:=jt 20 (h:=jt 21 (h:=jt 22 (h:=jt 24 (h:=jt 25 (h:=jt 26 (h:=?_))))))))))))))))))); refine yF 3 (h0:=fun _ hK => ?_); go_simp; go_at_call 170; refine jc hD (refRight_6 _ _) fun _ hR1 => ?_; refine kD hK ⟨yp [] hR1 rfl, yp [_, _] hR1 (gK.out), yp [_] hR1 (gD.out)⟩ (h:=fun hHeld => ?_); refine yF 5 (h0:=fun _ hK => ?_); go_simp; go_at_call 170; refine jc hR1 (refRight_11 _ _) fun _ hR2 => ?_; refine kD hK ⟨yp [] hR2 rfl, yp [_, _] hR2 (gK.out), yp [_] hR2 (gD.out)⟩ (h:=fun hHeld => ?_); refine jt 6 (h:=?_); refine yF 8 (h0:=fun _ hK => ?_); go_simp; go_at_call 170; refine jc hR2 (refRight_25 _ _) fun _ hR3 => ?_; refine kD hK ⟨yp [] hR3 rfl, yp [_, _] hR3 (gK.out), yp [_] hR3 (gD.out)⟩ (h:=fun hHeld => ?_); refine jt 9 (h:=jt 10 (h:=jt 19 (h:=jt 23 (h:=jt 27 (h:=jt 28 (h:=?_)))))); refine jn ?_; clear hHeld; go_wp2_with (first | (refine jl (Loads.at [] hR3 rfl) ?_) | (refine jl (Loads.at [_] hR3 rfl) ?_) | (refine jl (Loads.at [_, _] hR3 rfl) ?_) | (refine jl (Loads.at [_, _, _] hR3 rfl) ?_) | (refine jl (Loads.at [_, _, _, _] hR3 rfl) ?_) | (refine jl (Loads.at [] hst100 rfl) ?_) | (refine jl (Loads.at [_] hst100 rfl) ?_) | (refine jl (Loads.at [_, _] hst100 rfl) ?_) | (refine jl (Loads.at [_, _, _] hst100 rfl) ?_) | (refine jl (Loads.at [_, _, _, _] hst100 rfl) ?_) | (refine jl (Loads.at [] hst101 rfl) ?_) | (refine jl (Loads.at [_] hst101 rfl) ?_) | (refine jl (Loads.at [_, _] hst101 rfl) ?_) | (refine jl (Loads.at [_, _, _] hst101 rfl) ?_) | (refine jl (Loads.at [_, _, _, _] hst101 rfl) ?_) | (refine jl (Loads.at [] hst102 rfl) ?_) | (refine jl (Loads.at [_] hst102 rfl) ?_) | (refine jl (Loads.at [_, _] hst102 rfl) ?_) | (refine jl (Loads.at [_, _, _] hst102 rfl) ?_) | (refine jl (Loads.at [_, _, _, _] hst102 rfl) ?_) | (refine jl (Loads.at [] hst103 rfl) ?_) | (refine jl (Loads.at [_] hst103 rfl) ?_) | (refine jl (Loads.at [_, _] hst103 rfl) ?_) | (refine jl (Loads.at [_, _, _] hst103 rfl) ?_) | (refine jl (Loads.at [_, _, _, _] hst103 rfl) ?_) | (go_at_call 170; refine jc hR3 (refRight_2 _ _) fun _ hst100 => ?_; clear hR3) | (go_at_call 170; refine jc hst100 (refRight_13 _ _) fun _ hst101 => ?_; clear hst100) | (go_at_call 170; refine jc hst101 (refRight_22 _ _) fun _ hst102 => ?_; clear hst101) | (apply yH [(0, .int .u32 _), (1, .int .u32 _), (2, .int .u32 _), (3, .int .u32 _), (4, .int .u32 _), (5, .int .u32 _), (6, .int .u32 _), (7, .int .u32 _)]; rfl; rfl; exact rfl; exact bld8A _ _ _ _ _ _ _ _) | (refine yx [] hst102 rfl rfl rfl rfl (rfl) (rfl) (rfl) ?_; intro _ hst103; clear hst102)); have hst12 : St w [] _ [.blk g8 116 (yf (r.rnd K D).list), .blk g7 169 (yf V), .blk g6 169 (yf kT), .blk g4 116 (List.replicate 8 (.int .u32 0)), .blk g2 116 (yf s.list)] := hst103; rw [← HR] at hst12; clear hst103; go_roundw
   case rel => exact ⟨i + 1, by omega, by go_num, hst12⟩
   case measure => simp [intOf]; omega
  ·have e : i = 64 := by omega
   subst e; rw [show ((64 : Nat) : Int) = 64 from rfl]; clear hi hi64; obtain ⟨r, hr⟩ : ∃ r, r = rnds s p 64 := ⟨_, rfl⟩; obtain ⟨F, hF⟩ : ∃ F, F = r.add s := ⟨_, rfl⟩; have HR := ya (show s.turn p = F by rw [hF, hr]; rfl); have HF := ya hF; rw [← hr] at hst; clear hr hF; have hst0 : St w [] wr [.blk g8 116 (yf (qs r.list s.list 0)), .blk g7 169 (yf V), .blk g6 169 (yf kT), .blk g4 116 (List.replicate 8 (.int .u32 0)), .blk g2 116 (yf s.list)] := hst; clear hst; go_wp2; go_loopw [18] (fun q wr => ∃ j : Nat, j ≤ 8 ∧ q = .int .i64 j ∧ St w [] wr [.blk g8 116 (yf (qs r.list s.list j)), .blk g7 169 (yf V), .blk g6 169 (yf kT), .blk g4 116 (List.replicate 8 (.int .u32 0)), .blk g2 116 (yf s.list)]) (fun q _ => 8 - (intOf q).toNat)
   case atStart => exact ⟨0, by omega, rfl, hst0⟩
   case round =>
    clear hst0; obtain ⟨j, hj, rfl, hst⟩ := hrel; by_cases hj8 : j < 8
    ·have hjz : (j : Int) < 8 := by omega
     have hlr : (qs r.list s.list j).length = 8 := length_addP _ _ _; obtain ⟨A, hA⟩ : ∃ A, A = r.list.getD j 0 := ⟨_, rfl⟩; obtain ⟨B, hB⟩ : ∃ A, A = s.list.getD j 0 := ⟨_, rfl⟩; have gA := ya (show (yf (qs r.list s.list j))[j]? = some (.int .u32 (wI A)) by rw [zx _ (by omega), addP_get _ _ _ _ (Nat.le_refl _), hA]); have gB := ya (show (yf s.list)[j]? = some (.int .u32 (wI B)) by rw [zx _ (by exact hj8), hB]); have HA2 := ya (show (qs r.list s.list j).set j (A + B) = qs r.list s.list (j + 1) by rw [hA, hB]; rfl); have Hlr := ya hlr; clear hA hB hlr; go_wp2; have hD := hst.drew; clear hst; refine jU (S := (fun w' => (yn 115 ⟨g8, j, none⟩).run Tryz.prog w' = .ok (.int .u32 (wI A)) w' ∧ (yn 115 ⟨g2, j, none⟩).run Tryz.prog w' = .ok (.int .u32 (wI B)) w')) (by kernel_rfl) rfl (by kernel_rfl) (by exact ⟨yp [] hD (gA.out), yp [_, _, _, _] hD (gB.out)⟩) (fun hHeld => ?_); simp only [List.pop_toArray, List.dropLast, List.size_toArray, List.length_cons, List.length_nil]; refine jt 0 (h:=jt 1 (h:=jt 2 (h:=jt 3 (h:=jt 4 (h:=jt 5 (h:=jt 6 (h:=jt 7 (h:=jt 8 (h:=?_))))))))); refine jn ?_; clear hHeld; refine yaG ?_; refine ye [] hD rfl rfl rfl (v := .int .u32 (wI (A + B))) rfl rfl rfl (by rw [jm, Hlr]; show j + 1 ≤ 8; omega) ?_; intro w1 h1; have h2 := st_setL [] (by rw [Hlr]; exact hj8) h1; rw [HA2] at h2; clear h1 hD; (try simp only [pL]); go_wp2; go_roundw
     case rel => exact ⟨j + 1, by omega, by go_num, h2⟩
     case measure => simp [intOf]; omega
    ·have e : j = 8 := by omega
     subst e; rw [addP_all, ← HF] at hst; go_wp2_with (first | (refine jl (yl (yf F.list) [] hst (rfl) (rfl)) ?_) | (refine ji [_, _, _] hst fun w12 hst12 => ?_; clear hst)); have hl := yl (P := Tryz.prog) (off := 0) (T := 116) (yf F.list) [_, _, _] hst12 rfl rfl; refine bodyPost_ret (j4 rfl rfl hl) rfl ?_; unfold turnOut; rw [if_pos Hl.out, HR]; exact ⟨rfl, hst12.nil⟩
end
theorem refTurn_any (s : S8) (p : List UInt8) (ao : Option Addr) (n c : Nat) (w : World) (hp : Rd w (.slice ao n c) 1 n (yb p)) (hl : p.length = n) :
  Calls Tryz.prog 167 #[.agg (yf s.list).toArray, .slice ao n c] w (turnOut s p w) := by
 by_cases h : n = 64
 ·subst h; obtain ⟨b, off, rfl, _⟩ := hp.at (k := 0) (by decide); exact refTurn_yes s p b off c w hp hl
 ·exact refTurn_no s p ao n c w hl h
end
end Go.Proofs.YtmdfbdfijnmhkaaGreat
