import Derived.Test.YthjafocnfpphlaaT25
import Derived.Test.YthjafocnfpphlaaT15
namespace Go.Proofs.Ythjafocnfpphlaa
open Go.RowKit Hp
attribute [local irreducible] Go.Calls
set_option maxHeartbeats 4000000
set_option maxRecDepth 10000
theorem bld29 (a : Addr) (n c : Nat) (z : Int) : Try.prog.built 29 [(0, .slice (some a) n c), (1, .int .i64 z)] = some (ptrCells (.slice (some a) n c) z 0 nones).toArray := by kernel_rfl
theorem uOK_lv0 {bs : List UInt8} (h : bs.getD 0 0 = 0) : uOK bs = false := by
  have : (uNV bs).ok = false := NV.ok_lv (by
    intro h1
    have h2 := h1.1
    rw [show (uNV bs).lv = ((bs.getD 0 0).toNat : Int) from rfl, h] at h2
    exact absurd h2 (by decide))
  unfold uOK
  rw [this]
  simp only [Bool.false_and, Bool.and_false]
theorem set_bad (x : NV) (p : PV) (i : Int) (w : World) (hx : x.In w) (hc : x.ok = true) (hi : 4 ≤ i) (hi2 : i ≤ 9223372036854775807) : Calls Try.prog 46 #[.agg x.cells.toArray, .int .i64 i, .agg p.cells.toArray] w fun e w' => e = .returned (.tuple #[.agg (zN 0).cells.toArray, .int .i64 2]) ∧ St w [] w' [] := by
  have hst := St.refl w
  have hL := hx.ln
  have hq := hid (NV.err_ok hc)
  have d0 : decide (i < 0) = false := by simp; omega
  have d4 : decide (4 ≤ i) = true := by simpa using hi
  clear hc
  go_enter Try.func46, Try.ntmps46
  go_wp2_with (first | go_big_skip | go_big_guard | (refine wl_loadE rfl rfl rfl ?_; first | refine ⟨_, Loads.atA (x.cells) [_, _] hst3 (NV.len hL) (NV.all x), ?_⟩) | (refine wl_boxA hst rfl rfl rfl ?_; intro g w1 hst1; clear hst) | (refine wl_boxA hst1 rfl rfl rfl ?_; intro g2 w2 hst2; clear hst1) | (refine wl_alloc hst2 rfl rfl ?_; intro g3 w3 hst3; clear hst2) | (go_at_call 42; refine (ncheck_any x _ (NV.In.old hst3 hx)).mono ?_; rw [hq.out]; rintro _ _ ⟨rfl, h4⟩; replace hst3 := St.call0 hst3 h4; clear h4) | (refine wl_build0 rfl rfl ?_) | (refine wl_storeA [] hst3 rfl rfl rfl rfl (NV.len (zN_ln 0)) (zN_ones 0) (NV.len (zN_ln 0)) ?_; intro w4 hst4; clear hst3))
  go_goals
  have hl := Loads.atA (P := Try.prog) (off := 0) (T := 51) (zN 0).cells [] hst4 (NV.len (zN_ln 0)) (NV.all _)
  refine bodyPost_ret (results_cellTmp rfl rfl hl) rfl ⟨rfl, hst4.nil⟩
def sec1 : List UInt8 := 1 :: List.replicate 255 0
theorem sec1_eq : ((zN 1).bytes == sec1) = true := by decide +kernel
theorem zN_ok (lv : Int) (h1 : 1 ≤ lv) (h3 : lv ≤ 3) : (zN lv).ok = true := NV.ok_all h1 h3 (fun j _ => by rw [zN_get]; rfl)
theorem zN_empty (lv : Int) : (zN lv).empty = true := by rfl
theorem awake5_any (w : World) : Calls Try.prog 34 #[] w fun e w' => e = .returned (.bool true) ∧ St w [] w' [] := by
  have hst := St.refl w
  have q1 : (zN 0).err = 2 := NV.err_no (NV.ok_lv (by decide))
  have hno : ¬ uOK [] = true := by decide
  have hm : putAt (List.replicate 256 (Value.int .u8 0)) 0 (Value.cells (.int .u8 1)).toList = bytesV sec1 := by
    have e1 : (Value.cells (.int .u8 1)).toList = [.int .u8 1] := rfl
    rw [e1]
    simp only [putAt, List.take_zero, List.nil_append, List.length_singleton, List.drop_replicate, List.singleton_append, sec1, bytesV, List.map_cons, List.map_replicate]
    rfl
  have Hm := hid hm; clear hm
  have Hq1 := hid q1; clear q1
  have hse := zN_empty 1
  go_enter Try.func34, Try.ntmps34
  go_wp2_with (first | go_big_skip | go_big_guard | (refine wl_buildS rfl rfl (bld51 _) ?_) | (refine wl_build0 rfl rfl ?_) | (go_at_call 40; refine (pack_ok (zN 1) _ (zN_in 1 _) (zN_ok 1 (by decide) (by decide))).mono ?_; rintro _ _ ⟨gb, rfl, h4⟩; have hst1 := St.call hst h4; clear h4 hst) | (apply wl_make 256 256 hst1; rfl; rfl; exact rfl; exact rfl; infer_instance; infer_instance; infer_instance; exact rfl; exact rfl; decide; decide; intro gm w2 hst2; clear hst1) | (refine wl_store [] hst2 rfl rfl rfl (v := .int _ _) rfl rfl rfl (by show 0 + 1 ≤ (List.replicate 256 _).length; rw [List.length_replicate]; decide) ?_; rw [Hm.out]; intro w3 hst3; clear hst2) | (go_at_call 35; refine (unpack_any none 0 0 [] _ (Rd.nil _ _) rfl).mono ?_; rintro _ _ hu; unfold unOut at hu; rw [if_neg hno, if_neg (by decide)] at hu; obtain ⟨rfl, h4⟩ := hu; have hst4 := St.call0 hst3 h4; clear h4 hst3) | (refine wl_alloc hst4 rfl rfl ?_; intro g5 w5 hst5; clear hst4) | (refine wl_storeA [] hst5 rfl rfl rfl rfl (NV.len (zN_ln 0)) (zN_ones 0) (NV.len (zN_ln 0)) ?_; intro w6 hst6; clear hst5) | (go_at_call 21; refine (sameBytes_any _ _ 256 256 (zN 1).bytes sec1 _ (Rd.blk hst6 (.tail _ (.tail _ (.head _))) (Nat.le_refl _) (by decide) (by rw [length_bytesV]; exact length_packTo (zN_ln 1) (Nat.le_refl 4)) (by rw [List.drop_zero, List.take_length])) (Rd.blk hst6 (.tail _ (.head _)) (Nat.le_refl _) (by decide) (by rw [length_bytesV]; rfl) (by rw [List.drop_zero, List.take_length]))).mono ?_; rw [sec1_eq]; rintro _ _ ⟨rfl, h4⟩; replace hst6 := St.call0 hst6 h4; clear h4) | (go_at_call 44; refine (empty_any (zN 1) _ (zN_in 1 _)).mono ?_; rw [hse]; rintro _ _ ⟨rfl, h4⟩; replace hst6 := St.call0 hst6 h4; clear h4) | (go_at_call 42; refine (ncheck_any (zN 0) _ (zN_in 0 _)).mono ?_; rw [Hq1.out]; rintro _ _ ⟨rfl, h4⟩; replace hst6 := St.call0 hst6 h4; clear h4))
  go_goals
  go_ret
  exact ⟨rfl, hst6.nil⟩
end Go.Proofs.Ythjafocnfpphlaa
