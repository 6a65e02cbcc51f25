import Derived.Test.YthjafocnfpphlaaT13
import Derived.Test.YthjafocnfpphlaaT6
namespace Go.Proofs.Ythjafocnfpphlaa
open Go.RowKit Hp
attribute [local irreducible] Go.Calls
set_option maxHeartbeats 1000000
def sampleA : List (Int × Int) := [(1, 5), (0, 300)]
theorem sample_blk (w : World) : Calls Try.prog 20 #[] w fun e w' => ∃ g, e = .returned (.agg (ptrCells (.slice (some ⟨g, 0, none⟩) 2 2) 7 2 nones).toArray) ∧ St w [] w' [.blk g 42 (addrsV sampleA)] := by
  have hst := St.refl w
  go_enter Try.func20, Try.ntmps20
  go_wp2_with (first | go_big_skip | go_big_guard | (refine wl_alloc hst rfl rfl ?_; intro g0 w1 hst1; clear hst) | (apply wl_bsX ([.agg #[.int .i64 1, .int .i64 5], .agg #[.int .i64 0, .int .i64 300]]) ([.int .i64 1, .int .i64 5, .int .i64 0, .int .i64 300]) hst1; rfl; rfl; exact rfl; exact rfl; infer_instance; infer_instance; rfl; rfl; rfl; intro g1 w2 hst2; clear hst1) | (refine wl_storeA (vs := ptrCells (.slice (some ⟨g1, 0, none⟩) 2 2) 7 2 nones) [_] hst2 rfl rfl rfl rfl rfl rfl rfl ?_; intro w3 hst3; clear hst2))
  have hl := Loads.atA (P := Try.prog) (off := 0) (T := 29) (ptrCells (.slice (some ⟨g1, 0, none⟩) 2 2) 7 2 nones) [_] hst3 rfl rfl
  refine bodyPost_ret (results_cellL rfl rfl hl) rfl ⟨g1, rfl, ?_⟩
  exact hst3.sub (List.Sublist.cons_cons _ (List.nil_sublist _))
theorem sample_any (w : World) : Calls Try.prog 20 #[] w fun e w' => ∃ ao c, e = .returned (.agg (ptrCells (.slice ao 2 c) 7 2 nones).toArray) ∧ St w [] w' [.row (.slice ao 2 c) 42 2 2 (addrsV sampleA)] := by
  refine (sample_blk w).mono ?_
  rintro _ _ ⟨g, rfl, h⟩
  exact ⟨_, _, rfl, St.toRow (n := 2) (cap := 2) (sz := 2) h rfl (by decide) (by decide)⟩
theorem fails_any (ao : Option Addr) (n c : Nat) (x y : Int) (bs : List UInt8) (w : World) (hA : Rd w (.slice ao n c) 1 n (bytesV bs)) (hn : bs.length = n) (hno : rOK bs = false) :
    Calls Try.prog 23 #[.slice ao n c, .agg #[.int .i64 x, .int .i64 y]] w fun e w' => e = .returned (.bool ((rErr bs == x) && (rAt bs == y))) ∧ St w [] w' [] := by
  have hst := St.refl w
  have Hn := hid hn; clear hn
  go_enter Try.func23, Try.ntmps23
  go_wp2_with (first | go_big_skip | go_big_guard | (refine wl_boxA hst rfl rfl rfl ?_; intro g1 w1 hst1; clear hst) | (refine wl_alloc hst1 rfl rfl ?_; intro g2 w2 hst2; clear hst1) | (refine wl_alloc hst2 rfl rfl ?_; intro g3 w3 hst3; clear hst2) | (go_at_call 15; refine (Read_any ao n c bs _ (Rd.old hst1 hA) Hn.out).mono ?_; rintro _ _ hr; obtain ⟨rfl, h4⟩ := readOut.no hno hr; clear hr; replace hst1 := St.call0 hst1 h4; clear h4) | (refine wl_storeA [_] hst3 rfl rfl rfl rfl (rfl) (rfl) (rfl) ?_; intro w4 hst4; clear hst3) | (refine wl_storeA [] hst4 rfl rfl rfl rfl (rfl) (rfl) (rfl) ?_; intro w5 hst5; clear hst4) | (refine wl_loadE rfl rfl rfl ?_; first | refine ⟨_, Loads.atA ([.int _ _, .int _ _]) [] hst5 (rfl) (rfl), ?_⟩ | refine ⟨_, Loads.atA (ptrCells (.slice none 0 0) 0 0 nones) [_] hst5 (rfl) (rfl), ?_⟩ | refine ⟨_, Loads.atA ([.int _ _, .int _ _]) [_, _] hst5 (rfl) (rfl), ?_⟩) | (refine wl_build0 rfl rfl ?_) | (go_at_call 17; refine (samePointer_any none none 0 0 0 0 [] [] 0 0 0 0 nones nones _ L32.nones L32.nones (Rd.nil _ _) rfl (Rd.nil _ _) rfl).mono ?_; rintro _ _ ⟨rfl, hcall⟩; replace hst5 := St.call0 hst5 hcall; clear hcall))
  all_goals
    have e0 : sameB [] [] 0 0 0 0 nones nones = true := by decide
    go_ret
    exact ⟨ret_bool (by grind), hst5.nil⟩
theorem make_no : rOK (List.replicate 46 0) = false := by simp [rOK]
def sampleB : List UInt8 := [2, 1, 0, 5, 0, 1, 44, 0, 0, 0, 0, 0, 0, 7, 2] ++ List.replicate 32 0
theorem sample_bytes : bytesP sampleA 7 2 nones = sampleB := by decide
theorem awake_any (w : World) : Calls Try.prog 13 #[] w fun e w' => e = .returned (.bool true) ∧ St w [] w' [] := by
  have hst := St.refl w
  have hc : checkB sampleA 7 2 nones = true := by decide
  have hq1 : ((sampleB.take 10).drop 0 == [2, 1, 0, 5, 0, 1, 44, 0, 0, 0]) = true := by decide
  have hq2 : ((sampleB.take 16).drop 10 == [0, 0, 0, 7, 2, 0]) = true := by decide
  go_enter Try.func13, Try.ntmps13
  go_wp2_with (first | go_big_skip | go_big_guard | (go_at_call 20; refine (sample_any _).mono ?_; rintro _ _ ⟨ao1, c1, rfl, h1⟩; first | (have hst7 := St.call hst6 h1; clear h1 hst6) | (have hst1 := St.call hst h1; clear h1 hst)) | (go_at_call 19; refine (bytes_ok ao1 2 c1 sampleA 7 2 nones _ L32.nones (Rd.row hst1 (.head _)) rfl hc).mono ?_; rintro _ _ ⟨u, rfl, h2⟩; rw [sample_bytes] at h2; obtain ⟨ao2, c2, rfl⟩ := St.rowSliceAt [] h2; have hst2 := St.call hst1 h2; clear h2 hst1; have hb2 := (Rd.row hst2 (.head _)).bd.1; obtain ⟨b2, off2, rfl, hr2⟩ := (Rd.row hst2 (.head _)).at (k := 0) (by decide); clear hr2) | (go_at_call 21; first | (have hst3 := St.alloc hst2 5 [.int .u8 2, .int .u8 1, .int .u8 0, .int .u8 5, .int .u8 0, .int .u8 1, .int .u8 44, .int .u8 0, .int .u8 0, .int .u8 0]; refine (sameBytes_any _ _ 10 10 ((sampleB.take 10).drop 0) [2, 1, 0, 5, 0, 1, 44, 0, 0, 0] _ (Rd.cut 0 10 (Rd.row hst3 (.tail _ (.head _))) (by decide) (by decide) rfl) (Rd.blk0 hst3 rfl (by decide))).mono ?_; rw [hq1]; rintro _ _ ⟨rfl, h4⟩; have hst4 := St.call0 hst3 h4; clear h4 hst3 hst2) | (have hst5 := St.alloc hst4 5 [.int .u8 0, .int .u8 0, .int .u8 0, .int .u8 7, .int .u8 2, .int .u8 0]; refine (sameBytes_any _ _ 6 6 ((sampleB.take 16).drop 10) [0, 0, 0, 7, 2, 0] _ (Rd.cut 10 16 (Rd.row hst5 (.tail _ (.tail _ (.head _)))) (by decide) (by decide) rfl) (Rd.blk0 hst5 rfl (by decide))).mono ?_; rw [hq2]; rintro _ _ ⟨rfl, h4⟩; have hst6 := St.call0 hst5 h4; clear h4 hst5 hst4)) | (go_at_call 27; refine (hole_any _ 2 _ 7 2 nones _ L32.nones).mono ?_; rw [show holeB 2 7 2 nones = false from by decide]; rintro _ _ ⟨rfl, h4⟩; have hst8 := St.call0 hst7 h4; clear h4 hst7) | (apply wl_make 46 46 hst8; rfl; rfl; exact rfl; exact rfl; infer_instance; infer_instance; infer_instance; exact rfl; exact rfl; decide; decide; intro g9 w9 hst9; clear hst8) | (go_at_call 23; refine (fails_any _ 46 _ 4 46 (List.replicate 46 0) _ (Rd.blk0 hst9 (by simp [bytesV]) (by decide)) (by simp) make_no).mono ?_; rintro _ _ ⟨rfl, h4⟩; have hst10 := St.call0 hst9 h4; clear h4 hst9))
  go_ret
  exact ⟨ret_bool (by decide), hst10.nil⟩
end Go.Proofs.Ythjafocnfpphlaa
