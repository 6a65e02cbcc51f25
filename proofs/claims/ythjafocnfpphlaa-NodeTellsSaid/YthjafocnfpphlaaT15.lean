import Derived.Test.YthjafocnfpphlaaT14
namespace Go.Proofs.Ythjafocnfpphlaa
open Go.RowKit Hp
attribute [local go_sem ↓] Go.wp_at_zero Go.wp_at_succ
attribute [local irreducible] Go.Calls
set_option maxHeartbeats 2000000
theorem hole_bytes : bytesP [] 0 0 nones = List.replicate 47 0 := by decide
theorem make48_no : rOK (List.replicate 48 0) = false := by simp [rOK]
theorem one_no : rOK (1 :: List.replicate 46 0) = false := by decide
theorem storedA (A : Addr) (v : Value) : storeVar 42 A v = storeVarH 42 A v := rfl
attribute [local go_sem ↓] storedA
theorem known_any (w : World) : Calls Try.prog 4 #[] w fun e w' => e = .returned (.bool true) ∧ St w [] w' [] := by
  have hst := St.refl w
  have hc : checkB [] 0 0 nones = true := by decide
  go_enter Try.func4, Try.ntmps4
  go_wp2_with (first | go_big_skip | go_big_guard | (refine wl_build0 rfl rfl ?_) | (go_at_call 19; refine (bytes_ok none 0 0 [] 0 0 nones _ L32.nones (Rd.nil _ _) rfl hc).mono ?_; rintro _ _ ⟨u, rfl, h1⟩; rw [hole_bytes] at h1; have hst1 := St.call hst h1; clear h1 hst) | (go_at_call 20; refine (sample_blk _).mono ?_; first | (rintro _ _ ⟨g2, rfl, h3⟩; have hst3 := St.call hst2 h3; clear h3 hst2) | (rintro _ _ ⟨g1, rfl, h2⟩; have hst2 := St.call hst1 h2; clear h2 hst1)) | (refine wl_alloc hst3 rfl rfl ?_; intro q3 w4 hst4; clear hst3) | (refine wl_alloc hst4 rfl rfl ?_; intro q4 w5 hst5; clear hst4) | (refine wl_storeA [_] hst5 rfl rfl rfl rfl (rfl) (rfl) (rfl) ?_; intro w6 hst6; clear hst5) | (refine wl_storeA [] hst6 rfl rfl rfl rfl (rfl) (rfl) (rfl) ?_; intro w7 hst7; clear hst6))
  simp only [Act.put, List.setIfInBounds_toArray, List.set_cons_zero, List.set_cons_succ]
  have hst8 : St w [] w7.drew [.blk q4 29 (ptrCells (.slice (some ⟨g2, 0, none⟩) 2 2) 7 2 nones), .blk q3 29 (ptrCells (.slice (some ⟨g1, 0, none⟩) 2 2) 7 2 nones), .blk g2 42 (addrsV sampleA), .blk g1 42 (addrsV sampleA), .row u 5 1 47 (bytesV (List.replicate 47 0))] := hst7.drew
  clear hst7
  have hc0 := hst8.cell (g := q3) (off := 0) (.tail _ (.head _)) rfl
  have hc1 := hst8.cell (g := g1) (off := 0) (.tail _ (.tail _ (.tail _ (.head _)))) rfl
  have hc2 := hst8.cell (g := g1) (off := 1) (.tail _ (.tail _ (.tail _ (.head _)))) rfl
  go_region_held3 (fun w' => w'.cell? ⟨q3, 0, none⟩ = some (.slice (some ⟨g1, 0, none⟩) 2 2) ∧ w'.cell? ⟨g1, 0, none⟩ = some (.int .i64 1) ∧ w'.cell? ⟨g1, 1, none⟩ = some (.int .i64 5))
    (first | go_keep | exact ⟨hst9.cell (.tail _ (.head _)) rfl, hst9.cell (.tail _ (.tail _ (.tail _ (.head _)))) rfl, hst9.cell (.tail _ (.tail _ (.tail _ (.head _)))) rfl⟩)
    (first
      | (rw [stored_at (P := Try.prog) (n := 2) (off := 2) (vs := [.int .i64 1, .int .i64 5]) [_, _, _] hst8 inferInstance rfl rfl (by decide)]; have hst9 := St.setRow (L1 := [_, _, _]) hst8 (addrsV [(1, 5), (1, 5)]); go_simp))
  obtain ⟨w10, hw10⟩ : ∃ q, q = w7.drew.setRow g1 (putAt (addrsV sampleA) 2 [.int .i64 1, .int .i64 5]).toArray := ⟨_, rfl⟩
  rw [← hw10]
  have hst10 : St w [] w10 [.blk q4 29 (ptrCells (.slice (some ⟨g2, 0, none⟩) 2 2) 7 2 nones), .blk q3 29 (ptrCells (.slice (some ⟨g1, 0, none⟩) 2 2) 7 2 nones), .blk g2 42 (addrsV sampleA), .blk g1 42 (addrsV [(1, 5), (1, 5)]), .row u 5 1 47 (bytesV (List.replicate 47 0))] := by rw [hw10]; exact hst9
  clear hw10 hst9 hst8 hc0 hc1 hc2
  rename_i hHeld
  clear hHeld
  have k1 : ((List.replicate 47 (0 : UInt8)) == List.replicate 47 0) = true := by decide
  have k2 : checkE [(1, 5), (1, 5)] 7 2 nones = 2 := by decide
  have k3 : checkE [(1, 4), (0, 300)] 7 2 nones = 2 := by decide
  have k4 : checkE [] 0 1 nones = 2 := by decide
  have k5 : ((rErr (List.replicate 48 0) == 4) && (rAt (List.replicate 48 0) == 47)) = true := by decide
  have k6 : ((rErr (1 :: List.replicate 46 0) == 2) && (rAt (1 :: List.replicate 46 0) == 0)) = true := by decide
  go_wp2_with (first | go_big_skip | go_big_guard | (refine wl_loadE rfl rfl rfl ?_; first | refine ⟨_, Loads.at [] hst10 rfl, ?_⟩ | refine ⟨_, Loads.atA (ptrCells (.slice (some ⟨g1, 0, none⟩) 2 2) 7 2 nones) [_, _, _] hst16 (rfl) (rfl), ?_⟩ | refine ⟨_, Loads.atA (ptrCells (.slice (some ⟨g2, 0, none⟩) 2 2) 7 2 nones) [_, _] hst16 (rfl) (rfl), ?_⟩) | (refine wl_store [_, _] hst10 rfl rfl rfl (v := .int _ _) rfl rfl rfl ?_ ?_; (exact (by decide : 1 + 1 ≤ 4)); intro w11 hst11; clear hst10; (skip)) | (apply wl_make 47 47 hst11; rfl; rfl; exact rfl; exact rfl; infer_instance; infer_instance; infer_instance; exact rfl; exact rfl; decide; decide; intro g5 w12 hst12; clear hst11) | (refine wl_store [] hst12 rfl rfl rfl (v := .int _ _) rfl rfl rfl ?_ ?_; (exact (by decide : 0 + 1 ≤ 47)); intro w13 hst13; clear hst12; (skip)) | (go_at_call 13; refine (awake_any _).mono ?_; rintro _ _ ⟨rfl, h4⟩; have hst14 := St.call0 hst13 h4; clear h4 hst13) | (apply wl_make 47 47 hst14; rfl; rfl; exact rfl; exact rfl; infer_instance; infer_instance; infer_instance; exact rfl; exact rfl; decide; decide; intro g6 w15 hst15; clear hst14) | (go_at_call 21; refine (sameBytes_any u _ 47 47 (List.replicate 47 0) (List.replicate 47 0) _ (Rd.row hst15 (.tail _ (.tail _ (.tail _ (.tail _ (.tail _ (.tail _ (.head _)))))))) (Rd.blk0 hst15 (by simp [bytesV]) (by decide))).mono ?_; rw [k1]; rintro _ _ ⟨rfl, h4⟩; have hst16 := St.call0 hst15 h4; clear h4 hst15) | (go_at_call 22; first | (refine (check_any (some ⟨g1, 0, none⟩) 2 2 [(1, 5), (1, 5)] 7 2 nones _ L32.nones (Rd.blk hst16 (.tail _ (.tail _ (.tail _ (.tail _ (.tail _ (.head _)))))) (by decide) (by decide) rfl rfl) rfl).mono ?_; rw [k2]; rintro _ _ ⟨rfl, h4⟩; replace hst16 := St.call0 hst16 h4; clear h4) | (refine (check_any (some ⟨g2, 0, none⟩) 2 2 [(1, 4), (0, 300)] 7 2 nones _ L32.nones (Rd.blk hst16 (.tail _ (.tail _ (.tail _ (.tail _ (.head _))))) (by decide) (by decide) rfl rfl) rfl).mono ?_; rw [k3]; rintro _ _ ⟨rfl, h4⟩; replace hst16 := St.call0 hst16 h4; clear h4) | (refine (check_any none 0 0 [] 0 1 nones _ L32.nones (Rd.nil _ _) rfl).mono ?_; rw [k4]; rintro _ _ ⟨rfl, h4⟩; replace hst16 := St.call0 hst16 h4; clear h4)) | (apply wl_make 48 48 hst16; rfl; rfl; exact rfl; exact rfl; infer_instance; infer_instance; infer_instance; exact rfl; exact rfl; decide; decide; intro g7 w17 hst17; clear hst16) | (go_at_call 23; first | (refine (fails_any _ 48 _ 4 47 (List.replicate 48 0) _ (Rd.blk0 hst17 (by simp [bytesV]) (by decide)) (by simp) make48_no).mono ?_; rw [k5]; rintro _ _ ⟨rfl, h4⟩; replace hst17 := St.call0 hst17 h4; clear h4) | (refine (fails_any _ 47 47 2 0 (1 :: List.replicate 46 0) _ (Rd.blk hst17 (.tail _ (.tail _ (.head _))) (by decide) (by decide) rfl rfl) (by simp) one_no).mono ?_; rw [k6]; rintro _ _ ⟨rfl, h4⟩; replace hst17 := St.call0 hst17 h4; clear h4)))
  go_ret
  exact ⟨rfl, hst17.nil⟩
end Go.Proofs.Ythjafocnfpphlaa
