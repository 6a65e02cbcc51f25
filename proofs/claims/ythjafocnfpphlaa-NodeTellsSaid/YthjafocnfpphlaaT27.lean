import Derived.Test.YthjafocnfpphlaaT26
namespace Go.Proofs.Ythjafocnfpphlaa
open Go.RowKit Hp
attribute [local irreducible] Go.Calls
set_option maxHeartbeats 4000000
set_option maxRecDepth 100000
def kP (g : Nat) : PV := ⟨.slice (some ⟨g, 0, none⟩) 1 1, [(0, 5)], 1, 0, nones⟩
def kN (g : Nat) : NV := (zN 2).set 0 (kP g)
theorem kP_in {w0 w : World} {M : List Nat} {L : List HA} {g : Nat} (hst : St w0 M w L) (hm : HA.blk g 42 [.int .i64 0, .int .i64 5] ∈ L) : (kP g).In w :=
  ⟨L32.nones, _, _, _, rfl, Rd.blk hst hm (Nat.le_refl _) (by decide) rfl rfl, rfl⟩
theorem kN_in {w0 w : World} {M : List Nat} {L : List HA} {g : Nat} (hst : St w0 M w L) (hm : HA.blk g 42 [.int .i64 0, .int .i64 5] ∈ L) : (kN g).In w := by
  intro j
  match j with
  | 0 => exact kP_in hst hm
  | 1 => exact zP_in w
  | 2 => exact zP_in w
  | _ + 3 => exact zP_in w
theorem kN_ln (g : Nat) : (kN g).Ln := by
  intro j
  match j with
  | 0 => exact L32.nones
  | 1 => exact L32.nones
  | 2 => exact L32.nones
  | _ + 3 => exact L32.nones
theorem kN_err (g : Nat) : (kN g).err = 2 := NV.err_no (NV.ok_fit (k := 0) (by decide) (by
  show (kP g).fits 2 = false
  rfl))
theorem kN_empty (g : Nat) : (kN g).empty = false := by
  show ((kP g).hole && _) = false
  have : (kP g).hole = false := by rfl
  rw [this]; rfl
theorem kN_put (g : Nat) : putAt (zN 2).cells 1 (ptrCells (.slice (some ⟨g, 0, none⟩) 1 1) 1 0 nones) = (kN g).cells := put_node (zN_ln 2) (k := 0) (by decide) (p := kP g) L32.nones
theorem kN_fit (g : Nat) : 1 + (Value.cells (.agg (List.toArray (ptrCells (.slice (some ⟨g, 0, none⟩) 1 1) 1 0 nones)))).size ≤ (zN 2).cells.length := by
  rw [NV.len (zN_ln 2)]
  exact (by decide : 1 + 35 ≤ 141)
theorem known5_any (w : World) : Calls Try.prog 10 #[] w fun e w' => e = .returned (.bool true) ∧ St w [] w' [] := by
  have hst := St.refl w
  have q4 := hid (NV.err_no (NV.ok_lv (by decide)) : (zN 4).err = 2)
  have hz := hid (uOK_lv0 (bs := List.replicate 256 0) rfl)
  go_enter Try.func10, Try.ntmps10
  go_wp2_with (first | go_big_skip | go_big_guard | (refine wl_build0 rfl rfl ?_) | (refine wl_buildS rfl rfl (bld51 _) ?_) | (refine wl_buildS rfl rfl (bld29 _ _ _ _) ?_) | (refine wl_alloc hst rfl rfl ?_; intro gn w1 hst1; clear hst) | (refine wl_storeA (vs := (zN 2).cells) [] hst1 rfl rfl rfl rfl (NV.len (zN_ln 2)) (zN_ones 2) (NV.len (zN_ln 0)) ?_; intro w2 hst2; clear hst1) | (apply wl_bsX ([.agg #[.int .i64 0, .int .i64 5]]) ([.int .i64 0, .int .i64 5]) hst2; rfl; rfl; exact rfl; exact rfl; infer_instance; infer_instance; rfl; rfl; rfl; intro g2 w3 hst3; clear hst2) | (refine wl_store (off := 1) [_] hst3 rfl rfl rfl (v := .agg (List.toArray (ptrCells (.slice (some ⟨g2, 0, none⟩) 1 1) 1 0 nones))) rfl (ptr_len L32.nones _ _ _) (ptr_ones _ _ _ _ _ _) (kN_fit g2) ?_; intro w4 hst4'; clear hst3; have hst4 : St w [] w4 [.blk g2 42 [.int .i64 0, .int .i64 5], .blk gn 51 (putAt (zN 2).cells 1 (ptrCells (.slice (some ⟨g2, 0, none⟩) 1 1) 1 0 nones))] := hst4'; clear hst4'; rw [kN_put] at hst4) | (apply wl_make 256 256 hst4; rfl; rfl; exact rfl; exact rfl; infer_instance; infer_instance; infer_instance; exact rfl; exact rfl; decide; decide; intro gm w5 hst5; clear hst4) | (go_at_call 35; refine (unpack_any (some ⟨gm, 0, none⟩) 256 256 (List.replicate 256 0) _ (Rd.blk hst5 (.head _) (Nat.le_refl _) (by decide) (by rw [length_bytesV]; rfl) (by rw [List.drop_zero, bytesV, List.map_replicate, List.length_replicate]; exact List.take_of_length_le (Nat.le_of_eq List.length_replicate))) List.length_replicate).mono ?_; rintro _ _ hu; unfold unOut at hu; rw [hz.out, if_neg Bool.false_ne_true, if_pos List.length_replicate] at hu; obtain ⟨rfl, h4⟩ := hu; have hst6 := St.call0 hst5 h4; clear h4 hst5) | (refine wl_alloc hst6 rfl rfl ?_; intro g7 w7 hst7; clear hst6) | (refine wl_storeA [] hst7 rfl rfl rfl rfl (NV.len (zN_ln 0)) (zN_ones 0) (NV.len (zN_ln 0)) ?_; intro w8 hst8; clear hst7) | (go_at_call 46; refine (set_bad (zN 1) zP 4 _ (zN_in 1 _) (zN_ok 1 (by decide) (by decide)) (by decide) (by decide)).mono ?_; rintro _ _ ⟨rfl, h4⟩; have hst9 := St.call0 hst8 h4; clear h4 hst8) | (refine wl_alloc hst9 rfl rfl ?_; intro g10 w10 hst10; clear hst9) | (refine wl_storeA [] hst10 rfl rfl rfl rfl (NV.len (zN_ln 0)) (zN_ones 0) (NV.len (zN_ln 0)) ?_; intro w11 hst11; clear hst10) | (go_at_call 34; refine (awake5_any _).mono ?_; rintro _ _ ⟨rfl, h4⟩; replace hst11 := St.call0 hst11 h4; clear h4) | (refine wl_loadE rfl rfl rfl ?_; first | refine ⟨_, Loads.atA ((kN g2).cells) [_, _, _, _] hst11 (NV.len (kN_ln g2)) (NV.all _), ?_⟩) | (go_at_call 42; first | (refine (ncheck_any (kN g2) _ (kN_in hst11 (.tail _ (.tail _ (.tail _ (.head _)))))).mono ?_; rw [kN_err]; rintro _ _ ⟨rfl, h4⟩; replace hst11 := St.call0 hst11 h4; clear h4) | (refine (ncheck_any (zN 4) _ (zN_in 4 _)).mono ?_; rw [q4.out]; rintro _ _ ⟨rfl, h4⟩; replace hst11 := St.call0 hst11 h4; clear h4)) | (go_at_call 44; refine (empty_any (kN g2) _ (kN_in hst11 (.tail _ (.tail _ (.tail _ (.head _)))))).mono ?_; rw [kN_empty]; rintro _ _ ⟨rfl, h4⟩; replace hst11 := St.call0 hst11 h4; clear h4))
  go_goals
  go_ret
  exact ⟨rfl, hst11.nil⟩
end Go.Proofs.Ythjafocnfpphlaa
