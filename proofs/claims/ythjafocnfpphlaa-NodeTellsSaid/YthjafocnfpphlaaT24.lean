import Derived.Test.YthjafocnfpphlaaT23
import Derived.Test.YthjafocnfpphlaaSepN
namespace Go.Proofs.Ythjafocnfpphlaa
open Go.RowKit Hp
attribute [local irreducible] Go.Calls
set_option maxHeartbeats 4000000
instance tyA49 : TyA Try.prog 49 140 := ⟨by kernel_rfl⟩
def lvB (lv : Int) : UInt8 := UInt8.ofNat lv.toNat
def packTo (x : NV) (k : Nat) : List UInt8 := (lvB x.lv :: ((List.range k).map fun j => (x.get j).bytes).flatten) ++ List.replicate (255 - 47 * k) 0
def NV.bytes (x : NV) : List UInt8 := packTo x 4
theorem PV.length_bytes {p : PV} (h : L32 p.S) : p.bytes.length = 47 := length_bytesP p.l p.b p.v h
theorem length_flat {x : NV} (h : x.Ln) (k : Nat) : (((List.range k).map fun j => (x.get j).bytes).flatten).length = 47 * k := by
  induction k with
  | zero => rfl
  | succ k ih => rw [List.range_succ, List.map_append, List.flatten_append, List.length_append, ih]; simp [PV.length_bytes (h k)]; omega
theorem length_packTo {x : NV} (h : x.Ln) {k : Nat} (hk : k ≤ 4) : (packTo x k).length = 256 := by
  simp only [packTo, List.length_append, List.length_cons, length_flat h, List.length_replicate]; omega
theorem put_pack {x : NV} (h : x.Ln) {k : Nat} (hk : k < 4) : putAt (bytesV (packTo x k)) (1 + 47 * k) (bytesV (x.get k).bytes) = bytesV (packTo x (k + 1)) := by
  have e1 : bytesV (packTo x k) = bytesV (lvB x.lv :: ((List.range k).map fun j => (x.get j).bytes).flatten) ++ bytesV (List.replicate (255 - 47 * k) 0) := by rw [packTo, bytesV_append]
  have e2 : (bytesV (lvB x.lv :: ((List.range k).map fun j => (x.get j).bytes).flatten)).length = 1 + 47 * k := by rw [length_bytesV, List.length_cons, length_flat h]; omega
  have := put_app (bytesV (lvB x.lv :: ((List.range k).map fun j => (x.get j).bytes).flatten)) (bytesV (List.replicate (255 - 47 * k) 0)) 0 (bytesV (x.get k).bytes)
  rw [e2, Nat.add_zero] at this
  rw [e1, this, packTo, List.range_succ, List.map_append, List.flatten_append]
  have e3 : List.replicate (255 - 47 * k) (0 : UInt8) = List.replicate 47 0 ++ List.replicate (255 - 47 * (k + 1)) 0 := by rw [List.replicate_append_replicate]; congr 1; omega
  rw [e3]
  have e4 : (bytesV (x.get k).bytes).length = 47 := by rw [length_bytesV, PV.length_bytes (h k)]
  simp only [putAt, List.take_zero, List.nil_append, e4, Nat.zero_add, bytesV_append, ← List.cons_append, List.append_assoc]
  congr 1
  simp [bytesV, List.drop_append]
theorem packTo_zero (x : NV) : packTo x 0 = lvB x.lv :: List.replicate 255 0 := rfl
theorem lvB_val {lv : Int} (h1 : 1 ≤ lv) (h3 : lv ≤ 3) : ((lvB lv).toNat : Int) = lv := by
  unfold lvB; rw [UInt8.toNat_ofNat']; omega
theorem NV.at_tail {x : NV} (h : x.Ln) {k : Nat} (hk : k < 4) : ((x.cells.drop 1).drop (k * 35)).take 35 = (x.get k).cells := by
  have := NV.at' h hk
  rw [PV.len (h k)] at this
  rwa [List.drop_drop]
theorem NV.ok_parts {x : NV} (h : x.ok = true) : 1 ≤ x.lv ∧ x.lv ≤ 3 ∧ ∀ k, k < 4 → (x.get k).ok = true := by
  simp only [NV.ok, Bool.and_eq_true, decide_eq_true_eq] at h
  refine ⟨h.1.1, h.1.2, fun k hk => ?_⟩
  have := (all4 (f := fun p => p.fits x.lv)).1 h.2 k hk
  simp only [PV.fits, Bool.or_eq_true, Bool.and_eq_true] at this
  rcases this with h1 | h1
  · exact PV.hole_ok h1
  · exact h1.1
theorem pack_no (x : NV) (w : World) (hx : x.In w) (hc : x.ok = false) : Calls Try.prog 40 #[.agg x.cells.toArray] w fun e w' => e = .returned (.tuple #[.slice none 0 0, .int .i64 2]) ∧ St w [] w' [] := by
  have hst := St.refl w
  have hL := hx.ln
  have hq := hid (NV.err_no hc)
  go_enter Try.func40, Try.ntmps40
  go_wp2_with (first | go_big_skip | go_big_guard | (refine wl_loadE rfl rfl rfl ?_; first | refine ⟨_, Loads.atA (x.cells) [] hst1 (NV.len hL) (NV.all x), ?_⟩) | (refine wl_boxA hst rfl rfl rfl ?_; intro g w1 hst1; clear hst) | (go_at_call 42; refine (ncheck_any x _ (NV.In.old hst1 hx)).mono ?_; rw [hq.out]; rintro _ _ ⟨rfl, h4⟩; replace hst1 := St.call0 hst1 h4; clear h4))
  go_ret2
  exact ⟨rfl, hst1.nil⟩
theorem pack_ok (x : NV) (w : World) (hx : x.In w) (hc : x.ok = true) : Calls Try.prog 40 #[.agg x.cells.toArray] w fun e w' => ∃ gb, e = .returned (.tuple #[.slice (some ⟨gb, 0, none⟩) 256 256, .int .i64 0]) ∧ St w [] w' [.blk gb 5 (bytesV x.bytes)] := by
  have hst := St.refl w
  have hL := hx.ln
  have hq := hid (NV.err_ok hc)
  obtain ⟨l1, l3, hok⟩ := NV.ok_parts hc
  have Hok := hid hok
  have hlv : x.cells[0]? = some (.int .i64 x.lv) := rfl
  clear hc hok
  go_enter Try.func40, Try.ntmps40
  go_wp2_with (first | go_big_skip | go_big_guard | (refine wl_loadE rfl rfl rfl ?_; first | refine ⟨_, Loads.atA (x.cells) [] hst1 (NV.len hL) (NV.all x), ?_⟩ | refine ⟨_, Loads.at [_] hst2 rfl, ?_⟩) | (refine wl_boxA hst rfl rfl rfl ?_; intro g w1 hst1; clear hst) | (go_at_call 42; refine (ncheck_any x _ (NV.In.old hst1 hx)).mono ?_; rw [hq.out]; rintro _ _ ⟨rfl, h4⟩; replace hst1 := St.call0 hst1 h4; clear h4) | (apply wl_make 1 256 hst1; rfl; rfl; exact rfl; exact rfl; infer_instance; infer_instance; infer_instance; exact rfl; exact rfl; decide; decide; intro gb w2 hst2; clear hst1) | (refine wl_store [] hst2 rfl rfl rfl (v := .int _ _) rfl rfl rfl (by show 0 + 1 ≤ (List.replicate 256 _).length; rw [List.length_replicate]; decide) ?_; intro w3 hst3; clear hst2) | (refine wl_loadE rfl rfl rfl ?_; refine ⟨_, Loads.atA (x.cells.drop 1) [_] hst3 (by rw [List.length_drop, NV.len hL]) (by rw [List.take_length]), ?_⟩))
  have e0 : putAt (List.replicate 256 (Value.int .u8 0)) 0 (Value.cells (.int .u8 x.lv)).toList = bytesV (packTo x 0) := by
    rw [packTo_zero]
    have : bytesV (lvB x.lv :: List.replicate 255 0) = .int .u8 ((lvB x.lv).toNat : Int) :: List.replicate 255 (.int .u8 0) := by
      simp only [bytesV, List.map_cons, List.map_replicate]
      rfl
    rw [this, lvB_val l1 l3]
    have e1 : (Value.cells (.int .u8 x.lv)).toList = [.int .u8 x.lv] := rfl
    rw [e1]
    simp only [putAt, List.take_zero, List.nil_append, List.length_singleton, List.drop_replicate, List.singleton_append]
  rw [e0] at hst3
  have hst4 : St w [] w3 [.blk gb 5 (bytesV (packTo x 0)), .blk g 51 x.cells] := hst3
  clear hst3 e0
  go_loopw [5, 23] (fun o i wr => ∃ k : Nat, k ≤ 4 ∧ i = .int .i64 k ∧ Hid (o = .slice (some ⟨gb, 0, none⟩) (1 + 47 * k) 256) ∧ St w [] wr [.blk gb 5 (bytesV (packTo x k)), .blk g 51 x.cells]) (fun _ i _ => 4 - (intOf i).toNat)
  case atStart => exact ⟨0, by omega, rfl, hid rfl, hst4⟩
  case round =>
    clear hst4
    obtain ⟨k, hk, rfl, ho, hst⟩ := hrel
    by_cases hk4 : k < 4
    · go_wp2_with (first | go_big_skip | go_big_guard | (refine wl_ixA (x.get k).cells rfl rfl rfl rfl Try.underlying49 (by kernel_rfl) hk4 (NV.at_tail hL hk4) ?_) | (refine wl_alloc hst rfl rfl ?_; intro g5 w5 hst5; clear hst) | (refine wl_storeA [] hst5 rfl rfl rfl rfl (PV.len (hL k)) (PV.ones (hx k)) rfl ?_; intro w6 hst6; clear hst5) | (refine wl_loadE rfl rfl rfl ?_; first | refine ⟨_, Loads.atA ((x.get k).cells) [] hst6 (PV.len (hL k)) (by simp), ?_⟩) | (go_at_call 19; refine (bytes_pv (x.get k) _ (PV.In.old hst6 (hx k)) (Hok.out k hk4)).mono ?_; rintro _ _ ⟨u, rfl, h4⟩; have hst7 := St.call hst6 h4; clear h4 hst6) | (apply wl_appRoom [_, _] hst7 ho.out; rfl; rfl; exact rfl; exact rfl; infer_instance; infer_instance; infer_instance; exact Rd.row hst7 (.head _); exact ones_bytesV _; omega; (rw [length_bytesV, length_packTo hL hk]); decide; intro w8 hst8; clear hst7))
      rw [Nat.mul_one, put_pack hL hk4] at hst8
      have hst9 : St w [] w8 [.blk gb 5 (bytesV (packTo x (k + 1))), .blk g 51 x.cells] := St.sub (L := [_, _, _, _]) hst8 (.cons _ (.cons _ (List.Sublist.refl _)))
      clear hst8
      have Ho := hid (show Value.slice (some ⟨gb, 0, none⟩) (1 + 47 * k + 47) 256 = .slice (some ⟨gb, 0, none⟩) (1 + 47 * (k + 1)) 256 by congr 1)
      go_roundw
      case rel => exact ⟨k + 1, by omega, by go_num, Ho, hst9⟩
      case measure => simp [intOf]; omega
    · have ek : k = 4 := by omega
      subst ek
      have ho' := ho.out
      subst ho'
      clear ho hk hk4
      go_wp2_with (first | go_big_skip | go_big_guard | fail)
      go_ret2
      exact ⟨gb, rfl, hst.sub (L' := [.blk gb 5 (bytesV x.bytes)]) (List.Sublist.cons_cons _ (List.nil_sublist _))⟩
end Go.Proofs.Ythjafocnfpphlaa
