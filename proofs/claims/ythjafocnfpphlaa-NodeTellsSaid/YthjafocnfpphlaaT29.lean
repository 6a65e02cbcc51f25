import Derived.Test.YthjafocnfpphlaaT24
namespace Go.Proofs.Ythjafocnfpphlaa
open Go.RowKit Hp
attribute [local irreducible] Go.Calls
set_option maxHeartbeats 4000000
def lenV : Value → Nat
  | .slice _ n _ => n
  | _ => 0
def refTo (x : NV) (k : Nat) : List UInt8 := lvB x.lv :: ((List.range k).map fun j => (x.get j).bytes).flatten
theorem refTo_zero {x : NV} (h1 : 1 ≤ x.lv) (h3 : x.lv ≤ 3) : bytesV (refTo x 0) = [.int .u8 x.lv] := by
  show [Value.int .u8 ((lvB x.lv).toNat : Int)] = _
  rw [lvB_val h1 h3]
theorem refTo_succ (x : NV) (k : Nat) : refTo x (k + 1) = refTo x k ++ (x.get k).bytes := by
  rw [refTo, List.range_succ, List.map_append, List.flatten_append, refTo]
  simp
theorem refTo_all (x : NV) : refTo x 4 ++ List.replicate 67 0 = x.bytes := rfl
theorem refTo_pad (x : NV) (k : Nat) : bytesV (refTo x 4 ++ List.replicate k 0) ++ [.int .u8 0] = bytesV (refTo x 4 ++ List.replicate (k + 1) 0) := by
  rw [List.replicate_succ', ← List.append_assoc, bytesV_append _ [_]]
  rfl
theorem refPack_no (x : NV) (w : World) (hx : x.In w) (hc : x.ok = false) : Calls Try.prog 41 #[.agg x.cells.toArray] w fun e w' => e = .returned (.tuple #[.slice none 0 0, .int .i64 2]) ∧ St w [] w' [] := by
  have hst := St.refl w
  have hL := hx.ln
  have hq := hid (NV.err_no hc)
  go_enter Try.func41, Try.ntmps41
  go_wp2_with (first | go_big_skip | go_big_guard | (refine wl_loadE rfl rfl rfl ?_; first | refine ⟨_, Loads.atA (x.cells) [] hst1 (NV.len hL) (NV.all x), ?_⟩) | (refine wl_boxA hst rfl rfl rfl ?_; intro g w1 hst1; clear hst) | (go_at_call 43; refine (refNcheck_any x _ (NV.In.old hst1 hx)).mono ?_; rw [hq.out]; rintro _ _ ⟨rfl, h4⟩; replace hst1 := St.call0 hst1 h4; clear h4))
  go_ret2
  exact ⟨rfl, hst1.nil⟩
set_option maxRecDepth 100000 in
theorem refPack_ok (x : NV) (w : World) (hx : x.In w) (hc : x.ok = true) : Calls Try.prog 41 #[.agg x.cells.toArray] w fun e w' => ∃ u, e = .returned (.tuple #[u, .int .i64 0]) ∧ St w [] w' [.row u 5 1 256 (bytesV x.bytes)] := by
  have hst := St.refl w
  have hL := hx.ln
  have hq := hid (NV.err_ok hc)
  obtain ⟨l1, l3, hok⟩ := NV.ok_parts hc
  have Hok := hid hok
  have hlv : x.cells[0]? = some (.int .i64 x.lv) := rfl
  have ez := hid (refTo_zero l1 l3)
  clear hc hok
  go_enter Try.func41, Try.ntmps41
  go_wp2_with (first | go_big_skip | go_big_guard | (refine wl_loadE rfl rfl rfl ?_; first | refine ⟨_, Loads.atA (x.cells) [] hst1 (NV.len hL) (NV.all x), ?_⟩ | refine ⟨_, Loads.at [] hst1 rfl, ?_⟩) | (refine wl_boxA hst rfl rfl rfl ?_; intro g w1 hst1; clear hst) | (go_at_call 43; refine (refNcheck_any x _ (NV.In.old hst1 hx)).mono ?_; rw [hq.out]; rintro _ _ ⟨rfl, h4⟩; replace hst1 := St.call0 hst1 h4; clear h4) | (apply wl_bsX ([.int _ _]) ([.int _ _]) hst1; rfl; rfl; exact rfl; exact rfl; infer_instance; infer_instance; rfl; rfl; rfl; intro g2 w2 hst2; clear hst1))
  have hst3 : St w [] w2 [.row (.slice (some ⟨g2, 0, none⟩) 1 1) 5 1 (1 + 47 * 0) (bytesV (refTo x 0)), .blk g 51 x.cells] := by
    rw [ez.out]
    exact St.toRow (n := 1) (cap := 1) (sz := 1) hst2 rfl (by decide) (by decide)
  clear hst2 hlv
  go_loopw [4, 5] (fun u i wr => ∃ k : Nat, k ≤ 4 ∧ i = .int .i64 k ∧ St w [] wr [.row u 5 1 (1 + 47 * k) (bytesV (refTo x k)), .blk g 51 x.cells]) (fun _ i _ => 4 - (intOf i).toNat)
  case atStart => exact ⟨0, by omega, rfl, hst3⟩
  case round =>
    clear hst3
    obtain ⟨k, hk, rfl, hst⟩ := hrel
    by_cases hk4 : k < 4
    · go_wp2_with (first | go_big_skip | go_big_guard | (refine wl_loadE rfl rfl rfl ?_; refine ⟨_, Loads.atA (off := 1 + k * 35) (x.get k).cells [_] hst (PV.len (hL k)) (NV.at' hL hk4), ?_⟩) | (go_at_call 25; refine (refBytes_pv (x.get k) _ (PV.In.old hst (hx k)) (Hok.out k hk4)).mono ?_; rintro _ _ ⟨u, rfl, h4⟩; have hst7 := St.call hst h4; clear h4 hst) | (apply wl_appX [_] hst7; rfl; rfl; exact rfl; exact rfl; infer_instance; infer_instance; infer_instance; exact (Rd.row hst7 (.head _)); exact (ones_bytesV _); ((unfold maxLen; omega)); intro v9 w9 hst9 _; clear hst7))
      rw [← bytesV_append, ← refTo_succ] at hst9
      have hs9 : St w [] w9 [.row v9 5 1 (1 + 47 * (k + 1)) (bytesV (refTo x (k + 1))), .blk g 51 x.cells] := by
        rw [show 1 + 47 * (k + 1) = 1 + 47 * k + 47 by omega]
        exact St.sub hst9 (.cons _ (List.Sublist.refl _))
      clear hst9
      go_roundw
      case rel => exact ⟨k + 1, by omega, by go_num, hs9⟩
      case measure => simp [intOf]; omega
    · have ek : k = 4 := by omega
      subst ek
      have hst4 : St w [] wr [.row u4 5 1 (189 + 0) (bytesV (refTo x 4 ++ List.replicate 0 0)), .blk g 51 x.cells] := by simpa using hst
      clear hst hk hk4
      go_wp2_with (first | go_big_skip | go_big_guard | fail)
      go_loopw [4] (fun u wr => ∃ k : Nat, k ≤ 67 ∧ St w [] wr [.row u 5 1 (189 + k) (bytesV (refTo x 4 ++ List.replicate k 0)), .blk g 51 x.cells]) (fun u _ => 256 - lenV u)
      case atStart => exact ⟨0, by omega, hst4⟩
      case round =>
        clear hst4
        obtain ⟨k, hk, hst⟩ := hrel
        obtain ⟨ao, c, hu⟩ := St.rowSliceAt [] hst
        have hlen : (Builtin.len_ #[22] 3 #[u4]).run Try.prog wr = .ok (.int .i64 ((189 + k : Nat) : Int)) wr := by subst hu; rfl
        have Hu := hid hu
        clear hu
        by_cases hk4 : k < 67
        · have d1 : decide (((189 + k : Nat) : Int) < 256) = true := by simp; omega
          go_wp2_with (first | go_big_skip | go_big_guard | (apply wl_bsX ([.int _ _]) ([.int _ _]) hst; rfl; rfl; exact rfl; exact rfl; infer_instance; infer_instance; rfl; rfl; rfl; intro gb w8 hst8; clear hst) | (apply wl_appX [_] hst8; rfl; rfl; exact rfl; exact rfl; infer_instance; infer_instance; infer_instance; exact (Rd.blk0 hst8 rfl (by decide)); exact rfl; ((unfold maxLen; omega)); intro v9 w9 hst9 _; clear hst8))
          have hs9 : St w [] w9 [.row v9 5 1 (189 + (k + 1)) (bytesV (refTo x 4 ++ List.replicate (k + 1) 0)), .blk g 51 x.cells] := by
            rw [← refTo_pad]
            exact St.sub hst9 (.cons _ (List.Sublist.refl _))
          obtain ⟨ao9, c9, hu9⟩ := St.rowSliceAt [] hs9
          clear hst9
          go_roundw
          case rel => exact ⟨_, _, _, _, _, _, _, ⟨k + 1, by omega, hs9⟩, rfl⟩
          case measure =>
            rw [hu9, Hu.out]
            show 256 - (189 + (k + 1)) < 256 - (189 + k)
            omega
        · have d1 : decide (((189 + k : Nat) : Int) < 256) = false := by simp; omega
          have ek : k = 67 := by omega
          subst ek
          go_wp2_with (first | go_big_skip | go_big_guard | fail)
          go_ret2
          exact ⟨_, rfl, St.sub hst (.cons_cons _ (List.nil_sublist _))⟩
end Go.Proofs.Ythjafocnfpphlaa
