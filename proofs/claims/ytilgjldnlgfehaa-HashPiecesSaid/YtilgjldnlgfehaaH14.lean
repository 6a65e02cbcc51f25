import Derived.Test.YtilgjldnlgfehaaH13
namespace Go.Proofs.Ytilgjldnlgfehaa
open Go.RowKit Go.Shelf Hp
attribute [local irreducible] Go.Calls
set_option maxRecDepth 100000
set_option maxHeartbeats 4000000
def cuts (F : List UInt8) (x : Nat) : List (List UInt8) := (List.range x).map (cut64 F)
theorem cuts_succ (F : List UInt8) (x : Nat) : cuts F (x + 1) = cuts F x ++ [cut64 F x] := by simp [cuts, List.range_succ]
theorem length_cuts (F : List UInt8) (x : Nat) : (cuts F x).length = x := by simp [cuts]
theorem refFill_any (ao : Option Addr) (n c : Nat) (bs : List UInt8) (w : World) (hA : Rd w (.slice ao n c) 1 n (bytesV bs)) (hn : bs.length = n) (hb : n ≤ 100000) :
    Calls Try.prog 12 #[.slice ao n c] w fun e w' => ∃ out vs, e = .returned out ∧ vs.length = (pieces bs).length ∧ St w [] w' (.row out 22 1 vs.length vs :: rowsB 5 vs (pieces bs)) := by
  have hst := St.refl w
  have Hn := hid hn
  clear hn
  go_enter Try.func12, Try.ntmps12
  go_wp2_with (first | go_big_skip | go_big_guard | (apply wl_bsX [] [] hst; rfl; rfl; exact rfl; exact rfl; infer_instance; infer_instance; rfl; rfl; rfl; intro g w1 hst1; clear hst; have hst2 := St.toRowP (n := 0) (cap := 0) (sz := 1) isB hst1 rfl (Nat.le_refl _) (by decide) rfl; clear hst1) | (apply wl_appP (p := isB) [] hst2; rfl; rfl; exact rfl; exact rfl; infer_instance; infer_instance; infer_instance; infer_instance; exact Rd.old hst2 hA; exact ones_bytesV bs; rfl; exact isB_bytes bs; (refine ⟨by decide, by unfold maxLen; omega, by omega⟩); intro v0 w2 hst3 _; clear hst2) | (apply wl_bsX [.int _ _] [.int _ _] hst3; rfl; rfl; exact rfl; exact rfl; infer_instance; infer_instance; rfl; rfl; rfl; intro gb _ hst4; clear hst3) | (apply wl_appP [_] hst4; rfl; rfl; exact rfl; exact rfl; infer_instance; infer_instance; infer_instance; infer_instance; exact (Rd.blk0 hst4 rfl (by decide)); exact rfl; rfl; rfl; (unfold maxLen; omega); intro v1 w9 hst5 _; clear hst4))
  have hst4 : St w [] w9 [.rowP isB v1 5 1 (n + 1 + 0) (bytesV (padB bs 0))] := by
    have h := St.sub hst5 (.cons _ (List.Sublist.refl _))
    have e : bytesV bs ++ [.int .u8 128] = bytesV (padB bs 0) := by simp [padB, bytesV]
    rw [← e, show n + 1 + 0 = 0 + n + 1 by omega]
    exact h
  clear hst5
  go_loopw [3] (fun u wr => ∃ j : Nat, j ≤ noughts n ∧ St w [] wr [.rowP isB u 5 1 (n + 1 + j) (bytesV (padB bs j))]) (fun u _ => n + 1 + noughts n - lenS u)
  case atStart => exact ⟨0, by omega, hst4⟩
  case round =>
    clear hst4
    obtain ⟨j, hj, hst⟩ := hrel
    obtain ⟨au, cu, hu⟩ := St.rowPSlice [] hst
    obtain ⟨L, hL⟩ : ∃ L, L = n + 1 + j := ⟨_, rfl⟩
    have hnl : noughts n < 64 := by unfold noughts; omega
    have hlen : (Builtin.len_ #[22] 3 #[u3]).run Try.prog wr = .ok (.int .i64 (L : Int)) wr := by subst hu; rw [hL]; rfl
    have hL1 : L ≤ 200000 := by omega
    have Hu := hid hu
    obtain ⟨r, hr⟩ : ∃ r, r = L % 64 := ⟨_, rfl⟩
    have e1 : Int.tmod (L : Int) 64 = (r : Int) := by rw [Int.tmod_eq_emod_of_nonneg (by omega)]; omega
    have e2 : (L : Int) % 64 = (r : Int) := by omega
    clear hu
    by_cases hjn : j < noughts n
    · have hne := noughts_ne hjn
      have d1 : ((r : Int) != 56) = true := by simp; omega
      rw [← hL] at hst
      have HL := hid hL
      clear hL hr hne
      go_wp2_with (first | go_big_skip | go_big_guard | (apply wl_bsX [.int _ _] [.int _ _] hst; rfl; rfl; exact rfl; exact rfl; infer_instance; infer_instance; rfl; rfl; rfl; intro gb _ hst2; clear hst) | (apply wl_appP [_] hst2; rfl; rfl; exact rfl; exact rfl; infer_instance; infer_instance; infer_instance; infer_instance; exact (Rd.blk0 hst2 rfl (by decide)); exact rfl; rfl; rfl; (unfold maxLen; omega); intro v1 w9 hst3 _; clear hst2))
      have hst5 : St w [] w9 [.rowP isB v1 5 1 (n + 1 + (j + 1)) (bytesV (padB bs (j + 1)))] := by
        have h := St.sub hst3 (.cons _ (List.Sublist.refl _))
        rw [← padB_succ, show n + 1 + (j + 1) = L + 1 by rw [HL.out]; omega]
        exact h
      clear hst3
      obtain ⟨a9, c9, hu9⟩ := St.rowPSlice [] hst5
      have Hu9 := hid hu9
      clear hu9
      go_roundw
      case rel => exact ⟨j + 1, by omega, hst5⟩
      case measure =>
        rw [Hu9.out, Hu.out]
        show n + 1 + noughts n - (n + 1 + (j + 1)) < n + 1 + noughts n - (n + 1 + j)
        omega
    · have ej : j = noughts n := by omega
      subst ej
      have hq := noughts_eq n
      have d1 : ((r : Int) != 56) = false := by simp; omega
      have HL := hid hL
      rw [← hL] at hst
      obtain ⟨M, hM⟩ : ∃ M : Int, M = 8 * (n : Int) := ⟨_, rfl⟩
      have z0 : IntKind.i64.wrap (8 * (n : Int)) = M := by rw [hM]; exact IntWalk.i64_in _ (by omega)
      have HM := hid hM
      clear hL hr hq hj hjn hM
      go_wp2_with (first | go_big_skip | go_big_guard | fail)
      clear z0 e1 e2 d1 hlen
      have hst6 : St w [] wr [.rowP isB u3 5 1 (L + 0) (bytesV (padB bs (noughts n) ++ (numB (8 * n) 8).take 0))] := by simpa using hst
      clear hst
      go_loopw [3, 5] (fun u q wr => ∃ i : Nat, i ≤ 8 ∧ q = .int .i64 (7 - (i : Int)) ∧ St w [] wr [.rowP isB u 5 1 (L + i) (bytesV (padB bs (noughts n) ++ (numB (8 * n) 8).take i))]) (fun _ q _ => (intOf q + 1).toNat)
      case atStart => exact ⟨0, by omega, rfl, hst6⟩
      case round =>
        clear hst6
        obtain ⟨i, hi, rfl, hst⟩ := hrel
        by_cases hi8 : i < 8
        · obtain ⟨Q, hQ⟩ : ∃ Q : Int, Q = M / 2 ^ (8 * (7 - (i : Int))).toNat := ⟨_, rfl⟩
          have z0 : IntKind.i64.wrap (8 * (7 - (i : Int))) = 8 * (7 - (i : Int)) := IntWalk.i64_in _ (by omega)
          have z1 : IntKind.i64.wrap (7 - (i : Int) - 1) = 7 - (i : Int) - 1 := IntWalk.i64_in _ (by omega)
          have f1 : ∀ T, binOp .shr T (.int .i64 M) (.int .i64 (8 * (7 - (i : Int)))) = pure (.int .i64 Q) := by
            intro T
            show Op.shift .shr .i64 M .i64 (8 * (7 - (i : Int))) = _
            rw [shift_shr .i64 .i64 M _ (by omega) (by show _ ≤ (64 : Int); omega), hQ]
          have f3 : Q % 256 = ((byteAt (8 * n) (7 - i)).toNat : Int) := by
            rw [hQ, byteAt_int, HM.out, show (8 * (7 - (i : Int))).toNat = 8 * (7 - i) by omega]
          have f2 : IntKind.u8.wrap Q = ((byteAt (8 * n) (7 - i)).toNat : Int) := f3
          obtain ⟨Y, hY⟩ : ∃ Y, Y = byteAt (8 * n) (7 - i) := ⟨_, rfl⟩
          rw [← hY] at f2 f3
          have HY := hid hY
          have g0 : decide ((0 : Int) ≤ 7 - (i : Int)) = true := decide_eq_true (by omega)
          clear hY hQ
          go_wp2_with (first | go_big_skip | go_big_guard | (apply wl_bsX [.int _ _] [.int _ _] hst; rfl; rfl; exact rfl; exact rfl; infer_instance; infer_instance; rfl; rfl; rfl; intro gb _ hst2; clear hst) | (apply wl_appP (ys := bytesV [Y]) [_] hst2; rfl; rfl; exact rfl; exact rfl; infer_instance; infer_instance; infer_instance; infer_instance; exact (Rd.blk0 hst2 rfl (by decide)); exact rfl; rfl; exact isB_bytes _; (unfold maxLen; omega); intro v1 w9 hst3 _; clear hst2))
          have hst5 : St w [] w9 [.rowP isB v1 5 1 (L + (i + 1)) (bytesV (padB bs (noughts n) ++ (numB (8 * n) 8).take (i + 1)))] := by
            have h := St.sub hst3 (.cons _ (List.Sublist.refl _))
            rw [numB_take _ _ _ hi8, ← List.append_assoc, bytesV_append _ [_], show 8 - 1 - i = 7 - i by omega, ← HY.out]
            exact h
          clear hst3
          go_roundw
          case rel => exact ⟨i + 1, by omega, (by congr 1 <;> push_cast <;> try omega), hst5⟩
          case measure => simp [intOf]; omega
        · have ei : i = 8 := by omega
          subst ei
          rw [show (7 : Int) - ((8 : Nat) : Int) = -1 from by decide]
          obtain ⟨F, hF⟩ : ∃ F, F = filled bs := ⟨_, rfl⟩
          obtain ⟨m, hm⟩ : ∃ m, m = F.length / 64 := ⟨_, rfl⟩
          have hFl : F.length = 64 * m := by
            have h1 := filled_mod bs
            rw [← hF] at h1
            omega
          have hLm : L + 8 = 64 * m := by rw [← hFl, hF, length_filled, Hn.out, HL.out]; omega
          rw [filled_pad bs Hn.out, ← hF, hLm] at hst
          have HF := hid hF
          have HFl := hid hFl
          have Hm := hid hm
          have hm0 : 0 < m := by omega
          have hm1 : 64 * m ≤ 1000000 := by omega
          obtain ⟨ga, cap, rfl, hcap, hcm⟩ := rowP_some hst (.head _) (by omega)
          clear hF hm hFl hLm hi hi8
          go_wp2_with (first | go_big_skip | go_big_guard | fail)
          have hst2 : St w [] wr (.row (.slice none 0 0) 22 1 0 [] :: (rowsB 5 [] (cuts F 0) ++ [.rowP isB (.slice (some ⟨ga, 0, none⟩) (64 * m) cap) 5 1 (64 * m) (bytesV F)])) := St.nilRow 22 1 hst
          clear hst
          go_loopw [6, 7] (fun u q wr => ∃ (x : Nat) (vs : List Value), x ≤ m ∧ q = .int .i64 (64 * (x : Int)) ∧ vs.length = x ∧ St w [] wr (.row u 22 1 x vs :: (rowsB 5 vs (cuts F x) ++ [.rowP isB (.slice (some ⟨ga, 0, none⟩) (64 * m) cap) 5 1 (64 * m) (bytesV F)]))) (fun _ q _ => (64 * (m : Int) - intOf q).toNat)
          case atStart => exact ⟨0, [], by omega, rfl, rfl, hst2⟩
          case round =>
            clear hst2
            obtain ⟨x, vs, hx, rfl, hvl, hst⟩ := hrel
            have HV := hid hvl
            clear hvl
            have g1 : ((64 * m : Nat) : Int) = 64 * (m : Int) := by push_cast; rfl
            by_cases hxm : x < m
            · have z0 : IntKind.i64.wrap (64 * (x : Int) + 64) = 64 * (x : Int) + 64 := IntWalk.i64_in _ (by omega)
              have hlt : decide (64 * (x : Int) < 64 * (m : Int)) = true := decide_eq_true (by omega)
              have n1 : (64 * (x : Int)).toNat = 64 * x := by omega
              have n2 : (64 * (x : Int) + 64).toNat = 64 * x + 64 := by omega
              have n3 : 64 * (x : Int) + 64 ≤ (cap : Int) := by omega
              have n4 : 64 * (x : Int) ≤ 64 * (x : Int) + 64 := by omega
              have n5 : 0 ≤ 64 * (x : Int) := by omega
              have n6 : 0 ≤ 64 * (x : Int) + 64 := by omega
              have HC := hid (length_cut64 HFl.out hxm)
              go_wp2_with (first | go_big_skip | go_big_guard | (apply wl_bsX [] [] hst; rfl; rfl; exact rfl; exact rfl; infer_instance; infer_instance; rfl; rfl; rfl; intro g1 w1 hst1; clear hst; have hst2 := St.toRowP (n := 0) (cap := 0) (sz := 1) isB hst1 rfl (Nat.le_refl _) (by decide) rfl; clear hst1) | (apply wl_appP [] hst2; rfl; rfl; exact rfl; exact rfl; infer_instance; infer_instance; infer_instance; infer_instance; exact (Rd.win (64 * x) (Rd.rowP hst2 (.tail _ (.tail _ (List.mem_append_right _ (.head _))))) (by omega) (by omega) (by omega)); exact ones_bytesV _; rfl; exact isB_bytes _; (unfold maxLen; omega); intro v2 w2 hst3 _; clear hst2; obtain ⟨ax, cx, rfl⟩ := St.rowPSlice [] hst3) | (apply wl_bsX [.slice _ _ _] [.slice _ _ _] hst3; rfl; rfl; exact rfl; exact rfl; infer_instance; infer_instance; rfl; rfl; rfl; intro g8 w3 hst4; clear hst3) | (apply wl_appX [_, _] hst4; rfl; rfl; exact rfl; exact rfl; infer_instance; infer_instance; infer_instance; exact (Rd.blk0 hst4 rfl (by decide)); exact rfl; (unfold maxLen; omega); intro v4 w4 hst5 _; clear hst4))
              have hN : St w [] w4 (.row v4 22 1 (x + 1) (vs ++ [.slice ax 64 cx]) :: (rowsB 5 (vs ++ [.slice ax 64 cx]) (cuts F (x + 1)) ++ [.rowP isB (.slice (some ⟨ga, 0, none⟩) (64 * m) cap) 5 1 (64 * m) (bytesV F)])) := by
                have h : St w [] w4 (.rowP isB (.slice ax 64 cx) 5 1 64 (bytesV (cut64 F x)) :: .row v4 22 1 (x + 1) (vs ++ [.slice ax 64 cx]) :: (rowsB 5 vs (cuts F x) ++ [.rowP isB (.slice (some ⟨ga, 0, none⟩) (64 * m) cap) 5 1 (64 * m) (bytesV F)])) := St.sub hst5 (.cons _ (List.Sublist.refl _))
                rw [cuts_succ, rowsB_snoc _ _ _ _ _ (by rw [length_cuts, HV.out]), HC.out]
                refine St.perm h ?_
                refine (List.Perm.swap _ _ _).trans (List.Perm.cons _ ?_)
                rw [List.append_assoc]
                exact List.perm_middle.symm
              clear hst5
              have HV2 := hid (show (vs ++ [Value.slice ax 64 cx]).length = x + 1 by simp [HV.out])
              go_roundw
              case rel => exact ⟨x + 1, _, by omega, (by congr 1 <;> push_cast <;> try omega), HV2.out, hN⟩
              case measure => simp [intOf]; omega
            · have e : x = m := by omega
              subst e
              have hlt : decide (64 * (x : Int) < 64 * (x : Int)) = false := decide_eq_false (by omega)
              have hp : cuts F x = pieces bs := by rw [cuts, Hm.out, HF.out]; rfl
              have HP := hid hp
              clear hp
              go_wp2_with (first | go_big_skip | go_big_guard | fail)
              go_ret
              refine ⟨u6, vs, rfl, ?_, ?_⟩
              · rw [HV.out, ← HP.out, length_cuts]
              · rw [← HP.out, HV.out]
                exact St.sub hst (.cons_cons _ (List.sublist_append_left _ _))
end Go.Proofs.Ytilgjldnlgfehaa
