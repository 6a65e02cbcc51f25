/- PROVED: the law MirrorKnown returns true at any input, and nothing that was there has turned. No condition. -/
import Derived.Test.YtmdfbdfijnmhkaaGreatJMirrorKnowne
import Derived.Test.YtmdfbdfijnmhkaaGreatJMirrorKnowna
import Derived.Test.YtmdfbdfijnmhkaaGreatR34
import Derived.Test.YtmdfbdfijnmhkaaGreatPost
namespace Go.Proofs.YtmdfbdfijnmhkaaGreat
set_option linter.unusedVariables false
set_option linter.unusedSimpArgs false
open Go.RowKit Hp
attribute [local irreducible] Go.Calls Go.wpList
set_option maxRecDepth 100000
set_option maxHeartbeats 8000000
theorem gb_sect {w0 : World} {M : List Nat} {R : List HA} {g : Nat} {b : UInt8} (hm : HA.blk g 5 (bytesV (sect b)) ∈ R) : GB w0 M R (.slice (some ⟨g, 0, none⟩) 256 256) 256 (sect b) :=
  GB.blk hm (sect_len b) (List.take_of_length_le (by rw [sect_len]; exact Nat.le_refl _)) (Nat.le_refl _) (by decide)
theorem dk_fine {g : Nat} {s : List UInt8} (h : s.length = 256) : (dk g s).Fine 8 := by
  refine ⟨rfl, fun t ht => ?_, (fun h => by cases h), Int.le_refl _, by show (0 : Int) ≤ _; decide⟩
  have h0 := sect_len 0
  simp only [dk, List.mem_cons, List.not_mem_nil, or_false] at ht
  rcases ht with rfl | rfl | rfl | rfl | rfl | rfl | rfl | rfl <;> assumption
theorem ak_ok {p q r : Nat} {a b c : List UInt8} {L : List LW} {st : Int} (ha : a.length = 256) (hb : b.length = 256) (hc : c.length = 256) (hL : ∀ w ∈ L, w.dev < 3 ∧ w.pl < 8 ∧ w.b.length = 256) : (AK p q r a b c L st).Ok := by
  refine ⟨(fun h => by cases h), by show 3 ≤ 8; decide, by show 8 ≤ 4096; decide, fun d hd => ?_, hL, ⟨Int.le_refl _, by show (-1 : Int) ≤ _; decide⟩⟩
  simp only [AK, List.mem_cons, List.not_mem_nil, or_false] at hd
  rcases hd with rfl | rfl | rfl
  · exact dk_fine ha
  · exact dk_fine hb
  · exact dk_fine hc
theorem ak_good {p q r : Nat} {a b c : List UInt8} {L : List LW} {st : Int} {e : List ER} {N : Nat} (ha : a.length = 256) (hb : b.length = 256) (hc : c.length = 256) (hL : ∀ w ∈ L, w.dev < 3 ∧ w.pl < 8 ∧ w.b.length = 256) (hs : 0 ≤ st ∧ st ≤ (N : Int)) (hl : L.length ≤ N) (he : e.length = 8) (hn : ∀ x ∈ e, 0 ≤ x.rd ∧ x.rd ≤ N ∧ 0 ≤ x.sm ∧ x.sm ≤ N ∧ 0 ≤ x.he ∧ x.he ≤ N) : MGood ⟨AK p q r a b c L st, e⟩ N :=
  ⟨⟨ak_ok ha hb hc hL, by show 8 ≤ 8; decide, hs, hl⟩, he, hn⟩
theorem spo_len {s : List UInt8} {k : Nat} {m : UInt8} (h : s.length = 256) : (spo s k m).length = 256 := by unfold spo; rw [List.length_set, h]
theorem zeroE_ok (N : Nat) : ∀ x ∈ zeroE, 0 ≤ x.rd ∧ x.rd ≤ N ∧ 0 ≤ x.sm ∧ x.sm ≤ N ∧ 0 ≤ x.he ∧ x.he ≤ N := by
  intro x hx
  rw [List.eq_of_mem_replicate hx]
  exact ⟨Int.le_refl _, Int.natCast_nonneg _, Int.le_refl _, Int.natCast_nonneg _, Int.le_refl _, Int.natCast_nonneg _⟩
def W0 (p q r : Nat) : MV := ⟨AK p q r (sect 0) (sect 0) (sect 0) [] 0, zeroE⟩
theorem w0_good (p q r : Nat) : MGood (W0 p q r) 10 := ak_good (sect_len _) (sect_len _) (sect_len _) (by simp) (by decide) (by decide) rfl (zeroE_ok _)
theorem w2_good (p q r : Nat) : MGood (W2 p q r) 10 := ak_good (sect_len _) (sect_len _) (sect_len _) (by simp) (by decide) (by decide) rfl (zeroE_ok _)
theorem w3_good (p q r : Nat) : MGood (W3 p q r) 10 := ak_good (spo_len (sect_len _)) (sect_len _) (sect_len _) (by simp) (by decide) (by decide) rfl (zeroE_ok _)
theorem w4_good (p q r : Nat) : MGood (W4 p q r) 10 := ak_good (spo_len (sect_len _)) (sect_len _) (sect_len _) (by intro w hw; rw [List.mem_singleton.1 hw]; exact ⟨by decide, by decide, sect_len _⟩) (by decide) (by decide) rfl (by
  intro x hx
  simp only [List.mem_cons, List.not_mem_nil, or_false] at hx
  rcases hx with rfl | rfl | rfl | rfl | rfl | rfl | rfl | rfl <;> decide)
instance sI16e : TySI Tryz.prog 71 3 := ⟨by kernel_rfl⟩
theorem eqlErr (a b c a' b' c' : Int) (w : World) : (binOp .eql 71 (.agg #[.int .i64 a, .int .i64 b, .int .i64 c]) (.agg #[.int .i64 a', .int .i64 b', .int .i64 c'])).run Tryz.prog w = .ok (.bool (([a, b, c] : List Int) == [a', b', c'])) w := run_eqlSI (P := Tryz.prog) (T := 71) (q := .i64) [a, b, c] [a', b', c'] rfl rfl
theorem guardErr (op : BinOp) (x y : Operand) (xs ys : Array Value) (w : World) : (eqGuard op 71 x y (.agg xs) (.agg ys)).run Tryz.prog w = .ok () w := run_guardSI op x y xs ys
section
attribute [local go_sem ↓] loadedPt storedPt eqlErr guardErr
theorem awake16_any (w : World) : Calls Tryz.prog 8 #[] w fun e w' => e = .returned (.bool true) ∧ St w [] w' [] := by
  have hst := St.refl w
  obtain ⟨S, hS⟩ : ∃ S, S = sumB (sect 2) := ⟨_, rfl⟩
  have HS := hid hS.symm
  have HL := hid (show L32 S from by rw [hS]; exact length_bytesS _)
  clear hS
  go_enter Tryz.func8, Tryz.ntmps8
  go_wp2_with (first | go_big_skip | go_big_guard | (go_at_call 9; refine (made16_any _).mono ?_; rintro _ _ ⟨gm, ga, x0, gs, rfl, hg, h4⟩; obtain ⟨p, q, r, rfl⟩ : ∃ p q r, gs = [p, q, r] := (match gs, hg with | [p, q, r], _ => ⟨p, q, r, rfl⟩); have hm0 : St w [] _ (mP gm ga x0 (W0 p q r) ++ []) := (by have h5 := St.call hst h4; rw [newA_ak] at h5; exact h5); clear h4 hg hst; unfold PM))
  go_wp2_with (first | go_big_skip | go_big_guard | (go_at_call 11; refine (of16_any 2 _).mono ?_; rintro _ _ ⟨gb, rfl, h4⟩; have hm1 := St.behind (A := (mP gm ga x0 (W0 p q r))) (St.call hm0 h4); clear h4 hm0) | (go_at_call 12; have HC := points_any hm1 (some ⟨gb, 0, none⟩) 256 256 (sect 2) (gb_sect (List.mem_append_right _ (.head _))).rd (sect_len _) (by decide) 2 (by omega); rw [HS.out] at HC; refine HC.mono ?_; clear HC; rintro _ _ ⟨sa, sc, rfl, h4⟩; have hm2 := St.behind (A := (mP gm ga x0 (W0 p q r))) h4; clear h4 hm1) | (refine wl_alloc (T := 34) hm2 rfl rfl ?_; intro gp _ hm3; clear hm2) | (refine wl_storeA [] hm3 rfl rfl rfl rfl (ptr_len HL.out _ _ _) (ptr_ones _ _ _ _ _ _) (ptr_len L32.nones _ _ _) ?_; intro _ hm4; clear hm3; have hm5 := St.behind (A := (mP gm ga x0 (W0 p q r))) hm4; clear hm4))
  have hX := hm5.drew
  clear hm5
  refine wp_region_held_drew (S := (fun w' => (loadVarH 34 ⟨gp, 0, none⟩).run Tryz.prog w' = .ok (.agg (List.toArray (ptrCells (.slice sa 2 sc) 1 0 S))) w')) (by kernel_rfl) (by exact Loads.blkA (P := Tryz.prog) (T := 34) (vs := (ptrCells (.slice sa 2 sc) 1 0 S)) hX (by rw [ptr_len HL.out]; exact TyA.out) (List.mem_append_right _ (.head _)) (ptr_all _ _ _ _)) (fun hHeld => ?_)
  refine wpAnyH_take (i := 0) (oi := ⟨some 18, _, _, _, _, _⟩) (v := ?_) rfl (by kernel_rfl) (by kernel_rfl) (by kernel_rfl) (fun _ _ _ h => h) (Or.inl ⟨by rfl, ?_⟩) (by assumption) ?_
  rotate_left
  · intro w hSw; (try dsimp only at hSw); go_simp; try with_reducible rfl
  (try simp only [Act.put, List.setIfInBounds_toArray, List.set_cons_zero, List.set_cons_succ])
  refine wpAnyH_take (i := 1) (oi := ⟨some 19, _, _, _, _, _⟩) (v := ?_) rfl (by kernel_rfl) (by kernel_rfl) (by kernel_rfl) (fun _ _ _ h => h) (Or.inl ⟨by rfl, ?_⟩) (by assumption) ?_
  rotate_left
  · intro w hSw; (try dsimp only at hSw); go_simp; try with_reducible rfl
  (try simp only [Act.put, List.setIfInBounds_toArray, List.set_cons_zero, List.set_cons_succ])
  refine wpAnyH_ready (rs := [2]) (by kernel_rfl) (by simp) ?_
  refine (AllReadyH.cons (o := ⟨some 20, _, _, _, _, _⟩) rfl (fun K hK => ?_) AllReadyH.nil)
  rw [if_pos (by rfl)]
  go_simp
  go_at_call 11
  refine (of16_any 2 _).mono ?_
  rintro _ _ ⟨g1, rfl, h4⟩
  have hm6 := St.behind (A := (mP gm ga x0 (W0 p q r))) (St.call hX h4)
  clear h4 hX
  refine hK.out _ _ ?_ (fun hHeld => ?_)
  · exact Loads.blkA (P := Tryz.prog) (T := 34) (vs := (ptrCells (.slice sa 2 sc) 1 0 S)) hm6 (by rw [ptr_len HL.out]; exact TyA.out) (List.mem_append_right _ (.tail _ (.head _))) (ptr_all _ _ _ _)
  clear hK K
  (try simp only [Act.put, List.setIfInBounds_toArray, List.set_cons_zero, List.set_cons_succ])
  refine wpAnyH_ready (rs := [3]) (by kernel_rfl) (by simp) ?_
  refine (AllReadyH.cons (o := ⟨some 21, _, _, _, _, _⟩) rfl (fun K hK => ?_) AllReadyH.nil)
  rw [if_pos (by rfl)]
  go_simp
  go_at_call 13
  have HC := puts_any hm6 (w0_good p q r) sa 2 sc (onDevs 2) 1 0 S HL.out (fun _ h => Rd.row h (.tail _ (.tail _ (.head _)))) (onDevs_len _) (some ⟨g1, 0, none⟩) 256 256 _ (gb_sect (.head _)) (by omega) _ _ (ak_put2 ..) (ak_flush2 ..)
  refine HC.mono ?_
  clear HC
  rintro _ _ ⟨y7, rfl, h4⟩
  have hm8 : St _ _ _ ((mP gm ga y7 (W2 p q r)) ++ _) := h4
  clear h4 hm6
  refine hK.out _ _ ?_ (fun hHeld => ?_)
  · exact Loads.blkA (P := Tryz.prog) (T := 34) (vs := (ptrCells (.slice sa 2 sc) 1 0 S)) hm8 (by rw [ptr_len HL.out]; exact TyA.out) (List.mem_append_right _ (.tail _ (.head _))) (ptr_all _ _ _ _)
  clear hK K
  (try simp only [Act.put, List.setIfInBounds_toArray, List.set_cons_zero, List.set_cons_succ])
  refine wpAnyH_take (i := 4) (oi := ⟨some 22, _, _, _, _, _⟩) (v := ?_) rfl (by kernel_rfl) (by kernel_rfl) (by kernel_rfl) (fun _ _ _ h => h) (Or.inl ⟨by rfl, ?_⟩) (by assumption) ?_
  rotate_left
  · intro w hSw; (try dsimp only at hSw); go_simp; try with_reducible rfl
  (try simp only [Act.put, List.setIfInBounds_toArray, List.set_cons_zero, List.set_cons_succ])
  refine wpAnyH_take (i := 5) (oi := ⟨some 23, _, _, _, _, _⟩) (v := ?_) rfl (by kernel_rfl) (by kernel_rfl) (by kernel_rfl) (fun _ _ _ h => h) (Or.inl ⟨by rfl, ?_⟩) (by assumption) ?_
  rotate_left
  · intro w hSw; (try dsimp only at hSw); go_simp; try with_reducible rfl
  (try simp only [Act.put, List.setIfInBounds_toArray, List.set_cons_zero, List.set_cons_succ])
  refine wpAnyH_take (i := 6) (oi := ⟨some 24, _, _, _, _, _⟩) (v := ?_) rfl (by kernel_rfl) (by kernel_rfl) (by kernel_rfl) (fun _ _ _ h => h) (Or.inl ⟨by rfl, ?_⟩) (by assumption) ?_
  rotate_left
  · intro w hSw; (try dsimp only at hSw); go_simp; try with_reducible rfl
  (try simp only [Act.put, List.setIfInBounds_toArray, List.set_cons_zero, List.set_cons_succ])
  refine wpAnyH_take (i := 7) (oi := ⟨some 25, _, _, _, _, _⟩) (v := ?_) rfl (by kernel_rfl) (by kernel_rfl) (by kernel_rfl) (fun _ _ _ h => h) (Or.inl ⟨by rfl, ?_⟩) (by assumption) ?_
  rotate_left
  · intro w hSw; (try dsimp only at hSw); go_simp; try with_reducible rfl
  (try simp only [Act.put, List.setIfInBounds_toArray, List.set_cons_zero, List.set_cons_succ])
  refine wpAnyH_ready (rs := [8]) (by kernel_rfl) (by simp) ?_
  refine (AllReadyH.cons (o := ⟨some 26, _, _, _, _, _⟩) rfl (fun K hK => ?_) AllReadyH.nil)
  rw [if_pos (by rfl)]
  go_simp
  go_at_call 11
  refine (of16_any 2 _).mono ?_
  rintro _ _ ⟨g2, rfl, h4⟩
  have hm9 := St.behind (A := (mP gm ga y7 (W2 p q r))) (St.call hm8 h4)
  clear h4 hm8
  refine hK.out _ _ ?_ (fun hHeld => ?_)
  · exact Loads.blkA (P := Tryz.prog) (T := 34) (vs := (ptrCells (.slice sa 2 sc) 1 0 S)) hm9 (by rw [ptr_len HL.out]; exact TyA.out) (List.mem_append_right _ (.tail _ (.tail _ (.head _)))) (ptr_all _ _ _ _)
  clear hK K
  (try simp only [Act.put, List.setIfInBounds_toArray, List.set_cons_zero, List.set_cons_succ])
  refine wpAnyH_ready (rs := [9]) (by kernel_rfl) (by simp) ?_
  refine (AllReadyH.cons (o := ⟨some 27, _, _, _, _, _⟩) rfl (fun K hK => ?_) AllReadyH.nil)
  rw [if_pos (by rfl)]
  go_simp
  go_at_call 25
  have HC := gets_any hm9 (w2_good p q r) sa 2 sc (onDevs 2) 1 0 S HL.out (fun _ h => Rd.row h (.tail _ (.tail _ (.tail _ (.head _))))) (onDevs_len _) (some ⟨g2, 0, none⟩) 256 256 _ (gb_sect (.head _)) (by omega) (by decide) _ (w2_get p q r _ _ HS.out)
  refine HC.mono ?_
  clear HC
  rintro _ _ ⟨y10, rfl, h4⟩
  have hm11 : St _ _ _ ((mP gm ga y10 (W2 p q r)) ++ _) := h4
  clear h4 hm9
  refine hK.out _ _ ?_ (fun hHeld => ?_)
  · exact Loads.blkA (P := Tryz.prog) (T := 34) (vs := (ptrCells (.slice sa 2 sc) 1 0 S)) hm11 (by rw [ptr_len HL.out]; exact TyA.out) (List.mem_append_right _ (.tail _ (.tail _ (.head _)))) (ptr_all _ _ _ _)
  clear hK K
  (try simp only [Act.put, List.setIfInBounds_toArray, List.set_cons_zero, List.set_cons_succ])
  refine wpAnyH_take (i := 10) (oi := ⟨some 28, _, _, _, _, _⟩) (v := ?_) rfl (by kernel_rfl) (by kernel_rfl) (by kernel_rfl) (fun _ _ _ h => h) (Or.inl ⟨by rfl, ?_⟩) (by assumption) ?_
  rotate_left
  · intro w hSw; (try dsimp only at hSw); go_simp; try with_reducible rfl
  (try simp only [Act.put, List.setIfInBounds_toArray, List.set_cons_zero, List.set_cons_succ])
  refine wpAnyH_take (i := 11) (oi := ⟨some 29, _, _, _, _, _⟩) (v := ?_) rfl (by kernel_rfl) (by kernel_rfl) (by kernel_rfl) (fun _ _ _ h => h) (Or.inl ⟨by rfl, ?_⟩) (by assumption) ?_
  rotate_left
  · intro w hSw; (try dsimp only at hSw); go_simp; try with_reducible rfl
  (try simp only [Act.put, List.setIfInBounds_toArray, List.set_cons_zero, List.set_cons_succ])
  refine wpAnyH_take (i := 12) (oi := ⟨some 30, _, _, _, _, _⟩) (v := ?_) rfl (by kernel_rfl) (by kernel_rfl) (by kernel_rfl) (fun _ _ _ h => h) (Or.inl ⟨by rfl, ?_⟩) (by assumption) ?_
  rotate_left
  · intro w hSw; (try dsimp only at hSw); go_simp; try with_reducible rfl
  (try simp only [Act.put, List.setIfInBounds_toArray, List.set_cons_zero, List.set_cons_succ])
  refine wpAnyH_take (i := 13) (oi := ⟨some 31, _, _, _, _, _⟩) (v := ?_) rfl (by kernel_rfl) (by kernel_rfl) (by kernel_rfl) (fun _ _ _ h => h) (Or.inl ⟨by rfl, ?_⟩) (by assumption) ?_
  rotate_left
  · intro w hSw; (try dsimp only at hSw); go_simp; try with_reducible rfl
  (try simp only [Act.put, List.setIfInBounds_toArray, List.set_cons_zero, List.set_cons_succ])
  refine wpAnyH_ready (rs := [14]) (by kernel_rfl) (by simp) ?_
  refine (AllReadyH.cons (o := ⟨some 32, _, _, _, _, _⟩) rfl (fun K hK => ?_) AllReadyH.nil)
  rw [if_pos (by rfl)]
  go_simp
  go_at_call 35
  have HC := spoilM_any (mid_in (P := [_]) (Bs := []) hm11) (w2_good p q r).sc.ok 0 5 0 1
  rw [w2_spoil, w2_spoilE] at HC
  refine HC.mono ?_
  clear HC
  rintro _ _ ⟨rfl, xs, h4⟩
  have hm12 : St _ _ _ ((mP gm ga xs (W3 p q r)) ++ _) := mid_out (P := [_]) (Bs := []) hm11 h4
  clear h4 hm11
  refine hK.out _ _ ?_ (fun hHeld => ?_)
  · exact Loads.blkA (P := Tryz.prog) (T := 34) (vs := (ptrCells (.slice sa 2 sc) 1 0 S)) hm12 (by rw [ptr_len HL.out]; exact TyA.out) (List.mem_append_right _ (.tail _ (.tail _ (.head _)))) (ptr_all _ _ _ _)
  clear hK K
  (try simp only [Act.put, List.setIfInBounds_toArray, List.set_cons_zero, List.set_cons_succ])
  refine wpAnyH_take (i := 15) (oi := ⟨some 33, _, _, _, _, _⟩) (v := ?_) rfl (by kernel_rfl) (by kernel_rfl) (by kernel_rfl) (fun _ _ _ h => h) (Or.inl ⟨by rfl, ?_⟩) (by assumption) ?_
  rotate_left
  · intro w hSw; (try dsimp only at hSw); go_simp; try with_reducible rfl
  (try simp only [Act.put, List.setIfInBounds_toArray, List.set_cons_zero, List.set_cons_succ])
  refine wpAnyH_take (i := 16) (oi := ⟨some 34, _, _, _, _, _⟩) (v := ?_) rfl (by kernel_rfl) (by kernel_rfl) (by kernel_rfl) (fun _ _ _ h => h) (Or.inl ⟨by rfl, ?_⟩) (by assumption) ?_
  rotate_left
  · intro w hSw; (try dsimp only at hSw); go_simp; try with_reducible rfl
  (try simp only [Act.put, List.setIfInBounds_toArray, List.set_cons_zero, List.set_cons_succ])
  refine wpAnyH_take (i := 17) (oi := ⟨some 35, _, _, _, _, _⟩) (v := ?_) rfl (by kernel_rfl) (by kernel_rfl) (by kernel_rfl) (fun _ _ _ h => h) (Or.inl ⟨by rfl, ?_⟩) (by assumption) ?_
  rotate_left
  · intro w hSw; (try dsimp only at hSw); go_simp; try with_reducible rfl
  (try simp only [Act.put, List.setIfInBounds_toArray, List.set_cons_zero, List.set_cons_succ])
  refine wpAnyH_take (i := 18) (oi := ⟨some 36, _, _, _, _, _⟩) (v := ?_) rfl (by kernel_rfl) (by kernel_rfl) (by kernel_rfl) (fun _ _ _ h => h) (Or.inl ⟨by rfl, ?_⟩) (by assumption) ?_
  rotate_left
  · intro w hSw; (try dsimp only at hSw); go_simp; try with_reducible rfl
  (try simp only [Act.put, List.setIfInBounds_toArray, List.set_cons_zero, List.set_cons_succ])
  refine wpAnyH_take (i := 19) (oi := ⟨some 37, _, _, _, _, _⟩) (v := ?_) rfl (by kernel_rfl) (by kernel_rfl) (by kernel_rfl) (fun _ _ _ h => h) (Or.inl ⟨by rfl, ?_⟩) (by assumption) ?_
  rotate_left
  · intro w hSw; (try dsimp only at hSw); go_simp; try with_reducible rfl
  (try simp only [Act.put, List.setIfInBounds_toArray, List.set_cons_zero, List.set_cons_succ])
  refine wpAnyH_ready (rs := [20]) (by kernel_rfl) (by simp) ?_
  refine (AllReadyH.cons (o := ⟨some 38, _, _, _, _, _⟩) rfl (fun K hK => ?_) AllReadyH.nil)
  rw [if_pos (by rfl)]
  go_simp
  go_at_call 11
  refine (of16_any 2 _).mono ?_
  rintro _ _ ⟨g3, rfl, h4⟩
  have hm13 := St.behind (A := (mP gm ga xs (W3 p q r))) (St.call hm12 h4)
  clear h4 hm12
  refine hK.out _ _ ?_ (fun hHeld => ?_)
  · exact Loads.blkA (P := Tryz.prog) (T := 34) (vs := (ptrCells (.slice sa 2 sc) 1 0 S)) hm13 (by rw [ptr_len HL.out]; exact TyA.out) (List.mem_append_right _ (.tail _ (.tail _ (.tail _ (.head _))))) (ptr_all _ _ _ _)
  clear hK K
  (try simp only [Act.put, List.setIfInBounds_toArray, List.set_cons_zero, List.set_cons_succ])
  refine wpAnyH_ready (rs := [21]) (by kernel_rfl) (by simp) ?_
  refine (AllReadyH.cons (o := ⟨some 39, _, _, _, _, _⟩) rfl (fun K hK => ?_) AllReadyH.nil)
  rw [if_pos (by rfl)]
  go_simp
  go_at_call 25
  have HC := gets_any hm13 (w3_good p q r) sa 2 sc (onDevs 2) 1 0 S HL.out (fun _ h => Rd.row h (.tail _ (.tail _ (.tail _ (.tail _ (.head _)))))) (onDevs_len _) (some ⟨g3, 0, none⟩) 256 256 _ (gb_sect (.head _)) (by omega) (by decide) _ (w3_get p q r _ _ HS.out)
  refine HC.mono ?_
  clear HC
  rintro _ _ ⟨y14, rfl, h4⟩
  have hm15 : St _ _ _ ((mP gm ga y14 (W4 p q r)) ++ _) := h4
  clear h4 hm13
  refine hK.out _ _ ?_ (fun hHeld => ?_)
  · exact Loads.blkA (P := Tryz.prog) (T := 34) (vs := (ptrCells (.slice sa 2 sc) 1 0 S)) hm15 (by rw [ptr_len HL.out]; exact TyA.out) (List.mem_append_right _ (.tail _ (.tail _ (.tail _ (.head _))))) (ptr_all _ _ _ _)
  clear hK K
  (try simp only [Act.put, List.setIfInBounds_toArray, List.set_cons_zero, List.set_cons_succ])
  refine wpAnyH_take (i := 22) (oi := ⟨some 40, _, _, _, _, _⟩) (v := ?_) rfl (by kernel_rfl) (by kernel_rfl) (by kernel_rfl) (fun _ _ _ h => h) (Or.inl ⟨by rfl, ?_⟩) (by assumption) ?_
  rotate_left
  · intro w hSw; (try dsimp only at hSw); go_simp; try with_reducible rfl
  (try simp only [Act.put, List.setIfInBounds_toArray, List.set_cons_zero, List.set_cons_succ])
  refine wpAnyH_take (i := 23) (oi := ⟨some 41, _, _, _, _, _⟩) (v := ?_) rfl (by kernel_rfl) (by kernel_rfl) (by kernel_rfl) (fun _ _ _ h => h) (Or.inl ⟨by rfl, ?_⟩) (by assumption) ?_
  rotate_left
  · intro w hSw; (try dsimp only at hSw); go_simp; try with_reducible rfl
  (try simp only [Act.put, List.setIfInBounds_toArray, List.set_cons_zero, List.set_cons_succ])
  refine wpAnyH_done (by kernel_rfl) ?_ _
  clear hHeld
  go_wp2_with (first | go_big_skip | go_big_guard | (go_at_call 36; have HC := readM_any (mid_in (P := [_]) (Bs := []) hm15) (w4_good p q r).sc.ok (Nat.lt_of_le_of_lt (w4_good p q r).sc.ll (by decide)) 0 5; rw [w4_rE, w4_rB, w4_rd] at HC; refine HC.mono ?_; clear HC; rintro _ _ ⟨u, rfl, h4⟩; have hm16 := St.behind (A := (mP gm ga y14 (W4 p q r))) (mid_outp (Q := [_]) (P := [_]) (Bs := []) hm15 h4); clear h4 hm15) | (go_at_call 11; refine (of16_any 2 _).mono ?_; rintro _ _ ⟨g4, rfl, h4⟩; have hm17 := St.behind (A := (mP gm ga y14 (W4 p q r))) (St.call hm16 h4); clear h4 hm16) | (go_at_call 18; have HC := sameBytes_any _ _ _ _ (sect 2) (sect 2) _ (Rd.row hm17 (List.mem_append_right _ (.tail _ (.head _)))) (((gb_sect (.head _)) : GB w [] _ _ _ _).rd _ (St.sub hm17 (List.sublist_append_right _ _))); rw [beq_self_eq_true] at HC; refine HC.mono ?_; clear HC; rintro _ _ ⟨rfl, h4⟩; have hm18 := St.call0 hm17 h4; clear h4 hm17) | (go_at_call 31; have HC := errs_any hm18 (w4_good p q r) 0; rw [w4_e0] at HC; refine HC.mono ?_; clear HC; unfold ER.cells; rintro _ _ ⟨rfl, h4⟩; have hm19 := St.call0 hm18 h4; clear h4 hm18) | (refine wl_buildX (cs := [.int .i64 0, .int .i64 1, .int .i64 1]) [(1, .int .i64 1), (2, .int .i64 1)] rfl rfl (by exact rfl) (by kernel_rfl) ?_) | (refine wl_build0 rfl rfl ?_) | (go_at_call 31; have HC := errs_any hm19 (w4_good p q r) 1; rw [w4_e1] at HC; refine HC.mono ?_; clear HC; unfold ER.cells; rintro _ _ ⟨rfl, h4⟩; have hm20 := St.call0 hm19 h4; clear h4 hm19))
  go_ret
  exact ⟨rfl, hm20.nil⟩
end
end Go.Proofs.YtmdfbdfijnmhkaaGreat
namespace Go.Proofs.YtmdfbdfijnmhkaaGreat
set_option linter.unusedVariables false
set_option linter.unusedSimpArgs false
open Go.RowKit Hp
set_option maxRecDepth 100000
set_option maxHeartbeats 4000000
theorem found_hit2 {m : MV} {S T : List UInt8} {but : Int} {x : Int × Int} {l ill : List (Int × Int)} (hb : x.1 ≠ but) (h1 : m.a.readE x.1 x.2 = 0) (hT : m.a.readB x.1 x.2 = T) (h2 : sumB T = S) (h3 : m.a.read x.1 x.2 = m.a) : found S but m (x :: l) ill = ⟨0, T, ill, m⟩ := by
  subst hT
  exact found_hit hb h1 h2 h3
theorem found_miss2 {m : MV} {S T : List UInt8} {but : Int} {x : Int × Int} {l ill : List (Int × Int)} (hb : x.1 ≠ but) (h1 : m.a.readE x.1 x.2 = 0) (hT : m.a.readB x.1 x.2 = T) (h2 : sumB T ≠ S) (h3 : m.a.read x.1 x.2 = m.a) : found S but m (x :: l) ill = found S but ⟨m.a, m.e.modify x.1.toNat fSm⟩ l (ill ++ [x]) := by
  subst hT
  exact found_miss hb h1 h2 h3
theorem next_good {S T : List UInt8} {gd lo : Nat} {ill : List (Int × Int)} {cb : List UInt8} {m : MV} {x : Int × Int} (h1 : m.a.readE x.1 x.2 = 0) (hT : m.a.readB x.1 x.2 = T) (h2 : sumB T = S) (h3 : m.a.read x.1 x.2 = m.a) : CR.next S ⟨gd, lo, ill, cb, m, false⟩ x = ⟨gd + 1, lo, ill, if gd = 0 then T else cb, m, false⟩ := by
  subst hT
  have hk := kind_good h1 h2
  unfold CR.next
  rw [if_neg Bool.false_ne_true, if_pos hk, lookd_good h1 h2 h3]
  unfold MV.lookB
  rw [if_pos hk]
theorem next_ill {S T : List UInt8} {gd lo : Nat} {ill : List (Int × Int)} {cb : List UInt8} {m : MV} {x : Int × Int} (h1 : m.a.readE x.1 x.2 = 0) (hT : m.a.readB x.1 x.2 = T) (h2 : sumB T ≠ S) (h3 : m.a.read x.1 x.2 = m.a) : CR.next S ⟨gd, lo, ill, cb, m, false⟩ x = ⟨gd, lo, ill ++ [x], cb, ⟨m.a, m.e.modify x.1.toNat fSm⟩, false⟩ := by
  subst hT
  have hk := kind_ill h1 h2
  unfold CR.next
  rw [if_neg Bool.false_ne_true, hk, if_neg (by decide), if_pos rfl, lookd_ill h1 h2 h3]
theorem scan_eq {m : MV} {P : PV} {F : CR} (ha : m.askE P = 0) (hl : m.look P = F) (ho : F.out = false) : m.scan P = ⟨0, F.good, F.mend.he, F.mend.bad, F.lost, F.mend.m⟩ := by
  unfold MV.scan
  rw [ha, if_neg (by simp), hl, ho, if_neg Bool.false_ne_true]
theorem get_bad {m m' : MV} {P : PV} {e : Int} (ha : m.askE P = 0) (hf : found P.S (-1) m P.l [] = ⟨e, [], [], m'⟩) (he : e ≠ 0) : m.get P = ⟨e, [], m'⟩ := by
  unfold MV.get
  rw [ha, if_neg (by simp), hf, if_pos he]
end Go.Proofs.YtmdfbdfijnmhkaaGreat
namespace Go.Proofs.YtmdfbdfijnmhkaaGreat
set_option linter.unusedVariables false
set_option linter.unusedSimpArgs false
open Go.RowKit Hp
set_option maxRecDepth 100000
set_option maxHeartbeats 4000000
def cont (b : List UInt8) (π : Nat → Nat) (μ : Nat → UInt8) (k i j : Nat) : List UInt8 := if j < i then spo b (π j) (μ j) else if j < k then b else sect 0
def H16 (p q r : Nat) (c : UInt8) (π : Nat → Nat) (μ : Nat → UInt8) (st : Int) (k i : Nat) : MV := ⟨AK p q r (cont (sect c) π μ k i 0) (cont (sect c) π μ k i 1) (cont (sect c) π μ k i 2) [] st, zeroE⟩
theorem cont_len {c : UInt8} {π : Nat → Nat} {μ : Nat → UInt8} {k i j : Nat} : (cont (sect c) π μ k i j).length = 256 := by
  unfold cont
  split
  · exact spo_len (sect_len _)
  · split <;> exact sect_len _
theorem h16_good {p q r : Nat} {c : UInt8} {π : Nat → Nat} {μ : Nat → UInt8} {st : Int} {k i : Nat} (h : 0 ≤ st ∧ st ≤ 10) : MGood (H16 p q r c π μ st k i) 10 :=
  ak_good cont_len cont_len cont_len (by simp) (by exact ⟨h.1, h.2⟩) (by decide) rfl (zeroE_ok _)
theorem put_flush {p q r : Nat} {c : UInt8} {π : Nat → Nat} {μ : Nat → UInt8} {k : Nat} (h1 : 1 ≤ k) (h3 : k ≤ 3) : ∃ A1, (W0 p q r).put (onDevs k) (sect c) = ⟨0, k, A1⟩ ∧ ((W0 p q r).withA A1).flush = ⟨0, 3, (H16 p q r c π μ ((k + 3 : Nat) : Int) k 0).a⟩ := by
  rcases (by omega : k = 1 ∨ k = 2 ∨ k = 3) with rfl | rfl | rfl
  · exact ⟨_, ak_put1 .., (ak_flush1 ..).trans (by kernel_rfl)⟩
  · exact ⟨_, ak_put2 .., (ak_flush2 ..).trans (by kernel_rfl)⟩
  · exact ⟨_, ak_put3 .., (ak_flush3 ..).trans (by kernel_rfl)⟩
theorem get_mg {m : MV} {N : Nat} {P : PV} (h : MGood m N) : MGood (m.get P).m (N + 2 * P.l.length) := by
  unfold MV.get
  split
  · exact h.mono (Nat.le_add_right _ _)
  · split
    · exact (found_good h).mono (by omega)
    · have h1 := (found_good (S := P.S) (but := -1) (l := P.l) (ill := []) h).heals (l := (found P.S (-1) m P.l []).ill) (b := (found P.S (-1) m P.l []).b)
      have h2 := found_ill (S := P.S) (but := -1) (l := P.l) (ill := []) (m := m)
      exact h1.mono (by rw [List.length_nil] at h2; omega)
theorem cnext_mg {S : List UInt8} {c : CR} {N : Nat} {x : Int × Int} (h : MGood c.m N) : MGood (c.next S x).m (N + 1) ∧ (c.next S x).ill.length ≤ c.ill.length + 1 := by
  have h1 := h.looked x.1 x.2 S
  have h0 := h.mono (Nat.le_add_right N 1)
  unfold CR.next
  split
  · exact ⟨h0, Nat.le_succ _⟩
  · split
    · exact ⟨h1, Nat.le_succ _⟩
    · split
      · exact ⟨h1, by dsimp only; rw [List.length_append]; exact Nat.le_refl _⟩
      · split
        · exact ⟨h1, Nat.le_succ _⟩
        · exact ⟨h1, Nat.le_succ _⟩
theorem look_mg {S : List UInt8} : ∀ {l : List (Int × Int)} {c : CR} {N : Nat}, MGood c.m N → MGood (l.foldl (CR.next S) c).m (N + l.length) ∧ (l.foldl (CR.next S) c).ill.length ≤ c.ill.length + l.length
  | [], _, _, h => ⟨h, Nat.le_refl _⟩
  | x :: l, c, N, h => by
    have h1 := cnext_mg (S := S) (x := x) h
    have h2 := look_mg (S := S) (l := l) h1.1
    rw [List.foldl_cons, List.length_cons]
    exact ⟨h2.1.mono (by omega), by omega⟩
theorem mend_mg {any : Bool} {b : List UInt8} : ∀ {l : List (Int × Int)} {h : HR} {N : Nat}, MGood h.m N → MGood (l.foldl (HR.next any b) h).m (N + l.length)
  | [], _, _, h => h
  | x :: l, h, N, hg => by
    have h1 : MGood (h.next any b x).m (N + 1) := by
      unfold HR.next
      split
      · exact hg.healed _ _ _
      · dsimp only
        split
        · exact hg.healed _ _ _
        · exact hg.mono (Nat.le_add_right _ _)
    have h2 := mend_mg (any := any) (b := b) (l := l) h1
    rw [List.foldl_cons, List.length_cons]
    exact h2.mono (by omega)
theorem scan_mg {m : MV} {N : Nat} {P : PV} (h : MGood m N) : MGood (m.scan P).m (N + 2 * P.l.length) := by
  have h1 := look_mg (S := P.S) (l := P.l) (c := ⟨0, 0, [], [], m, false⟩) h
  unfold MV.scan
  split
  · exact h.mono (Nat.le_add_right _ _)
  · split
    · exact h1.1.mono (by omega)
    · have h2 := mend_mg (any := decide (0 < (m.look P).good)) (b := (m.look P).b) (l := (m.look P).ill) (h := ⟨0, 0, (m.look P).m⟩) h1.1
      have h3 : (m.look P).ill.length ≤ P.l.length := Nat.le_trans h1.2 (by show 0 + _ ≤ _; omega)
      exact h2.mono (by omega)
end Go.Proofs.YtmdfbdfijnmhkaaGreat
namespace Go.Proofs.YtmdfbdfijnmhkaaGreat
set_option linter.unusedVariables false
set_option linter.unusedSimpArgs false
open Go.RowKit Hp
set_option maxRecDepth 100000
set_option maxHeartbeats 4000000
theorem restore_eq {m m' : MV} {P : PV} {dev : Int} {B : List UInt8} {ill : List (Int × Int)} (ha : m.askE P = 0) (hp : ¬ placeOn dev P.l < 0) (hu : m.a.up dev = true) (hf : found P.S dev m P.l [] = ⟨0, B, ill, m'⟩) : m.restore P dev = ⟨m'.a.writeE dev (placeOn dev P.l) B, { m' with a := m'.a.write dev (placeOn dev P.l) B }⟩ := by
  unfold MV.restore
  rw [ha, if_neg (by simp), if_neg hp, hu, if_neg (by decide), hf, if_neg (by simp)]
def F16 (p q r g : Nat) (c : UInt8) (k d : Nat) (L : List LW) (st : Int) : MV := ⟨AK (if d = 0 then g else p) (if d = 1 then g else q) (if d = 2 then g else r) (if 0 < k ∧ d ≠ 0 then sect c else sect 0) (if 1 < k ∧ d ≠ 1 then sect c else sect 0) (if 2 < k ∧ d ≠ 2 then sect c else sect 0) L st, zeroE⟩
def G16 (p q r : Nat) (c : UInt8) (k : Nat) : MV := H16 p q r c (fun _ => 0) (fun _ => 0) ((k + 3 : Nat) : Int) k 0
theorem f16_good {p q r g : Nat} {c : UInt8} {k d : Nat} {L : List LW} {st : Int} (hd : d < 3) (hs : 0 ≤ st ∧ st ≤ 10) (hL : L = [] ∨ L = [⟨d, 5, sect c⟩]) : MGood (F16 p q r g c k d L st) 10 := by
  refine ak_good ?_ ?_ ?_ ?_ ⟨hs.1, hs.2⟩ ?_ rfl (zeroE_ok _)
  · split <;> exact sect_len _
  · split <;> exact sect_len _
  · split <;> exact sect_len _
  · intro w hw
    rcases hL with rfl | rfl
    · cases hw
    · rw [List.mem_singleton.1 hw]
      exact ⟨hd, (by decide : 5 < 8), sect_len _⟩
  · rcases hL with rfl | rfl <;> simp
theorem fit_pullE {p q r : Nat} {c : UInt8} {k d : Nat} (hk : k ≤ 3) (hd : d < k) : (G16 p q r c k).a.pullE (d : Nat) = 0 := by
  rcases (by omega : (k = 1 ∧ d = 0) ∨ (k = 2 ∧ d = 0) ∨ (k = 2 ∧ d = 1) ∨ (k = 3 ∧ d = 0) ∨ (k = 3 ∧ d = 1) ∨ (k = 3 ∧ d = 2)) with ⟨rfl, rfl⟩ | ⟨rfl, rfl⟩ | ⟨rfl, rfl⟩ | ⟨rfl, rfl⟩ | ⟨rfl, rfl⟩ | ⟨rfl, rfl⟩
  · exact by kernel_rfl
  · exact by kernel_rfl
  · exact by kernel_rfl
  · exact by kernel_rfl
  · exact by kernel_rfl
  · exact by kernel_rfl
theorem fit_fitE {p q r : Nat} {c : UInt8} {k d : Nat} (hk : k ≤ 3) (hd : d < k) : ((G16 p q r c k).a.pull (d : Nat)).fitE (d : Nat) = 0 := by
  rcases (by omega : (k = 1 ∧ d = 0) ∨ (k = 2 ∧ d = 0) ∨ (k = 2 ∧ d = 1) ∨ (k = 3 ∧ d = 0) ∨ (k = 3 ∧ d = 1) ∨ (k = 3 ∧ d = 2)) with ⟨rfl, rfl⟩ | ⟨rfl, rfl⟩ | ⟨rfl, rfl⟩ | ⟨rfl, rfl⟩ | ⟨rfl, rfl⟩ | ⟨rfl, rfl⟩
  · exact by kernel_rfl
  · exact by kernel_rfl
  · exact by kernel_rfl
  · exact by kernel_rfl
  · exact by kernel_rfl
  · exact by kernel_rfl
theorem fit_fit {p q r g : Nat} {c : UInt8} {k d : Nat} (hk : k ≤ 3) (hd : d < k) : ((G16 p q r c k).a.pull (d : Nat)).fit (d : Nat) g = (F16 p q r g c k d [] ((k + 3 : Nat) : Int)).a := by
  rcases (by omega : (k = 1 ∧ d = 0) ∨ (k = 2 ∧ d = 0) ∨ (k = 2 ∧ d = 1) ∨ (k = 3 ∧ d = 0) ∨ (k = 3 ∧ d = 1) ∨ (k = 3 ∧ d = 2)) with ⟨rfl, rfl⟩ | ⟨rfl, rfl⟩ | ⟨rfl, rfl⟩ | ⟨rfl, rfl⟩ | ⟨rfl, rfl⟩ | ⟨rfl, rfl⟩
  · exact by kernel_rfl
  · exact by kernel_rfl
  · exact by kernel_rfl
  · exact by kernel_rfl
  · exact by kernel_rfl
  · exact by kernel_rfl
end Go.Proofs.YtmdfbdfijnmhkaaGreat
namespace Go.Proofs.YtmdfbdfijnmhkaaGreat
set_option linter.unusedVariables false
set_option linter.unusedSimpArgs false
open Go.RowKit Hp
set_option maxRecDepth 100000
set_option maxHeartbeats 4000000
def dgone (g : Nat) (s : List UInt8) : DV := ⟨g, [sect 0, sect 0, sect 0, sect 0, sect 0, s, sect 0, sect 0], true, false, false, 0, 0⟩
def KA1 (p q r : Nat) : AR := AK p q r (sect 0) (sect 0) (sect 0) [⟨0, 5, sect 2⟩, ⟨1, 5, sect 2⟩] 2
def KA2 (p q r : Nat) (s : List UInt8) (L : List LW) (st : Int) : AR := ⟨[dgone p (sect 0), dk q s, dk r (sect 0)], L, -1, false, st⟩
def KM2 (p q r : Nat) : MV := ⟨KA2 p q r (sect 0) [⟨1, 5, sect 2⟩] 2, zeroE⟩
def KM3 (p q r : Nat) : MV := ⟨KA2 p q r (sect 2) [] 4, zeroE⟩
theorem k_put (p q r : Nat) : (W0 p q r).put (onDevs 2) (sect 2) = ⟨0, 2, KA1 p q r⟩ := by kernel_rfl
theorem k_pullE (p q r : Nat) : (KA1 p q r).pullE 0 = 0 := by kernel_rfl
theorem k_pull (p q r : Nat) : (KA1 p q r).pull 0 = (KM2 p q r).a := by kernel_rfl
theorem kind_lost {m : MV} {dev pl : Int} {S : List UInt8} (h1 : m.a.readE dev pl = 14) : m.kind dev pl S = 2 := by
  unfold MV.kind
  rw [h1, if_neg (by decide), if_pos (by decide)]
theorem found_lost {m : MV} {S : List UInt8} {but : Int} {x : Int × Int} {l ill : List (Int × Int)} (hb : x.1 ≠ but) (h1 : m.a.readE x.1 x.2 = 14) (h3 : m.a.read x.1 x.2 = m.a) : found S but m (x :: l) ill = found S but m l ill := by
  have hk : m.kind x.1 x.2 S = 2 := kind_lost h1
  have hl : m.looked x.1 x.2 S = m := by
    unfold MV.looked
    rw [hk, h1, if_neg (by decide), if_neg (by decide), h3]
  conv => lhs; unfold found
  rw [if_neg hb, hk, if_neg (by decide), if_neg (by decide), if_neg (by decide), hl]
theorem k_get (p q r : Nat) {ao : Option Addr} {cc : Nat} {S : List UInt8} (hS : sumB (sect 2) = S) : (KM2 p q r).get (PVof ao 2 cc (onDevs 2) 1 0 S) = ⟨0, sect 2, KM2 p q r⟩ := by
  have f : found S (-1) (KM2 p q r) (onDevs 2) [] = ⟨0, sect 2, [], KM2 p q r⟩ :=
    (found_lost (x := (0, 5)) (l := [(1, 5)]) (by decide) (by kernel_rfl) (by kernel_rfl)).trans (found_hit2 (x := (1, 5)) (l := []) (by decide) (by kernel_rfl) (by kernel_rfl) hS (by kernel_rfl))
  exact (get_eq (P := PVof ao 2 cc (onDevs 2) 1 0 S) (by kernel_rfl) f).trans (by kernel_rfl)
theorem k_put1 (p q r : Nat) : (KM2 p q r).put (onDevs 1) (sect 2) = ⟨13, 0, (KM2 p q r).a⟩ := by kernel_rfl
theorem k_flush (p q r : Nat) : (KM2 p q r).flush = ⟨0, 2, (KM3 p q r).a⟩ := by kernel_rfl
def oddE : List ER := [⟨0, 0, 0⟩, ⟨0, 1, 0⟩, ⟨0, 0, 0⟩, ⟨0, 0, 0⟩, ⟨0, 0, 0⟩, ⟨0, 0, 0⟩, ⟨0, 0, 0⟩, ⟨0, 0, 0⟩]
theorem k_nones : sumB (sect 2) ≠ nones := by decide +kernel
theorem k_odd (p q r : Nat) {ao : Option Addr} {cc : Nat} : (KM3 p q r).get (PVof ao 2 cc (onDevs 2) 1 0 nones) = ⟨12, [], ⟨(KM3 p q r).a, oddE⟩⟩ := by
  have f : found nones (-1) (KM3 p q r) (onDevs 2) [] = ⟨12, [], [], ⟨(KM3 p q r).a, oddE⟩⟩ :=
    (found_lost (x := (0, 5)) (l := [(1, 5)]) (by decide) (by kernel_rfl) (by kernel_rfl)).trans ((found_miss2 (T := sect 2) (x := (1, 5)) (l := []) (by decide) (by kernel_rfl) (by kernel_rfl) k_nones (by kernel_rfl)).trans (by kernel_rfl))
  exact get_bad (P := PVof ao 2 cc (onDevs 2) 1 0 nones) (by kernel_rfl) f (by decide)
theorem k_none (p q r : Nat) : (⟨(KM3 p q r).a, oddE⟩ : MV).get (PVof none 0 0 [] 0 0 nones) = ⟨2, [], ⟨(KM3 p q r).a, oddE⟩⟩ := by kernel_rfl
theorem k_zero : sumB (sect 0) ≠ sumB (sect 2) := by decide +kernel
def KF (p q r g : Nat) : MV := F16 p q r g 2 2 0 [] ((2 + 3 : Nat) : Int)
def healE : List ER := [⟨0, 1, 1⟩, ⟨0, 0, 0⟩, ⟨0, 0, 0⟩, ⟨0, 0, 0⟩, ⟨0, 0, 0⟩, ⟨0, 0, 0⟩, ⟨0, 0, 0⟩, ⟨0, 0, 0⟩]
def KG (p q r g : Nat) : MV := ⟨AK g q r (sect 0) (sect 2) (sect 0) [⟨0, 5, sect 2⟩] 6, healE⟩
theorem k_scan (p q r g : Nat) {ao : Option Addr} {cc : Nat} {S : List UInt8} (hS : sumB (sect 2) = S) : (KF p q r g).scan (PVof ao 2 cc (onDevs 2) 1 0 S) = ⟨0, 1, 1, 0, 0, KG p q r g⟩ := by
  have h0 : sumB (sect 0) ≠ S := by rw [← hS]; exact k_zero
  have l1 : (KF p q r g).look (PVof ao 2 cc (onDevs 2) 1 0 S) = ⟨1, 0, [(0, 5)], sect 2, ⟨(KF p q r g).a, zeroE.modify (0 : Int).toNat fSm⟩, false⟩ := by
    unfold MV.look
    show List.foldl (CR.next S) ⟨0, 0, [], [], _, false⟩ [(0, 5), (1, 5)] = _
    rw [List.foldl_cons, next_ill (x := (0, 5)) (T := sect 0) (by kernel_rfl) (by kernel_rfl) h0 (by kernel_rfl)]
    rw [List.foldl_cons, next_good (x := (1, 5)) (T := sect 2) (by kernel_rfl) (by kernel_rfl) hS (by kernel_rfl)]
    kernel_rfl
  exact (scan_eq (by kernel_rfl) l1 rfl).trans (by kernel_rfl)
theorem k_miss (p q r g : Nat) {ao : Option Addr} {cc : Nat} {S : List UInt8} : (KG p q r g).restore (PVof ao 2 cc (onDevs 2) 1 0 S) 2 = ⟨6, KG p q r g⟩ := by kernel_rfl
def KH (p q r g : Nat) : MV := ⟨AK g q r (sect 0) (sect 2) (sect 0) [⟨0, 5, sect 2⟩, ⟨0, 5, sect 2⟩] 7, healE⟩
theorem k_rest (p q r g : Nat) {ao : Option Addr} {cc : Nat} {S : List UInt8} (hS : sumB (sect 2) = S) : (KG p q r g).restore (PVof ao 2 cc (onDevs 2) 1 0 S) 0 = ⟨0, KH p q r g⟩ :=
  (restore_eq (dev := 0) (by kernel_rfl) (show ¬ placeOn (0 : Int) (onDevs 2) < 0 by decide) (by kernel_rfl) ((found_but (x := (0, 5)) (l := [(1, 5)]) rfl).trans (found_hit2 (x := (1, 5)) (l := []) (by decide) (by kernel_rfl) (by kernel_rfl) hS (by kernel_rfl)))).trans (by kernel_rfl)
end Go.Proofs.YtmdfbdfijnmhkaaGreat
namespace Go.Proofs.YtmdfbdfijnmhkaaGreat
set_option linter.unusedVariables false
set_option linter.unusedSimpArgs false
open Go.RowKit Hp
attribute [local irreducible] Go.Calls Go.wpList
set_option maxRecDepth 100000
set_option maxHeartbeats 8000000
theorem ptr_putS {S0 S : List UInt8} (h0 : L32 S0) (h : L32 S) (v : Value) (b l : Int) : putAt (ptrCells v b l S0) 3 (bytesV S) = ptrCells v b l S := by
  have h1 : (bytesV S).length = 32 := h.v
  have h2 : (ptrCells v b l S0).drop (3 + (bytesV S).length) = [] := List.drop_of_length_le (by rw [ptr_len h0, h1]; exact Nat.le_refl _)
  unfold putAt
  rw [h2, List.append_nil]
  rfl
theorem wl_storeD {ops : Array Oper} {rest : List Oper} {o : Oper} {a : Act} {w0 w : World} {M : List Nat} {Q : Exit → Act → World → Prop} {T' : TypeId} {x y : Operand} {g : Nat} {sv : Value} {b l : Int} {S0 S : List UInt8} (L1 : List HA) {L2 : List HA} (hst : St w0 M w (L1 ++ .blk g T' (ptrCells sv b l S0) :: L2)) (h0 : L32 S0) (hS : L32 S)
    (hop : o.op = .store 32 x y) (hw : Region.wanted o (yielded ops a.tmps) = true) (hx : a.eval x = .pointer (some ⟨g, 3, none⟩)) (hy : a.eval y = .agg (List.toArray (bytesV S)))
    (h : ∀ w', St w0 M w' (L1 ++ .blk g T' (ptrCells sv b l S) :: L2) → wpList Tryz.prog ops Q rest (a.put o.dst undef) w') : wpList Tryz.prog ops Q (o :: rest) a w := by
  refine wl_store L1 hst hop hw hx hy (n := 32) (by simpa [Value.cells] using hS.v) (by simpa [Value.cells] using ones_bytesV S) (by simp only [Value.cells]; rw [ptr_len h0, List.size_toArray, hS.v]; decide) fun w' hst' => h w' ?_
  have e : (Value.agg (List.toArray (bytesV S))).cells.toList = bytesV S := by simp [Value.cells]
  rw [e, ptr_putS h0 hS] at hst'
  exact hst'
theorem Rd.takeA {w : World} {ao : Option Addr} {n c m sz : Nat} {xs : List Value} (h : Rd w (.slice ao n c) sz n xs) (hm : m ≤ n) : Rd w (.slice ao m c) sz m (xs.take (m * sz)) := by
  obtain ⟨hl, ao', c', he, hn, hc, hnone, hsome⟩ := h
  simp only [Value.slice.injEq, true_and] at he
  obtain ⟨rfl, rfl⟩ := he
  refine ⟨?_, _, _, rfl, by omega, hc, fun hh => ?_, fun A hA h0 => ?_⟩
  · rw [List.length_take, hl, Nat.min_eq_left (Nat.mul_le_mul_right _ hm)]
  · have := hnone hh
    omega
  · obtain ⟨b, off, rfl, hr⟩ := hsome A hA (by omega)
    exact ⟨b, off, rfl, fun j v hv => by
      have hj := (List.getElem?_eq_some_iff.1 hv).1
      rw [List.length_take] at hj
      rw [List.getElem?_take_of_lt (by omega)] at hv
      exact hr j v hv⟩
instance t16sk : TySI Tryz.prog 59 4 := ⟨by kernel_rfl⟩
theorem eqlScanK (a b c d a' b' c' d' : Int) (w : World) : (binOp .eql 59 (.agg #[.int .i64 a, .int .i64 b, .int .i64 c, .int .i64 d]) (.agg #[.int .i64 a', .int .i64 b', .int .i64 c', .int .i64 d'])).run Tryz.prog w = .ok (.bool (([a, b, c, d] : List Int) == [a', b', c', d'])) w := run_eqlSI (P := Tryz.prog) (T := 59) (q := .i64) [a, b, c, d] [a', b', c', d'] rfl rfl
theorem guardScanK (op : BinOp) (x y : Operand) (xs ys : Array Value) (w : World) : (eqGuard op 59 x y (.agg xs) (.agg ys)).run Tryz.prog w = .ok () w := run_guardSI op x y xs ys
theorem loadedSK (A : Addr) : loadVar 59 A = loadVarH 59 A := rfl
section
attribute [local go_sem ↓] loadedPt storedPt loadedAs8 eqlScanK guardScanK loadedSK
theorem known16_any (w : World) : Calls Tryz.prog 5 #[] w fun e w' => e = .returned (.bool true) ∧ St w [] w' [] := by
  have hst := St.refl w
  obtain ⟨S, hS⟩ : ∃ S, S = sumB (sect 2) := ⟨_, rfl⟩
  have HS := hid hS.symm
  have HL := hid (show L32 S from by rw [hS]; exact length_bytesS _)
  clear hS
  go_enter Tryz.func5, Tryz.ntmps5
  go_wp2_with (first | go_big_skip | go_big_guard | (go_at_call 9; refine (made16_any _).mono ?_; rintro _ _ ⟨gm, ga, x0, gs, rfl, hg, h4⟩; obtain ⟨p, q, r, rfl⟩ : ∃ p q r, gs = [p, q, r] := (match gs, hg with | [p, q, r], _ => ⟨p, q, r, rfl⟩); have hm0 : St w [] _ (mP gm ga x0 (W0 p q r) ++ []) := (by have h5 := St.call hst h4; rw [newA_ak] at h5; exact h5); clear h4 hg hst; unfold PM) | (go_at_call 11; refine (of16_any 2 _).mono ?_; rintro _ _ ⟨gb, rfl, h4⟩; have hm1 := St.behind (A := (mP gm ga x0 (W0 p q r))) (St.call hm0 h4); clear h4 hm0) | (go_at_call 12; have HC := points_any hm1 (some ⟨gb, 0, none⟩) 256 256 (sect 2) (gb_sect (List.mem_append_right _ (.head _))).rd (sect_len _) (by decide) 2 (by omega); rw [HS.out] at HC; refine HC.mono ?_; clear HC; rintro _ _ ⟨sa, sc, rfl, h4⟩; have hm2 := St.behind (A := (mP gm ga x0 (W0 p q r))) h4; clear h4 hm1) | (refine wl_alloc (T := 34) hm2 rfl rfl ?_; intro gp _ hm3; clear hm2) | (refine wl_storeA [] hm3 rfl rfl rfl rfl (ptr_len HL.out _ _ _) (ptr_ones _ _ _ _ _ _) (ptr_len L32.nones _ _ _) ?_; intro _ hm4; clear hm3; have hm5 := St.behind (A := (mP gm ga x0 (W0 p q r))) hm4; clear hm4))
  have hX := hm5.drew
  clear hm5
  refine wp_region_held_drew (S := (fun w' => (loadVarH 30 ⟨gp, 0, none⟩).run Tryz.prog w' = .ok (.slice sa 2 sc) w')) (by kernel_rfl) (by exact Loads.blk (P := Tryz.prog) (T := 30) hX TyS.out (List.mem_append_right _ (.head _)) rfl) (fun hHeld => ?_)
  refine wpAnyH_take (i := 0) (oi := ⟨some 33, _, _, _, _, _⟩) (v := ?_) rfl (by kernel_rfl) (by kernel_rfl) (by kernel_rfl) (fun _ _ _ h => h) (Or.inl ⟨by rfl, ?_⟩) (by assumption) ?_
  rotate_left
  · intro w hSw; (try dsimp only at hSw); go_simp; try with_reducible rfl
  (try simp only [Act.put, List.setIfInBounds_toArray, List.set_cons_zero, List.set_cons_succ])
  refine wpAnyH_take (i := 1) (oi := ⟨some 34, _, _, _, _, _⟩) (v := ?_) rfl (by kernel_rfl) (by kernel_rfl) (by kernel_rfl) (fun _ _ _ h => h) (Or.inl ⟨by rfl, ?_⟩) (by assumption) ?_
  rotate_left
  · intro w hSw; (try dsimp only at hSw); go_simp; try with_reducible rfl
  (try simp only [Act.put, List.setIfInBounds_toArray, List.set_cons_zero, List.set_cons_succ])
  refine wpAnyH_take (i := 2) (oi := ⟨some 35, _, _, _, _, _⟩) (v := ?_) rfl (by kernel_rfl) (by kernel_rfl) (by kernel_rfl) (fun _ _ _ h => h) (Or.inl ⟨by rfl, ?_⟩) (by assumption) ?_
  rotate_left
  · intro w hSw; (try dsimp only at hSw); go_simp; try with_reducible rfl
  (try simp only [Act.put, List.setIfInBounds_toArray, List.set_cons_zero, List.set_cons_succ])
  refine wpAnyH_ready (rs := [3]) (by kernel_rfl) (by simp) ?_
  refine (AllReadyH.cons (o := ⟨some 36, _, _, _, _, _⟩) rfl (fun K hK => ?_) AllReadyH.nil)
  rw [if_pos (by rfl)]
  go_simp
  go_at_call 11
  refine (of16_any 2 _).mono ?_
  rintro _ _ ⟨g1, rfl, h4⟩
  have hm6 := St.behind (A := (mP gm ga x0 (W0 p q r))) (St.call hX h4)
  clear h4 hX
  refine hK.out _ _ ?_ (fun hHeld => ?_)
  · exact Loads.blk (P := Tryz.prog) (T := 30) hm6 TyS.out (List.mem_append_right _ (.tail _ (.head _))) rfl
  clear hK K
  (try simp only [Act.put, List.setIfInBounds_toArray, List.set_cons_zero, List.set_cons_succ])
  refine wpAnyH_ready (rs := [4]) (by kernel_rfl) (by simp) ?_
  refine (AllReadyH.cons (o := ⟨some 37, _, _, _, _, _⟩) rfl (fun K hK => ?_) AllReadyH.nil)
  rw [if_pos (by rfl)]
  go_simp
  go_at_call 24
  have HC := put_any hm6 (w0_good p q r) sa 2 sc (onDevs 2) (fun _ h => Rd.row h (.tail _ (.tail _ (.head _)))) (onDevs_len _) (some ⟨g1, 0, none⟩) 256 256 _ (gb_sect (.head _)) (by omega)
  rw [k_put] at HC
  refine HC.mono ?_
  clear HC
  rintro _ _ ⟨xa, rfl, h4⟩
  have hm7 : St _ _ _ ((mP gm ga xa ((W0 p q r).withA (KA1 p q r))) ++ _) := h4
  clear h4 hm6
  refine hK.out _ _ ?_ (fun hHeld => ?_)
  · exact Loads.blk (P := Tryz.prog) (T := 30) hm7 TyS.out (List.mem_append_right _ (.tail _ (.head _))) rfl
  clear hK K
  (try simp only [Act.put, List.setIfInBounds_toArray, List.set_cons_zero, List.set_cons_succ])
  refine wpAnyH_take (i := 5) (oi := ⟨some 32, _, _, _, _, _⟩) (v := ?_) rfl (by kernel_rfl) (by kernel_rfl) (by kernel_rfl) (fun _ _ _ h => h) (Or.inl ⟨by rfl, ?_⟩) (by assumption) ?_
  rotate_left
  · intro w hSw; (try dsimp only at hSw); go_simp; try with_reducible rfl
  (try simp only [Act.put, List.setIfInBounds_toArray, List.set_cons_zero, List.set_cons_succ])
  refine wpAnyH_take (i := 6) (oi := ⟨some 38, _, _, _, _, _⟩) (v := ?_) rfl (by kernel_rfl) (by kernel_rfl) (by kernel_rfl) (fun _ _ _ h => h) (Or.inl ⟨by rfl, ?_⟩) (by assumption) ?_
  rotate_left
  · intro w hSw; (try dsimp only at hSw); go_simp; try with_reducible rfl
  (try simp only [Act.put, List.setIfInBounds_toArray, List.set_cons_zero, List.set_cons_succ])
  refine wpAnyH_take (i := 7) (oi := ⟨some 39, _, _, _, _, _⟩) (v := ?_) rfl (by kernel_rfl) (by kernel_rfl) (by kernel_rfl) (fun _ _ _ h => h) (Or.inl ⟨by rfl, ?_⟩) (by assumption) ?_
  rotate_left
  · intro w hSw; (try dsimp only at hSw); go_simp; try with_reducible rfl
  (try simp only [Act.put, List.setIfInBounds_toArray, List.set_cons_zero, List.set_cons_succ])
  refine wpAnyH_take (i := 8) (oi := ⟨some 4, _, _, _, _, _⟩) (v := ?_) rfl (by kernel_rfl) (by kernel_rfl) (by kernel_rfl) (fun _ _ _ h => h) (Or.inl ⟨by rfl, ?_⟩) (by assumption) ?_
  rotate_left
  · intro w hSw; (try dsimp only at hSw); go_simp; try with_reducible rfl
  (try simp only [Act.put, List.setIfInBounds_toArray, List.set_cons_zero, List.set_cons_succ])
  refine wpAnyH_take (i := 9) (oi := ⟨some 5, _, _, _, _, _⟩) (v := ?_) rfl (by kernel_rfl) (by kernel_rfl) (by kernel_rfl) (fun _ _ _ h => h) (Or.inl ⟨by rfl, ?_⟩) (by assumption) ?_
  rotate_left
  · intro w hSw; (try dsimp only at hSw); go_simp; try with_reducible rfl
  (try simp only [Act.put, List.setIfInBounds_toArray, List.set_cons_zero, List.set_cons_succ])
  refine wpAnyH_done (by kernel_rfl) ?_ _
  clear hHeld
  have HG1 := hid (show MGood ((W0 p q r).withA (KA1 p q r)) 12 from by have := put_good (w0_good p q r) (onDevs 2) (sect 2); rw [k_put] at this; exact this)
  have HG2 := hid (show MGood (KM2 p q r) 13 from by have := HG1.out.arr (HG1.out.sc.ok.pull 0) (Stays.pull _ 0); rw [show ((W0 p q r).withA (KA1 p q r)).a.pull 0 = (KM2 p q r).a from k_pull p q r] at this; exact this)
  go_wp2_with (first | go_big_skip | go_big_guard | fail)
  have hY := hm7.drew
  clear hm7
  refine wp_region_held_drew (S := (fun w' => (loadVarH 34 ⟨gp, 0, none⟩).run Tryz.prog w' = .ok (.agg (List.toArray (ptrCells (.slice sa 2 sc) 1 0 S))) w')) (by kernel_rfl) (by exact Loads.blkA (P := Tryz.prog) (T := 34) (vs := (ptrCells (.slice sa 2 sc) 1 0 S)) hY (by rw [ptr_len HL.out]; exact TyA.out) (List.mem_append_right _ (.tail _ (.head _))) (ptr_all _ _ _ _)) (fun hHeld => ?_)
  refine wpAnyH_take (i := 0) (oi := ⟨some 40, _, _, _, _, _⟩) (v := ?_) rfl (by kernel_rfl) (by kernel_rfl) (by kernel_rfl) (fun _ _ _ h => h) (Or.inl ⟨by rfl, ?_⟩) (by assumption) ?_
  rotate_left
  · intro w hSw; (try dsimp only at hSw); go_simp; try with_reducible rfl
  (try simp only [Act.put, List.setIfInBounds_toArray, List.set_cons_zero, List.set_cons_succ])
  refine wpAnyH_take (i := 1) (oi := ⟨some 41, _, _, _, _, _⟩) (v := ?_) rfl (by kernel_rfl) (by kernel_rfl) (by kernel_rfl) (fun _ _ _ h => h) (Or.inl ⟨by rfl, ?_⟩) (by assumption) ?_
  rotate_left
  · intro w hSw; (try dsimp only at hSw); go_simp; try with_reducible rfl
  (try simp only [Act.put, List.setIfInBounds_toArray, List.set_cons_zero, List.set_cons_succ])
  refine wpAnyH_take (i := 2) (oi := ⟨some 42, _, _, _, _, _⟩) (v := ?_) rfl (by kernel_rfl) (by kernel_rfl) (by kernel_rfl) (fun _ _ _ h => h) (Or.inl ⟨by rfl, ?_⟩) (by assumption) ?_
  rotate_left
  · intro w hSw; (try dsimp only at hSw); go_simp; try with_reducible rfl
  (try simp only [Act.put, List.setIfInBounds_toArray, List.set_cons_zero, List.set_cons_succ])
  refine wpAnyH_take (i := 3) (oi := ⟨some 43, _, _, _, _, _⟩) (v := ?_) rfl (by kernel_rfl) (by kernel_rfl) (by kernel_rfl) (fun _ _ _ h => h) (Or.inl ⟨by rfl, ?_⟩) (by assumption) ?_
  rotate_left
  · intro w hSw; (try dsimp only at hSw); go_simp; try with_reducible rfl
  (try simp only [Act.put, List.setIfInBounds_toArray, List.set_cons_zero, List.set_cons_succ])
  refine wpAnyH_take (i := 4) (oi := ⟨some 44, _, _, _, _, _⟩) (v := ?_) rfl (by kernel_rfl) (by kernel_rfl) (by kernel_rfl) (fun _ _ _ h => h) (Or.inl ⟨by rfl, ?_⟩) (by assumption) ?_
  rotate_left
  · intro w hSw; (try dsimp only at hSw); go_simp; try with_reducible rfl
  (try simp only [Act.put, List.setIfInBounds_toArray, List.set_cons_zero, List.set_cons_succ])
  refine wpAnyH_take (i := 5) (oi := ⟨some 45, _, _, _, _, _⟩) (v := ?_) rfl (by kernel_rfl) (by kernel_rfl) (by kernel_rfl) (fun _ _ _ h => h) (Or.inl ⟨by rfl, ?_⟩) (by assumption) ?_
  rotate_left
  · intro w hSw; (try dsimp only at hSw); go_simp; try with_reducible rfl
  (try simp only [Act.put, List.setIfInBounds_toArray, List.set_cons_zero, List.set_cons_succ])
  refine wpAnyH_take (i := 6) (oi := ⟨some 46, _, _, _, _, _⟩) (v := ?_) rfl (by kernel_rfl) (by kernel_rfl) (by kernel_rfl) (fun _ _ _ h => h) (Or.inl ⟨by rfl, ?_⟩) (by assumption) ?_
  rotate_left
  · intro w hSw; (try dsimp only at hSw); go_simp; try with_reducible rfl
  (try simp only [Act.put, List.setIfInBounds_toArray, List.set_cons_zero, List.set_cons_succ])
  refine wpAnyH_take (i := 7) (oi := ⟨some 47, _, _, _, _, _⟩) (v := ?_) rfl (by kernel_rfl) (by kernel_rfl) (by kernel_rfl) (fun _ _ _ h => h) (Or.inl ⟨by rfl, ?_⟩) (by assumption) ?_
  rotate_left
  · intro w hSw; (try dsimp only at hSw); go_simp; try with_reducible rfl
  (try simp only [Act.put, List.setIfInBounds_toArray, List.set_cons_zero, List.set_cons_succ])
  refine wpAnyH_ready (rs := [8]) (by kernel_rfl) (by simp) ?_
  refine (AllReadyH.cons (o := ⟨some 48, _, _, _, _, _⟩) rfl (fun K hK => ?_) AllReadyH.nil)
  rw [if_pos (by rfl)]
  go_simp
  go_at_call 14
  have HC := pullM_any (mid_in (P := [_]) (Bs := []) hY) HG1.out.sc.ok (Nat.lt_of_le_of_lt HG1.out.sc.ll (by decide)) 0
  rw [show AR.pull ((W0 p q r).withA (KA1 p q r)).a 0 = (KM2 p q r).a from k_pull p q r, show AR.pullE ((W0 p q r).withA (KA1 p q r)).a 0 = 0 from k_pullE p q r] at HC
  refine HC.mono ?_
  clear HC
  rintro _ _ ⟨rfl, xp, h4⟩
  have hm8 : St _ _ _ ((mP gm ga xp (KM2 p q r)) ++ _) := mid_out (P := [_]) (Bs := []) hY h4
  clear h4 hY
  refine hK.out _ _ ?_ (fun hHeld => ?_)
  · exact Loads.blkA (P := Tryz.prog) (T := 34) (vs := (ptrCells (.slice sa 2 sc) 1 0 S)) hm8 (by rw [ptr_len HL.out]; exact TyA.out) (List.mem_append_right _ (.tail _ (.head _))) (ptr_all _ _ _ _)
  clear hK K
  (try simp only [Act.put, List.setIfInBounds_toArray, List.set_cons_zero, List.set_cons_succ])
  refine wpAnyH_take (i := 9) (oi := ⟨some 49, _, _, _, _, _⟩) (v := ?_) rfl (by kernel_rfl) (by kernel_rfl) (by kernel_rfl) (fun _ _ _ h => h) (Or.inl ⟨by rfl, ?_⟩) (by assumption) ?_
  rotate_left
  · intro w hSw; (try dsimp only at hSw); go_simp; try with_reducible rfl
  (try simp only [Act.put, List.setIfInBounds_toArray, List.set_cons_zero, List.set_cons_succ])
  refine wpAnyH_take (i := 10) (oi := ⟨some 50, _, _, _, _, _⟩) (v := ?_) rfl (by kernel_rfl) (by kernel_rfl) (by kernel_rfl) (fun _ _ _ h => h) (Or.inl ⟨by rfl, ?_⟩) (by assumption) ?_
  rotate_left
  · intro w hSw; (try dsimp only at hSw); go_simp; try with_reducible rfl
  (try simp only [Act.put, List.setIfInBounds_toArray, List.set_cons_zero, List.set_cons_succ])
  refine wpAnyH_take (i := 11) (oi := ⟨some 51, _, _, _, _, _⟩) (v := ?_) rfl (by kernel_rfl) (by kernel_rfl) (by kernel_rfl) (fun _ _ _ h => h) (Or.inl ⟨by rfl, ?_⟩) (by assumption) ?_
  rotate_left
  · intro w hSw; (try dsimp only at hSw); go_simp; try with_reducible rfl
  (try simp only [Act.put, List.setIfInBounds_toArray, List.set_cons_zero, List.set_cons_succ])
  refine wpAnyH_take (i := 12) (oi := ⟨some 52, _, _, _, _, _⟩) (v := ?_) rfl (by kernel_rfl) (by kernel_rfl) (by kernel_rfl) (fun _ _ _ h => h) (Or.inl ⟨by rfl, ?_⟩) (by assumption) ?_
  rotate_left
  · intro w hSw; (try dsimp only at hSw); go_simp; try with_reducible rfl
  (try simp only [Act.put, List.setIfInBounds_toArray, List.set_cons_zero, List.set_cons_succ])
  refine wpAnyH_take (i := 13) (oi := ⟨some 53, _, _, _, _, _⟩) (v := ?_) rfl (by kernel_rfl) (by kernel_rfl) (by kernel_rfl) (fun _ _ _ h => h) (Or.inl ⟨by rfl, ?_⟩) (by assumption) ?_
  rotate_left
  · intro w hSw; (try dsimp only at hSw); go_simp; try with_reducible rfl
  (try simp only [Act.put, List.setIfInBounds_toArray, List.set_cons_zero, List.set_cons_succ])
  refine wpAnyH_ready (rs := [14]) (by kernel_rfl) (by simp) ?_
  refine (AllReadyH.cons (o := ⟨some 54, _, _, _, _, _⟩) rfl (fun K hK => ?_) AllReadyH.nil)
  rw [if_pos (by rfl)]
  go_simp
  go_at_call 11
  refine (of16_any 2 _).mono ?_
  rintro _ _ ⟨g2, rfl, h4⟩
  have hm9 := St.behind (A := (mP gm ga xp (KM2 p q r))) (St.call hm8 h4)
  clear h4 hm8
  refine hK.out _ _ ?_ (fun hHeld => ?_)
  · exact Loads.blkA (P := Tryz.prog) (T := 34) (vs := (ptrCells (.slice sa 2 sc) 1 0 S)) hm9 (by rw [ptr_len HL.out]; exact TyA.out) (List.mem_append_right _ (.tail _ (.tail _ (.head _)))) (ptr_all _ _ _ _)
  clear hK K
  (try simp only [Act.put, List.setIfInBounds_toArray, List.set_cons_zero, List.set_cons_succ])
  refine wpAnyH_ready (rs := [15]) (by kernel_rfl) (by simp) ?_
  refine (AllReadyH.cons (o := ⟨some 55, _, _, _, _, _⟩) rfl (fun K hK => ?_) AllReadyH.nil)
  rw [if_pos (by rfl)]
  go_simp
  go_at_call 25
  have HC := gets_any hm9 HG2.out sa 2 sc (onDevs 2) 1 0 S HL.out (fun _ h => Rd.row h (.tail _ (.tail _ (.tail _ (.head _))))) (onDevs_len _) (some ⟨g2, 0, none⟩) 256 256 _ (gb_sect (.head _)) (by omega) (by decide) _ (k_get p q r HS.out)
  refine HC.mono ?_
  clear HC
  rintro _ _ ⟨y10, rfl, h4⟩
  have hm11 : St _ _ _ ((mP gm ga y10 (KM2 p q r)) ++ _) := h4
  clear h4 hm9
  refine hK.out _ _ ?_ (fun hHeld => ?_)
  · exact Loads.blkA (P := Tryz.prog) (T := 34) (vs := (ptrCells (.slice sa 2 sc) 1 0 S)) hm11 (by rw [ptr_len HL.out]; exact TyA.out) (List.mem_append_right _ (.tail _ (.tail _ (.head _)))) (ptr_all _ _ _ _)
  clear hK K
  (try simp only [Act.put, List.setIfInBounds_toArray, List.set_cons_zero, List.set_cons_succ])
  refine wpAnyH_take (i := 16) (oi := ⟨some 56, _, _, _, _, _⟩) (v := ?_) rfl (by kernel_rfl) (by kernel_rfl) (by kernel_rfl) (fun _ _ _ h => h) (Or.inl ⟨by rfl, ?_⟩) (by assumption) ?_
  rotate_left
  · intro w hSw; (try dsimp only at hSw); go_simp; try with_reducible rfl
  (try simp only [Act.put, List.setIfInBounds_toArray, List.set_cons_zero, List.set_cons_succ])
  refine wpAnyH_take (i := 17) (oi := ⟨some 57, _, _, _, _, _⟩) (v := ?_) rfl (by kernel_rfl) (by kernel_rfl) (by kernel_rfl) (fun _ _ _ h => h) (Or.inl ⟨by rfl, ?_⟩) (by assumption) ?_
  rotate_left
  · intro w hSw; (try dsimp only at hSw); go_simp; try with_reducible rfl
  (try simp only [Act.put, List.setIfInBounds_toArray, List.set_cons_zero, List.set_cons_succ])
  refine wpAnyH_done (by kernel_rfl) ?_ _
  clear hHeld
  have hsc : 2 ≤ sc := (Rd.row hm11 (List.mem_append_right _ (.tail _ (.tail _ (.tail _ (.head _)))))).bd.1
  have h1sc : (1 : Int) ≤ (sc : Int) := by omega
  have hsm : sc ≤ 9223372036854775807 := (Rd.row hm11 (List.mem_append_right _ (.tail _ (.tail _ (.tail _ (.head _)))))).bd.2.1
  go_wp2_with (first | go_big_skip | go_big_guard | fail)
  have HG3 := hid (show MGood ((KM2 p q r).withA (KM2 p q r).a) 15 from by have := put_good HG2.out (onDevs 1) (sect 2); rw [k_put1] at this; exact this.mono (by decide))
  have hZ := hm11.drew
  clear hm11
  refine wp_region_held_drew (S := (fun w' => (loadVarH 30 ⟨gp, 0, none⟩).run Tryz.prog w' = .ok (.slice sa 2 sc) w')) (by kernel_rfl) (by exact Loads.blk (P := Tryz.prog) (T := 30) hZ TyS.out (List.mem_append_right _ (.tail _ (.tail _ (.head _)))) rfl) (fun hHeld => ?_)
  refine wpAnyH_take (i := 0) (oi := ⟨some 59, _, _, _, _, _⟩) (v := ?_) rfl (by kernel_rfl) (by kernel_rfl) (by kernel_rfl) (fun _ _ _ h => h) (Or.inl ⟨by rfl, ?_⟩) (by assumption) ?_
  rotate_left
  · intro w hSw; (try dsimp only at hSw); go_simp; try with_reducible rfl
  (try simp only [Act.put, List.setIfInBounds_toArray, List.set_cons_zero, List.set_cons_succ])
  refine wpAnyH_take (i := 1) (oi := ⟨some 60, _, _, _, _, _⟩) (v := ?_) rfl (by kernel_rfl) (by kernel_rfl) (by kernel_rfl) (fun _ _ _ h => h) (Or.inl ⟨by rfl, ?_⟩) (by assumption) ?_
  rotate_left
  · intro w hSw; (try dsimp only at hSw); go_simp; try with_reducible rfl
  (try simp only [Act.put, List.setIfInBounds_toArray, List.set_cons_zero, List.set_cons_succ])
  refine wpAnyH_take (i := 2) (oi := ⟨some 61, _, _, _, _, _⟩) (v := ?_) rfl (by kernel_rfl) (by kernel_rfl) (by kernel_rfl) (fun _ _ _ h => h) (Or.inl ⟨by rfl, ?_⟩) (by assumption) ?_
  rotate_left
  · intro w hSw; (try dsimp only at hSw); go_simp; try with_reducible rfl
  (try simp only [Act.put, List.setIfInBounds_toArray, List.set_cons_zero, List.set_cons_succ])
  refine wpAnyH_take (i := 3) (oi := ⟨some 62, _, _, _, _, _⟩) (v := ?_) rfl (by kernel_rfl) (by kernel_rfl) (by kernel_rfl) (fun _ _ _ h => h) (Or.inl ⟨by rfl, ?_⟩) (by assumption) ?_
  rotate_left
  · intro w hSw; (try dsimp only at hSw); go_simp; try with_reducible rfl
  (try simp only [Act.put, List.setIfInBounds_toArray, List.set_cons_zero, List.set_cons_succ])
  refine wpAnyH_ready (rs := [4]) (by kernel_rfl) (by simp) ?_
  refine (AllReadyH.cons (o := ⟨some 63, _, _, _, _, _⟩) rfl (fun K hK => ?_) AllReadyH.nil)
  rw [if_pos (by rfl)]
  go_simp
  go_at_call 11
  refine (of16_any 2 _).mono ?_
  rintro _ _ ⟨g3, rfl, h4⟩
  have hm12 := St.behind (A := (mP gm ga y10 (KM2 p q r))) (St.call hZ h4)
  clear h4 hZ
  refine hK.out _ _ ?_ (fun hHeld => ?_)
  · exact Loads.blk (P := Tryz.prog) (T := 30) hm12 TyS.out (List.mem_append_right _ (.tail _ (.tail _ (.tail _ (.head _))))) rfl
  clear hK K
  (try simp only [Act.put, List.setIfInBounds_toArray, List.set_cons_zero, List.set_cons_succ])
  refine wpAnyH_ready (rs := [5]) (by kernel_rfl) (by simp) ?_
  refine (AllReadyH.cons (o := ⟨some 64, _, _, _, _, _⟩) rfl (fun K hK => ?_) AllReadyH.nil)
  rw [if_pos (by rfl)]
  go_simp
  go_at_call 24
  have HC := put_any hm12 HG2.out sa 1 sc (onDevs 1) (fun _ h => (Rd.takeA (m := 1) (Rd.row h (.tail _ (.tail _ (.tail _ (.tail _ (.head _)))))) (by decide) : Rd _ (.slice sa 1 sc) 2 1 (addrsV (onDevs 1)))) (onDevs_len _) (some ⟨g3, 0, none⟩) 256 256 _ (gb_sect (.head _)) (by omega)
  rw [k_put1] at HC
  refine HC.mono ?_
  clear HC
  rintro _ _ ⟨xb, rfl, h4⟩
  have hm13 : St _ _ _ ((mP gm ga xb (KM2 p q r)) ++ _) := h4
  clear h4 hm12
  refine hK.out _ _ ?_ (fun hHeld => ?_)
  · exact Loads.blk (P := Tryz.prog) (T := 30) hm13 TyS.out (List.mem_append_right _ (.tail _ (.tail _ (.tail _ (.head _))))) rfl
  clear hK K
  (try simp only [Act.put, List.setIfInBounds_toArray, List.set_cons_zero, List.set_cons_succ])
  refine wpAnyH_take (i := 6) (oi := ⟨some 58, _, _, _, _, _⟩) (v := ?_) rfl (by kernel_rfl) (by kernel_rfl) (by kernel_rfl) (fun _ _ _ h => h) (Or.inl ⟨by rfl, ?_⟩) (by assumption) ?_
  rotate_left
  · intro w hSw; (try dsimp only at hSw); go_simp; try with_reducible rfl
  (try simp only [Act.put, List.setIfInBounds_toArray, List.set_cons_zero, List.set_cons_succ])
  refine wpAnyH_take (i := 7) (oi := ⟨some 65, _, _, _, _, _⟩) (v := ?_) rfl (by kernel_rfl) (by kernel_rfl) (by kernel_rfl) (fun _ _ _ h => h) (Or.inl ⟨by rfl, ?_⟩) (by assumption) ?_
  rotate_left
  · intro w hSw; (try dsimp only at hSw); go_simp; try with_reducible rfl
  (try simp only [Act.put, List.setIfInBounds_toArray, List.set_cons_zero, List.set_cons_succ])
  refine wpAnyH_take (i := 8) (oi := ⟨some 66, _, _, _, _, _⟩) (v := ?_) rfl (by kernel_rfl) (by kernel_rfl) (by kernel_rfl) (fun _ _ _ h => h) (Or.inl ⟨by rfl, ?_⟩) (by assumption) ?_
  rotate_left
  · intro w hSw; (try dsimp only at hSw); go_simp; try with_reducible rfl
  (try simp only [Act.put, List.setIfInBounds_toArray, List.set_cons_zero, List.set_cons_succ])
  refine wpAnyH_take (i := 9) (oi := ⟨some 6, _, _, _, _, _⟩) (v := ?_) rfl (by kernel_rfl) (by kernel_rfl) (by kernel_rfl) (fun _ _ _ h => h) (Or.inl ⟨by rfl, ?_⟩) (by assumption) ?_
  rotate_left
  · intro w hSw; (try dsimp only at hSw); go_simp; try with_reducible rfl
  (try simp only [Act.put, List.setIfInBounds_toArray, List.set_cons_zero, List.set_cons_succ])
  refine wpAnyH_take (i := 10) (oi := ⟨some 7, _, _, _, _, _⟩) (v := ?_) rfl (by kernel_rfl) (by kernel_rfl) (by kernel_rfl) (fun _ _ _ h => h) (Or.inl ⟨by rfl, ?_⟩) (by assumption) ?_
  rotate_left
  · intro w hSw; (try dsimp only at hSw); go_simp; try with_reducible rfl
  (try simp only [Act.put, List.setIfInBounds_toArray, List.set_cons_zero, List.set_cons_succ])
  refine wpAnyH_done (by kernel_rfl) ?_ _
  clear hHeld
  have HG4 := hid (show MGood (KM3 p q r) 16 from by have := flush_good HG2.out; rw [k_flush] at this; exact this)
  have HG5 := hid (show MGood (⟨(KM3 p q r).a, oddE⟩ : MV) 20 from by have := get_mg (P := PVof sa 2 sc (onDevs 2) 1 0 nones) HG4.out; rw [k_odd] at this; exact this.mono (by show 16 + 2 * (onDevs 2).length ≤ 20; decide))
  go_wp2_with (first | go_big_skip | go_big_guard | (go_at_call 26; have HC := mflush_any hm13 HG2.out (by omega); rw [k_flush] at HC; refine HC.mono ?_; clear HC; rintro _ _ ⟨xc, rfl, h4⟩; have hm14 : St _ _ _ ((mP gm ga xc (KM3 p q r)) ++ _) := h4; clear h4 hm13) | (refine wl_loadE rfl rfl rfl ?_; refine ⟨_, Loads.blkA (P := Tryz.prog) (T := 34) (vs := (ptrCells (.slice sa 2 sc) 1 0 S)) hm14 (by rw [ptr_len HL.out]; exact TyA.out) (List.mem_append_right _ (.tail _ (.tail _ (.tail _ (.head _))))) (ptr_all _ _ _ _), ?_⟩) | (refine wl_alloc (T := 34) hm14 rfl rfl ?_; intro g10 _ hm15; clear hm14) | (refine wl_storeA [] hm15 rfl rfl rfl rfl (ptr_len HL.out _ _ _) (ptr_ones _ _ _ _ _ _) (ptr_len L32.nones _ _ _) ?_; intro _ hm16; clear hm15) | (refine wl_build0 rfl rfl ?_) | (refine wl_storeD [] hm16 HL.out L32.nones rfl rfl rfl rfl ?_; intro _ hm17; clear hm16; have hm18 := St.behind (A := (mP gm ga xc (KM3 p q r))) hm17; clear hm17) | (refine wl_loadE rfl rfl rfl ?_; refine ⟨_, Loads.blkA (P := Tryz.prog) (T := 34) (vs := ptrCells (.slice sa 2 sc) 1 0 nones) hm18 (by rw [ptr_len L32.nones]; exact TyA.out) (List.mem_append_right _ (.head _)) (ptr_all _ _ _ _), ?_⟩) | (go_at_call 22; have HC := get_any hm18 HG4.out sa 2 sc (onDevs 2) 1 0 nones L32.nones (onDevs_len _) (fun _ h => Rd.row h (.tail _ (.tail _ (.tail _ (.tail _ (.tail _ (.head _))))))) (by omega); rw [k_odd] at HC; refine HC.mono ?_; clear HC; rintro _ _ ⟨u11, xd, rfl, h4⟩; obtain ⟨_, _, rfl⟩ := St.rowPSlice [] h4; have hm19 := St.behind (A := mP gm ga xd ⟨(KM3 p q r).a, oddE⟩) h4; clear h4 hm18) | (go_at_call 22; have HC := get_any hm19 HG5.out none 0 0 [] 0 0 nones L32.nones rfl (fun _ _ => Rd.nil _ _) (by omega); rw [k_none] at HC; refine HC.mono ?_; clear HC; rintro _ _ ⟨u13, xe, rfl, h4⟩; obtain ⟨_, _, rfl⟩ := St.rowPSlice [] h4; have hm20 := St.behind (A := mP gm ga xe ⟨(KM3 p q r).a, oddE⟩) h4; clear h4 hm19) | (go_at_call 9; refine (made16_any _).mono ?_; rintro _ _ ⟨gm2, ga2, x9, gs2, rfl, hg, h4⟩; obtain ⟨p2, q2, r2, rfl⟩ : ∃ p q r, gs2 = [p, q, r] := (match gs2, hg with | [p, q, r], _ => ⟨p, q, r, rfl⟩); have hm21 : St w [] _ (mP gm2 ga2 x9 (W0 p2 q2 r2) ++ _) := (by have h5 := St.call hm20 h4; rw [newA_ak] at h5; exact h5); clear h4 hg hm20; unfold PM))
  have hm22 : St w [] _ (mP gm2 ga2 x9 (W0 p2 q2 r2) ++ _) := St.sub hm21 (List.Sublist.append_left (List.sublist_append_right _ _) _)
  clear hm21
  obtain ⟨A2, hA1, hA2⟩ := put_flush (p := p2) (q := q2) (r := r2) (c := 2) (π := fun _ => 0) (μ := fun _ => 0) (k := 2) (by decide) (by decide)
  have HA1 := hid hA1
  have HA2 := hid hA2
  clear hA1 hA2
  have HQ0 := hid (show MGood (G16 p2 q2 r2 2 2) 10 from h16_good (by decide))
  have HQ1 := hid (show MGood (⟨(G16 p2 q2 r2 2 2).a.pull ((0 : Nat) : Int), zeroE⟩ : MV) 11 from HQ0.out.arr (HQ0.out.sc.ok.pull _) (Stays.pull _ _))
  have hU := hm22.drew
  clear hm22
  refine wp_region_held_drew (S := (fun w' => (loadVarH 34 ⟨gp, 0, none⟩).run Tryz.prog w' = .ok (.agg (List.toArray (ptrCells (.slice sa 2 sc) 1 0 S))) w')) (by kernel_rfl) (by exact Loads.blkA (P := Tryz.prog) (T := 34) (vs := (ptrCells (.slice sa 2 sc) 1 0 S)) hU (by rw [ptr_len HL.out]; exact TyA.out) (List.mem_append_right _ (.tail _ (.tail _ (.tail _ (.tail _ (.tail _ (.tail _ (.head _)))))))) (ptr_all _ _ _ _)) (fun hHeld => ?_)
  refine wpAnyH_take (i := 0) (oi := ⟨some 109, _, _, _, _, _⟩) (v := ?_) rfl (by kernel_rfl) (by kernel_rfl) (by kernel_rfl) (fun _ _ _ h => h) (Or.inl ⟨by rfl, ?_⟩) (by assumption) ?_
  rotate_left
  · intro w hSw; (try dsimp only at hSw); go_simp; try with_reducible rfl
  (try simp only [Act.put, List.setIfInBounds_toArray, List.set_cons_zero, List.set_cons_succ])
  refine wpAnyH_take (i := 1) (oi := ⟨some 110, _, _, _, _, _⟩) (v := ?_) rfl (by kernel_rfl) (by kernel_rfl) (by kernel_rfl) (fun _ _ _ h => h) (Or.inl ⟨by rfl, ?_⟩) (by assumption) ?_
  rotate_left
  · intro w hSw; (try dsimp only at hSw); go_simp; try with_reducible rfl
  (try simp only [Act.put, List.setIfInBounds_toArray, List.set_cons_zero, List.set_cons_succ])
  refine wpAnyH_take (i := 2) (oi := ⟨some 111, _, _, _, _, _⟩) (v := ?_) rfl (by kernel_rfl) (by kernel_rfl) (by kernel_rfl) (fun _ _ _ h => h) (Or.inl ⟨by rfl, ?_⟩) (by assumption) ?_
  rotate_left
  · intro w hSw; (try dsimp only at hSw); go_simp; try with_reducible rfl
  (try simp only [Act.put, List.setIfInBounds_toArray, List.set_cons_zero, List.set_cons_succ])
  refine wpAnyH_take (i := 3) (oi := ⟨some 112, _, _, _, _, _⟩) (v := ?_) rfl (by kernel_rfl) (by kernel_rfl) (by kernel_rfl) (fun _ _ _ h => h) (Or.inl ⟨by rfl, ?_⟩) (by assumption) ?_
  rotate_left
  · intro w hSw; (try dsimp only at hSw); go_simp; try with_reducible rfl
  (try simp only [Act.put, List.setIfInBounds_toArray, List.set_cons_zero, List.set_cons_succ])
  refine wpAnyH_take (i := 4) (oi := ⟨some 113, _, _, _, _, _⟩) (v := ?_) rfl (by kernel_rfl) (by kernel_rfl) (by kernel_rfl) (fun _ _ _ h => h) (Or.inl ⟨by rfl, ?_⟩) (by assumption) ?_
  rotate_left
  · intro w hSw; (try dsimp only at hSw); go_simp; try with_reducible rfl
  (try simp only [Act.put, List.setIfInBounds_toArray, List.set_cons_zero, List.set_cons_succ])
  refine wpAnyH_take (i := 5) (oi := ⟨some 114, _, _, _, _, _⟩) (v := ?_) rfl (by kernel_rfl) (by kernel_rfl) (by kernel_rfl) (fun _ _ _ h => h) (Or.inl ⟨by rfl, ?_⟩) (by assumption) ?_
  rotate_left
  · intro w hSw; (try dsimp only at hSw); go_simp; try with_reducible rfl
  (try simp only [Act.put, List.setIfInBounds_toArray, List.set_cons_zero, List.set_cons_succ])
  refine wpAnyH_take (i := 6) (oi := ⟨some 115, _, _, _, _, _⟩) (v := ?_) rfl (by kernel_rfl) (by kernel_rfl) (by kernel_rfl) (fun _ _ _ h => h) (Or.inl ⟨by rfl, ?_⟩) (by assumption) ?_
  rotate_left
  · intro w hSw; (try dsimp only at hSw); go_simp; try with_reducible rfl
  (try simp only [Act.put, List.setIfInBounds_toArray, List.set_cons_zero, List.set_cons_succ])
  refine wpAnyH_take (i := 7) (oi := ⟨some 116, _, _, _, _, _⟩) (v := ?_) rfl (by kernel_rfl) (by kernel_rfl) (by kernel_rfl) (fun _ _ _ h => h) (Or.inl ⟨by rfl, ?_⟩) (by assumption) ?_
  rotate_left
  · intro w hSw; (try dsimp only at hSw); go_simp; try with_reducible rfl
  (try simp only [Act.put, List.setIfInBounds_toArray, List.set_cons_zero, List.set_cons_succ])
  refine wpAnyH_take (i := 8) (oi := ⟨some 117, _, _, _, _, _⟩) (v := ?_) rfl (by kernel_rfl) (by kernel_rfl) (by kernel_rfl) (fun _ _ _ h => h) (Or.inl ⟨by rfl, ?_⟩) (by assumption) ?_
  rotate_left
  · intro w hSw; (try dsimp only at hSw); go_simp; try with_reducible rfl
  (try simp only [Act.put, List.setIfInBounds_toArray, List.set_cons_zero, List.set_cons_succ])
  refine wpAnyH_ready (rs := [9]) (by kernel_rfl) (by simp) ?_
  refine (AllReadyH.cons (o := ⟨some 118, _, _, _, _, _⟩) rfl (fun K hK => ?_) AllReadyH.nil)
  rw [if_pos (by rfl)]
  go_simp
  go_at_call 11
  refine (of16_any 2 _).mono ?_
  rintro _ _ ⟨g7, rfl, h4⟩
  have hm23 := St.behind (A := (mP gm2 ga2 x9 (W0 p2 q2 r2))) (St.call hU h4)
  clear h4 hU
  refine hK.out _ _ ?_ (fun hHeld => ?_)
  · exact Loads.blkA (P := Tryz.prog) (T := 34) (vs := (ptrCells (.slice sa 2 sc) 1 0 S)) hm23 (by rw [ptr_len HL.out]; exact TyA.out) (List.mem_append_right _ (.tail _ (.tail _ (.tail _ (.tail _ (.tail _ (.tail _ (.tail _ (.head _))))))))) (ptr_all _ _ _ _)
  clear hK K
  (try simp only [Act.put, List.setIfInBounds_toArray, List.set_cons_zero, List.set_cons_succ])
  refine wpAnyH_ready (rs := [10]) (by kernel_rfl) (by simp) ?_
  refine (AllReadyH.cons (o := ⟨some 119, _, _, _, _, _⟩) rfl (fun K hK => ?_) AllReadyH.nil)
  rw [if_pos (by rfl)]
  go_simp
  go_at_call 13
  have HC := puts_any hm23 (w0_good p2 q2 r2) sa 2 sc (onDevs 2) 1 0 S HL.out (fun _ h => Rd.row h (.tail _ (.tail _ (.tail _ (.tail _ (.tail _ (.tail _ (.tail _ (.tail _ (.head _)))))))))) (onDevs_len _) (some ⟨g7, 0, none⟩) 256 256 _ (gb_sect (.head _)) (by omega) _ _ HA1.out HA2.out
  refine HC.mono ?_
  clear HC
  rintro _ _ ⟨y24, rfl, h4⟩
  have hm25 : St _ _ _ ((mP gm2 ga2 y24 (G16 p2 q2 r2 2 2)) ++ _) := h4
  clear h4 hm23
  refine hK.out _ _ ?_ (fun hHeld => ?_)
  · exact Loads.blkA (P := Tryz.prog) (T := 34) (vs := (ptrCells (.slice sa 2 sc) 1 0 S)) hm25 (by rw [ptr_len HL.out]; exact TyA.out) (List.mem_append_right _ (.tail _ (.tail _ (.tail _ (.tail _ (.tail _ (.tail _ (.tail _ (.head _))))))))) (ptr_all _ _ _ _)
  clear hK K
  (try simp only [Act.put, List.setIfInBounds_toArray, List.set_cons_zero, List.set_cons_succ])
  refine wpAnyH_take (i := 11) (oi := ⟨some 120, _, _, _, _, _⟩) (v := ?_) rfl (by kernel_rfl) (by kernel_rfl) (by kernel_rfl) (fun _ _ _ h => h) (Or.inl ⟨by rfl, ?_⟩) (by assumption) ?_
  rotate_left
  · intro w hSw; (try dsimp only at hSw); go_simp; try with_reducible rfl
  (try simp only [Act.put, List.setIfInBounds_toArray, List.set_cons_zero, List.set_cons_succ])
  refine wpAnyH_take (i := 12) (oi := ⟨some 121, _, _, _, _, _⟩) (v := ?_) rfl (by kernel_rfl) (by kernel_rfl) (by kernel_rfl) (fun _ _ _ h => h) (Or.inl ⟨by rfl, ?_⟩) (by assumption) ?_
  rotate_left
  · intro w hSw; (try dsimp only at hSw); go_simp; try with_reducible rfl
  (try simp only [Act.put, List.setIfInBounds_toArray, List.set_cons_zero, List.set_cons_succ])
  refine wpAnyH_take (i := 13) (oi := ⟨some 122, _, _, _, _, _⟩) (v := ?_) rfl (by kernel_rfl) (by kernel_rfl) (by kernel_rfl) (fun _ _ _ h => h) (Or.inl ⟨by rfl, ?_⟩) (by assumption) ?_
  rotate_left
  · intro w hSw; (try dsimp only at hSw); go_simp; try with_reducible rfl
  (try simp only [Act.put, List.setIfInBounds_toArray, List.set_cons_zero, List.set_cons_succ])
  refine wpAnyH_take (i := 14) (oi := ⟨some 123, _, _, _, _, _⟩) (v := ?_) rfl (by kernel_rfl) (by kernel_rfl) (by kernel_rfl) (fun _ _ _ h => h) (Or.inl ⟨by rfl, ?_⟩) (by assumption) ?_
  rotate_left
  · intro w hSw; (try dsimp only at hSw); go_simp; try with_reducible rfl
  (try simp only [Act.put, List.setIfInBounds_toArray, List.set_cons_zero, List.set_cons_succ])
  refine wpAnyH_ready (rs := [15]) (by kernel_rfl) (by simp) ?_
  refine (AllReadyH.cons (o := ⟨some 124, _, _, _, _, _⟩) rfl (fun K hK => ?_) AllReadyH.nil)
  rw [if_pos (by rfl)]
  go_simp
  go_at_call 14
  have HC := pullM_any (mid_in (P := [_]) (Bs := []) hm25) HQ0.out.sc.ok (Nat.lt_of_le_of_lt HQ0.out.sc.ll (by decide)) ((0 : Nat) : Int)
  rw [fit_pullE (by decide) (by decide)] at HC
  refine HC.mono ?_
  clear HC
  rintro _ _ ⟨rfl, xp2, h4⟩
  have hm26 : St _ _ _ ((mP gm2 ga2 xp2 (⟨(G16 p2 q2 r2 2 2).a.pull ((0 : Nat) : Int), zeroE⟩ : MV)) ++ _) := mid_out (P := [_]) (Bs := []) hm25 h4
  clear h4 hm25
  refine hK.out _ _ ?_ (fun hHeld => ?_)
  · exact Loads.blkA (P := Tryz.prog) (T := 34) (vs := (ptrCells (.slice sa 2 sc) 1 0 S)) hm26 (by rw [ptr_len HL.out]; exact TyA.out) (List.mem_append_right _ (.tail _ (.tail _ (.tail _ (.tail _ (.tail _ (.tail _ (.tail _ (.head _))))))))) (ptr_all _ _ _ _)
  clear hK K
  (try simp only [Act.put, List.setIfInBounds_toArray, List.set_cons_zero, List.set_cons_succ])
  refine wpAnyH_take (i := 16) (oi := ⟨some 125, _, _, _, _, _⟩) (v := ?_) rfl (by kernel_rfl) (by kernel_rfl) (by kernel_rfl) (fun _ _ _ h => h) (Or.inl ⟨by rfl, ?_⟩) (by assumption) ?_
  rotate_left
  · intro w hSw; (try dsimp only at hSw); go_simp; try with_reducible rfl
  (try simp only [Act.put, List.setIfInBounds_toArray, List.set_cons_zero, List.set_cons_succ])
  refine wpAnyH_take (i := 17) (oi := ⟨some 126, _, _, _, _, _⟩) (v := ?_) rfl (by kernel_rfl) (by kernel_rfl) (by kernel_rfl) (fun _ _ _ h => h) (Or.inl ⟨by rfl, ?_⟩) (by assumption) ?_
  rotate_left
  · intro w hSw; (try dsimp only at hSw); go_simp; try with_reducible rfl
  (try simp only [Act.put, List.setIfInBounds_toArray, List.set_cons_zero, List.set_cons_succ])
  refine wpAnyH_take (i := 18) (oi := ⟨some 127, _, _, _, _, _⟩) (v := ?_) rfl (by kernel_rfl) (by kernel_rfl) (by kernel_rfl) (fun _ _ _ h => h) (Or.inl ⟨by rfl, ?_⟩) (by assumption) ?_
  rotate_left
  · intro w hSw; (try dsimp only at hSw); go_simp; try with_reducible rfl
  (try simp only [Act.put, List.setIfInBounds_toArray, List.set_cons_zero, List.set_cons_succ])
  refine wpAnyH_take (i := 19) (oi := ⟨some 128, _, _, _, _, _⟩) (v := ?_) rfl (by kernel_rfl) (by kernel_rfl) (by kernel_rfl) (fun _ _ _ h => h) (Or.inl ⟨by rfl, ?_⟩) (by assumption) ?_
  rotate_left
  · intro w hSw; (try dsimp only at hSw); go_simp; try with_reducible rfl
  (try simp only [Act.put, List.setIfInBounds_toArray, List.set_cons_zero, List.set_cons_succ])
  refine wpAnyH_ready (rs := [20]) (by kernel_rfl) (by simp) ?_
  refine (AllReadyH.cons (o := ⟨some 129, _, _, _, _, _⟩) rfl (fun K hK => ?_) AllReadyH.nil)
  rw [if_pos (by rfl)]
  go_simp
  go_at_call 16
  have HC := fitM_any (mid_in (P := [_]) (Bs := []) hm26) HQ1.out.sc.ok (Nat.lt_of_le_of_lt HQ1.out.sc.ll (by decide)) ((0 : Nat) : Int)
  rw [show AR.fitE _ _ = 0 from fit_fitE (k := 2) (d := 0) (by decide) (by decide)] at HC
  refine HC.mono ?_
  clear HC
  rintro _ _ ⟨rfl, xf, gf, h4⟩
  (replace h4 : St _ _ _ (arP ga2 xf (((G16 p2 q2 r2 2 2).a.pull ((0 : Nat) : Int)).fit ((0 : Nat) : Int) gf)) := h4)
  rw [fit_fit (by decide) (by decide)] at h4
  have HQ2 := hid (show MGood (KF p2 q2 r2 gf) 10 from f16_good (by decide) (by decide) (.inl rfl))
  have hm27 : St _ _ _ ((mP gm2 ga2 xf (KF p2 q2 r2 gf)) ++ _) := mid_out (P := [_]) (Bs := []) hm26 h4
  clear h4 hm26
  refine hK.out _ _ ?_ (fun hHeld => ?_)
  · exact Loads.blkA (P := Tryz.prog) (T := 34) (vs := (ptrCells (.slice sa 2 sc) 1 0 S)) hm27 (by rw [ptr_len HL.out]; exact TyA.out) (List.mem_append_right _ (.tail _ (.tail _ (.tail _ (.tail _ (.tail _ (.tail _ (.tail _ (.head _))))))))) (ptr_all _ _ _ _)
  clear hK K
  (try simp only [Act.put, List.setIfInBounds_toArray, List.set_cons_zero, List.set_cons_succ])
  refine wpAnyH_take (i := 21) (oi := ⟨some 130, _, _, _, _, _⟩) (v := ?_) rfl (by kernel_rfl) (by kernel_rfl) (by kernel_rfl) (fun _ _ _ h => h) (Or.inl ⟨by rfl, ?_⟩) (by assumption) ?_
  rotate_left
  · intro w hSw; (try dsimp only at hSw); go_simp; try with_reducible rfl
  (try simp only [Act.put, List.setIfInBounds_toArray, List.set_cons_zero, List.set_cons_succ])
  refine wpAnyH_take (i := 22) (oi := ⟨some 131, _, _, _, _, _⟩) (v := ?_) rfl (by kernel_rfl) (by kernel_rfl) (by kernel_rfl) (fun _ _ _ h => h) (Or.inl ⟨by rfl, ?_⟩) (by assumption) ?_
  rotate_left
  · intro w hSw; (try dsimp only at hSw); go_simp; try with_reducible rfl
  (try simp only [Act.put, List.setIfInBounds_toArray, List.set_cons_zero, List.set_cons_succ])
  refine wpAnyH_done (by kernel_rfl) ?_ _
  clear hHeld
  have HQ3 := hid (show MGood (KG p2 q2 r2 gf) 20 from by have := scan_mg (P := PVof sa 2 sc (onDevs 2) 1 0 S) HQ2.out; rw [k_scan p2 q2 r2 gf HS.out] at this; exact this.mono (by show 10 + 2 * (onDevs 2).length ≤ 20; decide))
  go_wp2_with (first | go_big_skip | go_big_guard | (refine wl_loadE rfl rfl rfl ?_; refine ⟨_, Loads.blkA (P := Tryz.prog) (T := 34) (vs := (ptrCells (.slice sa 2 sc) 1 0 S)) hm27 (by rw [ptr_len HL.out]; exact TyA.out) (List.mem_append_right _ (.tail _ (.tail _ (.tail _ (.tail _ (.tail _ (.tail _ (.tail _ (.head _))))))))) (ptr_all _ _ _ _), ?_⟩) | (go_at_call 27; have HC := scan_any hm27 HQ2.out sa 2 sc (onDevs 2) 1 0 S HL.out (onDevs_len _) (fun _ h => Rd.row h (.tail _ (.tail _ (.tail _ (.tail _ (.tail _ (.tail _ (.tail _ (.tail _ (.head _)))))))))) (by omega); rw [k_scan p2 q2 r2 gf HS.out, show SR.cells _ = [.int .i64 1, .int .i64 1, .int .i64 0, .int .i64 0] from rfl] at HC; refine HC.mono ?_; clear HC; rintro _ _ ⟨xs2, rfl, h4⟩; have hm28 : St _ _ _ ((mP gm2 ga2 xs2 (KG p2 q2 r2 gf)) ++ _) := h4; clear h4 hm27) | (refine wl_alloc (T := 59) hm28 rfl rfl ?_; intro g18 _ hm29; clear hm28) | (refine wl_storeA [] hm29 rfl rfl rfl rfl rfl rfl rfl ?_; intro _ hm30; clear hm29; have hm31 := St.behind (A := (mP gm2 ga2 xs2 (KG p2 q2 r2 gf))) hm30; clear hm30) | (go_at_call 8; refine (awake16_any _).mono ?_; rintro _ _ ⟨rfl, h4⟩; have hm32 := St.call0 hm31 h4; clear h4 hm31) | (refine wl_loadE rfl rfl rfl ?_; refine ⟨_, Loads.blkA (P := Tryz.prog) (T := 59) (vs := [.int .i64 1, .int .i64 1, .int .i64 0, .int .i64 0]) hm32 (TyA.out (n := 4)) (List.mem_append_right _ (.head _)) rfl, ?_⟩) | (refine wl_buildX (cs := [.int .i64 1, .int .i64 1, .int .i64 0, .int .i64 0]) [(0, .int .i64 1), (1, .int .i64 1)] rfl rfl (by exact rfl) (by kernel_rfl) ?_) | (refine wl_loadE rfl rfl rfl ?_; refine ⟨_, Loads.blkA (P := Tryz.prog) (T := 34) (vs := (ptrCells (.slice sa 2 sc) 1 0 S)) hm32 (by rw [ptr_len HL.out]; exact TyA.out) (List.mem_append_right _ (.tail _ (.tail _ (.tail _ (.tail _ (.tail _ (.tail _ (.tail _ (.tail _ (.head _)))))))))) (ptr_all _ _ _ _), ?_⟩) | (go_at_call 15; have HC := restore_any hm32 HQ3.out sa 2 sc (onDevs 2) 1 0 S HL.out (onDevs_len _) (fun _ h => Rd.row h (.tail _ (.tail _ (.tail _ (.tail _ (.tail _ (.tail _ (.tail _ (.tail _ (.tail _ (.head _))))))))))) (by omega) 2; rw [k_miss] at HC; refine HC.mono ?_; clear HC; rintro _ _ ⟨xt2, rfl, h4⟩; have hm33 : St _ _ _ ((mP gm2 ga2 xt2 (KG p2 q2 r2 gf)) ++ _) := h4; clear h4 hm32) | (refine wl_loadE rfl rfl rfl ?_; refine ⟨_, Loads.blkA (P := Tryz.prog) (T := 34) (vs := (ptrCells (.slice sa 2 sc) 1 0 S)) hm33 (by rw [ptr_len HL.out]; exact TyA.out) (List.mem_append_right _ (.tail _ (.tail _ (.tail _ (.tail _ (.tail _ (.tail _ (.tail _ (.tail _ (.head _)))))))))) (ptr_all _ _ _ _), ?_⟩) | (go_at_call 15; have HC := restore_any hm33 HQ3.out sa 2 sc (onDevs 2) 1 0 S HL.out (onDevs_len _) (fun _ h => Rd.row h (.tail _ (.tail _ (.tail _ (.tail _ (.tail _ (.tail _ (.tail _ (.tail _ (.tail _ (.head _))))))))))) (by omega) 0; rw [k_rest p2 q2 r2 gf HS.out] at HC; refine HC.mono ?_; clear HC; rintro _ _ ⟨xu2, rfl, h4⟩; have hm34 : St _ _ _ ((mP gm2 ga2 xu2 (KH p2 q2 r2 gf)) ++ _) := h4; clear h4 hm33))
  go_ret
  exact ⟨rfl, hm34.nil⟩
end
end Go.Proofs.YtmdfbdfijnmhkaaGreat
namespace Go.Proofs.YtmdfbdfijnmhkaaGreat
set_option linter.unusedVariables false
set_option linter.unusedSimpArgs false
open Go.ChangeShapes Go.WideShapes Go.ChangeAt Go.RowKit Hp
set_option maxRecDepth 100000 in
theorem mirrorKnown_lifted (os : Os) (started : os.Started) (H : Type) (enc : TypeId × Value → H) :
    ReturnsInHanded {} Tryz.checked os 5 .any (Rows.mirrorKnownSpec.pre6 enc Tryz.prog Tryz.f5 Rows.mirrorKnownRow.domain false) (Rows.mirrorKnownSpec.post enc Tryz.prog Tryz.f5 false true false false) := by
  refine returnsInHanded_of_change (C := Tryz.checked) own started (by kernel_rfl) Tryz.func5
    (ChangeSpec.witness6 (enc := enc) (C := Tryz.checked) false ⟨#[], #[], []⟩ 8 (by kernel_rfl) (by kernel_rfl) (by kernel_rfl) (by kernel_rfl)) ?_
  intro W base args ds gs before hval0 hW hcnd _
  have hval : ∀ (j : Nat) t v, Tryz.f5.params[j]? = some t → args[j]? = some v → Value.okWide Tryz.prog W .any base t v := hval0
  have hW' := hW
  obtain ⟨p, q, hAA0, hV, rfl, hfz, hnd⟩ := hW
  have hA : DataW.TrodAll enc Tryz.prog W 0 (fun _ => true) true Tryz.f5.params.toList args.toList ds p := hAA0
  rw [Tryz.params5] at hA hval
  obtain ⟨rfl, rfl, rfl⟩ := trodAll_none hA
  obtain ⟨rfl, rfl⟩ := trodVars_none hV
  clear hAA0 hval0
  simp only [List.append_nil] at hW'
  refine (known16_any W).mono fun e W' ⟨he, hg⟩ => ?_
  subst he
  exact ⟨_, rfl, post_of_kept (pa := []) (pv := []) hW' (fun _ _ _ => (trodAll_cons_mk (shut_bool Tryz.underlying4 _) trodAll_mk0)) (fun sp _ => rfl) (fun _ _ => rfl) rfl
    (hg.below.frame _)⟩
theorem mirrorKnown_over : Rows.mirrorKnownRow.holds Tryz.pinned (OpenSpec.ofChange Rows.mirrorKnownSpec) :=
  OpenClaim.holds_of_wide 5 Tryz.f5 rfl rfl rfl rfl rfl rfl rfl ⟨rfl, rfl, rfl, rfl, rfl⟩ rfl rfl rfl rfl rfl (by kernel_rfl) Tryz.func5 (by kernel_rfl)
    (of_decide_eq_true (by kernel_rfl)) (by unfold Func.isWrapper; first | (rw [if_pos (by decide +kernel)]; kernel_rfl) | (rw [if_neg (by decide +kernel)]; exact ⟨rfl, rfl⟩))
    (fun os started H enc _ => mirrorKnown_lifted os started H enc)
theorem mirrorKnown_proved : Rows.MirrorKnownSaid :=
  mirrorKnown_over
end Go.Proofs.YtmdfbdfijnmhkaaGreat
