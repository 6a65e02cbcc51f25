/- PROVED: the law MirrorHeals returns true at any input, and nothing that was there has turned. No condition. -/
import Derived.Test.YtmdfbdfijnmhkaaJMirrorHealsf
import Derived.Test.YtmdfbdfijnmhkaaPost
import Derived.Test.YtmdfbdfijnmhkaaOpenC
import Derived.Test.YtmdfbdfijnmhkaaOpenM
namespace Go.Proofs.Ytmdfbdfijnmhkaa
set_option linter.unusedVariables false
set_option linter.unusedSimpArgs false
open Go.RowKit Hp
attribute [local irreducible] Go.Calls Go.wpList
set_option maxRecDepth 100000
set_option maxHeartbeats 8000000
instance t16a3 : TyA Try.prog 22 3 := ⟨by kernel_rfl⟩
instance t16n3 : TyN Try.prog 22 3 := ⟨by kernel_rfl⟩
instance t16a8 : TyA Try.prog 23 3 := ⟨by kernel_rfl⟩
instance t16n8 : TyN Try.prog 23 3 := ⟨by kernel_rfl⟩
instance t16sc : TySI Try.prog 48 4 := ⟨by kernel_rfl⟩
theorem eqlScan (a b c d a' b' c' d' : Int) (w : World) : (binOp .eql 48 (.agg #[.int .i64 a, .int .i64 b, .int .i64 c, .int .i64 d]) (.agg #[.int .i64 a', .int .i64 b', .int .i64 c', .int .i64 d'])).run Try.prog w = .ok (.bool (([a, b, c, d] : List Int) == [a', b', c', d'])) w := run_eqlSI (P := Try.prog) (T := 48) (q := .i64) [a, b, c, d] [a', b', c', d'] rfl rfl
theorem guardScan (op : BinOp) (x y : Operand) (xs ys : Array Value) (w : World) : (eqGuard op 48 x y (.agg xs) (.agg ys)).run Try.prog w = .ok () w := run_guardSI op x y xs ys
theorem put_flush {p q r : Nat} {c : UInt8} {π : Nat → Nat} {μ : Nat → UInt8} {k : Nat} (h1 : 1 ≤ k) (h3 : k ≤ 3) : ∃ A1, (W0 p q r).put (onDevs k) (sect c) = ⟨0, k, A1⟩ ∧ ((W0 p q r).withA A1).flush = ⟨0, 3, (H16 p q r c π μ ((k + 3 : Nat) : Int) k 0).a⟩ := by
  rcases (by omega : k = 1 ∨ k = 2 ∨ k = 3) with rfl | rfl | rfl
  · exact ⟨_, ak_put1 .., (ak_flush1 ..).trans (by kernel_rfl)⟩
  · exact ⟨_, ak_put2 .., (ak_flush2 ..).trans (by kernel_rfl)⟩
  · exact ⟨_, ak_put3 .., (ak_flush3 ..).trans (by kernel_rfl)⟩
theorem hsum_succ (m : MV) (k : Nat) : hsum m (k + 1) = hsum m k + (m.errs (k : Int)).he := by
  unfold hsum
  rw [List.range_succ, List.map_append, List.sum_append]
  simp
theorem hsum_bnd {m : MV} {k : Nat} (h : ∀ i : Nat, i < k → (m.errs (i : Int)).he = 0 ∨ (m.errs (i : Int)).he = 1) : ∀ j, j ≤ k → 0 ≤ hsum m j ∧ hsum m j ≤ j
  | 0, _ => ⟨Int.le_refl _, Int.le_refl _⟩
  | j + 1, hj => by
    have h1 := hsum_bnd h j (by omega)
    have h2 := h j (by omega)
    rw [hsum_succ]
    omega
theorem ow_if16 {P : Program} {ops : Array Oper} {o : Oper} {a : Act} {w : World} {K : Act → World → Prop} {Q : Exit → Act → World → Prop} {E : Prop} (hw : Region.wanted o (yielded ops a.tmps) = true) (h : wpList P ops (Q0 K Q) [o] a w) : if Region.wanted o (yielded ops a.tmps) = true then o.wp P a w K Q else E := by
  rw [if_pos hw]
  exact ow_of_wl hw h
theorem wl_field16 {P : Program} {ops : Array Oper} {rest : List Oper} {o : Oper} {a : Act} {w : World} {Q : Exit → Act → World → Prop} {T : TypeId} {x : Operand} {k : Nat} {X v : Value} (hop : o.op = .field T x k) (hw : Region.wanted o (yielded ops a.tmps) = true) (hx : a.eval x = X) (hv : (Instr.field T X k).run P w = .ok v w) (h : wpList P ops Q rest (a.put o.dst v) w) : wpList P ops Q (o :: rest) a w := by
  refine wl_run hw ?_ h
  unfold execOp
  simp [hop, hx, hv]
theorem get_mg {m : MV} {N : Nat} {P : PV} (h : MGood m N) : MGood (m.get P).m (N + 2 * P.l.length) := by
  unfold MV.get
  split
  · exact h.mono (Nat.le_add_right _ _)
  · split
    · exact (found_good h).mono (by omega)
    · have h1 := (found_good (S := P.S) (but := -1) (l := P.l) (ill := []) h).heals (l := (found P.S (-1) m P.l []).ill) (b := (found P.S (-1) m P.l []).b)
      have h2 := found_ill (S := P.S) (but := -1) (l := P.l) (ill := []) (m := m)
      exact h1.mono (by rw [List.length_nil] at h2; omega)
theorem cnext_mg {S : List UInt8} {c : CR} {N : Nat} {x : Int × Int} (h : MGood c.m N) : MGood (c.next S x).m (N + 1) ∧ (c.next S x).ill.length ≤ c.ill.length + 1 := by
  have h1 := h.looked x.1 x.2 S
  have h0 := h.mono (Nat.le_add_right N 1)
  unfold CR.next
  split
  · exact ⟨h0, Nat.le_succ _⟩
  · split
    · exact ⟨h1, Nat.le_succ _⟩
    · split
      · exact ⟨h1, by dsimp only; rw [List.length_append]; exact Nat.le_refl _⟩
      · split
        · exact ⟨h1, Nat.le_succ _⟩
        · exact ⟨h1, Nat.le_succ _⟩
theorem look_mg {S : List UInt8} : ∀ {l : List (Int × Int)} {c : CR} {N : Nat}, MGood c.m N → MGood (l.foldl (CR.next S) c).m (N + l.length) ∧ (l.foldl (CR.next S) c).ill.length ≤ c.ill.length + l.length
  | [], _, _, h => ⟨h, Nat.le_refl _⟩
  | x :: l, c, N, h => by
    have h1 := cnext_mg (S := S) (x := x) h
    have h2 := look_mg (S := S) (l := l) h1.1
    rw [List.foldl_cons, List.length_cons]
    exact ⟨h2.1.mono (by omega), by omega⟩
theorem mend_mg {any : Bool} {b : List UInt8} : ∀ {l : List (Int × Int)} {h : HR} {N : Nat}, MGood h.m N → MGood (l.foldl (HR.next any b) h).m (N + l.length)
  | [], _, _, h => h
  | x :: l, h, N, hg => by
    have h1 : MGood (h.next any b x).m (N + 1) := by
      unfold HR.next
      split
      · exact hg.healed _ _ _
      · dsimp only
        split
        · exact hg.healed _ _ _
        · exact hg.mono (Nat.le_add_right _ _)
    have h2 := mend_mg (any := any) (b := b) (l := l) h1
    rw [List.foldl_cons, List.length_cons]
    exact h2.mono (by omega)
theorem scan_mg {m : MV} {N : Nat} {P : PV} (h : MGood m N) : MGood (m.scan P).m (N + 2 * P.l.length) := by
  have h1 := look_mg (S := P.S) (l := P.l) (c := ⟨0, 0, [], [], m, false⟩) h
  unfold MV.scan
  split
  · exact h.mono (Nat.le_add_right _ _)
  · split
    · exact h1.1.mono (by omega)
    · have h2 := mend_mg (any := decide (0 < (m.look P).good)) (b := (m.look P).b) (l := (m.look P).ill) (h := ⟨0, 0, (m.look P).m⟩) h1.1
      have h3 : (m.look P).ill.length ≤ P.l.length := Nat.le_trans h1.2 (by show 0 + _ ≤ _; omega)
      exact h2.mono (by omega)
section
theorem loadedI7 (A : Addr) : loadVar 3 A = loadVarH 3 A := rfl
theorem loadedU7 (A : Addr) : loadVar 5 A = loadVarH 5 A := rfl
theorem loadedD7 (A : Addr) : loadVar 34 A = loadVarH 34 A := rfl
theorem loadedS7 (A : Addr) : loadVar 48 A = loadVarH 48 A := rfl
attribute [local go_sem ↓] loadedPt storedPt eqlScan guardScan loadedI7 loadedU7 loadedD7 loadedS7
theorem heals16_any (c : UInt8) (zc y0 y1 y2 : Int) (m0 m1 m2 : UInt8) (w : World) (hz : -9223372036854775808 ≤ zc ∧ zc ≤ 9223372036854775807) (hy0 : -9223372036854775808 ≤ y0 ∧ y0 ≤ 9223372036854775807) (hy1 : -9223372036854775808 ≤ y1 ∧ y1 ≤ 9223372036854775807) (hy2 : -9223372036854775808 ≤ y2 ∧ y2 ≤ 9223372036854775807) :
    Calls Try.prog 3 #[.int .u8 c.toNat, .int .i64 zc, .agg (List.toArray [.int .i64 y0, .int .i64 y1, .int .i64 y2]), .agg (List.toArray (bytesV [m0, m1, m2]))] w fun e w' => e = .returned (.bool true) ∧ St w [] w' [] := by
  have hst := St.refl w
  obtain ⟨S, hS⟩ : ∃ S, S = sumB (sect c) := ⟨_, rfl⟩
  have HS := hid hS.symm
  have HL := hid (show L32 S from by rw [hS]; exact length_bytesS _)
  obtain ⟨kp, hkp, hpk⟩ := pickI_nat (x := zc) (n := 3) (by decide)
  have HPK := hid (show pickI zc 3 = (kp : Int) from hpk)
  obtain ⟨k, hk⟩ : ∃ k, k = kp + 1 := ⟨_, rfl⟩
  have hk1 : 1 ≤ k := by omega
  have hk3 : k ≤ 3 := by omega
  have zk : IntKind.i64.wrap (1 + (kp : Int)) = (k : Int) := by rw [hk]; rw [IntWalk.i64_in _ (by omega)]; push_cast; omega
  obtain ⟨Y, hY⟩ : ∃ Y : Nat → Int, Y = fun j => [y0, y1, y2].getD j 0 := ⟨_, rfl⟩
  obtain ⟨π, hπ⟩ : ∃ π : Nat → Nat, π = fun j => (pickI (Y j) 256).toNat := ⟨_, rfl⟩
  obtain ⟨μ, hμ⟩ : ∃ μ : Nat → UInt8, μ = fun j => [m0, m1, m2].getD j 0 := ⟨_, rfl⟩
  have hYb : ∀ j, j < 3 → -9223372036854775808 ≤ Y j ∧ Y j ≤ 9223372036854775807 := by
    intro j hj
    rw [hY]
    rcases (by omega : j = 0 ∨ j = 1 ∨ j = 2) with rfl | rfl | rfl <;> assumption
  have hYc : ∀ j, j < 3 → ([.int .i64 y0, .int .i64 y1, .int .i64 y2] : List Value)[j]? = some (.int .i64 (Y j)) := by
    intro j hj
    rw [hY]
    rcases (by omega : j = 0 ∨ j = 1 ∨ j = 2) with rfl | rfl | rfl <;> rfl
  have hμc : ∀ j, j < 3 → (bytesV [m0, m1, m2])[j]? = some (.int .u8 (u8I (μ j))) := by
    intro j hj
    rw [hμ]
    rcases (by omega : j = 0 ∨ j = 1 ∨ j = 2) with rfl | rfl | rfl <;> rfl
  have hπp : ∀ j, pickI (Y j) 256 = (π j : Nat) ∧ π j < 256 := by
    intro j
    obtain ⟨t, ht, he⟩ := pickI_nat (x := Y j) (n := 256) (by decide)
    have he' : pickI (Y j) 256 = (t : Int) := he
    rw [hπ]
    dsimp only
    rw [he']
    exact ⟨by simp, by simpa using ht⟩
  have HYB := hid hYb
  have HYC := hid hYc
  have HMC := hid hμc
  have HPP := hid hπp
  have HZ := hid hz
  clear hS hpk hkp hY hπ hμ hYb hYc hμc hπp hz hy0 hy1 hy2
  have HKK := hid hk
  clear hk
  go_enter Try.func3, Try.ntmps3
  go_wp2_with (first | go_big_skip | go_big_guard | (first | (refine wl_boxA (T := 22) hst rfl rfl rfl ?_; intro g6 w1 hst1; clear hst) | (refine wl_boxA (T := 23) hst1 rfl rfl rfl ?_; intro g7 w2 hst2; clear hst1)) | (go_at_call 5; refine (awake16_any _).mono ?_; rintro _ w3 ⟨rfl, h4⟩; have hst3 := St.call0 hst2 h4; clear h4 hst2) | (go_at_call 6; refine (made16_any _).mono ?_; rintro _ _ ⟨gm, ga, x0, gs, rfl, hg, h4⟩; obtain ⟨p, q, r, rfl⟩ : ∃ p q r, gs = [p, q, r] := (match gs, hg with | [p, q, r], _ => ⟨p, q, r, rfl⟩); have hm0 : St w [] _ (mP gm ga x0 (W0 p q r) ++ _) := (by have h5 := St.call hst3 h4; rw [newA_ak] at h5; exact h5); clear h4 hg hst3; obtain ⟨A1, hA1, hA2⟩ := put_flush (p := p) (q := q) (r := r) (c := c) (π := π) (μ := μ) hk1 hk3; have HA1 := hid hA1; have HA2 := hid hA2; clear hA1 hA2; have HG0 := hid (show ∀ i, MGood (H16 p q r c π μ ((k + 3 : Nat) : Int) k i) 10 from fun i => h16_good ⟨by omega, by omega⟩); unfold PM) | (go_at_call 7; refine (pick_spec zc 3 _ HZ.out (by first | decide | omega)).mono ?_; rw [HPK.out]; rintro _ _ ⟨rfl, h4⟩; have hm1 := St.call0 hm0 h4; clear h4 hm0) | (go_at_call 8; refine (of16_any c _).mono ?_; rintro _ _ ⟨gb, rfl, h4⟩; have hm2 := St.behind (A := (mP gm ga x0 (W0 p q r))) (St.call hm1 h4); clear h4 hm1) | (go_at_call 9; have HC := points_any hm2 (some ⟨gb, 0, none⟩) 256 256 (sect c) (gb_sect (List.mem_append_right _ (.head _))).rd (sect_len _) (by decide) k (by omega); rw [HS.out] at HC; refine HC.mono ?_; clear HC; rintro _ _ ⟨sa, sc, rfl, h4⟩; have hm3 := St.behind (A := (mP gm ga x0 (W0 p q r))) h4; clear h4 hm2) | (refine wl_alloc (T := 36) hm3 rfl rfl ?_; intro gp _ hm4; clear hm3) | (refine wl_storeA [] hm4 rfl rfl rfl rfl (ptr_len HL.out _ _ _) (ptr_ones _ _ _ _ _ _) (ptr_len L32.nones _ _ _) ?_; intro _ hm5; clear hm4; have hm6 := St.behind (A := (mP gm ga x0 (W0 p q r))) hm5; clear hm5) | (refine wl_loadE rfl rfl rfl ?_; refine ⟨_, Loads.blkA (P := Try.prog) (T := 36) (vs := (ptrCells (.slice sa k sc) 1 0 S)) hm6 (by rw [ptr_len HL.out]; exact TyA.out) (List.mem_append_right _ (.head _)) (ptr_all _ _ _ _), ?_⟩) | (go_at_call 10; have HC := puts_any hm6 (w0_good p q r) sa k sc (onDevs k) 1 0 S HL.out (fun _ h => Rd.row h (.tail _ (.head _))) (onDevs_len _) (some ⟨gb, 0, none⟩) 256 256 _ (gb_sect (.tail _ (.tail _ (.head _)))) (by omega) _ _ HA1.out HA2.out; refine HC.mono ?_; clear HC; rintro _ _ ⟨y7, rfl, h4⟩; have hm8 : St _ _ _ ((mP gm ga y7 (H16 p q r c π μ ((k + 3 : Nat) : Int) k 0)) ++ _) := h4; clear h4 hm6))
  have hst9 : St w [] _ (mP gm ga y7 (H16 p q r c π μ ((k + 3 : Nat) : Int) k 0) ++ (HA.blk gp 36 (ptrCells (.slice sa k sc) 1 0 S) :: HA.row (.slice sa k sc) 83 2 k (addrsV (onDevs k)) :: HA.blk gb 5 (bytesV (sect c)) :: HA.blk g7 23 (bytesV [m0, m1, m2]) :: HA.blk g6 22 [.int .i64 y0, .int .i64 y1, .int .i64 y2] :: ([] : List Hp.HA))) := hm8
  clear hm8
  go_loopw [14, 15] (fun qi ii wr => ∃ (j : Nat) (x' : GA), j ≤ k ∧ ii = .int .i64 (j : Int) ∧ qi = .int .i64 (illN μ j) ∧ Hid (∀ t, t < j → μ t = 0 ∨ sumB (spo (sect c) (π t) (μ t)) ≠ S) ∧ St w [] wr (mP gm ga x' (H16 p q r c π μ ((k + 3 : Nat) : Int) k j) ++ (HA.blk gp 36 (ptrCells (.slice sa k sc) 1 0 S) :: HA.row (.slice sa k sc) 83 2 k (addrsV (onDevs k)) :: HA.blk gb 5 (bytesV (sect c)) :: HA.blk g7 23 (bytesV [m0, m1, m2]) :: HA.blk g6 22 [.int .i64 y0, .int .i64 y1, .int .i64 y2] :: ([] : List Hp.HA)))) (fun _ ii _ => k - (intOf ii).toNat)
  case atStart => exact ⟨0, y7, Nat.zero_le _, rfl, rfl, hid (fun t ht => absurd ht (Nat.not_lt_zero t)), hst9⟩
  case round =>
    clear hst9
    obtain ⟨j, x1, hj, rfl, rfl, HGD, hst⟩ := hrel
    by_cases hlj : j < k
    · by_cases hz0 : μ j = 0
      · have hj3 : j < 3 := by omega
        have hi3 : (j : Int) < 3 := by omega
        have d1 : decide ((j : Int) < (k : Int)) = true := decide_eq_true (by omega)
        have z1 : IntKind.i64.wrap ((j : Int) + 1) = (j : Int) + 1 := IntWalk.i64_in _ (by omega)
        have HYJ := hid (HYC.out j hj3)
        have HMJ := hid (HMC.out j hj3)
        have HPJ := hid (HPP.out j)
        have HSE := hid (h16_spoE (p := p) (q := q) (r := r) (c := c) (π := π) (μ := μ) (st := ((k + 3 : Nat) : Int)) hk3 hlj HPJ.out.2)
        have HSP := hid (h16_spo (p := p) (q := q) (r := r) (c := c) (π := π) (μ := μ) (st := ((k + 3 : Nat) : Int)) hk3 hlj HPJ.out.2)
        have HPB := hid (h16_peekB (p := p) (q := q) (r := r) (c := c) (π := π) (μ := μ) (st := ((k + 3 : Nat) : Int)) hk3 hlj)
        have HPL := hid (h16_peekL (p := p) (q := q) (r := r) (c := c) (π := π) (μ := μ) (st := ((k + 3 : Nat) : Int)) hk3 hlj)
        have HLEN := hid (show (spo (sect c) (π j) (μ j)).length = 256 from spo_len (sect_len _))
        have e1 : (u8I (μ j) == 0) = true := by rw [hz0]; rfl
        have e2 : (u8I (μ j) != 0) = false := by rw [hz0]; rfl
        have HBM := hid (show ((spo (sect c) (π j) (μ j)) == sect c) = true from by rw [spo_same c (μ j) HPJ.out.2, hz0]; rfl)
        have HZ0 := hid hz0
        clear hz0
        go_wp2_with (first | go_big_skip | go_big_guard | fail)
        have hX := hst.drew
        clear hst
        refine wp_region_held_drew (S := (fun w' => (loadVarH 3 ⟨g6, j, none⟩).run Try.prog w' = .ok (.int .i64 (Y j)) w' ∧ (loadVarH 5 ⟨g7, j, none⟩).run Try.prog w' = .ok (.int .u8 (u8I (μ j))) w')) (by kernel_rfl) (by exact ⟨Loads.blk (P := Try.prog) (T := 3) hX TyS.out (List.mem_append_right _ (.tail _ (.tail _ (.tail _ (.tail _ (.head _)))))) HYJ.out, Loads.blk (P := Try.prog) (T := 5) hX TyS.out (List.mem_append_right _ (.tail _ (.tail _ (.tail _ (.head _))))) HMJ.out⟩) (fun hHeld => ?_)
        refine wpAnyH_take (i := 0) (oi := ⟨some 61, _, _, _, _, _⟩) (v := ?_) rfl (by kernel_rfl) (by kernel_rfl) (by kernel_rfl) (fun _ _ _ h => h) (Or.inl ⟨by rfl, ?_⟩) (by assumption) ?_
        rotate_left
        · intro w hSw; (try dsimp only at hSw); go_simp; try with_reducible rfl
        (try simp only [Act.put, List.setIfInBounds_toArray, List.set_cons_zero, List.set_cons_succ])
        refine wpAnyH_take (i := 1) (oi := ⟨some 62, _, _, _, _, _⟩) (v := ?_) rfl (by kernel_rfl) (by kernel_rfl) (by kernel_rfl) (fun _ _ _ h => h) (Or.inl ⟨by rfl, ?_⟩) (by assumption) ?_
        rotate_left
        · intro w hSw; (try dsimp only at hSw); go_simp; try with_reducible rfl
        (try simp only [Act.put, List.setIfInBounds_toArray, List.set_cons_zero, List.set_cons_succ])
        refine wpAnyH_take (i := 2) (oi := ⟨some 63, _, _, _, _, _⟩) (v := ?_) rfl (by kernel_rfl) (by kernel_rfl) (by kernel_rfl) (fun _ _ _ h => h) (Or.inl ⟨by rfl, ?_⟩) (by assumption) ?_
        rotate_left
        · intro w hSw; (try dsimp only at hSw); go_simp; try with_reducible rfl
        (try simp only [Act.put, List.setIfInBounds_toArray, List.set_cons_zero, List.set_cons_succ])
        refine wpAnyH_take (i := 6) (oi := ⟨some 67, _, _, _, _, _⟩) (v := ?_) rfl (by kernel_rfl) (by kernel_rfl) (by kernel_rfl) (fun _ _ _ h => h) (Or.inl ⟨by rfl, ?_⟩) (by assumption) ?_
        rotate_left
        · intro w hSw; (try dsimp only at hSw); go_simp; try with_reducible rfl
        (try simp only [Act.put, List.setIfInBounds_toArray, List.set_cons_zero, List.set_cons_succ])
        refine wpAnyH_take (i := 3) (oi := ⟨some 64, _, _, _, _, _⟩) (v := ?_) rfl (by kernel_rfl) (by kernel_rfl) (by kernel_rfl) (fun _ _ _ h => h) (Or.inl ⟨by rfl, ?_⟩) (by assumption) ?_
        rotate_left
        · intro w hSw; (try dsimp only at hSw); go_simp; try with_reducible rfl
        (try simp only [Act.put, List.setIfInBounds_toArray, List.set_cons_zero, List.set_cons_succ])
        refine wpAnyH_take (i := 7) (oi := ⟨some 68, _, _, _, _, _⟩) (v := ?_) rfl (by kernel_rfl) (by kernel_rfl) (by kernel_rfl) (fun _ _ _ h => h) (Or.inl ⟨by rfl, ?_⟩) (by assumption) ?_
        rotate_left
        · intro w hSw; (try dsimp only at hSw); go_simp; try with_reducible rfl
        (try simp only [Act.put, List.setIfInBounds_toArray, List.set_cons_zero, List.set_cons_succ])
        refine wpAnyH_take (i := 4) (oi := ⟨some 65, _, _, _, _, _⟩) (v := ?_) rfl (by kernel_rfl) (by kernel_rfl) (by kernel_rfl) (fun _ _ _ h => h) (Or.inl ⟨by rfl, ?_⟩) (by assumption) ?_
        rotate_left
        · intro w hSw; (try dsimp only at hSw); go_simp; try with_reducible rfl
        (try simp only [Act.put, List.setIfInBounds_toArray, List.set_cons_zero, List.set_cons_succ])
        refine wpAnyH_take (i := 8) (oi := ⟨some 69, _, _, _, _, _⟩) (v := ?_) rfl (by kernel_rfl) (by kernel_rfl) (by kernel_rfl) (fun _ _ _ h => h) (Or.inl ⟨by rfl, ?_⟩) (by assumption) ?_
        rotate_left
        · intro w hSw; (try dsimp only at hSw); go_simp; try with_reducible rfl
        (try simp only [Act.put, List.setIfInBounds_toArray, List.set_cons_zero, List.set_cons_succ])
        refine wpAnyH_ready (rs := [5]) (by kernel_rfl) (by simp) ?_
        refine (AllReadyH.cons (o := ⟨some 66, _, _, _, _, _⟩) rfl (fun K hK => ?_) AllReadyH.nil)
        rw [if_pos (by rfl)]
        go_simp
        go_at_call 7
        refine (pick_spec (Y j) 256 _ (HYB.out j hj3) (by first | decide | omega)).mono ?_
        rw [HPJ.out.1]
        rintro _ _ ⟨rfl, h4⟩
        have hm21 := St.call0 hX h4
        clear h4 hX
        refine hK.out _ _ ?_ (fun hHeld => ?_)
        · exact ⟨Loads.blk (P := Try.prog) (T := 3) hm21 TyS.out (List.mem_append_right _ (.tail _ (.tail _ (.tail _ (.tail _ (.head _)))))) HYJ.out, Loads.blk (P := Try.prog) (T := 5) hm21 TyS.out (List.mem_append_right _ (.tail _ (.tail _ (.tail _ (.head _))))) HMJ.out⟩
        clear hK K
        (try simp only [Act.put, List.setIfInBounds_toArray, List.set_cons_zero, List.set_cons_succ])
        refine wpAnyH_ready (rs := [9]) (by kernel_rfl) (by simp) ?_
        refine (AllReadyH.cons (o := ⟨some 70, _, _, _, _, _⟩) rfl (fun K hK => ?_) AllReadyH.nil)
        rw [if_pos (by rfl)]
        go_simp
        go_at_call 11
        have HC := spoilM_any (mid_in (P := [_]) (Bs := []) hm21) (HG0.out j).sc.ok (j : Int) 5 ((π j : Nat) : Int) (μ j)
        rw [HSE.out, HSP.out] at HC
        refine HC.mono ?_
        clear HC
        rintro _ _ ⟨rfl, xs, h4⟩
        have hm22 : St _ _ _ ((mP gm ga xs (H16 p q r c π μ ((k + 3 : Nat) : Int) k (j + 1))) ++ _) := mid_out (P := [_]) (Bs := []) hm21 h4
        clear h4 hm21
        refine hK.out _ _ ?_ (fun hHeld => ?_)
        · exact ⟨Loads.blk (P := Try.prog) (T := 3) hm22 TyS.out (List.mem_append_right _ (.tail _ (.tail _ (.tail _ (.tail _ (.head _)))))) HYJ.out, Loads.blk (P := Try.prog) (T := 5) hm22 TyS.out (List.mem_append_right _ (.tail _ (.tail _ (.tail _ (.head _))))) HMJ.out⟩
        clear hK K
        (try simp only [Act.put, List.setIfInBounds_toArray, List.set_cons_zero, List.set_cons_succ])
        refine wpAnyH_take (i := 10) (oi := ⟨some 71, _, _, _, _, _⟩) (v := ?_) rfl (by kernel_rfl) (by kernel_rfl) (by kernel_rfl) (fun _ _ _ h => h) (Or.inl ⟨by rfl, ?_⟩) (by assumption) ?_
        rotate_left
        · intro w hSw; (try dsimp only at hSw); go_simp; try with_reducible rfl
        (try simp only [Act.put, List.setIfInBounds_toArray, List.set_cons_zero, List.set_cons_succ])
        refine wpAnyH_done (by kernel_rfl) ?_ _
        clear hHeld
        go_wp2_with (first | go_big_skip | go_big_guard | (go_at_call 12; have HC := peek_any (St.marr hm22 (HG0.out (j + 1)).sc.ok.d0) (HG0.out (j + 1)).sc.ok (Nat.lt_of_le_of_lt (HG0.out (j + 1)).sc.ll (by decide)) (j : Int) 5; rw [HPB.out, HPL.out, HLEN.out] at HC; refine HC.mono ?_; clear HC; rintro _ _ ⟨u, rfl, h4⟩; obtain ⟨ua, uc, rfl⟩ := St.rowSliceAt [] h4; have hm23 := St.behind (A := (mP gm ga xs (H16 p q r c π μ ((k + 3 : Nat) : Int) k (j + 1)))) (St.call hm22 h4); clear h4 hm22))
        have hY := hm23.drew
        clear hm23
        refine wp_region_held_drew (S := (fun w' => (loadVarH 5 ⟨g7, j, none⟩).run Try.prog w' = .ok (.int .u8 (u8I (μ j))) w')) (by kernel_rfl) (by exact Loads.blk (P := Try.prog) (T := 5) hY TyS.out (List.mem_append_right _ (.tail _ (.tail _ (.tail _ (.tail _ (.head _)))))) HMJ.out) (fun hHeld => ?_)
        refine wpAnyH_take (i := 0) (oi := ⟨some 78, _, _, _, _, _⟩) (v := ?_) rfl (by kernel_rfl) (by kernel_rfl) (by kernel_rfl) (fun _ _ _ h => h) (Or.inl ⟨by rfl, ?_⟩) (by assumption) ?_
        rotate_left
        · intro w hSw; (try dsimp only at hSw); go_simp; try with_reducible rfl
        (try simp only [Act.put, List.setIfInBounds_toArray, List.set_cons_zero, List.set_cons_succ])
        refine wpAnyH_take (i := 1) (oi := ⟨some 79, _, _, _, _, _⟩) (v := ?_) rfl (by kernel_rfl) (by kernel_rfl) (by kernel_rfl) (fun _ _ _ h => h) (Or.inl ⟨by rfl, ?_⟩) (by assumption) ?_
        rotate_left
        · intro w hSw; (try dsimp only at hSw); go_simp; try with_reducible rfl
        (try simp only [Act.put, List.setIfInBounds_toArray, List.set_cons_zero, List.set_cons_succ])
        refine wpAnyH_take (i := 2) (oi := ⟨some 80, _, _, _, _, _⟩) (v := ?_) rfl (by kernel_rfl) (by kernel_rfl) (by kernel_rfl) (fun _ _ _ h => h) (Or.inl ⟨by rfl, ?_⟩) (by assumption) ?_
        rotate_left
        · intro w hSw; (try dsimp only at hSw); go_simp; try with_reducible rfl
        (try simp only [Act.put, List.setIfInBounds_toArray, List.set_cons_zero, List.set_cons_succ])
        refine wpAnyH_take (i := 3) (oi := ⟨some 81, _, _, _, _, _⟩) (v := ?_) rfl (by kernel_rfl) (by kernel_rfl) (by kernel_rfl) (fun _ _ _ h => h) (Or.inl ⟨by rfl, ?_⟩) (by assumption) ?_
        rotate_left
        · intro w hSw; (try dsimp only at hSw); go_simp; try with_reducible rfl
        (try simp only [Act.put, List.setIfInBounds_toArray, List.set_cons_zero, List.set_cons_succ])
        refine wpAnyH_take (i := 4) (oi := ⟨some 82, _, _, _, _, _⟩) (v := ?_) rfl (by kernel_rfl) (by kernel_rfl) (by kernel_rfl) (fun _ _ _ h => h) (Or.inl ⟨by rfl, ?_⟩) (by assumption) ?_
        rotate_left
        · intro w hSw; (try dsimp only at hSw); go_simp; try with_reducible rfl
        (try simp only [Act.put, List.setIfInBounds_toArray, List.set_cons_zero, List.set_cons_succ])
        refine wpAnyH_take (i := 6) (oi := ⟨some 84, _, _, _, _, _⟩) (v := ?_) rfl (by kernel_rfl) (by kernel_rfl) (by kernel_rfl) (fun _ _ _ h => h) (Or.inl ⟨by rfl, ?_⟩) (by assumption) ?_
        rotate_left
        · intro w hSw; (try dsimp only at hSw); go_simp; try with_reducible rfl
        (try simp only [Act.put, List.setIfInBounds_toArray, List.set_cons_zero, List.set_cons_succ])
        refine wpAnyH_take (i := 7) (oi := ⟨some 85, _, _, _, _, _⟩) (v := ?_) rfl (by kernel_rfl) (by kernel_rfl) (by kernel_rfl) (fun _ _ _ h => h) (Or.inl ⟨by rfl, ?_⟩) (by assumption) ?_
        rotate_left
        · intro w hSw; (try dsimp only at hSw); go_simp; try with_reducible rfl
        (try simp only [Act.put, List.setIfInBounds_toArray, List.set_cons_zero, List.set_cons_succ])
        refine wpAnyH_take (i := 8) (oi := ⟨some 86, _, _, _, _, _⟩) (v := ?_) rfl (by kernel_rfl) (by kernel_rfl) (by kernel_rfl) (fun _ _ _ h => h) (Or.inl ⟨by rfl, ?_⟩) (by assumption) ?_
        rotate_left
        · intro w hSw; (try dsimp only at hSw); go_simp; try with_reducible rfl
        (try simp only [Act.put, List.setIfInBounds_toArray, List.set_cons_zero, List.set_cons_succ])
        refine wpAnyH_take (i := 9) (oi := ⟨some 87, _, _, _, _, _⟩) (v := ?_) rfl (by kernel_rfl) (by kernel_rfl) (by kernel_rfl) (fun _ _ _ h => h) (Or.inl ⟨by rfl, ?_⟩) (by assumption) ?_
        rotate_left
        · intro w hSw; (try dsimp only at hSw); go_simp; try with_reducible rfl
        (try simp only [Act.put, List.setIfInBounds_toArray, List.set_cons_zero, List.set_cons_succ])
        refine wpAnyH_ready (rs := [5]) (by kernel_rfl) (by simp) ?_
        refine (AllReadyH.cons (o := ⟨some 83, _, _, _, _, _⟩) rfl (fun K hK => ?_) AllReadyH.nil)
        rw [if_pos (by rfl)]
        go_simp
        go_at_call 13
        have HC := sameBytes_any _ _ _ _ (spo (sect c) (π j) (μ j)) (sect c) _ (Rd.row hY (List.mem_append_right _ (.head _))) (((gb_sect (.tail _ (.tail _ (.tail _ (.head _))))) : GB w [] _ _ _ _).rd _ (St.sub hY (List.sublist_append_right _ _)))
        rw [HBM.out] at HC
        refine HC.mono ?_
        clear HC
        rintro _ _ ⟨rfl, h4⟩
        have hm24 := St.call0 hY h4
        clear h4 hY
        refine hK.out _ _ ?_ (fun hHeld => ?_)
        · exact Loads.blk (P := Try.prog) (T := 5) hm24 TyS.out (List.mem_append_right _ (.tail _ (.tail _ (.tail _ (.tail _ (.head _)))))) HMJ.out
        clear hK K
        (try simp only [Act.put, List.setIfInBounds_toArray, List.set_cons_zero, List.set_cons_succ])
        refine wpAnyH_take (i := 10) (oi := ⟨some 88, _, _, _, _, _⟩) (v := ?_) rfl (by kernel_rfl) (by kernel_rfl) (by kernel_rfl) (fun _ _ _ h => h) (Or.inl ⟨by rfl, ?_⟩) (by assumption) ?_
        rotate_left
        · intro w hSw; (try dsimp only at hSw); go_simp; try with_reducible rfl
        (try simp only [Act.put, List.setIfInBounds_toArray, List.set_cons_zero, List.set_cons_succ])
        refine wpAnyH_take (i := 11) (oi := ⟨some 89, _, _, _, _, _⟩) (v := ?_) rfl (by kernel_rfl) (by kernel_rfl) (by kernel_rfl) (fun _ _ _ h => h) (Or.inl ⟨by rfl, ?_⟩) (by assumption) ?_
        rotate_left
        · intro w hSw; (try dsimp only at hSw); go_simp; try with_reducible rfl
        (try simp only [Act.put, List.setIfInBounds_toArray, List.set_cons_zero, List.set_cons_succ])
        refine wpAnyH_done (by kernel_rfl) ?_ _
        clear hHeld
        go_wp2_with (first | go_big_skip | go_big_guard | fail)
        have hZ := hm24.drew
        clear hm24
        refine wp_region_held_drew (S := (fun w' => (loadVarH 5 ⟨g7, j, none⟩).run Try.prog w' = .ok (.int .u8 (u8I (μ j))) w')) (by kernel_rfl) (by exact Loads.blk (P := Try.prog) (T := 5) hZ TyS.out (List.mem_append_right _ (.tail _ (.tail _ (.tail _ (.tail _ (.head _)))))) HMJ.out) (fun hHeld => ?_)
        refine wpAnyH_take (i := 0) (oi := ⟨some 90, _, _, _, _, _⟩) (v := ?_) rfl (by kernel_rfl) (by kernel_rfl) (by kernel_rfl) (fun _ _ _ h => h) (Or.inl ⟨by rfl, ?_⟩) (by assumption) ?_
        rotate_left
        · intro w hSw; (try dsimp only at hSw); go_simp; try with_reducible rfl
        (try simp only [Act.put, List.setIfInBounds_toArray, List.set_cons_zero, List.set_cons_succ])
        refine wpAnyH_take (i := 1) (oi := ⟨some 91, _, _, _, _, _⟩) (v := ?_) rfl (by kernel_rfl) (by kernel_rfl) (by kernel_rfl) (fun _ _ _ h => h) (Or.inl ⟨by rfl, ?_⟩) (by assumption) ?_
        rotate_left
        · intro w hSw; (try dsimp only at hSw); go_simp; try with_reducible rfl
        (try simp only [Act.put, List.setIfInBounds_toArray, List.set_cons_zero, List.set_cons_succ])
        refine wpAnyH_take (i := 2) (oi := ⟨some 92, _, _, _, _, _⟩) (v := ?_) rfl (by kernel_rfl) (by kernel_rfl) (by kernel_rfl) (fun _ _ _ h => h) (Or.inl ⟨by rfl, ?_⟩) (by assumption) ?_
        rotate_left
        · intro w hSw; (try dsimp only at hSw); go_simp; try with_reducible rfl
        (try simp only [Act.put, List.setIfInBounds_toArray, List.set_cons_zero, List.set_cons_succ])
        refine wpAnyH_take (i := 3) (oi := ⟨some 93, _, _, _, _, _⟩) (v := ?_) rfl (by kernel_rfl) (by kernel_rfl) (by kernel_rfl) (fun _ _ _ h => h) (Or.inl ⟨by rfl, ?_⟩) (by assumption) ?_
        rotate_left
        · intro w hSw; (try dsimp only at hSw); go_simp; try with_reducible rfl
        (try simp only [Act.put, List.setIfInBounds_toArray, List.set_cons_zero, List.set_cons_succ])
        refine wpAnyH_take (i := 4) (oi := ⟨some 94, _, _, _, _, _⟩) (v := ?_) rfl (by kernel_rfl) (by kernel_rfl) (by kernel_rfl) (fun _ _ _ h => h) (Or.inl ⟨by rfl, ?_⟩) (by assumption) ?_
        rotate_left
        · intro w hSw; (try dsimp only at hSw); go_simp; try with_reducible rfl
        (try simp only [Act.put, List.setIfInBounds_toArray, List.set_cons_zero, List.set_cons_succ])
        refine wpAnyH_take (i := 5) (oi := ⟨some 95, _, _, _, _, _⟩) (v := undef) rfl (by kernel_rfl) (by kernel_rfl) (by kernel_rfl) (fun _ _ _ h => h) (Or.inr ⟨by rfl, rfl⟩) (by assumption) ?_
        (try simp only [Act.put, List.setIfInBounds_toArray, List.set_cons_zero, List.set_cons_succ])
        refine wpAnyH_take (i := 7) (oi := ⟨some 97, _, _, _, _, _⟩) (v := undef) rfl (by kernel_rfl) (by kernel_rfl) (by kernel_rfl) (fun _ _ _ h => h) (Or.inr ⟨by rfl, rfl⟩) (by assumption) ?_
        (try simp only [Act.put, List.setIfInBounds_toArray, List.set_cons_zero, List.set_cons_succ])
        refine wpAnyH_take (i := 8) (oi := ⟨some 98, _, _, _, _, _⟩) (v := undef) rfl (by kernel_rfl) (by kernel_rfl) (by kernel_rfl) (fun _ _ _ h => h) (Or.inr ⟨by rfl, rfl⟩) (by assumption) ?_
        (try simp only [Act.put, List.setIfInBounds_toArray, List.set_cons_zero, List.set_cons_succ])
        refine wpAnyH_ready (rs := [6]) (by kernel_rfl) (by simp) ?_
        refine (AllReadyH.cons (o := ⟨some 96, _, _, _, _, _⟩) rfl (fun K hK => ?_) AllReadyH.nil)
        rw [if_neg (by rw [show Region.wanted _ _ = false from rfl]; exact Bool.false_ne_true)]
        refine hK.out _ _ ?_ (fun hHeld => ?_)
        · exact Loads.blk (P := Try.prog) (T := 5) hZ TyS.out (List.mem_append_right _ (.tail _ (.tail _ (.tail _ (.tail _ (.head _)))))) HMJ.out
        clear hK K
        (try simp only [Act.put, List.setIfInBounds_toArray, List.set_cons_zero, List.set_cons_succ])
        refine wpAnyH_take (i := 9) (oi := ⟨some 99, _, _, _, _, _⟩) (v := undef) rfl (by kernel_rfl) (by kernel_rfl) (by kernel_rfl) (fun _ _ _ h => h) (Or.inr ⟨by rfl, rfl⟩) (by assumption) ?_
        (try simp only [Act.put, List.setIfInBounds_toArray, List.set_cons_zero, List.set_cons_succ])
        refine wpAnyH_take (i := 10) (oi := ⟨some 100, _, _, _, _, _⟩) (v := ?_) rfl (by kernel_rfl) (by kernel_rfl) (by kernel_rfl) (fun _ _ _ h => h) (Or.inl ⟨by rfl, ?_⟩) (by assumption) ?_
        rotate_left
        · intro w hSw; (try dsimp only at hSw); go_simp; try with_reducible rfl
        (try simp only [Act.put, List.setIfInBounds_toArray, List.set_cons_zero, List.set_cons_succ])
        refine wpAnyH_done (by kernel_rfl) ?_ _
        clear hHeld
        go_wp2_with (first | go_big_skip | go_big_guard | (refine wl_loadE rfl rfl rfl ?_; refine ⟨_, Loads.blk (P := Try.prog) (T := 5) hZ TyS.out (List.mem_append_right _ (.tail _ (.tail _ (.tail _ (.tail _ (.head _)))))) HMJ.out, ?_⟩))
        go_roundw
        case rel => exact ⟨j + 1, xs, by omega, by go_num, by rw [illN_succ, if_pos HZ0.out]; rfl, hid (fun t ht => by rcases Nat.lt_succ_iff_lt_or_eq.1 ht with h9 | rfl; exact HGD.out t h9; exact .inl HZ0.out), sub_x hZ⟩
        case measure => simp [intOf]; omega
      · by_cases hs0 : sumB (spo (sect c) (π j) (μ j)) = S
        · have hj3 : j < 3 := by omega
          have hi3 : (j : Int) < 3 := by omega
          have d1 : decide ((j : Int) < (k : Int)) = true := decide_eq_true (by omega)
          have z1 : IntKind.i64.wrap ((j : Int) + 1) = (j : Int) + 1 := IntWalk.i64_in _ (by omega)
          have HYJ := hid (HYC.out j hj3)
          have HMJ := hid (HMC.out j hj3)
          have HPJ := hid (HPP.out j)
          have HSE := hid (h16_spoE (p := p) (q := q) (r := r) (c := c) (π := π) (μ := μ) (st := ((k + 3 : Nat) : Int)) hk3 hlj HPJ.out.2)
          have HSP := hid (h16_spo (p := p) (q := q) (r := r) (c := c) (π := π) (μ := μ) (st := ((k + 3 : Nat) : Int)) hk3 hlj HPJ.out.2)
          have HPB := hid (h16_peekB (p := p) (q := q) (r := r) (c := c) (π := π) (μ := μ) (st := ((k + 3 : Nat) : Int)) hk3 hlj)
          have HPL := hid (h16_peekL (p := p) (q := q) (r := r) (c := c) (π := π) (μ := μ) (st := ((k + 3 : Nat) : Int)) hk3 hlj)
          have HLEN := hid (show (spo (sect c) (π j) (μ j)).length = 256 from spo_len (sect_len _))
          have hI0 : u8I (μ j) ≠ 0 := fun h => hz0 (UInt8.toNat_inj.1 (Int.ofNat.inj (show Int.ofNat (μ j).toNat = Int.ofNat 0 from h)))
          have e1 : (u8I (μ j) == 0) = false := beq_eq_false_iff_ne.2 hI0
          have e2 : (u8I (μ j) != 0) = true := by rw [bne, e1]; rfl
          have HBM := hid (show ((spo (sect c) (π j) (μ j)) == sect c) = false from by rw [spo_same c (μ j) HPJ.out.2]; exact beq_eq_false_iff_ne.2 hz0)
          have HS32 := hid (show (sumB (spo (sect c) (π j) (μ j))).length = 32 from length_bytesS _)
          have HSM := hid (show (sumB (spo (sect c) (π j) (μ j)) == S) = true from beq_iff_eq.2 hs0)
          have HZ0 := hid hz0
          clear hz0
          have HS0 := hid hs0
          clear hs0
          go_wp2_with (first | go_big_skip | go_big_guard | fail)
          have hX := hst.drew
          clear hst
          refine wp_region_held_drew (S := (fun w' => (loadVarH 3 ⟨g6, j, none⟩).run Try.prog w' = .ok (.int .i64 (Y j)) w' ∧ (loadVarH 5 ⟨g7, j, none⟩).run Try.prog w' = .ok (.int .u8 (u8I (μ j))) w')) (by kernel_rfl) (by exact ⟨Loads.blk (P := Try.prog) (T := 3) hX TyS.out (List.mem_append_right _ (.tail _ (.tail _ (.tail _ (.tail _ (.head _)))))) HYJ.out, Loads.blk (P := Try.prog) (T := 5) hX TyS.out (List.mem_append_right _ (.tail _ (.tail _ (.tail _ (.head _))))) HMJ.out⟩) (fun hHeld => ?_)
          refine wpAnyH_take (i := 0) (oi := ⟨some 61, _, _, _, _, _⟩) (v := ?_) rfl (by kernel_rfl) (by kernel_rfl) (by kernel_rfl) (fun _ _ _ h => h) (Or.inl ⟨by rfl, ?_⟩) (by assumption) ?_
          rotate_left
          · intro w hSw; (try dsimp only at hSw); go_simp; try with_reducible rfl
          (try simp only [Act.put, List.setIfInBounds_toArray, List.set_cons_zero, List.set_cons_succ])
          refine wpAnyH_take (i := 1) (oi := ⟨some 62, _, _, _, _, _⟩) (v := ?_) rfl (by kernel_rfl) (by kernel_rfl) (by kernel_rfl) (fun _ _ _ h => h) (Or.inl ⟨by rfl, ?_⟩) (by assumption) ?_
          rotate_left
          · intro w hSw; (try dsimp only at hSw); go_simp; try with_reducible rfl
          (try simp only [Act.put, List.setIfInBounds_toArray, List.set_cons_zero, List.set_cons_succ])
          refine wpAnyH_take (i := 2) (oi := ⟨some 63, _, _, _, _, _⟩) (v := ?_) rfl (by kernel_rfl) (by kernel_rfl) (by kernel_rfl) (fun _ _ _ h => h) (Or.inl ⟨by rfl, ?_⟩) (by assumption) ?_
          rotate_left
          · intro w hSw; (try dsimp only at hSw); go_simp; try with_reducible rfl
          (try simp only [Act.put, List.setIfInBounds_toArray, List.set_cons_zero, List.set_cons_succ])
          refine wpAnyH_take (i := 6) (oi := ⟨some 67, _, _, _, _, _⟩) (v := ?_) rfl (by kernel_rfl) (by kernel_rfl) (by kernel_rfl) (fun _ _ _ h => h) (Or.inl ⟨by rfl, ?_⟩) (by assumption) ?_
          rotate_left
          · intro w hSw; (try dsimp only at hSw); go_simp; try with_reducible rfl
          (try simp only [Act.put, List.setIfInBounds_toArray, List.set_cons_zero, List.set_cons_succ])
          refine wpAnyH_take (i := 3) (oi := ⟨some 64, _, _, _, _, _⟩) (v := ?_) rfl (by kernel_rfl) (by kernel_rfl) (by kernel_rfl) (fun _ _ _ h => h) (Or.inl ⟨by rfl, ?_⟩) (by assumption) ?_
          rotate_left
          · intro w hSw; (try dsimp only at hSw); go_simp; try with_reducible rfl
          (try simp only [Act.put, List.setIfInBounds_toArray, List.set_cons_zero, List.set_cons_succ])
          refine wpAnyH_take (i := 7) (oi := ⟨some 68, _, _, _, _, _⟩) (v := ?_) rfl (by kernel_rfl) (by kernel_rfl) (by kernel_rfl) (fun _ _ _ h => h) (Or.inl ⟨by rfl, ?_⟩) (by assumption) ?_
          rotate_left
          · intro w hSw; (try dsimp only at hSw); go_simp; try with_reducible rfl
          (try simp only [Act.put, List.setIfInBounds_toArray, List.set_cons_zero, List.set_cons_succ])
          refine wpAnyH_take (i := 4) (oi := ⟨some 65, _, _, _, _, _⟩) (v := ?_) rfl (by kernel_rfl) (by kernel_rfl) (by kernel_rfl) (fun _ _ _ h => h) (Or.inl ⟨by rfl, ?_⟩) (by assumption) ?_
          rotate_left
          · intro w hSw; (try dsimp only at hSw); go_simp; try with_reducible rfl
          (try simp only [Act.put, List.setIfInBounds_toArray, List.set_cons_zero, List.set_cons_succ])
          refine wpAnyH_take (i := 8) (oi := ⟨some 69, _, _, _, _, _⟩) (v := ?_) rfl (by kernel_rfl) (by kernel_rfl) (by kernel_rfl) (fun _ _ _ h => h) (Or.inl ⟨by rfl, ?_⟩) (by assumption) ?_
          rotate_left
          · intro w hSw; (try dsimp only at hSw); go_simp; try with_reducible rfl
          (try simp only [Act.put, List.setIfInBounds_toArray, List.set_cons_zero, List.set_cons_succ])
          refine wpAnyH_ready (rs := [5]) (by kernel_rfl) (by simp) ?_
          refine (AllReadyH.cons (o := ⟨some 66, _, _, _, _, _⟩) rfl (fun K hK => ?_) AllReadyH.nil)
          rw [if_pos (by rfl)]
          go_simp
          go_at_call 7
          refine (pick_spec (Y j) 256 _ (HYB.out j hj3) (by first | decide | omega)).mono ?_
          rw [HPJ.out.1]
          rintro _ _ ⟨rfl, h4⟩
          have hm21 := St.call0 hX h4
          clear h4 hX
          refine hK.out _ _ ?_ (fun hHeld => ?_)
          · exact ⟨Loads.blk (P := Try.prog) (T := 3) hm21 TyS.out (List.mem_append_right _ (.tail _ (.tail _ (.tail _ (.tail _ (.head _)))))) HYJ.out, Loads.blk (P := Try.prog) (T := 5) hm21 TyS.out (List.mem_append_right _ (.tail _ (.tail _ (.tail _ (.head _))))) HMJ.out⟩
          clear hK K
          (try simp only [Act.put, List.setIfInBounds_toArray, List.set_cons_zero, List.set_cons_succ])
          refine wpAnyH_ready (rs := [9]) (by kernel_rfl) (by simp) ?_
          refine (AllReadyH.cons (o := ⟨some 70, _, _, _, _, _⟩) rfl (fun K hK => ?_) AllReadyH.nil)
          rw [if_pos (by rfl)]
          go_simp
          go_at_call 11
          have HC := spoilM_any (mid_in (P := [_]) (Bs := []) hm21) (HG0.out j).sc.ok (j : Int) 5 ((π j : Nat) : Int) (μ j)
          rw [HSE.out, HSP.out] at HC
          refine HC.mono ?_
          clear HC
          rintro _ _ ⟨rfl, xs, h4⟩
          have hm22 : St _ _ _ ((mP gm ga xs (H16 p q r c π μ ((k + 3 : Nat) : Int) k (j + 1))) ++ _) := mid_out (P := [_]) (Bs := []) hm21 h4
          clear h4 hm21
          refine hK.out _ _ ?_ (fun hHeld => ?_)
          · exact ⟨Loads.blk (P := Try.prog) (T := 3) hm22 TyS.out (List.mem_append_right _ (.tail _ (.tail _ (.tail _ (.tail _ (.head _)))))) HYJ.out, Loads.blk (P := Try.prog) (T := 5) hm22 TyS.out (List.mem_append_right _ (.tail _ (.tail _ (.tail _ (.head _))))) HMJ.out⟩
          clear hK K
          (try simp only [Act.put, List.setIfInBounds_toArray, List.set_cons_zero, List.set_cons_succ])
          refine wpAnyH_take (i := 10) (oi := ⟨some 71, _, _, _, _, _⟩) (v := ?_) rfl (by kernel_rfl) (by kernel_rfl) (by kernel_rfl) (fun _ _ _ h => h) (Or.inl ⟨by rfl, ?_⟩) (by assumption) ?_
          rotate_left
          · intro w hSw; (try dsimp only at hSw); go_simp; try with_reducible rfl
          (try simp only [Act.put, List.setIfInBounds_toArray, List.set_cons_zero, List.set_cons_succ])
          refine wpAnyH_done (by kernel_rfl) ?_ _
          clear hHeld
          go_wp2_with (first | go_big_skip | go_big_guard | (go_at_call 12; have HC := peek_any (St.marr hm22 (HG0.out (j + 1)).sc.ok.d0) (HG0.out (j + 1)).sc.ok (Nat.lt_of_le_of_lt (HG0.out (j + 1)).sc.ll (by decide)) (j : Int) 5; rw [HPB.out, HPL.out, HLEN.out] at HC; refine HC.mono ?_; clear HC; rintro _ _ ⟨u, rfl, h4⟩; obtain ⟨ua, uc, rfl⟩ := St.rowSliceAt [] h4; have hm23 := St.behind (A := (mP gm ga xs (H16 p q r c π μ ((k + 3 : Nat) : Int) k (j + 1)))) (St.call hm22 h4); clear h4 hm22))
          have hY := hm23.drew
          clear hm23
          refine wp_region_held_drew (S := (fun w' => (loadVarH 5 ⟨g7, j, none⟩).run Try.prog w' = .ok (.int .u8 (u8I (μ j))) w')) (by kernel_rfl) (by exact Loads.blk (P := Try.prog) (T := 5) hY TyS.out (List.mem_append_right _ (.tail _ (.tail _ (.tail _ (.tail _ (.head _)))))) HMJ.out) (fun hHeld => ?_)
          refine wpAnyH_take (i := 0) (oi := ⟨some 78, _, _, _, _, _⟩) (v := ?_) rfl (by kernel_rfl) (by kernel_rfl) (by kernel_rfl) (fun _ _ _ h => h) (Or.inl ⟨by rfl, ?_⟩) (by assumption) ?_
          rotate_left
          · intro w hSw; (try dsimp only at hSw); go_simp; try with_reducible rfl
          (try simp only [Act.put, List.setIfInBounds_toArray, List.set_cons_zero, List.set_cons_succ])
          refine wpAnyH_take (i := 1) (oi := ⟨some 79, _, _, _, _, _⟩) (v := ?_) rfl (by kernel_rfl) (by kernel_rfl) (by kernel_rfl) (fun _ _ _ h => h) (Or.inl ⟨by rfl, ?_⟩) (by assumption) ?_
          rotate_left
          · intro w hSw; (try dsimp only at hSw); go_simp; try with_reducible rfl
          (try simp only [Act.put, List.setIfInBounds_toArray, List.set_cons_zero, List.set_cons_succ])
          refine wpAnyH_take (i := 2) (oi := ⟨some 80, _, _, _, _, _⟩) (v := ?_) rfl (by kernel_rfl) (by kernel_rfl) (by kernel_rfl) (fun _ _ _ h => h) (Or.inl ⟨by rfl, ?_⟩) (by assumption) ?_
          rotate_left
          · intro w hSw; (try dsimp only at hSw); go_simp; try with_reducible rfl
          (try simp only [Act.put, List.setIfInBounds_toArray, List.set_cons_zero, List.set_cons_succ])
          refine wpAnyH_take (i := 3) (oi := ⟨some 81, _, _, _, _, _⟩) (v := ?_) rfl (by kernel_rfl) (by kernel_rfl) (by kernel_rfl) (fun _ _ _ h => h) (Or.inl ⟨by rfl, ?_⟩) (by assumption) ?_
          rotate_left
          · intro w hSw; (try dsimp only at hSw); go_simp; try with_reducible rfl
          (try simp only [Act.put, List.setIfInBounds_toArray, List.set_cons_zero, List.set_cons_succ])
          refine wpAnyH_take (i := 4) (oi := ⟨some 82, _, _, _, _, _⟩) (v := ?_) rfl (by kernel_rfl) (by kernel_rfl) (by kernel_rfl) (fun _ _ _ h => h) (Or.inl ⟨by rfl, ?_⟩) (by assumption) ?_
          rotate_left
          · intro w hSw; (try dsimp only at hSw); go_simp; try with_reducible rfl
          (try simp only [Act.put, List.setIfInBounds_toArray, List.set_cons_zero, List.set_cons_succ])
          refine wpAnyH_take (i := 6) (oi := ⟨some 84, _, _, _, _, _⟩) (v := ?_) rfl (by kernel_rfl) (by kernel_rfl) (by kernel_rfl) (fun _ _ _ h => h) (Or.inl ⟨by rfl, ?_⟩) (by assumption) ?_
          rotate_left
          · intro w hSw; (try dsimp only at hSw); go_simp; try with_reducible rfl
          (try simp only [Act.put, List.setIfInBounds_toArray, List.set_cons_zero, List.set_cons_succ])
          refine wpAnyH_take (i := 7) (oi := ⟨some 85, _, _, _, _, _⟩) (v := ?_) rfl (by kernel_rfl) (by kernel_rfl) (by kernel_rfl) (fun _ _ _ h => h) (Or.inl ⟨by rfl, ?_⟩) (by assumption) ?_
          rotate_left
          · intro w hSw; (try dsimp only at hSw); go_simp; try with_reducible rfl
          (try simp only [Act.put, List.setIfInBounds_toArray, List.set_cons_zero, List.set_cons_succ])
          refine wpAnyH_take (i := 8) (oi := ⟨some 86, _, _, _, _, _⟩) (v := ?_) rfl (by kernel_rfl) (by kernel_rfl) (by kernel_rfl) (fun _ _ _ h => h) (Or.inl ⟨by rfl, ?_⟩) (by assumption) ?_
          rotate_left
          · intro w hSw; (try dsimp only at hSw); go_simp; try with_reducible rfl
          (try simp only [Act.put, List.setIfInBounds_toArray, List.set_cons_zero, List.set_cons_succ])
          refine wpAnyH_take (i := 9) (oi := ⟨some 87, _, _, _, _, _⟩) (v := ?_) rfl (by kernel_rfl) (by kernel_rfl) (by kernel_rfl) (fun _ _ _ h => h) (Or.inl ⟨by rfl, ?_⟩) (by assumption) ?_
          rotate_left
          · intro w hSw; (try dsimp only at hSw); go_simp; try with_reducible rfl
          (try simp only [Act.put, List.setIfInBounds_toArray, List.set_cons_zero, List.set_cons_succ])
          refine wpAnyH_ready (rs := [5]) (by kernel_rfl) (by simp) ?_
          refine (AllReadyH.cons (o := ⟨some 83, _, _, _, _, _⟩) rfl (fun K hK => ?_) AllReadyH.nil)
          rw [if_pos (by rfl)]
          go_simp
          go_at_call 13
          have HC := sameBytes_any _ _ _ _ (spo (sect c) (π j) (μ j)) (sect c) _ (Rd.row hY (List.mem_append_right _ (.head _))) (((gb_sect (.tail _ (.tail _ (.tail _ (.head _))))) : GB w [] _ _ _ _).rd _ (St.sub hY (List.sublist_append_right _ _)))
          rw [HBM.out] at HC
          refine HC.mono ?_
          clear HC
          rintro _ _ ⟨rfl, h4⟩
          have hm24 := St.call0 hY h4
          clear h4 hY
          refine hK.out _ _ ?_ (fun hHeld => ?_)
          · exact Loads.blk (P := Try.prog) (T := 5) hm24 TyS.out (List.mem_append_right _ (.tail _ (.tail _ (.tail _ (.tail _ (.head _)))))) HMJ.out
          clear hK K
          (try simp only [Act.put, List.setIfInBounds_toArray, List.set_cons_zero, List.set_cons_succ])
          refine wpAnyH_take (i := 10) (oi := ⟨some 88, _, _, _, _, _⟩) (v := ?_) rfl (by kernel_rfl) (by kernel_rfl) (by kernel_rfl) (fun _ _ _ h => h) (Or.inl ⟨by rfl, ?_⟩) (by assumption) ?_
          rotate_left
          · intro w hSw; (try dsimp only at hSw); go_simp; try with_reducible rfl
          (try simp only [Act.put, List.setIfInBounds_toArray, List.set_cons_zero, List.set_cons_succ])
          refine wpAnyH_take (i := 11) (oi := ⟨some 89, _, _, _, _, _⟩) (v := ?_) rfl (by kernel_rfl) (by kernel_rfl) (by kernel_rfl) (fun _ _ _ h => h) (Or.inl ⟨by rfl, ?_⟩) (by assumption) ?_
          rotate_left
          · intro w hSw; (try dsimp only at hSw); go_simp; try with_reducible rfl
          (try simp only [Act.put, List.setIfInBounds_toArray, List.set_cons_zero, List.set_cons_succ])
          refine wpAnyH_done (by kernel_rfl) ?_ _
          clear hHeld
          go_wp2_with (first | go_big_skip | go_big_guard | fail)
          have hZ := hm24.drew
          clear hm24
          refine wp_region_held_drew (S := (fun w' => (loadVarH 5 ⟨g7, j, none⟩).run Try.prog w' = .ok (.int .u8 (u8I (μ j))) w' ∧ (loadVarH 34 ⟨gp, 3, none⟩).run Try.prog w' = .ok (.agg (List.toArray (bytesV S))) w')) (by kernel_rfl) (by exact ⟨Loads.blk (P := Try.prog) (T := 5) hZ TyS.out (List.mem_append_right _ (.tail _ (.tail _ (.tail _ (.tail _ (.head _)))))) HMJ.out, Loads.blkA (P := Try.prog) (T := 34) (vs := bytesV S) hZ (by rw [HL.out.v]; exact TyA.out) (List.mem_append_right _ (.tail _ (.head _))) (ptr_sum _ _ _ _)⟩) (fun hHeld => ?_)
          refine wpAnyH_take (i := 0) (oi := ⟨some 90, _, _, _, _, _⟩) (v := ?_) rfl (by kernel_rfl) (by kernel_rfl) (by kernel_rfl) (fun _ _ _ h => h) (Or.inl ⟨by rfl, ?_⟩) (by assumption) ?_
          rotate_left
          · intro w hSw; (try dsimp only at hSw); go_simp; try with_reducible rfl
          (try simp only [Act.put, List.setIfInBounds_toArray, List.set_cons_zero, List.set_cons_succ])
          refine wpAnyH_take (i := 1) (oi := ⟨some 91, _, _, _, _, _⟩) (v := ?_) rfl (by kernel_rfl) (by kernel_rfl) (by kernel_rfl) (fun _ _ _ h => h) (Or.inl ⟨by rfl, ?_⟩) (by assumption) ?_
          rotate_left
          · intro w hSw; (try dsimp only at hSw); go_simp; try with_reducible rfl
          (try simp only [Act.put, List.setIfInBounds_toArray, List.set_cons_zero, List.set_cons_succ])
          refine wpAnyH_take (i := 2) (oi := ⟨some 92, _, _, _, _, _⟩) (v := ?_) rfl (by kernel_rfl) (by kernel_rfl) (by kernel_rfl) (fun _ _ _ h => h) (Or.inl ⟨by rfl, ?_⟩) (by assumption) ?_
          rotate_left
          · intro w hSw; (try dsimp only at hSw); go_simp; try with_reducible rfl
          (try simp only [Act.put, List.setIfInBounds_toArray, List.set_cons_zero, List.set_cons_succ])
          refine wpAnyH_take (i := 3) (oi := ⟨some 93, _, _, _, _, _⟩) (v := ?_) rfl (by kernel_rfl) (by kernel_rfl) (by kernel_rfl) (fun _ _ _ h => h) (Or.inl ⟨by rfl, ?_⟩) (by assumption) ?_
          rotate_left
          · intro w hSw; (try dsimp only at hSw); go_simp; try with_reducible rfl
          (try simp only [Act.put, List.setIfInBounds_toArray, List.set_cons_zero, List.set_cons_succ])
          refine wpAnyH_take (i := 4) (oi := ⟨some 94, _, _, _, _, _⟩) (v := ?_) rfl (by kernel_rfl) (by kernel_rfl) (by kernel_rfl) (fun _ _ _ h => h) (Or.inl ⟨by rfl, ?_⟩) (by assumption) ?_
          rotate_left
          · intro w hSw; (try dsimp only at hSw); go_simp; try with_reducible rfl
          (try simp only [Act.put, List.setIfInBounds_toArray, List.set_cons_zero, List.set_cons_succ])
          refine wpAnyH_take (i := 5) (oi := ⟨some 95, _, _, _, _, _⟩) (v := ?_) rfl (by kernel_rfl) (by kernel_rfl) (by kernel_rfl) (fun _ _ _ h => h) (Or.inl ⟨by rfl, ?_⟩) (by assumption) ?_
          rotate_left
          · intro w hSw; (try dsimp only at hSw); go_simp; try with_reducible rfl
          (try simp only [Act.put, List.setIfInBounds_toArray, List.set_cons_zero, List.set_cons_succ])
          refine wpAnyH_take (i := 7) (oi := ⟨some 97, _, _, _, _, _⟩) (v := ?_) rfl (by kernel_rfl) (by kernel_rfl) (by kernel_rfl) (fun _ _ _ h => h) (Or.inl ⟨by rfl, ?_⟩) (by assumption) ?_
          rotate_left
          · intro w hSw; (try dsimp only at hSw); go_simp; try with_reducible rfl
          (try simp only [Act.put, List.setIfInBounds_toArray, List.set_cons_zero, List.set_cons_succ])
          refine wpAnyH_take (i := 8) (oi := ⟨some 98, _, _, _, _, _⟩) (v := ?_) rfl (by kernel_rfl) (by kernel_rfl) (by kernel_rfl) (fun _ _ _ h => h) (Or.inl ⟨by rfl, ?_⟩) (by assumption) ?_
          rotate_left
          · intro w hSw; (try dsimp only at hSw); go_simp; try with_reducible rfl
          (try simp only [Act.put, List.setIfInBounds_toArray, List.set_cons_zero, List.set_cons_succ])
          refine wpAnyH_ready (rs := [6]) (by kernel_rfl) (by simp) ?_
          refine (AllReadyH.cons (o := ⟨some 96, _, _, _, _, _⟩) rfl (fun K hK => ?_) AllReadyH.nil)
          rw [if_pos (by rfl)]
          go_simp
          go_at_call 14
          have HC := sum_any ua 256 uc (spo (sect c) (π j) (μ j)) _ (Rd.row hZ (List.mem_append_right _ (.head _))) HLEN.out (by decide)
          refine HC.mono ?_
          clear HC
          rintro _ _ ⟨rfl, h4⟩
          have hm25 := St.call0 hZ h4
          clear h4 hZ
          refine hK.out _ _ ?_ (fun hHeld => ?_)
          · exact ⟨Loads.blk (P := Try.prog) (T := 5) hm25 TyS.out (List.mem_append_right _ (.tail _ (.tail _ (.tail _ (.tail _ (.head _)))))) HMJ.out, Loads.blkA (P := Try.prog) (T := 34) (vs := bytesV S) hm25 (by rw [HL.out.v]; exact TyA.out) (List.mem_append_right _ (.tail _ (.head _))) (ptr_sum _ _ _ _)⟩
          clear hK K
          (try simp only [Act.put, List.setIfInBounds_toArray, List.set_cons_zero, List.set_cons_succ])
          refine wpAnyH_ready (rs := [9]) (by kernel_rfl) (by simp) ?_
          refine (AllReadyH.cons (o := ⟨some 99, _, _, _, _, _⟩) rfl (fun K hK => ?_) AllReadyH.nil)
          refine ow_if16 (by rfl) ?_
          refine wl_eql_bytes rfl (by rfl) rfl rfl ⟨HS32.out, HL.out⟩ ?_
          rw [HSM.out]
          refine q0_nil ?_
          refine hK.out _ _ ?_ (fun hHeld => ?_)
          · exact ⟨Loads.blk (P := Try.prog) (T := 5) hm25 TyS.out (List.mem_append_right _ (.tail _ (.tail _ (.tail _ (.tail _ (.head _)))))) HMJ.out, Loads.blkA (P := Try.prog) (T := 34) (vs := bytesV S) hm25 (by rw [HL.out.v]; exact TyA.out) (List.mem_append_right _ (.tail _ (.head _))) (ptr_sum _ _ _ _)⟩
          clear hK K
          (try simp only [Act.put, List.setIfInBounds_toArray, List.set_cons_zero, List.set_cons_succ])
          refine wpAnyH_take (i := 10) (oi := ⟨some 100, _, _, _, _, _⟩) (v := ?_) rfl (by kernel_rfl) (by kernel_rfl) (by kernel_rfl) (fun _ _ _ h => h) (Or.inl ⟨by rfl, ?_⟩) (by assumption) ?_
          rotate_left
          · intro w hSw; (try dsimp only at hSw); go_simp; try with_reducible rfl
          (try simp only [Act.put, List.setIfInBounds_toArray, List.set_cons_zero, List.set_cons_succ])
          refine wpAnyH_done (by kernel_rfl) ?_ _
          clear hHeld
          go_wp2_with (first | go_big_skip | go_big_guard | fail)
          go_ret
          exact ⟨rfl, hm25.nil⟩
        · have hj3 : j < 3 := by omega
          have hi3 : (j : Int) < 3 := by omega
          have d1 : decide ((j : Int) < (k : Int)) = true := decide_eq_true (by omega)
          have z1 : IntKind.i64.wrap ((j : Int) + 1) = (j : Int) + 1 := IntWalk.i64_in _ (by omega)
          have HYJ := hid (HYC.out j hj3)
          have HMJ := hid (HMC.out j hj3)
          have HPJ := hid (HPP.out j)
          have HSE := hid (h16_spoE (p := p) (q := q) (r := r) (c := c) (π := π) (μ := μ) (st := ((k + 3 : Nat) : Int)) hk3 hlj HPJ.out.2)
          have HSP := hid (h16_spo (p := p) (q := q) (r := r) (c := c) (π := π) (μ := μ) (st := ((k + 3 : Nat) : Int)) hk3 hlj HPJ.out.2)
          have HPB := hid (h16_peekB (p := p) (q := q) (r := r) (c := c) (π := π) (μ := μ) (st := ((k + 3 : Nat) : Int)) hk3 hlj)
          have HPL := hid (h16_peekL (p := p) (q := q) (r := r) (c := c) (π := π) (μ := μ) (st := ((k + 3 : Nat) : Int)) hk3 hlj)
          have HLEN := hid (show (spo (sect c) (π j) (μ j)).length = 256 from spo_len (sect_len _))
          have hI0 : u8I (μ j) ≠ 0 := fun h => hz0 (UInt8.toNat_inj.1 (Int.ofNat.inj (show Int.ofNat (μ j).toNat = Int.ofNat 0 from h)))
          have e1 : (u8I (μ j) == 0) = false := beq_eq_false_iff_ne.2 hI0
          have e2 : (u8I (μ j) != 0) = true := by rw [bne, e1]; rfl
          have HBM := hid (show ((spo (sect c) (π j) (μ j)) == sect c) = false from by rw [spo_same c (μ j) HPJ.out.2]; exact beq_eq_false_iff_ne.2 hz0)
          have HS32 := hid (show (sumB (spo (sect c) (π j) (μ j))).length = 32 from length_bytesS _)
          have HSM := hid (show (sumB (spo (sect c) (π j) (μ j)) == S) = false from beq_eq_false_iff_ne.2 hs0)
          have z2 : IntKind.i64.wrap ((illN μ j : Int) + 1) = (illN μ j : Int) + 1 := IntWalk.i64_in _ (by have := illN_le μ j; omega)
          have HZ0 := hid hz0
          clear hz0
          have HS0 := hid hs0
          clear hs0
          go_wp2_with (first | go_big_skip | go_big_guard | fail)
          have hX := hst.drew
          clear hst
          refine wp_region_held_drew (S := (fun w' => (loadVarH 3 ⟨g6, j, none⟩).run Try.prog w' = .ok (.int .i64 (Y j)) w' ∧ (loadVarH 5 ⟨g7, j, none⟩).run Try.prog w' = .ok (.int .u8 (u8I (μ j))) w')) (by kernel_rfl) (by exact ⟨Loads.blk (P := Try.prog) (T := 3) hX TyS.out (List.mem_append_right _ (.tail _ (.tail _ (.tail _ (.tail _ (.head _)))))) HYJ.out, Loads.blk (P := Try.prog) (T := 5) hX TyS.out (List.mem_append_right _ (.tail _ (.tail _ (.tail _ (.head _))))) HMJ.out⟩) (fun hHeld => ?_)
          refine wpAnyH_take (i := 0) (oi := ⟨some 61, _, _, _, _, _⟩) (v := ?_) rfl (by kernel_rfl) (by kernel_rfl) (by kernel_rfl) (fun _ _ _ h => h) (Or.inl ⟨by rfl, ?_⟩) (by assumption) ?_
          rotate_left
          · intro w hSw; (try dsimp only at hSw); go_simp; try with_reducible rfl
          (try simp only [Act.put, List.setIfInBounds_toArray, List.set_cons_zero, List.set_cons_succ])
          refine wpAnyH_take (i := 1) (oi := ⟨some 62, _, _, _, _, _⟩) (v := ?_) rfl (by kernel_rfl) (by kernel_rfl) (by kernel_rfl) (fun _ _ _ h => h) (Or.inl ⟨by rfl, ?_⟩) (by assumption) ?_
          rotate_left
          · intro w hSw; (try dsimp only at hSw); go_simp; try with_reducible rfl
          (try simp only [Act.put, List.setIfInBounds_toArray, List.set_cons_zero, List.set_cons_succ])
          refine wpAnyH_take (i := 2) (oi := ⟨some 63, _, _, _, _, _⟩) (v := ?_) rfl (by kernel_rfl) (by kernel_rfl) (by kernel_rfl) (fun _ _ _ h => h) (Or.inl ⟨by rfl, ?_⟩) (by assumption) ?_
          rotate_left
          · intro w hSw; (try dsimp only at hSw); go_simp; try with_reducible rfl
          (try simp only [Act.put, List.setIfInBounds_toArray, List.set_cons_zero, List.set_cons_succ])
          refine wpAnyH_take (i := 6) (oi := ⟨some 67, _, _, _, _, _⟩) (v := ?_) rfl (by kernel_rfl) (by kernel_rfl) (by kernel_rfl) (fun _ _ _ h => h) (Or.inl ⟨by rfl, ?_⟩) (by assumption) ?_
          rotate_left
          · intro w hSw; (try dsimp only at hSw); go_simp; try with_reducible rfl
          (try simp only [Act.put, List.setIfInBounds_toArray, List.set_cons_zero, List.set_cons_succ])
          refine wpAnyH_take (i := 3) (oi := ⟨some 64, _, _, _, _, _⟩) (v := ?_) rfl (by kernel_rfl) (by kernel_rfl) (by kernel_rfl) (fun _ _ _ h => h) (Or.inl ⟨by rfl, ?_⟩) (by assumption) ?_
          rotate_left
          · intro w hSw; (try dsimp only at hSw); go_simp; try with_reducible rfl
          (try simp only [Act.put, List.setIfInBounds_toArray, List.set_cons_zero, List.set_cons_succ])
          refine wpAnyH_take (i := 7) (oi := ⟨some 68, _, _, _, _, _⟩) (v := ?_) rfl (by kernel_rfl) (by kernel_rfl) (by kernel_rfl) (fun _ _ _ h => h) (Or.inl ⟨by rfl, ?_⟩) (by assumption) ?_
          rotate_left
          · intro w hSw; (try dsimp only at hSw); go_simp; try with_reducible rfl
          (try simp only [Act.put, List.setIfInBounds_toArray, List.set_cons_zero, List.set_cons_succ])
          refine wpAnyH_take (i := 4) (oi := ⟨some 65, _, _, _, _, _⟩) (v := ?_) rfl (by kernel_rfl) (by kernel_rfl) (by kernel_rfl) (fun _ _ _ h => h) (Or.inl ⟨by rfl, ?_⟩) (by assumption) ?_
          rotate_left
          · intro w hSw; (try dsimp only at hSw); go_simp; try with_reducible rfl
          (try simp only [Act.put, List.setIfInBounds_toArray, List.set_cons_zero, List.set_cons_succ])
          refine wpAnyH_take (i := 8) (oi := ⟨some 69, _, _, _, _, _⟩) (v := ?_) rfl (by kernel_rfl) (by kernel_rfl) (by kernel_rfl) (fun _ _ _ h => h) (Or.inl ⟨by rfl, ?_⟩) (by assumption) ?_
          rotate_left
          · intro w hSw; (try dsimp only at hSw); go_simp; try with_reducible rfl
          (try simp only [Act.put, List.setIfInBounds_toArray, List.set_cons_zero, List.set_cons_succ])
          refine wpAnyH_ready (rs := [5]) (by kernel_rfl) (by simp) ?_
          refine (AllReadyH.cons (o := ⟨some 66, _, _, _, _, _⟩) rfl (fun K hK => ?_) AllReadyH.nil)
          rw [if_pos (by rfl)]
          go_simp
          go_at_call 7
          refine (pick_spec (Y j) 256 _ (HYB.out j hj3) (by first | decide | omega)).mono ?_
          rw [HPJ.out.1]
          rintro _ _ ⟨rfl, h4⟩
          have hm21 := St.call0 hX h4
          clear h4 hX
          refine hK.out _ _ ?_ (fun hHeld => ?_)
          · exact ⟨Loads.blk (P := Try.prog) (T := 3) hm21 TyS.out (List.mem_append_right _ (.tail _ (.tail _ (.tail _ (.tail _ (.head _)))))) HYJ.out, Loads.blk (P := Try.prog) (T := 5) hm21 TyS.out (List.mem_append_right _ (.tail _ (.tail _ (.tail _ (.head _))))) HMJ.out⟩
          clear hK K
          (try simp only [Act.put, List.setIfInBounds_toArray, List.set_cons_zero, List.set_cons_succ])
          refine wpAnyH_ready (rs := [9]) (by kernel_rfl) (by simp) ?_
          refine (AllReadyH.cons (o := ⟨some 70, _, _, _, _, _⟩) rfl (fun K hK => ?_) AllReadyH.nil)
          rw [if_pos (by rfl)]
          go_simp
          go_at_call 11
          have HC := spoilM_any (mid_in (P := [_]) (Bs := []) hm21) (HG0.out j).sc.ok (j : Int) 5 ((π j : Nat) : Int) (μ j)
          rw [HSE.out, HSP.out] at HC
          refine HC.mono ?_
          clear HC
          rintro _ _ ⟨rfl, xs, h4⟩
          have hm22 : St _ _ _ ((mP gm ga xs (H16 p q r c π μ ((k + 3 : Nat) : Int) k (j + 1))) ++ _) := mid_out (P := [_]) (Bs := []) hm21 h4
          clear h4 hm21
          refine hK.out _ _ ?_ (fun hHeld => ?_)
          · exact ⟨Loads.blk (P := Try.prog) (T := 3) hm22 TyS.out (List.mem_append_right _ (.tail _ (.tail _ (.tail _ (.tail _ (.head _)))))) HYJ.out, Loads.blk (P := Try.prog) (T := 5) hm22 TyS.out (List.mem_append_right _ (.tail _ (.tail _ (.tail _ (.head _))))) HMJ.out⟩
          clear hK K
          (try simp only [Act.put, List.setIfInBounds_toArray, List.set_cons_zero, List.set_cons_succ])
          refine wpAnyH_take (i := 10) (oi := ⟨some 71, _, _, _, _, _⟩) (v := ?_) rfl (by kernel_rfl) (by kernel_rfl) (by kernel_rfl) (fun _ _ _ h => h) (Or.inl ⟨by rfl, ?_⟩) (by assumption) ?_
          rotate_left
          · intro w hSw; (try dsimp only at hSw); go_simp; try with_reducible rfl
          (try simp only [Act.put, List.setIfInBounds_toArray, List.set_cons_zero, List.set_cons_succ])
          refine wpAnyH_done (by kernel_rfl) ?_ _
          clear hHeld
          go_wp2_with (first | go_big_skip | go_big_guard | (go_at_call 12; have HC := peek_any (St.marr hm22 (HG0.out (j + 1)).sc.ok.d0) (HG0.out (j + 1)).sc.ok (Nat.lt_of_le_of_lt (HG0.out (j + 1)).sc.ll (by decide)) (j : Int) 5; rw [HPB.out, HPL.out, HLEN.out] at HC; refine HC.mono ?_; clear HC; rintro _ _ ⟨u, rfl, h4⟩; obtain ⟨ua, uc, rfl⟩ := St.rowSliceAt [] h4; have hm23 := St.behind (A := (mP gm ga xs (H16 p q r c π μ ((k + 3 : Nat) : Int) k (j + 1)))) (St.call hm22 h4); clear h4 hm22))
          have hY := hm23.drew
          clear hm23
          refine wp_region_held_drew (S := (fun w' => (loadVarH 5 ⟨g7, j, none⟩).run Try.prog w' = .ok (.int .u8 (u8I (μ j))) w')) (by kernel_rfl) (by exact Loads.blk (P := Try.prog) (T := 5) hY TyS.out (List.mem_append_right _ (.tail _ (.tail _ (.tail _ (.tail _ (.head _)))))) HMJ.out) (fun hHeld => ?_)
          refine wpAnyH_take (i := 0) (oi := ⟨some 78, _, _, _, _, _⟩) (v := ?_) rfl (by kernel_rfl) (by kernel_rfl) (by kernel_rfl) (fun _ _ _ h => h) (Or.inl ⟨by rfl, ?_⟩) (by assumption) ?_
          rotate_left
          · intro w hSw; (try dsimp only at hSw); go_simp; try with_reducible rfl
          (try simp only [Act.put, List.setIfInBounds_toArray, List.set_cons_zero, List.set_cons_succ])
          refine wpAnyH_take (i := 1) (oi := ⟨some 79, _, _, _, _, _⟩) (v := ?_) rfl (by kernel_rfl) (by kernel_rfl) (by kernel_rfl) (fun _ _ _ h => h) (Or.inl ⟨by rfl, ?_⟩) (by assumption) ?_
          rotate_left
          · intro w hSw; (try dsimp only at hSw); go_simp; try with_reducible rfl
          (try simp only [Act.put, List.setIfInBounds_toArray, List.set_cons_zero, List.set_cons_succ])
          refine wpAnyH_take (i := 2) (oi := ⟨some 80, _, _, _, _, _⟩) (v := ?_) rfl (by kernel_rfl) (by kernel_rfl) (by kernel_rfl) (fun _ _ _ h => h) (Or.inl ⟨by rfl, ?_⟩) (by assumption) ?_
          rotate_left
          · intro w hSw; (try dsimp only at hSw); go_simp; try with_reducible rfl
          (try simp only [Act.put, List.setIfInBounds_toArray, List.set_cons_zero, List.set_cons_succ])
          refine wpAnyH_take (i := 3) (oi := ⟨some 81, _, _, _, _, _⟩) (v := ?_) rfl (by kernel_rfl) (by kernel_rfl) (by kernel_rfl) (fun _ _ _ h => h) (Or.inl ⟨by rfl, ?_⟩) (by assumption) ?_
          rotate_left
          · intro w hSw; (try dsimp only at hSw); go_simp; try with_reducible rfl
          (try simp only [Act.put, List.setIfInBounds_toArray, List.set_cons_zero, List.set_cons_succ])
          refine wpAnyH_take (i := 4) (oi := ⟨some 82, _, _, _, _, _⟩) (v := ?_) rfl (by kernel_rfl) (by kernel_rfl) (by kernel_rfl) (fun _ _ _ h => h) (Or.inl ⟨by rfl, ?_⟩) (by assumption) ?_
          rotate_left
          · intro w hSw; (try dsimp only at hSw); go_simp; try with_reducible rfl
          (try simp only [Act.put, List.setIfInBounds_toArray, List.set_cons_zero, List.set_cons_succ])
          refine wpAnyH_take (i := 6) (oi := ⟨some 84, _, _, _, _, _⟩) (v := ?_) rfl (by kernel_rfl) (by kernel_rfl) (by kernel_rfl) (fun _ _ _ h => h) (Or.inl ⟨by rfl, ?_⟩) (by assumption) ?_
          rotate_left
          · intro w hSw; (try dsimp only at hSw); go_simp; try with_reducible rfl
          (try simp only [Act.put, List.setIfInBounds_toArray, List.set_cons_zero, List.set_cons_succ])
          refine wpAnyH_take (i := 7) (oi := ⟨some 85, _, _, _, _, _⟩) (v := ?_) rfl (by kernel_rfl) (by kernel_rfl) (by kernel_rfl) (fun _ _ _ h => h) (Or.inl ⟨by rfl, ?_⟩) (by assumption) ?_
          rotate_left
          · intro w hSw; (try dsimp only at hSw); go_simp; try with_reducible rfl
          (try simp only [Act.put, List.setIfInBounds_toArray, List.set_cons_zero, List.set_cons_succ])
          refine wpAnyH_take (i := 8) (oi := ⟨some 86, _, _, _, _, _⟩) (v := ?_) rfl (by kernel_rfl) (by kernel_rfl) (by kernel_rfl) (fun _ _ _ h => h) (Or.inl ⟨by rfl, ?_⟩) (by assumption) ?_
          rotate_left
          · intro w hSw; (try dsimp only at hSw); go_simp; try with_reducible rfl
          (try simp only [Act.put, List.setIfInBounds_toArray, List.set_cons_zero, List.set_cons_succ])
          refine wpAnyH_take (i := 9) (oi := ⟨some 87, _, _, _, _, _⟩) (v := ?_) rfl (by kernel_rfl) (by kernel_rfl) (by kernel_rfl) (fun _ _ _ h => h) (Or.inl ⟨by rfl, ?_⟩) (by assumption) ?_
          rotate_left
          · intro w hSw; (try dsimp only at hSw); go_simp; try with_reducible rfl
          (try simp only [Act.put, List.setIfInBounds_toArray, List.set_cons_zero, List.set_cons_succ])
          refine wpAnyH_ready (rs := [5]) (by kernel_rfl) (by simp) ?_
          refine (AllReadyH.cons (o := ⟨some 83, _, _, _, _, _⟩) rfl (fun K hK => ?_) AllReadyH.nil)
          rw [if_pos (by rfl)]
          go_simp
          go_at_call 13
          have HC := sameBytes_any _ _ _ _ (spo (sect c) (π j) (μ j)) (sect c) _ (Rd.row hY (List.mem_append_right _ (.head _))) (((gb_sect (.tail _ (.tail _ (.tail _ (.head _))))) : GB w [] _ _ _ _).rd _ (St.sub hY (List.sublist_append_right _ _)))
          rw [HBM.out] at HC
          refine HC.mono ?_
          clear HC
          rintro _ _ ⟨rfl, h4⟩
          have hm24 := St.call0 hY h4
          clear h4 hY
          refine hK.out _ _ ?_ (fun hHeld => ?_)
          · exact Loads.blk (P := Try.prog) (T := 5) hm24 TyS.out (List.mem_append_right _ (.tail _ (.tail _ (.tail _ (.tail _ (.head _)))))) HMJ.out
          clear hK K
          (try simp only [Act.put, List.setIfInBounds_toArray, List.set_cons_zero, List.set_cons_succ])
          refine wpAnyH_take (i := 10) (oi := ⟨some 88, _, _, _, _, _⟩) (v := ?_) rfl (by kernel_rfl) (by kernel_rfl) (by kernel_rfl) (fun _ _ _ h => h) (Or.inl ⟨by rfl, ?_⟩) (by assumption) ?_
          rotate_left
          · intro w hSw; (try dsimp only at hSw); go_simp; try with_reducible rfl
          (try simp only [Act.put, List.setIfInBounds_toArray, List.set_cons_zero, List.set_cons_succ])
          refine wpAnyH_take (i := 11) (oi := ⟨some 89, _, _, _, _, _⟩) (v := ?_) rfl (by kernel_rfl) (by kernel_rfl) (by kernel_rfl) (fun _ _ _ h => h) (Or.inl ⟨by rfl, ?_⟩) (by assumption) ?_
          rotate_left
          · intro w hSw; (try dsimp only at hSw); go_simp; try with_reducible rfl
          (try simp only [Act.put, List.setIfInBounds_toArray, List.set_cons_zero, List.set_cons_succ])
          refine wpAnyH_done (by kernel_rfl) ?_ _
          clear hHeld
          go_wp2_with (first | go_big_skip | go_big_guard | fail)
          have hZ := hm24.drew
          clear hm24
          refine wp_region_held_drew (S := (fun w' => (loadVarH 5 ⟨g7, j, none⟩).run Try.prog w' = .ok (.int .u8 (u8I (μ j))) w' ∧ (loadVarH 34 ⟨gp, 3, none⟩).run Try.prog w' = .ok (.agg (List.toArray (bytesV S))) w')) (by kernel_rfl) (by exact ⟨Loads.blk (P := Try.prog) (T := 5) hZ TyS.out (List.mem_append_right _ (.tail _ (.tail _ (.tail _ (.tail _ (.head _)))))) HMJ.out, Loads.blkA (P := Try.prog) (T := 34) (vs := bytesV S) hZ (by rw [HL.out.v]; exact TyA.out) (List.mem_append_right _ (.tail _ (.head _))) (ptr_sum _ _ _ _)⟩) (fun hHeld => ?_)
          refine wpAnyH_take (i := 0) (oi := ⟨some 90, _, _, _, _, _⟩) (v := ?_) rfl (by kernel_rfl) (by kernel_rfl) (by kernel_rfl) (fun _ _ _ h => h) (Or.inl ⟨by rfl, ?_⟩) (by assumption) ?_
          rotate_left
          · intro w hSw; (try dsimp only at hSw); go_simp; try with_reducible rfl
          (try simp only [Act.put, List.setIfInBounds_toArray, List.set_cons_zero, List.set_cons_succ])
          refine wpAnyH_take (i := 1) (oi := ⟨some 91, _, _, _, _, _⟩) (v := ?_) rfl (by kernel_rfl) (by kernel_rfl) (by kernel_rfl) (fun _ _ _ h => h) (Or.inl ⟨by rfl, ?_⟩) (by assumption) ?_
          rotate_left
          · intro w hSw; (try dsimp only at hSw); go_simp; try with_reducible rfl
          (try simp only [Act.put, List.setIfInBounds_toArray, List.set_cons_zero, List.set_cons_succ])
          refine wpAnyH_take (i := 2) (oi := ⟨some 92, _, _, _, _, _⟩) (v := ?_) rfl (by kernel_rfl) (by kernel_rfl) (by kernel_rfl) (fun _ _ _ h => h) (Or.inl ⟨by rfl, ?_⟩) (by assumption) ?_
          rotate_left
          · intro w hSw; (try dsimp only at hSw); go_simp; try with_reducible rfl
          (try simp only [Act.put, List.setIfInBounds_toArray, List.set_cons_zero, List.set_cons_succ])
          refine wpAnyH_take (i := 3) (oi := ⟨some 93, _, _, _, _, _⟩) (v := ?_) rfl (by kernel_rfl) (by kernel_rfl) (by kernel_rfl) (fun _ _ _ h => h) (Or.inl ⟨by rfl, ?_⟩) (by assumption) ?_
          rotate_left
          · intro w hSw; (try dsimp only at hSw); go_simp; try with_reducible rfl
          (try simp only [Act.put, List.setIfInBounds_toArray, List.set_cons_zero, List.set_cons_succ])
          refine wpAnyH_take (i := 4) (oi := ⟨some 94, _, _, _, _, _⟩) (v := ?_) rfl (by kernel_rfl) (by kernel_rfl) (by kernel_rfl) (fun _ _ _ h => h) (Or.inl ⟨by rfl, ?_⟩) (by assumption) ?_
          rotate_left
          · intro w hSw; (try dsimp only at hSw); go_simp; try with_reducible rfl
          (try simp only [Act.put, List.setIfInBounds_toArray, List.set_cons_zero, List.set_cons_succ])
          refine wpAnyH_take (i := 5) (oi := ⟨some 95, _, _, _, _, _⟩) (v := ?_) rfl (by kernel_rfl) (by kernel_rfl) (by kernel_rfl) (fun _ _ _ h => h) (Or.inl ⟨by rfl, ?_⟩) (by assumption) ?_
          rotate_left
          · intro w hSw; (try dsimp only at hSw); go_simp; try with_reducible rfl
          (try simp only [Act.put, List.setIfInBounds_toArray, List.set_cons_zero, List.set_cons_succ])
          refine wpAnyH_take (i := 7) (oi := ⟨some 97, _, _, _, _, _⟩) (v := ?_) rfl (by kernel_rfl) (by kernel_rfl) (by kernel_rfl) (fun _ _ _ h => h) (Or.inl ⟨by rfl, ?_⟩) (by assumption) ?_
          rotate_left
          · intro w hSw; (try dsimp only at hSw); go_simp; try with_reducible rfl
          (try simp only [Act.put, List.setIfInBounds_toArray, List.set_cons_zero, List.set_cons_succ])
          refine wpAnyH_take (i := 8) (oi := ⟨some 98, _, _, _, _, _⟩) (v := ?_) rfl (by kernel_rfl) (by kernel_rfl) (by kernel_rfl) (fun _ _ _ h => h) (Or.inl ⟨by rfl, ?_⟩) (by assumption) ?_
          rotate_left
          · intro w hSw; (try dsimp only at hSw); go_simp; try with_reducible rfl
          (try simp only [Act.put, List.setIfInBounds_toArray, List.set_cons_zero, List.set_cons_succ])
          refine wpAnyH_ready (rs := [6]) (by kernel_rfl) (by simp) ?_
          refine (AllReadyH.cons (o := ⟨some 96, _, _, _, _, _⟩) rfl (fun K hK => ?_) AllReadyH.nil)
          rw [if_pos (by rfl)]
          go_simp
          go_at_call 14
          have HC := sum_any ua 256 uc (spo (sect c) (π j) (μ j)) _ (Rd.row hZ (List.mem_append_right _ (.head _))) HLEN.out (by decide)
          refine HC.mono ?_
          clear HC
          rintro _ _ ⟨rfl, h4⟩
          have hm25 := St.call0 hZ h4
          clear h4 hZ
          refine hK.out _ _ ?_ (fun hHeld => ?_)
          · exact ⟨Loads.blk (P := Try.prog) (T := 5) hm25 TyS.out (List.mem_append_right _ (.tail _ (.tail _ (.tail _ (.tail _ (.head _)))))) HMJ.out, Loads.blkA (P := Try.prog) (T := 34) (vs := bytesV S) hm25 (by rw [HL.out.v]; exact TyA.out) (List.mem_append_right _ (.tail _ (.head _))) (ptr_sum _ _ _ _)⟩
          clear hK K
          (try simp only [Act.put, List.setIfInBounds_toArray, List.set_cons_zero, List.set_cons_succ])
          refine wpAnyH_ready (rs := [9]) (by kernel_rfl) (by simp) ?_
          refine (AllReadyH.cons (o := ⟨some 99, _, _, _, _, _⟩) rfl (fun K hK => ?_) AllReadyH.nil)
          refine ow_if16 (by rfl) ?_
          refine wl_eql_bytes rfl (by rfl) rfl rfl ⟨HS32.out, HL.out⟩ ?_
          rw [HSM.out]
          refine q0_nil ?_
          refine hK.out _ _ ?_ (fun hHeld => ?_)
          · exact ⟨Loads.blk (P := Try.prog) (T := 5) hm25 TyS.out (List.mem_append_right _ (.tail _ (.tail _ (.tail _ (.tail _ (.head _)))))) HMJ.out, Loads.blkA (P := Try.prog) (T := 34) (vs := bytesV S) hm25 (by rw [HL.out.v]; exact TyA.out) (List.mem_append_right _ (.tail _ (.head _))) (ptr_sum _ _ _ _)⟩
          clear hK K
          (try simp only [Act.put, List.setIfInBounds_toArray, List.set_cons_zero, List.set_cons_succ])
          refine wpAnyH_take (i := 10) (oi := ⟨some 100, _, _, _, _, _⟩) (v := ?_) rfl (by kernel_rfl) (by kernel_rfl) (by kernel_rfl) (fun _ _ _ h => h) (Or.inl ⟨by rfl, ?_⟩) (by assumption) ?_
          rotate_left
          · intro w hSw; (try dsimp only at hSw); go_simp; try with_reducible rfl
          (try simp only [Act.put, List.setIfInBounds_toArray, List.set_cons_zero, List.set_cons_succ])
          refine wpAnyH_done (by kernel_rfl) ?_ _
          clear hHeld
          go_wp2_with (first | go_big_skip | go_big_guard | (refine wl_loadE rfl rfl rfl ?_; refine ⟨_, Loads.blk (P := Try.prog) (T := 5) hm25 TyS.out (List.mem_append_right _ (.tail _ (.tail _ (.tail _ (.tail _ (.head _)))))) HMJ.out, ?_⟩))
          go_roundw
          case rel => exact ⟨j + 1, xs, by omega, by go_num, by rw [illN_succ, if_neg HZ0.out]; rfl, hid (fun t ht => by rcases Nat.lt_succ_iff_lt_or_eq.1 ht with h9 | rfl; exact HGD.out t h9; exact .inr HS0.out), sub_x hm25⟩
          case measure => simp [intOf]; omega
    · have d1 : decide ((j : Int) < (k : Int)) = false := decide_eq_false (by omega)
      have hjk : k = j := by omega
      subst hjk
      have hD := h16_done (p := p) (q := q) (r := r) (c := c) (π := π) (μ := μ) (st := ((k + 3 : Nat) : Int)) (ao := sa) (cc := sc) hk1 hk3 HS.out HGD.out
      have HILL := hid (illN_le μ k)
      clear hj hlj
      by_cases hill : illN μ k = k
      · rw [if_pos hill] at hD
        obtain ⟨m1', m2', g1, s1, l0⟩ := hD
        have HG1 := hid (show MGood m1' 20 from by have := get_mg (P := PVof sa k sc (onDevs k) 1 0 S) (HG0.out k); rw [g1] at this; exact this.mono (by show 10 + 2 * (onDevs k).length ≤ 20; rw [onDevs_len]; omega))
        have HG2 := hid (show MGood m2' 30 from by have := scan_mg (P := PVof sa k sc (onDevs k) 1 0 S) HG1.out; rw [s1] at this; exact this.mono (by show 20 + 2 * (onDevs k).length ≤ 30; rw [onDevs_len]; omega))
        have G1 := hid g1
        have S1 := hid s1
        have L0 := hid (show (m2'.a.loose.length : Int) = 0 from by rw [l0]; rfl)
        have d2 : (((illN μ k : Nat) : Int) == (k : Int)) = true := by rw [hill]; exact beq_self_eq_true _
        clear g1 s1 l0 hill
        go_wp2_with (first | go_big_skip | go_big_guard | (refine wl_loadE rfl rfl rfl ?_; refine ⟨_, Loads.blkA (P := Try.prog) (T := 36) (vs := (ptrCells (.slice sa k sc) 1 0 S)) hst (by rw [ptr_len HL.out]; exact TyA.out) (List.mem_append_right _ (.head _)) (ptr_all _ _ _ _), ?_⟩) | (go_at_call 15; have HC := get_any hst (HG0.out k) sa k sc (onDevs k) 1 0 S HL.out (onDevs_len _) (fun _ h => Rd.row h (.tail _ (.head _))) (by omega); rw [G1.out] at HC; refine HC.mono ?_; clear HC; rintro _ _ ⟨u2, ya, rfl, h4⟩; obtain ⟨ua2, uc2, rfl⟩ := St.rowPSlice [] h4; have hm61 := St.behind (A := mP gm ga ya m1') h4; clear h4 hst) | (refine wl_loadE rfl rfl rfl ?_; refine ⟨_, Loads.blkA (P := Try.prog) (T := 36) (vs := (ptrCells (.slice sa k sc) 1 0 S)) hm61 (by rw [ptr_len HL.out]; exact TyA.out) (List.mem_append_right _ (.tail _ (.head _))) (ptr_all _ _ _ _), ?_⟩) | (go_at_call 16; have HC := scan_any hm61 HG1.out sa k sc (onDevs k) 1 0 S HL.out (onDevs_len _) (fun _ h => Rd.row h (.tail _ (.tail _ (.head _)))) (by omega); rw [S1.out, show SR.cells _ = [.int .i64 0, .int .i64 0, .int .i64 (k : Int), .int .i64 0] from rfl] at HC; refine HC.mono ?_; clear HC; rintro _ _ ⟨yb, rfl, h4⟩; have hm62 : St _ _ _ ((mP gm ga yb m2') ++ _) := h4; clear h4 hm61) | (refine wl_alloc (T := 48) hm62 rfl rfl ?_; intro g20 _ hm63; clear hm62) | (refine wl_storeA [] hm63 rfl rfl rfl rfl rfl rfl rfl ?_; intro _ hm65; clear hm63; have hm64 := St.behind (A := (mP gm ga yb m2')) hm65; clear hm65) | (refine wl_loadE rfl rfl rfl ?_; refine ⟨_, Loads.blkA (P := Try.prog) (T := 48) (vs := [.int .i64 0, .int .i64 0, .int .i64 (k : Int), .int .i64 0]) hm64 (TyA.out (n := 4)) (List.mem_append_right _ (.head _)) rfl, ?_⟩) | (refine wl_buildX (cs := [.int .i64 0, .int .i64 0, .int .i64 (k : Int), .int .i64 0]) [(2, .int .i64 (k : Int))] rfl rfl (by exact rfl) (by kernel_rfl) ?_) | (go_at_call 17; have HC := loose_any (St.marr hm64 HG2.out.sc.ok.d0); rw [L0.out] at HC; refine HC.mono ?_; clear HC; rintro _ _ ⟨rfl, h4⟩; have hm66 := St.call0 hm64 h4; clear h4 hm64))
        go_ret
        exact ⟨rfl, hm66.nil⟩
      · rw [if_neg hill] at hD
        obtain ⟨m1', m2', g, h, g1, s1, hgh, s2, hc, hs9, l0⟩ := hD
        have HG1 := hid (show MGood m1' 20 from by have := get_mg (P := PVof sa k sc (onDevs k) 1 0 S) (HG0.out k); rw [g1] at this; exact this.mono (by show 10 + 2 * (onDevs k).length ≤ 20; rw [onDevs_len]; omega))
        have HG2 := hid (show MGood m2' 30 from by have := scan_mg (P := PVof sa k sc (onDevs k) 1 0 S) HG1.out; rw [s1] at this; exact this.mono (by show 20 + 2 * (onDevs k).length ≤ 30; rw [onDevs_len]; omega))
        have G1 := hid g1
        have S1 := hid s1
        have S2 := hid s2
        have HC := hid hc
        have HS9 := hid hs9
        have L0 := hid (show (m2'.a.loose.length : Int) = ((illN μ k : Nat) : Int) from by rw [l0])
        have HB9 := hid (hsum_bnd (m := m2') (k := k) fun i hi => (hc i hi).2.2)
        have d2 : (((illN μ k : Nat) : Int) == (k : Int)) = false := beq_eq_false_iff_ne.2 (by omega)
        have zgh : IntKind.i64.wrap ((g : Int) + (h : Int)) = (k : Int) := by rw [IntWalk.i64_in _ (by omega)]; omega
        clear g1 s1 s2 hc hs9 l0 hill hgh
        go_wp2_with (first | go_big_skip | go_big_guard | (refine wl_loadE rfl rfl rfl ?_; refine ⟨_, Loads.blkA (P := Try.prog) (T := 36) (vs := (ptrCells (.slice sa k sc) 1 0 S)) hst (by rw [ptr_len HL.out]; exact TyA.out) (List.mem_append_right _ (.head _)) (ptr_all _ _ _ _), ?_⟩) | (go_at_call 15; have HC := get_any hst (HG0.out k) sa k sc (onDevs k) 1 0 S HL.out (onDevs_len _) (fun _ h => Rd.row h (.tail _ (.head _))) (by omega); rw [G1.out] at HC; refine HC.mono ?_; clear HC; rintro _ _ ⟨u2, ya, rfl, h4⟩; obtain ⟨ua2, uc2, rfl⟩ := St.rowPSlice [] h4; have hm61 := St.behind (A := mP gm ga ya m1') h4; clear h4 hst) | (go_at_call 13; have HC := sameBytes_any _ _ _ _ (sect c) (sect c) _ (Rd.rowP hm61 (List.mem_append_right _ (.head _))) (((gb_sect (.tail _ (.tail _ (.tail _ (.head _))))) : GB w [] _ _ _ _).rd _ (St.sub hm61 (List.sublist_append_right _ _))); rw [beq_self_eq_true] at HC; refine HC.mono ?_; clear HC; rintro _ _ ⟨rfl, h4⟩; have hm62 := St.call0 hm61 h4; clear h4 hm61) | (refine wl_loadE rfl rfl rfl ?_; refine ⟨_, Loads.blkA (P := Try.prog) (T := 36) (vs := (ptrCells (.slice sa k sc) 1 0 S)) hm62 (by rw [ptr_len HL.out]; exact TyA.out) (List.mem_append_right _ (.tail _ (.head _))) (ptr_all _ _ _ _), ?_⟩) | (go_at_call 16; have HC := scan_any hm62 HG1.out sa k sc (onDevs k) 1 0 S HL.out (onDevs_len _) (fun _ h => Rd.row h (.tail _ (.tail _ (.head _)))) (by omega); rw [S1.out, show SR.cells _ = [.int .i64 (g : Int), .int .i64 (h : Int), .int .i64 0, .int .i64 0] from rfl] at HC; refine HC.mono ?_; clear HC; rintro _ _ ⟨yb, rfl, h4⟩; have hm63 : St _ _ _ ((mP gm ga yb m2') ++ _) := h4; clear h4 hm62) | (refine wl_alloc (T := 48) hm63 rfl rfl ?_; intro g22 _ hm64; clear hm63) | (refine wl_storeA [] hm64 rfl rfl rfl rfl rfl rfl rfl ?_; intro _ hm66; clear hm64; have hm65 := St.behind (A := (mP gm ga yb m2')) hm66; clear hm66) | (refine wl_loadE rfl rfl rfl ?_; refine ⟨_, Loads.blkA (P := Try.prog) (T := 36) (vs := (ptrCells (.slice sa k sc) 1 0 S)) hm65 (by rw [ptr_len HL.out]; exact TyA.out) (List.mem_append_right _ (.tail _ (.tail _ (.head _)))) (ptr_all _ _ _ _), ?_⟩) | (go_at_call 16; have HC := scan_any hm65 HG2.out sa k sc (onDevs k) 1 0 S HL.out (onDevs_len _) (fun _ h => Rd.row h (.tail _ (.tail _ (.tail _ (.head _))))) (by omega); rw [S2.out, show SR.cells _ = [.int .i64 (k : Int), .int .i64 0, .int .i64 0, .int .i64 0] from rfl] at HC; refine HC.mono ?_; clear HC; rintro _ _ ⟨yc, rfl, h4⟩; have hm67 : St _ _ _ ((mP gm ga yc m2') ++ _) := h4; clear h4 hm65) | (refine wl_alloc (T := 48) hm67 rfl rfl ?_; intro g24 _ hm68; clear hm67) | (refine wl_storeA [] hm68 rfl rfl rfl rfl rfl rfl rfl ?_; intro _ hm70; clear hm68; have hm69 := St.behind (A := (mP gm ga yc m2')) hm70; clear hm70))
        have hst7 : St w [] _ (mP gm ga yc m2' ++ (HA.blk g24 48 [.int .i64 (k : Int), .int .i64 0, .int .i64 0, .int .i64 0] :: HA.blk g22 48 [.int .i64 (g : Int), .int .i64 (h : Int), .int .i64 0, .int .i64 0] :: HA.rowP isB (.slice ua2 (sect c).length uc2) 5 1 (sect c).length (bytesV (sect c)) :: HA.blk gp 36 (ptrCells (.slice sa k sc) 1 0 S) :: HA.row (.slice sa k sc) 83 2 k (addrsV (onDevs k)) :: HA.blk gb 5 (bytesV (sect c)) :: HA.blk g7 23 (bytesV [m0, m1, m2]) :: HA.blk g6 22 [.int .i64 y0, .int .i64 y1, .int .i64 y2] :: ([] : List Hp.HA))) := hm69
        clear hm69
        go_loopw [26, 27] (fun qi ii wr => ∃ i : Nat, i ≤ k ∧ ii = .int .i64 (i : Int) ∧ qi = .int .i64 (hsum m2' i) ∧ St w [] wr (mP gm ga yc m2' ++ (HA.blk g24 48 [.int .i64 (k : Int), .int .i64 0, .int .i64 0, .int .i64 0] :: HA.blk g22 48 [.int .i64 (g : Int), .int .i64 (h : Int), .int .i64 0, .int .i64 0] :: HA.rowP isB (.slice ua2 (sect c).length uc2) 5 1 (sect c).length (bytesV (sect c)) :: HA.blk gp 36 (ptrCells (.slice sa k sc) 1 0 S) :: HA.row (.slice sa k sc) 83 2 k (addrsV (onDevs k)) :: HA.blk gb 5 (bytesV (sect c)) :: HA.blk g7 23 (bytesV [m0, m1, m2]) :: HA.blk g6 22 [.int .i64 y0, .int .i64 y1, .int .i64 y2] :: ([] : List Hp.HA)))) (fun _ ii _ => k - (intOf ii).toNat)
        case atStart => exact ⟨0, Nat.zero_le _, rfl, rfl, hst7⟩
        case round =>
          clear hst7
          obtain ⟨i, hi, rfl, rfl, hst⟩ := hrel
          by_cases hli : i < k
          · have d4 : decide ((i : Int) < (k : Int)) = true := decide_eq_true (by omega)
            have z1 : IntKind.i64.wrap ((i : Int) + 1) = (i : Int) + 1 := IntWalk.i64_in _ (by omega)
            have HCI := hid (HC.out i hli)
            have HSU := hid (hsum_succ m2' i)
            obtain ⟨E, hE⟩ : ∃ E, E = m2'.errs (i : Int) := ⟨_, rfl⟩
            rw [← hE] at HCI HSU
            have HE := hid hE.symm
            have z3 : IntKind.i64.wrap (hsum m2' i + E.he) = hsum m2' i + E.he := IntWalk.i64_in _ (by have h8 := HB9.out i hi; have h9 := HCI.out.2.2; omega)
            clear hE
            go_wp2_with (first | go_big_skip | go_big_guard | (go_at_call 12; have HQ := peek_any (St.marr hst HG2.out.sc.ok.d0) HG2.out.sc.ok (Nat.lt_of_le_of_lt HG2.out.sc.ll (by decide)) (i : Int) 5; rw [HCI.out.1, HCI.out.2.1] at HQ; refine HQ.mono ?_; clear HQ; rintro _ _ ⟨u3, rfl, h4⟩; obtain ⟨ua3, uc3, rfl⟩ := St.rowSliceAt [] h4; have hm81 := St.behind (A := (mP gm ga yc m2')) (St.call hst h4); clear h4 hst) | (go_at_call 13; have HC := sameBytes_any _ _ _ _ (sect c) (sect c) _ (Rd.row hm81 (List.mem_append_right _ (.head _))) (((gb_sect (.tail _ (.tail _ (.tail _ (.tail _ (.tail _ (.tail _ (.head _)))))))) : GB w [] _ _ _ _).rd _ (St.sub hm81 (List.sublist_append_right _ _))); rw [beq_self_eq_true] at HC; refine HC.mono ?_; clear HC; rintro _ _ ⟨rfl, h4⟩; have hm82 := St.call0 hm81 h4; clear h4 hm81) | (go_at_call 18; have HQ := errs_any hm82 HG2.out (i : Int); rw [HE.out] at HQ; refine HQ.mono ?_; clear HQ; unfold ER.cells; rintro _ _ ⟨rfl, h4⟩; have hm83 := St.call0 hm82 h4; clear h4 hm82) | (refine wl_field16 (T := 53) (k := 2) (v := .int .i64 E.he) rfl rfl rfl (by kernel_rfl) ?_))
            go_roundw
            case rel => exact ⟨i + 1, by omega, by go_num, by rw [HSU.out], sub_x hm83⟩
            case measure => simp [intOf]; omega
          · have d4 : decide ((i : Int) < (k : Int)) = false := decide_eq_false (by omega)
            have hik : k = i := by omega
            subst hik
            rw [HS9.out]
            go_wp2_with (first | go_big_skip | go_big_guard | (refine wl_loadE rfl rfl rfl ?_; refine ⟨_, Loads.blk (P := Try.prog) (T := 3) (off := 0) (v := .int .i64 (g : Int)) hst TyS.out (List.mem_append_right _ (.tail _ (.head _))) rfl, ?_⟩) | (refine wl_loadE rfl rfl rfl ?_; refine ⟨_, Loads.blk (P := Try.prog) (T := 3) (off := 1) (v := .int .i64 (h : Int)) hst TyS.out (List.mem_append_right _ (.tail _ (.head _))) rfl, ?_⟩) | (refine wl_loadE rfl rfl rfl ?_; refine ⟨_, Loads.blk (P := Try.prog) (T := 3) (off := 2) (v := .int .i64 0) hst TyS.out (List.mem_append_right _ (.tail _ (.head _))) rfl, ?_⟩) | (refine wl_loadE rfl rfl rfl ?_; refine ⟨_, Loads.blk (P := Try.prog) (T := 3) (off := 3) (v := .int .i64 0) hst TyS.out (List.mem_append_right _ (.tail _ (.head _))) rfl, ?_⟩) | (refine wl_loadE rfl rfl rfl ?_; refine ⟨_, Loads.blkA (P := Try.prog) (T := 48) (vs := [.int .i64 (k : Int), .int .i64 0, .int .i64 0, .int .i64 0]) hst (TyA.out (n := 4)) (List.mem_append_right _ (.head _)) rfl, ?_⟩) | (refine wl_buildX (cs := [.int .i64 (k : Int), .int .i64 0, .int .i64 0, .int .i64 0]) [(0, .int .i64 (k : Int))] rfl rfl (by exact rfl) (by kernel_rfl) ?_) | (go_at_call 17; have HC := loose_any (St.marr hst HG2.out.sc.ok.d0); rw [L0.out] at HC; refine HC.mono ?_; clear HC; rintro _ _ ⟨rfl, h4⟩; have hm91 := St.call0 hst h4; clear h4 hst))
            go_ret
            exact ⟨rfl, hm91.nil⟩
end
end Go.Proofs.Ytmdfbdfijnmhkaa
namespace Go.Proofs.Ytmdfbdfijnmhkaa
set_option linter.unusedVariables false
set_option linter.unusedSimpArgs false
open Go.ChangeShapes Go.WideShapes Go.ChangeAt Go.RowKit Hp
set_option maxRecDepth 100000 in
theorem mirrorHeals_lifted (os : Os) (started : os.Started) (H : Type) (enc : TypeId × Value → H) :
    ReturnsInHanded {} Try.checked os 3 .any (Rows.mirrorHealsSpec.pre6 enc Try.prog Try.f3 Rows.mirrorHealsRow.domain false) (Rows.mirrorHealsSpec.post enc Try.prog Try.f3 false true false false) := by
  refine returnsInHanded_of_change (C := Try.checked) own started (by kernel_rfl) Try.func3
    (ChangeSpec.witness6 (enc := enc) (C := Try.checked) false ⟨#[], #[.int .u8 0, .int .i64 0, .agg #[.int .i64 0, .int .i64 0, .int .i64 0], .agg #[.int .u8 0, .int .u8 0, .int .u8 0]], []⟩ 8 (by kernel_rfl) (by kernel_rfl) (by kernel_rfl) (by kernel_rfl)) ?_
  intro W base args ds gs before hval0 hW hcnd _
  have hval : ∀ (j : Nat) t v, Try.f3.params[j]? = some t → args[j]? = some v → Value.okWide Try.prog W .any base t v := hval0
  have hW' := hW
  obtain ⟨p, q, hAA0, hV, rfl, hfz, hnd⟩ := hW
  have hA : DataW.TrodAll enc Try.prog W 0 (fun _ => true) true Try.f3.params.toList args.toList ds p := hAA0
  rw [Try.params3] at hA hval
  have hk := hA
  obtain ⟨v0, v1, v2, v3, d0, d1, d2, d3, p0, p1, p2, p3, rfl, rfl, rfl, h0, h1, h2, h3⟩ := trodAll_four hA
  obtain ⟨rfl, rfl⟩ := trodVars_none hV
  obtain ⟨n0, h0⟩ := h0
  obtain ⟨b0, rfl⟩ := open_u8 (hval 0 _ v0 rfl rfl) h0
  obtain ⟨n1, h1⟩ := h1
  obtain ⟨z1, rfl, hl1, hu1⟩ := open_int (hval 1 _ v1 rfl rfl) h1
  obtain ⟨n2, h2⟩ := h2
  obtain ⟨ya2, yb2, yc2, rfl, hya2, hyb2, hyc2⟩ := open_int3 (hval 2 _ v2 rfl rfl) h2
  obtain ⟨n3, h3⟩ := h3
  obtain ⟨ma3, mb3, mc3, rfl⟩ := open_byte3 (hval 3 _ v3 rfl rfl) h3
  clear hAA0 hval0
  simp only [List.append_nil] at hW'
  refine (heals16_any b0 z1 ya2 yb2 yc2 ma3 mb3 mc3 W ⟨hl1, hu1⟩ hya2 hyb2 hyc2).mono fun e W' ⟨he, hg⟩ => ?_
  subst he
  exact ⟨_, rfl, post_of_kept (pv := []) hW' (fun _ _ _ => (trodAll_cons_mk (shut_bool Try.underlying4 _) trodAll_mk0)) (fun sp hsp => by
      rw [Try.params3]
      exact args_kept (by decide) hk hg.below (fun p hp => hW'.lt p hp) sp hsp) (fun _ _ => rfl) (by simp)
    (hg.below.frame _)⟩
theorem mirrorHeals_over : Rows.mirrorHealsRow.holds Try.pinned (OpenSpec.ofChange Rows.mirrorHealsSpec) :=
  OpenClaim.holds_of_wide 3 Try.f3 rfl rfl rfl rfl rfl rfl rfl ⟨rfl, rfl, rfl, rfl, rfl⟩ rfl rfl rfl rfl rfl (by kernel_rfl) Try.func3 (by kernel_rfl)
    (of_decide_eq_true (by kernel_rfl)) (by unfold Func.isWrapper; first | (rw [if_pos (by decide +kernel)]; kernel_rfl) | (rw [if_neg (by decide +kernel)]; exact ⟨rfl, rfl⟩))
    (fun os started H enc _ => mirrorHeals_lifted os started H enc)
theorem mirrorHeals_proved : Rows.MirrorHealsSaid :=
  mirrorHeals_over
end Go.Proofs.Ytmdfbdfijnmhkaa
