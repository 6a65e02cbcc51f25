import Derived.Test.YtilgjldnlgfehaaH8
namespace Go.Proofs.Ytilgjldnlgfehaa
set_option linter.unusedVariables false
set_option linter.unusedSimpArgs false
open Go.RowKit Go.Shelf Hp
attribute [local irreducible] Go.Calls
set_option maxRecDepth 100000
set_option maxHeartbeats 4000000
def lenS : Value → Nat
  | .slice _ n _ => n
  | _ => 0
theorem Hp.St.rowPSlice {w0 w : World} {M : List Nat} (L1 : List HA) {L2 : List HA} {p : Value → Bool} {v : Value} {T : TypeId} {sz n : Nat} {xs : List Value} (h : St w0 M w (L1 ++ .rowP p v T sz n xs :: L2)) : ∃ ao c, v = .slice ao n c := St.rowSliceAt L1 h.unP
theorem noughts_ne {n j : Nat} (h : j < noughts n) : (n + 1 + j) % 64 ≠ 56 := by
  unfold noughts at h; omega
theorem noughts_eq (n : Nat) : (n + 1 + noughts n) % 64 = 56 := noughts_mod n
def padB (bs : List UInt8) (j : Nat) : List UInt8 := bs ++ 128 :: List.replicate j 0
theorem padB_succ (bs : List UInt8) (j : Nat) : bytesV (padB bs j) ++ [.int .u8 0] = bytesV (padB bs (j + 1)) := by
  simp [padB, bytesV, List.replicate_succ']
theorem length_padB (bs : List UInt8) (j : Nat) : (padB bs j).length = bs.length + 1 + j := by
  simp [padB]; omega
theorem isB_0 : ([Value.int .u8 0]).all isB = true := rfl
theorem filled_pad (bs : List UInt8) {n : Nat} (hn : bs.length = n) : padB bs (noughts n) ++ (numB (8 * n) 8).take 8 = filled bs := by
  subst hn
  rw [List.take_of_length_le (by rw [length_numB]; exact Nat.le_refl _)]
  simp [padB, filled]
theorem rowP_some {w0 w : World} {M : List Nat} {L : List HA} {p : Value → Bool} {v : Value} {T : TypeId} {sz n : Nat} {xs : List Value} (h : St w0 M w L) (hm : HA.rowP p v T sz n xs ∈ L) (hn : 0 < n) : ∃ g cap, v = .slice (some ⟨g, 0, none⟩) n cap ∧ n ≤ cap ∧ cap ≤ 9223372036854775807 := by
  obtain ⟨⟨_, h2⟩, _⟩ := h.ownsP hm
  rcases h2 with ⟨rfl, rfl⟩ | ⟨g, cap, cur, rfl, _, hc, hnc, hcm, _⟩
  · omega
  · exact ⟨g, cap, rfl, hnc, hcm⟩
def rowsB (T : TypeId) : List Value → List (List UInt8) → List HA
  | v :: vs, p :: ps => .rowP isB v T 1 p.length (bytesV p) :: rowsB T vs ps
  | _, _ => []
theorem rowsB_snoc (T : TypeId) : ∀ (vs : List Value) (ps : List (List UInt8)) (v : Value) (p : List UInt8), vs.length = ps.length → rowsB T (vs ++ [v]) (ps ++ [p]) = rowsB T vs ps ++ [.rowP isB v T 1 p.length (bytesV p)]
  | [], [], _, _, _ => rfl
  | u :: vs, q :: ps, v, p, h => by
    have := rowsB_snoc T vs ps v p (by simpa using h)
    simp only [List.cons_append, rowsB, this]
theorem perm_row {α : Type} (x a b : α) (R B : List α) : (x :: a :: b :: (R ++ B)).Perm (a :: b :: ((R ++ [x]) ++ B)) := by
  have h := (List.perm_middle (a := x) (l₁ := a :: b :: R) (l₂ := B)).symm
  simpa using h
theorem Rd_chunk {w : World} {b c n x : Nat} {F : List UInt8} (h : Rd w (.slice (some ⟨b, 0, none⟩) n c) 1 n (bytesV F)) (hl : F.length = n) (hx : 64 * x + 64 ≤ n) : Rd w (.slice (some ⟨b, 0 + 64 * x, none⟩) 64 64) 1 64 (bytesV (cut64 F x)) := by
  obtain ⟨b', off', e, hr⟩ := h.at (k := 0) (by omega)
  cases e
  refine Rd.mk (Nat.le_refl _) (by unfold maxLen; omega) (by simp [cut64]; omega) ?_
  intro j v hj
  have hj2 : (bytesV F)[64 * x + j]? = some v := by
    simp only [cut64, bytesV, List.map_take, List.map_drop] at hj ⊢
    rw [List.getElem?_take] at hj
    split at hj
    · rwa [List.getElem?_drop] at hj
    · cases hj
  have := hr _ _ hj2
  rwa [← Nat.add_assoc] at this
theorem length_cut64 {F : List UInt8} {x m : Nat} (hl : F.length = 64 * m) (hx : x < m) : (cut64 F x).length = 64 := by
  simp [cut64]; omega
/-- Between two rounds: the list, and the pieces that it has. -/
def fillI (w : World) (g6 ga gs gn cap m : Nat) (F : List UInt8) (pre : List (Fin m)) (W : World) : Prop := ∃ (ov : Value) (vs : List Value), vs.length = pre.length ∧
  St w [] W (.blk g6 25 [ov] :: .row ov 22 1 pre.length vs :: (rowsB 5 vs (pre.map fun x => cut64 F x.1) ++ [.blk gn 3 [.int .i64 64], .blk gs 22 [.slice (some ⟨ga, 0, none⟩) (64 * m) cap], .rowP isB (.slice (some ⟨ga, 0, none⟩) (64 * m) cap) 5 1 (64 * m) (bytesV F)]))
theorem loadedLL (A : Addr) : loadVar 25 A = loadVarH 25 A := rfl
attribute [local go_sem] Oper.semAt_some
attribute [local go_sem ↓] loadedLL
theorem fill_any (ao : Option Addr) (n c : Nat) (bs : List UInt8) (w : World) (hA : Rd w (.slice ao n c) 1 n (bytesV bs)) (hn : bs.length = n) (hb : n ≤ 100000) :
    Calls Try.prog 11 #[.slice ao n c] w fun e w' => ∃ out vs, e = .returned out ∧ vs.length = (pieces bs).length ∧ St w [] w' (.row out 22 1 vs.length vs :: rowsB 5 vs (pieces bs)) := by
  have hst := St.refl w
  have Hn := hid hn
  clear hn
  refine (callsIn_wide (n := 5)).1 ?_
  refine callsIn_of_wp_marks Try.func11 rfl trivial ?_ rfl
  simp only [Try.ntmps11, List.size_toArray, List.length_cons, List.length_nil, Nat.reduceAdd, Nat.reduceSub, Array.replicate_succ, Array.replicate_zero, List.push_toArray, List.append_toArray, List.nil_append, List.cons_append]
  refine wpIn_wide.2 ?_
  go_wp2_with (first | go_big_skip | go_big_guard | (go_at_call 34; refine (clone_any ao n c bs _ (Rd.old hst hA) Hn.out hb).mono ?_; rintro _ _ ⟨v0, rfl, h4⟩; have hst1 := St.call hst h4; clear h4 hst) | (apply wl_bsX [.int _ _] [.int _ _] hst1; rfl; rfl; exact rfl; exact rfl; infer_instance; infer_instance; rfl; rfl; rfl; intro gb _ hst2; clear hst1) | (apply wl_appP [_] hst2; rfl; rfl; exact rfl; exact rfl; infer_instance; infer_instance; infer_instance; infer_instance; exact (Rd.blk0 hst2 rfl (by decide)); exact rfl; rfl; rfl; (unfold maxLen; omega); intro v1 w9 hst3 _; clear hst2))
  have hst4 : St w [] w9 [.rowP isB v1 5 1 (n + 1 + 0) (bytesV (padB bs 0))] := by
    have h := St.sub hst3 (.cons _ (List.Sublist.refl _))
    have e : bytesV bs ++ [.int .u8 128] = bytesV (padB bs 0) := by simp [padB, bytesV]
    rw [← e]
    exact h
  clear hst3
  go_loopw [3] (fun u wr => ∃ j : Nat, j ≤ noughts n ∧ St w [] wr [.rowP isB u 5 1 (n + 1 + j) (bytesV (padB bs j))]) (fun u _ => n + 1 + noughts n - lenS u)
  case atStart => exact ⟨0, by omega, hst4⟩
  case round =>
    clear hst4
    obtain ⟨j, hj, hst⟩ := hrel
    obtain ⟨au, cu, hu⟩ := St.rowPSlice [] hst
    obtain ⟨L, hL⟩ : ∃ L, L = n + 1 + j := ⟨_, rfl⟩
    have hnl : noughts n < 64 := by unfold noughts; omega
    have hlen : (Builtin.len_ #[22] 3 #[u3]).run Try.prog wr = .ok (.int .i64 (L : Int)) wr := by subst hu; rw [hL]; rfl
    have hL1 : L ≤ 200000 := by omega
    have Hu := hid hu
    obtain ⟨r, hr⟩ : ∃ r, r = L % 64 := ⟨_, rfl⟩
    have e1 : Int.tmod (L : Int) 64 = (r : Int) := by rw [Int.tmod_eq_emod_of_nonneg (by omega)]; omega
    have e2 : (L : Int) % 64 = (r : Int) := by omega
    clear hu
    by_cases hjn : j < noughts n
    · have hne := noughts_ne hjn
      have d1 : ((r : Int) != 56) = true := by simp; omega
      rw [← hL] at hst
      have HL := hid hL
      clear hL hr hne
      go_wp2_with (first | go_big_skip | go_big_guard | (apply wl_bsX [.int _ _] [.int _ _] hst; rfl; rfl; exact rfl; exact rfl; infer_instance; infer_instance; rfl; rfl; rfl; intro gb _ hst2; clear hst) | (apply wl_appP [_] hst2; rfl; rfl; exact rfl; exact rfl; infer_instance; infer_instance; infer_instance; infer_instance; exact (Rd.blk0 hst2 rfl (by decide)); exact rfl; rfl; rfl; (unfold maxLen; omega); intro v1 w9 hst3 _; clear hst2))
      have hst5 : St w [] w9 [.rowP isB v1 5 1 (n + 1 + (j + 1)) (bytesV (padB bs (j + 1)))] := by
        have h := St.sub hst3 (.cons _ (List.Sublist.refl _))
        rw [← padB_succ, show n + 1 + (j + 1) = L + 1 by rw [HL.out]; omega]
        exact h
      clear hst3
      obtain ⟨a9, c9, hu9⟩ := St.rowPSlice [] hst5
      have Hu9 := hid hu9
      clear hu9
      go_roundw
      case rel => exact ⟨j + 1, by omega, hst5⟩
      case measure =>
        rw [Hu9.out, Hu.out]
        show n + 1 + noughts n - (n + 1 + (j + 1)) < n + 1 + noughts n - (n + 1 + j)
        omega
    · have ej : j = noughts n := by omega
      subst ej
      have hq := noughts_eq n
      have d1 : ((r : Int) != 56) = false := by simp; omega
      have HL := hid hL
      rw [← hL] at hst
      have h8 : (n : Int) * 8 ≤ 800000 := by omega
      clear hL hr hq hj hjn
      go_wp2_with (first | go_big_skip | go_big_guard | fail)
      obtain ⟨M, hM⟩ : ∃ M : Int, M = (n : Int) * 8 := ⟨_, rfl⟩
      rw [← hM]
      have HM := hid hM
      clear hM h8 e1 e2 d1 hlen
      have hst6 : St w [] wr [.rowP isB u3 5 1 (L + 0) (bytesV (padB bs (noughts n) ++ (numB (8 * n) 8).take 0))] := by simpa using hst
      clear hst
      go_loopw [3, 23] (fun u q wr => ∃ i : Nat, i ≤ 8 ∧ q = .int .i64 i ∧ St w [] wr [.rowP isB u 5 1 (L + i) (bytesV (padB bs (noughts n) ++ (numB (8 * n) 8).take i))]) (fun _ q _ => 8 - (intOf q).toNat)
      case atStart => exact ⟨0, by omega, rfl, hst6⟩
      case round =>
        clear hst6
        obtain ⟨i, hi, rfl, hst⟩ := hrel
        by_cases hi8 : i < 8
        · obtain ⟨Q, hQ⟩ : ∃ Q : Int, Q = M / 2 ^ (56 - 8 * (i : Int)).toNat := ⟨_, rfl⟩
          have f1 : ∀ T, binOp .shr T (.int .u64 M) (.int .i64 (56 - 8 * (i : Int))) = pure (.int .u64 Q) := by
            intro T
            show Op.shift .shr .u64 M .i64 (56 - 8 * (i : Int)) = _
            rw [shift_shr .u64 .i64 M _ (by omega) (by show _ ≤ (64 : Int); omega), hQ]
          have f3 : Q % 256 = ((byteAt (8 * n) (7 - i)).toNat : Int) := by
            rw [hQ, byteAt_int, HM.out, show (56 - 8 * (i : Int)).toNat = 8 * (7 - i) by omega, Int.mul_comm]
          have f2 : IntKind.u8.wrap Q = ((byteAt (8 * n) (7 - i)).toNat : Int) := f3
          obtain ⟨Y, hY⟩ : ∃ Y, Y = byteAt (8 * n) (7 - i) := ⟨_, rfl⟩
          rw [← hY] at f2 f3
          have HY := hid hY
          clear hY hQ
          go_wp2_with (first | go_big_skip | go_big_guard | (apply wl_bsX [.int _ _] [.int _ _] hst; rfl; rfl; exact rfl; exact rfl; infer_instance; infer_instance; rfl; rfl; rfl; intro gb _ hst2; clear hst) | (apply wl_appP (ys := bytesV [Y]) [_] hst2; rfl; rfl; exact rfl; exact rfl; infer_instance; infer_instance; infer_instance; infer_instance; exact (Rd.blk0 hst2 rfl (by decide)); exact rfl; rfl; exact isB_bytes _; (unfold maxLen; omega); intro v1 w9 hst3 _; clear hst2))
          have hst5 : St w [] w9 [.rowP isB v1 5 1 (L + (i + 1)) (bytesV (padB bs (noughts n) ++ (numB (8 * n) 8).take (i + 1)))] := by
            have h := St.sub hst3 (.cons _ (List.Sublist.refl _))
            rw [numB_take _ _ _ hi8, ← List.append_assoc, bytesV_append _ [_], show 8 - 1 - i = 7 - i by omega, ← HY.out]
            exact h
          clear hst3
          go_roundw
          case rel => exact ⟨i + 1, by omega, by go_num, hst5⟩
          case measure => simp [intOf]; omega
        · have ei : i = 8 := by omega
          subst ei
          obtain ⟨F, hF⟩ : ∃ F, F = filled bs := ⟨_, rfl⟩
          obtain ⟨m, hm⟩ : ∃ m, m = F.length / 64 := ⟨_, rfl⟩
          have hFl : F.length = 64 * m := by
            have h1 := filled_mod bs
            rw [← hF] at h1
            omega
          have hLm : L + 8 = 64 * m := by rw [← hFl, hF, length_filled, Hn.out, HL.out]; omega
          rw [filled_pad bs Hn.out, ← hF, hLm] at hst
          have HF := hid hF
          have HFl := hid hFl
          have Hm := hid hm
          have hm0 : 0 < m := by omega
          have hm1 : 64 * m ≤ 1000000 := by omega
          obtain ⟨ga, cap, rfl, hcap, hcm⟩ := rowP_some hst (.head _) (by omega)
          clear hF hm hFl hLm hi hi8
          go_wp2_with (first | go_big_skip | go_big_guard | (refine wl_alloc hst rfl rfl ?_; intro g6 _ hst2; clear hst) | (go_at_call 35; refine (chunk_in _ _ _ _).mono ?_; rintro _ wq ⟨gs, gn, rfl, h4⟩; have hst3 := St.call hst2 h4; clear h4 hst2))
          have hst4 : St w [] wq (.blk g6 25 [.slice none 0 0] :: .row (.slice none 0 0) 22 1 0 [] :: ([] ++ [.blk gn 3 [.int .i64 64], .blk gs 22 [.slice (some ⟨ga, 0, none⟩) (64 * m) cap], .rowP isB (.slice (some ⟨ga, 0, none⟩) (64 * m) cap) 5 1 (64 * m) (bytesV F)])) :=
            St.front (L1 := [_]) (St.nilRow 22 1 (St.front (L1 := [_, _]) hst3))
          have hgs := hst3.lt (x := .blk gs 22 [.slice (some ⟨ga, 0, none⟩) (64 * m) cap]) (by simp) rfl
          have hgn := hst3.lt (x := .blk gn 3 [.int .i64 64]) (by simp) rfl
          have cgs : wq.cell? ⟨gs, 0, none⟩ = some (.slice (some ⟨ga, 0, none⟩) (64 * m) cap) := hst3.cell (T := 22) (cs := [.slice (some ⟨ga, 0, none⟩) (64 * m) cap]) (by simp) rfl
          have cgn : wq.cell? ⟨gn, 0, none⟩ = some (.int .i64 64) := hst3.cell (T := 3) (cs := [.int .i64 64]) (by simp) rfl
          refine wp_rangeF 38 7 (gf := 45) rfl (enters_of Try.func45 (by kernel_rfl) rfl) (enc := fun x : Fin m => .slice (some ⟨ga, 0 + 64 * x.1, none⟩) 64 64)
            ((chunk_stops 4 gs gn ga 0 m cap wq (by decide) hm1 hcap hcm hgs hgn cgs cgn)) (fun h k => h.trans k) (keep2_b hgs hgn) (fillI w g6 ga gs gn cap m F) (fun s A B row hs hg hr => ?own) ⟨_, [], rfl, hst4⟩ ?assign ?body ?done
          case own =>
            obtain ⟨ov, vs, h1, h2⟩ := hs
            exact ⟨ov, vs, h1, St.ownFrom hst4.size h2 hg hr⟩
          case assign =>
            intro l x W K hK
            simp only [rgAct, List.setIfInBounds_toArray, List.set_cons_zero, List.set_cons_succ] at hK ⊢
            gi_wp2
            exact hK
          case body =>
            rintro l pre x W ⟨ov, vs, hvl, hs0⟩ hlen
            have hs := hs0.selfM
            have hx := x.2
            have hcl := length_cut64 HFl.out hx
            simp only [rgAct, List.setIfInBounds_toArray, List.set_cons_zero, List.set_cons_succ]
            gi_wp2
            have hD := hs.drew
            clear hs
            refine region_last_inRound (S := (fun w' => (loadVarH 25 ⟨g6, 0, none⟩).run Try.prog w' = .ok (ov) w')) (by kernel_rfl) (by kernel_rfl) (fun ⟨_, _, h⟩ => h) rfl (by kernel_rfl) (by exact ldS [] hD rfl) (fun hHeld => ?_)
            simp only [List.pop_toArray, List.dropLast, List.size_toArray, List.length_cons, List.length_nil]
            refine wpAnyH_take (i := 0) (oi := ⟨some 39, _, _, _, _, _⟩) (v := ?_) rfl (by kernel_rfl) (by kernel_rfl) (by kernel_rfl) (fun _ _ _ h => h) (Or.inl ⟨by rfl, ?_⟩) (by assumption) ?_
            rotate_left
            · intro w hSw; (try dsimp only at hSw); go_simp; try with_reducible rfl
            (try simp only [Act.put, List.setIfInBounds_toArray, List.set_cons_zero, List.set_cons_succ])
            refine wpAnyH_take (i := 1) (oi := ⟨some 40, _, _, _, _, _⟩) (v := ?_) rfl (by kernel_rfl) (by kernel_rfl) (by kernel_rfl) (fun _ _ _ h => h) (Or.inl ⟨by rfl, ?_⟩) (by assumption) ?_
            rotate_left
            · intro w hSw; (try dsimp only at hSw); go_simp; try with_reducible rfl
            (try simp only [Act.put, List.setIfInBounds_toArray, List.set_cons_zero, List.set_cons_succ])
            refine wpAnyH_ready (rs := [2]) (by kernel_rfl) (by simp) ?_
            refine (AllReadyH.cons (o := ⟨some 41, _, _, _, _, _⟩) rfl (fun K hK => ?_) AllReadyH.nil)
            have hrd := Rd_chunk (x := x.1) (Rd.rowP hD (p := isB) (v := .slice (some ⟨ga, 0, none⟩) (64 * m) cap) (T := 5) (sz := 1) (n := 64 * m) (xs := bytesV F) (by simp)) HFl.out (by omega)
            rw [Nat.zero_add] at hrd
            rw [if_pos (by rfl)]
            apply ow_appP [] (St.nilP isB 5 1 hD)
            rfl
            rfl
            exact rfl
            infer_instance
            infer_instance
            infer_instance
            infer_instance
            exact hrd
            exact ones_bytesV _
            rfl
            exact isB_bytes _
            · unfold maxLen; omega
            intro v2 w2 hE _
            rw [Nat.zero_add] at hE
            obtain ⟨ax, cx, rfl⟩ := St.rowPSlice [] hE
            refine hK.out _ _ ?_ (fun hHeld => ?_)
            · exact ldS [_] hE rfl
            clear hK K
            (try simp only [Act.put, List.setIfInBounds_toArray, List.set_cons_zero, List.set_cons_succ])
            refine wpAnyH_ready (rs := [3]) (by kernel_rfl) (by simp) ?_
            refine (AllReadyH.cons (o := ⟨some 42, _, _, _, _, _⟩) rfl (fun K hK => ?_) AllReadyH.nil)
            rw [if_pos (by rfl)]
            refine ow_of_wl (ops := #[]) (by rfl) ?_
            apply wl_bsX [.slice _ _ _] [.slice _ _ _] hE
            rfl
            rfl
            exact rfl
            exact rfl
            infer_instance
            infer_instance
            rfl
            rfl
            rfl
            intro g8 w3 hF
            refine q0_nil ?_
            refine hK.out _ _ ?_ (fun hHeld => ?_)
            · exact ldS [_, _] hF rfl
            clear hK K
            (try simp only [Act.put, List.setIfInBounds_toArray, List.set_cons_zero, List.set_cons_succ])
            refine wpAnyH_ready (rs := [4]) (by kernel_rfl) (by simp) ?_
            refine (AllReadyH.cons (o := ⟨some 43, _, _, _, _, _⟩) rfl (fun K hK => ?_) AllReadyH.nil)
            rw [if_pos (by rfl)]
            refine ow_of_wl (ops := #[]) (by rfl) ?_
            apply wl_appX [_, _, _] hF
            rfl
            rfl
            exact rfl
            exact rfl
            infer_instance
            infer_instance
            infer_instance
            exact (Rd.blk0 hF rfl (by decide))
            exact rfl
            · unfold maxLen; omega
            intro v4 w4 hG _
            refine q0_nil ?_
            refine hK.out _ _ ?_ (fun hHeld => ?_)
            · exact ldS [_, _] hG rfl
            clear hK K
            (try simp only [Act.put, List.setIfInBounds_toArray, List.set_cons_zero, List.set_cons_succ])
            refine wpAnyH_done (by kernel_rfl) ?_ _
            clear hHeld
            refine QL_intro ?_
            obtain ⟨a4, c4, rfl⟩ := St.rowSliceAt [_, _, _] hG
            refine wl_store [_, _] hG rfl rfl rfl (v := .slice _ _ _) rfl rfl rfl ?_ ?_
            · exact Nat.le_refl _
            intro w5 hH
            have hN : St W _ w5 (.blk g8 22 [.slice ax 64 cx] :: .rowP isB (.slice ax 64 cx) 5 1 64 ([] ++ bytesV (cut64 F x.1)) :: .blk g6 25 [.slice a4 (pre.length + 1) c4] :: .row (.slice a4 (pre.length + 1) c4) 22 1 (pre.length + 1) (vs ++ [.slice ax 64 cx]) :: (rowsB 5 vs (pre.map fun x => cut64 F x.1) ++ [.blk gn 3 [.int .i64 64], .blk gs 22 [.slice (some ⟨ga, 0, none⟩) (64 * m) cap], .rowP isB (.slice (some ⟨ga, 0, none⟩) (64 * m) cap) 5 1 (64 * m) (bytesV F)])) := hH
            have hJ := St.perm (St.sub (St.joinAll hs0 hN) (.cons _ (List.Sublist.refl _))) (perm_row _ _ _ _ _)
            refine ⟨St.keeps hs0 hN, ⟨(hN.all (.blk gs 22 [.slice (some ⟨ga, 0, none⟩) (64 * m) cap]) (by simp)).trans (hs0.all (.blk gs 22 [.slice (some ⟨ga, 0, none⟩) (64 * m) cap]) (by simp)).symm, (hN.all (.blk gn 3 [.int .i64 64]) (by simp)).trans (hs0.all (.blk gn 3 [.int .i64 64]) (by simp)).symm⟩, ?_⟩
            refine ⟨.slice a4 (pre.length + 1) c4, vs ++ [.slice ax 64 cx], by simp [hvl], ?_⟩
            have e : rowsB 5 (vs ++ [.slice ax 64 cx]) ((pre ++ [x]).map fun x => cut64 F x.1) = rowsB 5 vs (pre.map fun x => cut64 F x.1) ++ [.rowP isB (.slice ax 64 cx) 5 1 64 ([] ++ bytesV (cut64 F x.1))] := by
              rw [List.map_append, List.map_singleton, rowsB_snoc _ _ _ _ _ (by rw [List.length_map, hvl]), hcl]
              rfl
            rw [e, List.length_append, List.length_singleton]
            exact hJ
          case done =>
            rintro D xs W hD rfl ⟨ov, vs, hvl, hs⟩ hK
            go_wp2_with (first | go_big_skip | go_big_guard | (refine wl_loadE rfl rfl rfl ?_; first | refine ⟨_, Loads.at [] hs rfl, ?_⟩))
            obtain ⟨vf, hvf⟩ : ∃ vf, vf = (List.finRange m).map fun x : Fin m => cut64 F x.1 := ⟨_, rfl⟩
            have hp : vf = pieces bs := by
              rw [hvf, pieces, ← HF.out, ← Hm.out]
              apply List.ext_getElem (by simp)
              intro i h1 h2
              simp
            refine ⟨by simp, .inl ⟨_, _, rfl, run_takeDeferred hK, ?_⟩⟩
            have hs2 : St w [] (W.putObj D (.deferred none)) _ := St.putObj (Nat.le_trans hst4.size hD) hs hK rfl
            refine ⟨_, results_tmp rfl _ _ _, ov, vs, rfl, ?_, ?_⟩
            · rw [hvl, ← hp, hvf]; simp
            · rw [← hp, hvf, hvl]
              refine St.sub hs2 (.cons _ (.cons_cons _ ?_))
              exact List.sublist_append_left _ _
end Go.Proofs.Ytilgjldnlgfehaa
