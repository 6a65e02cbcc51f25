import Derived.Test.YtilgjldnlgfehaaH27
import Derived.Test.YtilgjldnlgfehaaH28
import Derived.Test.YtilgjldnlgfehaaH12
namespace Go.Proofs.Ytilgjldnlgfehaa
set_option linter.unusedVariables false
set_option linter.unusedSimpArgs false
open Go.RowKit Hp
attribute [local irreducible] Go.Calls
set_option maxRecDepth 100000
set_option maxHeartbeats 4000000
instance hP2 : TyP2 Try.prog 47 := ⟨by kernel_rfl⟩
instance hArr : TyArr Try.prog 29 32 5 := ⟨⟨by kernel_rfl, by kernel_rfl, by kernel_rfl, by kernel_rfl⟩⟩
@[go_sem ↓] theorem eqlFaultH (a b c d : Int) (w : World) : (binOp .eql 47 (.agg #[.int .i64 a, .int .i64 b]) (.agg #[.int .i64 c, .int .i64 d])).run Try.prog w = .ok (.bool ((a == c) && (b == d))) w := run_eql_p2 hP2 a b c d .i64 .i64 w
@[go_sem ↓] theorem guardFaultH (op : BinOp) (x y : Operand) (xs ys : Array Value) (w : World) : (eqGuard op 47 x y (.agg xs) (.agg ys)).run Try.prog w = .ok () w := run_guard_p2 hP2 op x y xs ys w
theorem loadedID (A : Addr) : loadVar 29 A = loadVarH 29 A := rfl
theorem loadedFtH (A : Addr) : loadVar 47 A = loadVarH 47 A := rfl
theorem parse_len32 (s : List UInt8) : (parseR s).1.length = 32 := by
  unfold parseR
  split
  · simp
  · split
    · simp
    · exact length_idP s 64
theorem ow_bare {o : Oper} {a : Act} {w : World} {K : Act → World → Prop} {Q : Exit → Act → World → Prop} (h : Oper.wp Try.prog { o with guard := none } a w K Q) : o.wp Try.prog a w K Q := h
section
attribute [local go_sem ↓] loadedID loadedFtH
theorem texts_law (a b : List UInt8) (s : List UInt8) (w : World) (ha : a.length = 32) (hb : b.length = 32) (hs : s.length ≤ 9223372036854775807) :
    Calls Try.prog 7 #[.agg (bytesV a).toArray, .agg (bytesV b).toArray, .string ⟨s.toArray⟩] w fun e w' => e = .returned (.bool true) ∧ St w [] w' [] := by
  have hst := St.refl w
  obtain ⟨N, hN⟩ : ∃ N, N = s.length := ⟨_, rfl⟩
  have hsz : (⟨s.toArray⟩ : ByteArray).size = N := by rw [size_l, hN]
  have HSS := hid hs
  have HA := hid ha
  have HB := hid hb
  have HVA := hid (show (bytesV a).length = 32 by rw [length_bytesV, ha])
  have HVB := hid (show (bytesV b).length = 32 by rw [length_bytesV, hb])
  by_cases h2 : 200 < N
  · have d0 : decide (200 < (N : Int)) = true := decide_eq_true (by omega)
    clear hN hs ha hb
    go_enter Try.func7, Try.ntmps7
    go_wp2_with (first | go_big_skip | go_big_guard | (refine wl_boxA hst rfl rfl rfl ?_; intro g3 _ hst1; clear hst) | (refine wl_boxA hst1 rfl rfl rfl ?_; intro g4 _ hst2; clear hst1) | (go_at_call 9; refine (awake_any _).mono ?_; rintro _ _ ⟨rfl, h4⟩; have hst3 := St.call0 hst2 h4; clear h4 hst2))
    go_ret
    exact ⟨rfl, hst3.nil⟩
  · have d0 : decide (200 < (N : Int)) = false := decide_eq_false (by omega)
    obtain ⟨I, E, A, hP, hI⟩ : ∃ I E A, parseR s = (I, E, A) ∧ I.length = 32 := ⟨_, _, _, rfl, parse_len32 s⟩
    have HP := hid hP
    have HI := hid hI
    have HVI := hid (show (bytesV I).length = 32 by rw [length_bytesV, hI])
    have HON := hid (ones_bytesV I)
    obtain ⟨L, hL⟩ : ∃ L, L = lessB a b := ⟨_, rfl⟩
    have HL := hid hL
    clear hN hs ha hb hP hI hL
    go_enter Try.func7, Try.ntmps7
    go_wp2_with (first | go_big_skip | go_big_guard | (refine wl_boxA hst rfl rfl rfl ?_; intro g3 _ hst1; clear hst) | (refine wl_boxA hst1 rfl rfl rfl ?_; intro g4 _ hst2; clear hst1) | (go_at_call 27; refine (parse_any s HSS.out _).mono ?_; rw [HP.out]; (try dsimp only); rintro _ _ ⟨rfl, h4⟩; have hst3 := St.call0 hst2 h4; clear h4 hst2) | (refine wl_alloc (T := 29) hst3 rfl rfl ?_; intro g7 _ hst4; clear hst3) | (refine wl_alloc (T := 47) hst4 rfl rfl ?_; intro g8 _ hst5; clear hst4) | (refine wl_storeA [_] hst5 rfl rfl rfl rfl HVI.out HON.out rfl ?_; intro _ hst6; clear hst5) | (refine wl_storeA [] hst6 rfl rfl rfl rfl rfl rfl rfl ?_; intro _ hst7; clear hst6) | (go_at_call 30; refine (qparse_any s HSS.out _).mono ?_; rw [HP.out]; (try dsimp only); rintro _ _ ⟨rfl, h4⟩; have hst8 := St.call0 hst7 h4; clear h4 hst7) | (refine wl_alloc (T := 29) hst8 rfl rfl ?_; intro g9 _ hst9; clear hst8) | (refine wl_alloc (T := 47) hst9 rfl rfl ?_; intro g10 _ hst10; clear hst9) | (refine wl_storeA [_] hst10 rfl rfl rfl rfl HVI.out HON.out rfl ?_; intro _ hst11; clear hst10) | (refine wl_storeA [] hst11 rfl rfl rfl rfl rfl rfl rfl ?_; intro _ hst12; clear hst11))
    have hD := hst12.drew
    clear hst12
    refine wp_region_held_drew (S := (fun w' => (loadVarH 29 ⟨g3, 0, none⟩).run Try.prog w' = .ok (.agg (List.toArray (bytesV a))) w' ∧ (loadVarH 29 ⟨g4, 0, none⟩).run Try.prog w' = .ok (.agg (List.toArray (bytesV b))) w' ∧ (loadVarH 29 ⟨g7, 0, none⟩).run Try.prog w' = .ok (.agg (List.toArray (bytesV I))) w' ∧ (loadVarH 29 ⟨g9, 0, none⟩).run Try.prog w' = .ok (.agg (List.toArray (bytesV I))) w' ∧ (loadVarH 47 ⟨g8, 0, none⟩).run Try.prog w' = .ok (.agg (List.toArray ([.int .i64 E, .int .i64 A]))) w' ∧ (loadVarH 47 ⟨g10, 0, none⟩).run Try.prog w' = .ok (.agg (List.toArray ([.int .i64 E, .int .i64 A]))) w')) (by kernel_rfl) (by exact ⟨ldA (bytesV a) [_, _, _, _, _] hD (HVA.out) (List.take_length), ldA (bytesV b) [_, _, _, _] hD (HVB.out) (List.take_length), ldA (bytesV I) [_, _, _] hD (HVI.out) (List.take_length), ldA (bytesV I) [_] hD (HVI.out) (List.take_length), ldA ([.int .i64 E, .int .i64 A]) [_, _] hD (rfl) (rfl), ldA ([.int .i64 E, .int .i64 A]) [] hD (rfl) (rfl)⟩) (fun hHeld => ?_)
    refine wpAnyH_take (i := 0) (oi := ⟨some 25, _, _, _, _, _⟩) (v := ?_) rfl (by kernel_rfl) (by kernel_rfl) (by kernel_rfl) (fun _ _ _ h => h) (Or.inl ⟨by rfl, ?_⟩) (by assumption) ?_
    rotate_left
    · intro w hSw; (try dsimp only at hSw); go_simp; try with_reducible rfl
    (try simp only [Act.put, List.setIfInBounds_toArray, List.set_cons_zero, List.set_cons_succ])
    refine wpAnyH_take (i := 1) (oi := ⟨some 26, _, _, _, _, _⟩) (v := ?_) rfl (by kernel_rfl) (by kernel_rfl) (by kernel_rfl) (fun _ _ _ h => h) (Or.inl ⟨by rfl, ?_⟩) (by assumption) ?_
    rotate_left
    · intro w hSw; (try dsimp only at hSw); go_simp; try with_reducible rfl
    (try simp only [Act.put, List.setIfInBounds_toArray, List.set_cons_zero, List.set_cons_succ])
    refine wpAnyH_take (i := 3) (oi := ⟨some 28, _, _, _, _, _⟩) (v := ?_) rfl (by kernel_rfl) (by kernel_rfl) (by kernel_rfl) (fun _ _ _ h => h) (Or.inl ⟨by rfl, ?_⟩) (by assumption) ?_
    rotate_left
    · intro w hSw; (try dsimp only at hSw); go_simp; try with_reducible rfl
    (try simp only [Act.put, List.setIfInBounds_toArray, List.set_cons_zero, List.set_cons_succ])
    refine wpAnyH_take (i := 4) (oi := ⟨some 29, _, _, _, _, _⟩) (v := ?_) rfl (by kernel_rfl) (by kernel_rfl) (by kernel_rfl) (fun _ _ _ h => h) (Or.inl ⟨by rfl, ?_⟩) (by assumption) ?_
    rotate_left
    · intro w hSw; (try dsimp only at hSw); go_simp; try with_reducible rfl
    (try simp only [Act.put, List.setIfInBounds_toArray, List.set_cons_zero, List.set_cons_succ])
    refine wpAnyH_ready (rs := [2]) (by kernel_rfl) (by simp) ?_
    refine (AllReadyH.cons (o := ⟨some 27, _, _, _, _, _⟩) rfl (fun K hK => ?_) AllReadyH.nil)
    go_simp
    go_at_call 29
    refine (less_any a b HA.out HB.out _).mono ?_
    rw [← HL.out]
    rintro _ _ ⟨rfl, h4⟩
    have hN1 := St.call0 hD h4
    clear h4
    refine hK.out _ _ ?_ (fun hHeld => ?_)
    · exact ⟨ldA (bytesV a) [_, _, _, _, _] hN1 (HVA.out) (List.take_length), ldA (bytesV b) [_, _, _, _] hN1 (HVB.out) (List.take_length), ldA (bytesV I) [_, _, _] hN1 (HVI.out) (List.take_length), ldA (bytesV I) [_] hN1 (HVI.out) (List.take_length), ldA ([.int .i64 E, .int .i64 A]) [_, _] hN1 (rfl) (rfl), ldA ([.int .i64 E, .int .i64 A]) [] hN1 (rfl) (rfl)⟩
    clear hK K
    (try simp only [Act.put, List.setIfInBounds_toArray, List.set_cons_zero, List.set_cons_succ])
    refine wpAnyH_ready (rs := [5]) (by kernel_rfl) (by simp) ?_
    refine (AllReadyH.cons (o := ⟨some 30, _, _, _, _, _⟩) rfl (fun K hK => ?_) AllReadyH.nil)
    go_simp
    go_at_call 31
    refine (qless_any a b HA.out HB.out _).mono ?_
    rw [← HL.out]
    rintro _ _ ⟨rfl, h4⟩
    have hN2 := St.call0 hN1 h4
    clear h4
    refine hK.out _ _ ?_ (fun hHeld => ?_)
    · exact ⟨ldA (bytesV a) [_, _, _, _, _] hN2 (HVA.out) (List.take_length), ldA (bytesV b) [_, _, _, _] hN2 (HVB.out) (List.take_length), ldA (bytesV I) [_, _, _] hN2 (HVI.out) (List.take_length), ldA (bytesV I) [_] hN2 (HVI.out) (List.take_length), ldA ([.int .i64 E, .int .i64 A]) [_, _] hN2 (rfl) (rfl), ldA ([.int .i64 E, .int .i64 A]) [] hN2 (rfl) (rfl)⟩
    clear hK K
    (try simp only [Act.put, List.setIfInBounds_toArray, List.set_cons_zero, List.set_cons_succ])
    refine wpAnyH_take (i := 6) (oi := ⟨some 31, _, _, _, _, _⟩) (v := ?_) rfl (by kernel_rfl) (by kernel_rfl) (by kernel_rfl) (fun _ _ _ h => h) (Or.inl ⟨by rfl, ?_⟩) (by assumption) ?_
    rotate_left
    · intro w hSw; (try dsimp only at hSw); go_simp; try with_reducible rfl
    (try simp only [Act.put, List.setIfInBounds_toArray, List.set_cons_zero, List.set_cons_succ])
    refine wpAnyH_take (i := 7) (oi := ⟨some 32, _, _, _, _, _⟩) (v := ?_) rfl (by kernel_rfl) (by kernel_rfl) (by kernel_rfl) (fun _ _ _ h => h) (Or.inl ⟨by rfl, ?_⟩) (by assumption) ?_
    rotate_left
    · intro w hSw; (try dsimp only at hSw); go_simp; try with_reducible rfl
    (try simp only [Act.put, List.setIfInBounds_toArray, List.set_cons_zero, List.set_cons_succ])
    refine wpAnyH_take (i := 8) (oi := ⟨some 33, _, _, _, _, _⟩) (v := ?_) rfl (by kernel_rfl) (by kernel_rfl) (by kernel_rfl) (fun _ _ _ h => h) (Or.inl ⟨by rfl, ?_⟩) (by assumption) ?_
    rotate_left
    · intro w hSw; (try dsimp only at hSw); go_simp; try with_reducible rfl
    (try simp only [Act.put, List.setIfInBounds_toArray, List.set_cons_zero, List.set_cons_succ])
    refine wpAnyH_take (i := 10) (oi := ⟨some 35, _, _, _, _, _⟩) (v := ?_) rfl (by kernel_rfl) (by kernel_rfl) (by kernel_rfl) (fun _ _ _ h => h) (Or.inl ⟨by rfl, ?_⟩) (by assumption) ?_
    rotate_left
    · intro w hSw; (try dsimp only at hSw); go_simp; try with_reducible rfl
    (try simp only [Act.put, List.setIfInBounds_toArray, List.set_cons_zero, List.set_cons_succ])
    refine wpAnyH_ready (rs := [9]) (by kernel_rfl) (by simp) ?_
    refine (AllReadyH.cons (o := ⟨some 34, _, _, _, _, _⟩) rfl (fun K hK => ?_) AllReadyH.nil)
    go_simp
    go_at_call 32
    refine (text_any a HA.out _).mono ?_
    rintro _ _ ⟨rfl, h4⟩
    have hN3 := St.call0 hN2 h4
    clear h4
    refine hK.out _ _ ?_ (fun hHeld => ?_)
    · exact ⟨ldA (bytesV a) [_, _, _, _, _] hN3 (HVA.out) (List.take_length), ldA (bytesV b) [_, _, _, _] hN3 (HVB.out) (List.take_length), ldA (bytesV I) [_, _, _] hN3 (HVI.out) (List.take_length), ldA (bytesV I) [_] hN3 (HVI.out) (List.take_length), ldA ([.int .i64 E, .int .i64 A]) [_, _] hN3 (rfl) (rfl), ldA ([.int .i64 E, .int .i64 A]) [] hN3 (rfl) (rfl)⟩
    clear hK K
    (try simp only [Act.put, List.setIfInBounds_toArray, List.set_cons_zero, List.set_cons_succ])
    refine wpAnyH_ready (rs := [11]) (by kernel_rfl) (by simp) ?_
    refine (AllReadyH.cons (o := ⟨some 36, _, _, _, _, _⟩) rfl (fun K hK => ?_) AllReadyH.nil)
    go_simp
    go_at_call 33
    refine (qtext_any a HA.out _).mono ?_
    rintro _ _ ⟨rfl, h4⟩
    have hN4 := St.call0 hN3 h4
    clear h4
    refine hK.out _ _ ?_ (fun hHeld => ?_)
    · exact ⟨ldA (bytesV a) [_, _, _, _, _] hN4 (HVA.out) (List.take_length), ldA (bytesV b) [_, _, _, _] hN4 (HVB.out) (List.take_length), ldA (bytesV I) [_, _, _] hN4 (HVI.out) (List.take_length), ldA (bytesV I) [_] hN4 (HVI.out) (List.take_length), ldA ([.int .i64 E, .int .i64 A]) [_, _] hN4 (rfl) (rfl), ldA ([.int .i64 E, .int .i64 A]) [] hN4 (rfl) (rfl)⟩
    clear hK K
    (try simp only [Act.put, List.setIfInBounds_toArray, List.set_cons_zero, List.set_cons_succ])
    refine wpAnyH_take (i := 12) (oi := ⟨some 37, _, _, _, _, _⟩) (v := ?_) rfl (by kernel_rfl) (by kernel_rfl) (by kernel_rfl) (fun _ _ _ h => h) (Or.inl ⟨by rfl, ?_⟩) (by assumption) ?_
    rotate_left
    · intro w hSw; (try dsimp only at hSw); go_simp; try with_reducible rfl
    (try simp only [Act.put, List.setIfInBounds_toArray, List.set_cons_zero, List.set_cons_succ])
    refine wpAnyH_take (i := 13) (oi := ⟨some 38, _, _, _, _, _⟩) (v := ?_) rfl (by kernel_rfl) (by kernel_rfl) (by kernel_rfl) (fun _ _ _ h => h) (Or.inl ⟨by rfl, ?_⟩) (by assumption) ?_
    rotate_left
    · intro w hSw; (try dsimp only at hSw); go_simp; try with_reducible rfl
    (try simp only [Act.put, List.setIfInBounds_toArray, List.set_cons_zero, List.set_cons_succ])
    refine wpAnyH_take (i := 14) (oi := ⟨some 39, _, _, _, _, _⟩) (v := ?_) rfl (by kernel_rfl) (by kernel_rfl) (by kernel_rfl) (fun _ _ _ h => h) (Or.inl ⟨by rfl, ?_⟩) (by assumption) ?_
    rotate_left
    · intro w hSw; (try dsimp only at hSw); go_simp; try with_reducible rfl
    (try simp only [Act.put, List.setIfInBounds_toArray, List.set_cons_zero, List.set_cons_succ])
    refine wpAnyH_take (i := 15) (oi := ⟨some 40, _, _, _, _, _⟩) (v := ?_) rfl (by kernel_rfl) (by kernel_rfl) (by kernel_rfl) (fun _ _ _ h => h) (Or.inl ⟨by rfl, ?_⟩) (by assumption) ?_
    rotate_left
    · intro w hSw; (try dsimp only at hSw); go_simp; try with_reducible rfl
    (try simp only [Act.put, List.setIfInBounds_toArray, List.set_cons_zero, List.set_cons_succ])
    refine wpAnyH_take (i := 16) (oi := ⟨some 41, _, _, _, _, _⟩) (v := ?_) rfl (by kernel_rfl) (by kernel_rfl) (by kernel_rfl) (fun _ _ _ h => h) (Or.inl ⟨by rfl, ?_⟩) (by assumption) ?_
    rotate_left
    · intro w hSw; (try dsimp only at hSw); go_simp; try with_reducible rfl
    (try simp only [Act.put, List.setIfInBounds_toArray, List.set_cons_zero, List.set_cons_succ])
    refine wpAnyH_ready (rs := [17]) (by kernel_rfl) (by simp) ?_
    refine (AllReadyH.cons (o := ⟨some 42, _, _, _, _, _⟩) rfl (fun K hK => ?_) AllReadyH.nil)
    rw [if_pos (by rfl)]
    refine ow_bare ?_
    refine ow_of_wl (ops := #[]) (by rfl) ?_
    refine wl_eql_bytes rfl rfl rfl rfl ⟨HI.out, HI.out⟩ ?_
    rw [beq_self_eq_true]
    refine q0_nil ?_
    refine hK.out _ _ ?_ (fun hHeld => ?_)
    · exact ⟨ldA (bytesV a) [_, _, _, _, _] hN4 (HVA.out) (List.take_length), ldA (bytesV b) [_, _, _, _] hN4 (HVB.out) (List.take_length), ldA (bytesV I) [_, _, _] hN4 (HVI.out) (List.take_length), ldA (bytesV I) [_] hN4 (HVI.out) (List.take_length), ldA ([.int .i64 E, .int .i64 A]) [_, _] hN4 (rfl) (rfl), ldA ([.int .i64 E, .int .i64 A]) [] hN4 (rfl) (rfl)⟩
    clear hK K
    (try simp only [Act.put, List.setIfInBounds_toArray, List.set_cons_zero, List.set_cons_succ])
    refine wpAnyH_take (i := 18) (oi := ⟨some 43, _, _, _, _, _⟩) (v := ?_) rfl (by kernel_rfl) (by kernel_rfl) (by kernel_rfl) (fun _ _ _ h => h) (Or.inl ⟨by rfl, ?_⟩) (by assumption) ?_
    rotate_left
    · intro w hSw; (try dsimp only at hSw); go_simp; try with_reducible rfl
    (try simp only [Act.put, List.setIfInBounds_toArray, List.set_cons_zero, List.set_cons_succ])
    refine wpAnyH_take (i := 19) (oi := ⟨some 44, _, _, _, _, _⟩) (v := ?_) rfl (by kernel_rfl) (by kernel_rfl) (by kernel_rfl) (fun _ _ _ h => h) (Or.inl ⟨by rfl, ?_⟩) (by assumption) ?_
    rotate_left
    · intro w hSw; (try dsimp only at hSw); go_simp; try with_reducible rfl
    (try simp only [Act.put, List.setIfInBounds_toArray, List.set_cons_zero, List.set_cons_succ])
    refine wpAnyH_take (i := 20) (oi := ⟨some 45, _, _, _, _, _⟩) (v := ?_) rfl (by kernel_rfl) (by kernel_rfl) (by kernel_rfl) (fun _ _ _ h => h) (Or.inl ⟨by rfl, ?_⟩) (by assumption) ?_
    rotate_left
    · intro w hSw; (try dsimp only at hSw); go_simp; try with_reducible rfl
    (try simp only [Act.put, List.setIfInBounds_toArray, List.set_cons_zero, List.set_cons_succ])
    refine wpAnyH_take (i := 21) (oi := ⟨some 46, _, _, _, _, _⟩) (v := ?_) rfl (by kernel_rfl) (by kernel_rfl) (by kernel_rfl) (fun _ _ _ h => h) (Or.inl ⟨by rfl, ?_⟩) (by assumption) ?_
    rotate_left
    · intro w hSw; (try dsimp only at hSw); go_simp; try with_reducible rfl
    (try simp only [Act.put, List.setIfInBounds_toArray, List.set_cons_zero, List.set_cons_succ])
    refine wpAnyH_take (i := 22) (oi := ⟨some 47, _, _, _, _, _⟩) (v := ?_) rfl (by kernel_rfl) (by kernel_rfl) (by kernel_rfl) (fun _ _ _ h => h) (Or.inl ⟨by rfl, ?_⟩) (by assumption) ?_
    rotate_left
    · intro w hSw; (try dsimp only at hSw); go_simp; try with_reducible rfl
    (try simp only [Act.put, List.setIfInBounds_toArray, List.set_cons_zero, List.set_cons_succ])
    refine wpAnyH_take (i := 23) (oi := ⟨some 48, _, _, _, _, _⟩) (v := ?_) rfl (by kernel_rfl) (by kernel_rfl) (by kernel_rfl) (fun _ _ _ h => h) (Or.inl ⟨by rfl, ?_⟩) (by assumption) ?_
    rotate_left
    · intro w hSw; (try dsimp only at hSw); go_simp; try with_reducible rfl
    (try simp only [Act.put, List.setIfInBounds_toArray, List.set_cons_zero, List.set_cons_succ])
    refine wpAnyH_take (i := 24) (oi := ⟨some 49, _, _, _, _, _⟩) (v := ?_) rfl (by kernel_rfl) (by kernel_rfl) (by kernel_rfl) (fun _ _ _ h => h) (Or.inl ⟨by rfl, ?_⟩) (by assumption) ?_
    rotate_left
    · intro w hSw; (try dsimp only at hSw); go_simp; try with_reducible rfl
    (try simp only [Act.put, List.setIfInBounds_toArray, List.set_cons_zero, List.set_cons_succ])
    refine wpAnyH_ready (rs := [25]) (by kernel_rfl) (by simp) ?_
    refine (AllReadyH.cons (o := ⟨some 50, _, _, _, _, _⟩) rfl (fun K hK => ?_) AllReadyH.nil)
    go_simp
    go_at_call 9
    refine (awake_any _).mono ?_
    rintro _ _ ⟨rfl, h4⟩
    have hN5 := St.call0 hN4 h4
    clear h4
    refine hK.out _ _ ?_ (fun hHeld => ?_)
    · exact ⟨ldA (bytesV a) [_, _, _, _, _] hN5 (HVA.out) (List.take_length), ldA (bytesV b) [_, _, _, _] hN5 (HVB.out) (List.take_length), ldA (bytesV I) [_, _, _] hN5 (HVI.out) (List.take_length), ldA (bytesV I) [_] hN5 (HVI.out) (List.take_length), ldA ([.int .i64 E, .int .i64 A]) [_, _] hN5 (rfl) (rfl), ldA ([.int .i64 E, .int .i64 A]) [] hN5 (rfl) (rfl)⟩
    clear hK K
    (try simp only [Act.put, List.setIfInBounds_toArray, List.set_cons_zero, List.set_cons_succ])
    refine wpAnyH_take (i := 26) (oi := ⟨some 51, _, _, _, _, _⟩) (v := ?_) rfl (by kernel_rfl) (by kernel_rfl) (by kernel_rfl) (fun _ _ _ h => h) (Or.inl ⟨by rfl, ?_⟩) (by assumption) ?_
    rotate_left
    · intro w hSw; (try dsimp only at hSw); go_simp; try with_reducible rfl
    (try simp only [Act.put, List.setIfInBounds_toArray, List.set_cons_zero, List.set_cons_succ])
    refine wpAnyH_take (i := 27) (oi := ⟨some 6, _, _, _, _, _⟩) (v := ?_) rfl (by kernel_rfl) (by kernel_rfl) (by kernel_rfl) (fun _ _ _ h => h) (Or.inl ⟨by rfl, ?_⟩) (by assumption) ?_
    rotate_left
    · intro w hSw; (try dsimp only at hSw); go_simp; try with_reducible rfl
    (try simp only [Act.put, List.setIfInBounds_toArray, List.set_cons_zero, List.set_cons_succ])
    refine wpAnyH_done (by kernel_rfl) ?_ _
    clear hHeld
    go_wp2_with (first | go_big_skip | go_big_guard | fail)
    go_ret
    exact ⟨by simp, hN5.nil⟩
end
end Go.Proofs.Ytilgjldnlgfehaa
