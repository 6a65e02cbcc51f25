import Derived.Test.YtilgjldnlgfehaaH3
import Derived.Test.YtilgjldnlgfehaaSepP
import Derived.Deep.DeepCutAuto
namespace Go.Proofs.Ytilgjldnlgfehaa
set_option linter.unusedVariables false
set_option linter.unusedSimpArgs false
open Go.RowKit Hp
attribute [local irreducible] Go.Calls
set_option maxHeartbeats 4000000
set_option maxRecDepth 100000
theorem Hp.St.ne_new {w0 w : World} {L : List HA} {g T b : Nat} {cs : List Value} (h : St w0 [] w L) (hm : HA.blk g T cs ∈ L) (hb : b < w0.heap.size) : b ≠ g := by
  rcases h.own _ hm g rfl with h1 | h1
  · omega
  · cases h1
theorem Rd_lt {w : World} {b off c n : Nat} {xs : List UInt8} (h : Rd w (.slice (some ⟨b, off, none⟩) n c) 1 n (bytesV xs)) (hn : 0 < n) : b < w.heap.size := by
  have hl := h.bd.2.2
  obtain ⟨b', off', e, hr⟩ := h.at (k := 0) hn
  cases e
  rw [length_bytesV] at hl
  have := byte_cell hr (k := 0) (by omega)
  exact World.block_lt_of_cell? w _ this
theorem bld8 (a b c d e f g h : Int) : Try.prog.built 58 [(0, .int .u32 a), (1, .int .u32 b), (2, .int .u32 c), (3, .int .u32 d), (4, .int .u32 e), (5, .int .u32 f), (6, .int .u32 g), (7, .int .u32 h)] = some #[.int .u32 a, .int .u32 b, .int .u32 c, .int .u32 d, .int .u32 e, .int .u32 f, .int .u32 g, .int .u32 h] := by kernel_rfl
theorem st_setL {w0 w : World} {M : List Nat} {g T k : Nat} {l : List Wd} {x : Wd} (L1 : List HA) {L2 : List HA} (hk : k < l.length) (h : St w0 M w (L1 ++ .blk g T (putAt (wordsV l) k (Value.cells (.int .u32 (wI x))).toList) :: L2)) : St w0 M w (L1 ++ .blk g T (wordsV (l.set k x)) :: L2) := by
  rw [← put_words l hk x]
  exact h
def addP (x y : List Wd) : Nat → List Wd
  | 0 => x
  | j + 1 => (addP x y j).set j (x.getD j 0 + y.getD j 0)
theorem length_addP (x y : List Wd) (j : Nat) : (addP x y j).length = x.length := by
  induction j with
  | zero => rfl
  | succ j ih => simp [addP, ih]
theorem addP_get (x y : List Wd) : ∀ (j i : Nat), j ≤ i → (addP x y j).getD i 0 = x.getD i 0
  | 0, _, _ => rfl
  | j + 1, i, h => by
    rw [addP, words_set_get _ _ _ _ (by omega), addP_get x y j i (by omega)]
theorem addP_all (s r : S8) : addP s.list r.list 8 = (s.add r).list := rfl
theorem loadedSt (A : Addr) : loadVar 58 A = loadVarH 58 A := rfl
section
attribute [local go_sem ↓] loadedB loadedW storedW conv8 loadedSt
attribute [local go_sem 5000] add32 and32 or32 xor32 not32 shl8u64e shl16u64e shl24u64e shr3u64e shr10u64e
theorem turned_any (s : S8) (p : List UInt8) (b off c : Nat) (w : World) (hp : Rd w (.slice (some ⟨b, off, none⟩) 64 c) 1 64 (bytesV p)) (hl : p.length = 64) :
    Calls Try.prog 36 #[.agg (wordsV s.list).toArray, .slice (some ⟨b, off, none⟩) 64 c] w fun e w' => e = .returned (.agg (wordsV (s.turn p).list).toArray) ∧ St w [] w' [] := by
  have hst := St.refl w
  have Hl := hid hl
  have hb := Rd_lt hp (by decide)
  clear hl
  go_enter Try.func36, Try.ntmps36
  go_upto_region 1 with (first | go_big_skip | go_big_guard | (refine wl_boxA hst rfl rfl rfl ?_; intro g2 _ hst1; clear hst) | (refine wl_alloc hst1 rfl rfl ?_; intro g4 _ hst2; clear hst1))
  (try simp only [Act.put, List.setIfInBounds_toArray, List.set_cons_zero, List.set_cons_succ])
  go_cut [5, 6] (fun a b wx => ∃ g5 g6, a = .pointer (some ⟨g5, 0, none⟩) ∧ b = .pointer (some ⟨g6, 0, none⟩) ∧ St w [] wx [.blk g6 60 (wordsV kT), .blk g5 58 (wordsV s.list), .blk g4 58 (List.replicate 8 (.int .u32 0)), .blk g2 58 (wordsV s.list)])
  case first =>
    have hD := hst2.drew
    clear hst2
    refine wp_region_held_drew (S := (fun w' => (loadVarH 58 ⟨g2, 0, none⟩).run Try.prog w' = .ok (.agg (List.toArray (wordsV s.list))) w')) (by kernel_rfl) (by exact ldA (wordsV s.list) [_] hD (rfl) (rfl)) (fun hHeld => ?_)
    refine wpAnyH_take (i := 0) (oi := ⟨some 14, _, _, _, _, _⟩) (v := ?_) rfl (by kernel_rfl) (by kernel_rfl) (by kernel_rfl) (fun _ _ _ h => h) (Or.inl ⟨by rfl, ?_⟩) (by assumption) ?_
    rotate_left
    · intro w hSw; (try dsimp only at hSw); go_simp; try with_reducible rfl
    (try simp only [Act.put, List.setIfInBounds_toArray, List.set_cons_zero, List.set_cons_succ])
    refine wpAnyH_ready (rs := [1, 2, 3]) (by kernel_rfl) (by simp) ?_
    refine (AllReadyH.cons (o := ⟨some 15, _, _, _, _, _⟩) rfl (fun K hK => ?_) (AllReadyH.cons (o := ⟨some 5, _, _, _, _, _⟩) rfl (fun K hK => ?_) (AllReadyH.cons (o := ⟨some 6, _, _, _, _, _⟩) rfl (fun K hK => ?_) AllReadyH.nil)))
    · go_simp
      go_at_call 46
      refine (keys_any _).mono ?_
      rintro _ _ ⟨rfl, h4⟩
      have hN1 := St.call0 hD h4
      clear h4
      refine hK.out _ _ ?_ (fun hHeld => ?_)
      · exact ldA (wordsV s.list) [_] hN1 (rfl) (rfl)
      clear hK K
      (try simp only [Act.put, List.setIfInBounds_toArray, List.set_cons_zero, List.set_cons_succ])
      refine wpAnyH_ready (rs := [2, 3]) (by kernel_rfl) (by simp) ?_
      refine (AllReadyH.cons (o := ⟨some 5, _, _, _, _, _⟩) rfl (fun K hK => ?_) (AllReadyH.cons (o := ⟨some 6, _, _, _, _, _⟩) rfl (fun K hK => ?_) AllReadyH.nil))
      · rw [if_pos (by rfl)]
        apply ow_alloc hN1
        rfl
        infer_instance
        intro g5 _ hN2
        refine hK.out _ _ ?_ (fun hHeld => ?_)
        · exact ldA (wordsV s.list) [_, _] hN2 (rfl) (rfl)
        clear hK K
        (try simp only [Act.put, List.setIfInBounds_toArray, List.set_cons_zero, List.set_cons_succ])
        refine wpAnyH_ready (rs := [3]) (by kernel_rfl) (by simp) ?_
        refine (AllReadyH.cons (o := ⟨some 6, _, _, _, _, _⟩) rfl (fun K hK => ?_) AllReadyH.nil)
        rw [if_pos (by rfl)]
        apply ow_alloc hN2
        rfl
        infer_instance
        intro g6 _ hN3
        refine hK.out _ _ ?_ (fun hHeld => ?_)
        · exact ldA (wordsV s.list) [_, _, _] hN3 (rfl) (rfl)
        clear hK K
        (try simp only [Act.put, List.setIfInBounds_toArray, List.set_cons_zero, List.set_cons_succ])
        refine wpAnyH_ready (rs := [4]) (by kernel_rfl) (by simp) ?_
        refine (AllReadyH.cons (o := ⟨none, _, _, _, _, _⟩) rfl (fun K hK => ?_) AllReadyH.nil)
        rw [if_pos (by rfl)]
        apply ow_storeA [_] hN3
        rfl
        exact rfl
        exact rfl
        infer_instance
        exact rfl
        exact rfl
        exact rfl
        intro _ hN4
        refine hK.out _ _ ?_ (fun hHeld => ?_)
        · exact ldA (wordsV s.list) [_, _, _] hN4 (rfl) (rfl)
        clear hK K
        (try simp only [Act.put, List.setIfInBounds_toArray, List.set_cons_zero, List.set_cons_succ])
        refine wpAnyH_ready (rs := [5]) (by kernel_rfl) (by simp) ?_
        refine (AllReadyH.cons (o := ⟨none, _, _, _, _, _⟩) rfl (fun K hK => ?_) AllReadyH.nil)
        rw [if_pos (by rfl)]
        apply ow_storeA [] hN4
        rfl
        exact rfl
        exact rfl
        infer_instance
        exact rfl
        exact rfl
        exact rfl
        intro _ hN5
        refine hK.out _ _ ?_ (fun hHeld => ?_)
        · exact ldA (wordsV s.list) [_, _, _] hN5 (rfl) (rfl)
        clear hK K
        (try simp only [Act.put, List.setIfInBounds_toArray, List.set_cons_zero, List.set_cons_succ])
        refine wpAnyH_done (by kernel_rfl) ?_ _
        clear hHeld
        go_wp2_with (first | go_big_skip | go_big_guard | fail)
        go_meet
        exact ⟨g5, g6, rfl, rfl, (St.front (L1 := [_, _, _]) (St.front (L1 := [_, _, _]) (St.front (L1 := [_, _, _]) (St.front (L1 := [_, _, _]) hN5))))⟩
      · rw [if_pos (by rfl)]
        apply ow_alloc hN1
        rfl
        infer_instance
        intro g6 _ hN6
        refine hK.out _ _ ?_ (fun hHeld => ?_)
        · exact ldA (wordsV s.list) [_, _] hN6 (rfl) (rfl)
        clear hK K
        (try simp only [Act.put, List.setIfInBounds_toArray, List.set_cons_zero, List.set_cons_succ])
        refine wpAnyH_ready (rs := [2]) (by kernel_rfl) (by simp) ?_
        refine (AllReadyH.cons (o := ⟨some 5, _, _, _, _, _⟩) rfl (fun K hK => ?_) AllReadyH.nil)
        rw [if_pos (by rfl)]
        apply ow_alloc hN6
        rfl
        infer_instance
        intro g5 _ hN7
        refine hK.out _ _ ?_ (fun hHeld => ?_)
        · exact ldA (wordsV s.list) [_, _, _] hN7 (rfl) (rfl)
        clear hK K
        (try simp only [Act.put, List.setIfInBounds_toArray, List.set_cons_zero, List.set_cons_succ])
        refine wpAnyH_ready (rs := [4]) (by kernel_rfl) (by simp) ?_
        refine (AllReadyH.cons (o := ⟨none, _, _, _, _, _⟩) rfl (fun K hK => ?_) AllReadyH.nil)
        rw [if_pos (by rfl)]
        apply ow_storeA [] hN7
        rfl
        exact rfl
        exact rfl
        infer_instance
        exact rfl
        exact rfl
        exact rfl
        intro _ hN8
        refine hK.out _ _ ?_ (fun hHeld => ?_)
        · exact ldA (wordsV s.list) [_, _, _] hN8 (rfl) (rfl)
        clear hK K
        (try simp only [Act.put, List.setIfInBounds_toArray, List.set_cons_zero, List.set_cons_succ])
        refine wpAnyH_ready (rs := [5]) (by kernel_rfl) (by simp) ?_
        refine (AllReadyH.cons (o := ⟨none, _, _, _, _, _⟩) rfl (fun K hK => ?_) AllReadyH.nil)
        rw [if_pos (by rfl)]
        apply ow_storeA [_] hN8
        rfl
        exact rfl
        exact rfl
        infer_instance
        exact rfl
        exact rfl
        exact rfl
        intro _ hN9
        refine hK.out _ _ ?_ (fun hHeld => ?_)
        · exact ldA (wordsV s.list) [_, _, _] hN9 (rfl) (rfl)
        clear hK K
        (try simp only [Act.put, List.setIfInBounds_toArray, List.set_cons_zero, List.set_cons_succ])
        refine wpAnyH_done (by kernel_rfl) ?_ _
        clear hHeld
        go_wp2_with (first | go_big_skip | go_big_guard | fail)
        go_meet
        exact ⟨g5, g6, rfl, rfl, (St.front (L1 := [_, _, _]) (St.front (L1 := [_, _]) (St.front (L1 := [_, _, _]) (St.front (L1 := [_, _, _]) hN9))))⟩
    · rw [if_pos (by rfl)]
      apply ow_alloc hD
      rfl
      infer_instance
      intro g5 _ hN10
      refine hK.out _ _ ?_ (fun hHeld => ?_)
      · exact ldA (wordsV s.list) [_, _] hN10 (rfl) (rfl)
      clear hK K
      (try simp only [Act.put, List.setIfInBounds_toArray, List.set_cons_zero, List.set_cons_succ])
      refine wpAnyH_ready (rs := [1, 3]) (by kernel_rfl) (by simp) ?_
      refine (AllReadyH.cons (o := ⟨some 15, _, _, _, _, _⟩) rfl (fun K hK => ?_) (AllReadyH.cons (o := ⟨some 6, _, _, _, _, _⟩) rfl (fun K hK => ?_) AllReadyH.nil))
      · go_simp
        go_at_call 46
        refine (keys_any _).mono ?_
        rintro _ _ ⟨rfl, h4⟩
        have hN11 := St.call0 hN10 h4
        clear h4
        refine hK.out _ _ ?_ (fun hHeld => ?_)
        · exact ldA (wordsV s.list) [_, _] hN11 (rfl) (rfl)
        clear hK K
        (try simp only [Act.put, List.setIfInBounds_toArray, List.set_cons_zero, List.set_cons_succ])
        refine wpAnyH_ready (rs := [3]) (by kernel_rfl) (by simp) ?_
        refine (AllReadyH.cons (o := ⟨some 6, _, _, _, _, _⟩) rfl (fun K hK => ?_) AllReadyH.nil)
        rw [if_pos (by rfl)]
        apply ow_alloc hN11
        rfl
        infer_instance
        intro g6 _ hN12
        refine hK.out _ _ ?_ (fun hHeld => ?_)
        · exact ldA (wordsV s.list) [_, _, _] hN12 (rfl) (rfl)
        clear hK K
        (try simp only [Act.put, List.setIfInBounds_toArray, List.set_cons_zero, List.set_cons_succ])
        refine wpAnyH_ready (rs := [4]) (by kernel_rfl) (by simp) ?_
        refine (AllReadyH.cons (o := ⟨none, _, _, _, _, _⟩) rfl (fun K hK => ?_) AllReadyH.nil)
        rw [if_pos (by rfl)]
        apply ow_storeA [_] hN12
        rfl
        exact rfl
        exact rfl
        infer_instance
        exact rfl
        exact rfl
        exact rfl
        intro _ hN13
        refine hK.out _ _ ?_ (fun hHeld => ?_)
        · exact ldA (wordsV s.list) [_, _, _] hN13 (rfl) (rfl)
        clear hK K
        (try simp only [Act.put, List.setIfInBounds_toArray, List.set_cons_zero, List.set_cons_succ])
        refine wpAnyH_ready (rs := [5]) (by kernel_rfl) (by simp) ?_
        refine (AllReadyH.cons (o := ⟨none, _, _, _, _, _⟩) rfl (fun K hK => ?_) AllReadyH.nil)
        rw [if_pos (by rfl)]
        apply ow_storeA [] hN13
        rfl
        exact rfl
        exact rfl
        infer_instance
        exact rfl
        exact rfl
        exact rfl
        intro _ hN14
        refine hK.out _ _ ?_ (fun hHeld => ?_)
        · exact ldA (wordsV s.list) [_, _, _] hN14 (rfl) (rfl)
        clear hK K
        (try simp only [Act.put, List.setIfInBounds_toArray, List.set_cons_zero, List.set_cons_succ])
        refine wpAnyH_done (by kernel_rfl) ?_ _
        clear hHeld
        go_wp2_with (first | go_big_skip | go_big_guard | fail)
        go_meet
        exact ⟨g5, g6, rfl, rfl, (St.front (L1 := [_, _, _]) (St.front (L1 := [_, _, _]) (St.front (L1 := [_, _, _]) (St.front (L1 := [_, _, _]) hN14))))⟩
      · rw [if_pos (by rfl)]
        apply ow_alloc hN10
        rfl
        infer_instance
        intro g6 _ hN15
        refine hK.out _ _ ?_ (fun hHeld => ?_)
        · exact ldA (wordsV s.list) [_, _, _] hN15 (rfl) (rfl)
        clear hK K
        (try simp only [Act.put, List.setIfInBounds_toArray, List.set_cons_zero, List.set_cons_succ])
        refine wpAnyH_ready (rs := [1]) (by kernel_rfl) (by simp) ?_
        refine (AllReadyH.cons (o := ⟨some 15, _, _, _, _, _⟩) rfl (fun K hK => ?_) AllReadyH.nil)
        go_simp
        go_at_call 46
        refine (keys_any _).mono ?_
        rintro _ _ ⟨rfl, h4⟩
        have hN16 := St.call0 hN15 h4
        clear h4
        refine hK.out _ _ ?_ (fun hHeld => ?_)
        · exact ldA (wordsV s.list) [_, _, _] hN16 (rfl) (rfl)
        clear hK K
        (try simp only [Act.put, List.setIfInBounds_toArray, List.set_cons_zero, List.set_cons_succ])
        refine wpAnyH_ready (rs := [4]) (by kernel_rfl) (by simp) ?_
        refine (AllReadyH.cons (o := ⟨none, _, _, _, _, _⟩) rfl (fun K hK => ?_) AllReadyH.nil)
        rw [if_pos (by rfl)]
        apply ow_storeA [_] hN16
        rfl
        exact rfl
        exact rfl
        infer_instance
        exact rfl
        exact rfl
        exact rfl
        intro _ hN17
        refine hK.out _ _ ?_ (fun hHeld => ?_)
        · exact ldA (wordsV s.list) [_, _, _] hN17 (rfl) (rfl)
        clear hK K
        (try simp only [Act.put, List.setIfInBounds_toArray, List.set_cons_zero, List.set_cons_succ])
        refine wpAnyH_ready (rs := [5]) (by kernel_rfl) (by simp) ?_
        refine (AllReadyH.cons (o := ⟨none, _, _, _, _, _⟩) rfl (fun K hK => ?_) AllReadyH.nil)
        rw [if_pos (by rfl)]
        apply ow_storeA [] hN17
        rfl
        exact rfl
        exact rfl
        infer_instance
        exact rfl
        exact rfl
        exact rfl
        intro _ hN18
        refine hK.out _ _ ?_ (fun hHeld => ?_)
        · exact ldA (wordsV s.list) [_, _, _] hN18 (rfl) (rfl)
        clear hK K
        (try simp only [Act.put, List.setIfInBounds_toArray, List.set_cons_zero, List.set_cons_succ])
        refine wpAnyH_done (by kernel_rfl) ?_ _
        clear hHeld
        go_wp2_with (first | go_big_skip | go_big_guard | fail)
        go_meet
        exact ⟨g5, g6, rfl, rfl, (St.front (L1 := [_, _, _]) (St.front (L1 := [_, _, _]) (St.front (L1 := [_, _, _]) (St.front (L1 := [_, _, _]) hN18))))⟩
    · rw [if_pos (by rfl)]
      apply ow_alloc hD
      rfl
      infer_instance
      intro g6 _ hN19
      refine hK.out _ _ ?_ (fun hHeld => ?_)
      · exact ldA (wordsV s.list) [_, _] hN19 (rfl) (rfl)
      clear hK K
      (try simp only [Act.put, List.setIfInBounds_toArray, List.set_cons_zero, List.set_cons_succ])
      refine wpAnyH_ready (rs := [1, 2]) (by kernel_rfl) (by simp) ?_
      refine (AllReadyH.cons (o := ⟨some 15, _, _, _, _, _⟩) rfl (fun K hK => ?_) (AllReadyH.cons (o := ⟨some 5, _, _, _, _, _⟩) rfl (fun K hK => ?_) AllReadyH.nil))
      · go_simp
        go_at_call 46
        refine (keys_any _).mono ?_
        rintro _ _ ⟨rfl, h4⟩
        have hN20 := St.call0 hN19 h4
        clear h4
        refine hK.out _ _ ?_ (fun hHeld => ?_)
        · exact ldA (wordsV s.list) [_, _] hN20 (rfl) (rfl)
        clear hK K
        (try simp only [Act.put, List.setIfInBounds_toArray, List.set_cons_zero, List.set_cons_succ])
        refine wpAnyH_ready (rs := [2]) (by kernel_rfl) (by simp) ?_
        refine (AllReadyH.cons (o := ⟨some 5, _, _, _, _, _⟩) rfl (fun K hK => ?_) AllReadyH.nil)
        rw [if_pos (by rfl)]
        apply ow_alloc hN20
        rfl
        infer_instance
        intro g5 _ hN21
        refine hK.out _ _ ?_ (fun hHeld => ?_)
        · exact ldA (wordsV s.list) [_, _, _] hN21 (rfl) (rfl)
        clear hK K
        (try simp only [Act.put, List.setIfInBounds_toArray, List.set_cons_zero, List.set_cons_succ])
        refine wpAnyH_ready (rs := [4]) (by kernel_rfl) (by simp) ?_
        refine (AllReadyH.cons (o := ⟨none, _, _, _, _, _⟩) rfl (fun K hK => ?_) AllReadyH.nil)
        rw [if_pos (by rfl)]
        apply ow_storeA [] hN21
        rfl
        exact rfl
        exact rfl
        infer_instance
        exact rfl
        exact rfl
        exact rfl
        intro _ hN22
        refine hK.out _ _ ?_ (fun hHeld => ?_)
        · exact ldA (wordsV s.list) [_, _, _] hN22 (rfl) (rfl)
        clear hK K
        (try simp only [Act.put, List.setIfInBounds_toArray, List.set_cons_zero, List.set_cons_succ])
        refine wpAnyH_ready (rs := [5]) (by kernel_rfl) (by simp) ?_
        refine (AllReadyH.cons (o := ⟨none, _, _, _, _, _⟩) rfl (fun K hK => ?_) AllReadyH.nil)
        rw [if_pos (by rfl)]
        apply ow_storeA [_] hN22
        rfl
        exact rfl
        exact rfl
        infer_instance
        exact rfl
        exact rfl
        exact rfl
        intro _ hN23
        refine hK.out _ _ ?_ (fun hHeld => ?_)
        · exact ldA (wordsV s.list) [_, _, _] hN23 (rfl) (rfl)
        clear hK K
        (try simp only [Act.put, List.setIfInBounds_toArray, List.set_cons_zero, List.set_cons_succ])
        refine wpAnyH_done (by kernel_rfl) ?_ _
        clear hHeld
        go_wp2_with (first | go_big_skip | go_big_guard | fail)
        go_meet
        exact ⟨g5, g6, rfl, rfl, (St.front (L1 := [_, _, _]) (St.front (L1 := [_, _]) (St.front (L1 := [_, _, _]) (St.front (L1 := [_, _, _]) hN23))))⟩
      · rw [if_pos (by rfl)]
        apply ow_alloc hN19
        rfl
        infer_instance
        intro g5 _ hN24
        refine hK.out _ _ ?_ (fun hHeld => ?_)
        · exact ldA (wordsV s.list) [_, _, _] hN24 (rfl) (rfl)
        clear hK K
        (try simp only [Act.put, List.setIfInBounds_toArray, List.set_cons_zero, List.set_cons_succ])
        refine wpAnyH_ready (rs := [1]) (by kernel_rfl) (by simp) ?_
        refine (AllReadyH.cons (o := ⟨some 15, _, _, _, _, _⟩) rfl (fun K hK => ?_) AllReadyH.nil)
        go_simp
        go_at_call 46
        refine (keys_any _).mono ?_
        rintro _ _ ⟨rfl, h4⟩
        have hN25 := St.call0 hN24 h4
        clear h4
        refine hK.out _ _ ?_ (fun hHeld => ?_)
        · exact ldA (wordsV s.list) [_, _, _] hN25 (rfl) (rfl)
        clear hK K
        (try simp only [Act.put, List.setIfInBounds_toArray, List.set_cons_zero, List.set_cons_succ])
        refine wpAnyH_ready (rs := [4]) (by kernel_rfl) (by simp) ?_
        refine (AllReadyH.cons (o := ⟨none, _, _, _, _, _⟩) rfl (fun K hK => ?_) AllReadyH.nil)
        rw [if_pos (by rfl)]
        apply ow_storeA [] hN25
        rfl
        exact rfl
        exact rfl
        infer_instance
        exact rfl
        exact rfl
        exact rfl
        intro _ hN26
        refine hK.out _ _ ?_ (fun hHeld => ?_)
        · exact ldA (wordsV s.list) [_, _, _] hN26 (rfl) (rfl)
        clear hK K
        (try simp only [Act.put, List.setIfInBounds_toArray, List.set_cons_zero, List.set_cons_succ])
        refine wpAnyH_ready (rs := [5]) (by kernel_rfl) (by simp) ?_
        refine (AllReadyH.cons (o := ⟨none, _, _, _, _, _⟩) rfl (fun K hK => ?_) AllReadyH.nil)
        rw [if_pos (by rfl)]
        apply ow_storeA [_] hN26
        rfl
        exact rfl
        exact rfl
        infer_instance
        exact rfl
        exact rfl
        exact rfl
        intro _ hN27
        refine hK.out _ _ ?_ (fun hHeld => ?_)
        · exact ldA (wordsV s.list) [_, _, _] hN27 (rfl) (rfl)
        clear hK K
        (try simp only [Act.put, List.setIfInBounds_toArray, List.set_cons_zero, List.set_cons_succ])
        refine wpAnyH_done (by kernel_rfl) ?_ _
        clear hHeld
        go_wp2_with (first | go_big_skip | go_big_guard | fail)
        go_meet
        exact ⟨g5, g6, rfl, rfl, (St.front (L1 := [_, _, _]) (St.front (L1 := [_, _]) (St.front (L1 := [_, _, _]) (St.front (L1 := [_, _, _]) hN27))))⟩
  case rest =>
    clear hst2
    obtain ⟨g5, g6, rfl, rfl, hst3⟩ := hcut
    go_wp2_with (first | go_big_skip | go_big_guard | (refine wl_alloc hst3 rfl rfl ?_; intro g7 _ hst4; clear hst3))
    have hst5 : St w [] _ [.blk g7 76 (wordsV (win p 0)), .blk g6 60 (wordsV kT), .blk g5 58 (wordsV s.list), .blk g4 58 (List.replicate 8 (.int .u32 0)), .blk g2 58 (wordsV (rnds s p 0).list)] := hst4
    clear hst4
    go_loopw [16] (fun q wr => ∃ i : Nat, i ≤ 64 ∧ q = .int .i64 i ∧ St w [] wr [.blk g7 76 (wordsV (win p i)), .blk g6 60 (wordsV kT), .blk g5 58 (wordsV s.list), .blk g4 58 (List.replicate 8 (.int .u32 0)), .blk g2 58 (wordsV (rnds s p i).list)]) (fun q _ => 64 - (intOf q).toNat)
    case atStart => exact ⟨0, by omega, rfl, hst5⟩
    case round =>
      clear hst5
      obtain ⟨i, hi, rfl, hst⟩ := hrel
      by_cases hi64 : i < 64
      · obtain ⟨r, hr⟩ : ∃ r, r = rnds s p i := ⟨_, rfl⟩
        obtain ⟨K, hK⟩ : ∃ K, K = kT.getD i 0 := ⟨_, rfl⟩
        obtain ⟨D, hD0⟩ : ∃ D, D = wdAt p i := ⟨_, rfl⟩
        have HR := hid (show rnds s p (i + 1) = r.rnd K D by rw [hr, hK, hD0]; rfl)
        have HD := hid hD0
        rw [← hr] at hst
        have gK := hid (show (wordsV kT)[i]? = some (.int .u32 (wI K)) by rw [words_get kT (by exact hi64), hK])
        have hi2 : (i : Int) < 64 := by omega
        clear hr hK hD0
        go_wp2_with (first | go_big_skip | go_big_guard | fail)
        have hD := hst.drew
        clear hst
        refine wp_region_held_drew (S := (fun w' => (loadVarH 35 ⟨g2, 0, none⟩).run Try.prog w' = .ok (.int .u32 (wI r.a)) w' ∧ (loadVarH 35 ⟨g2, 4, none⟩).run Try.prog w' = .ok (.int .u32 (wI r.e)) w')) (by kernel_rfl) (by exact ⟨ldS [_, _, _, _] hD rfl, ldS [_, _, _, _] hD rfl⟩) (fun hHeld => ?_)
        refine wpAnyH_take (i := 0) (oi := ⟨some 19, _, _, _, _, _⟩) (v := ?_) rfl (by kernel_rfl) (by kernel_rfl) (by kernel_rfl) (fun _ _ _ h => h) (Or.inl ⟨by rfl, ?_⟩) (by assumption) ?_
        rotate_left
        · intro w hSw; (try dsimp only at hSw); go_simp; try with_reducible rfl
        (try simp only [Act.put, List.setIfInBounds_toArray, List.set_cons_zero, List.set_cons_succ])
        refine wpAnyH_take (i := 1) (oi := ⟨some 20, _, _, _, _, _⟩) (v := ?_) rfl (by kernel_rfl) (by kernel_rfl) (by kernel_rfl) (fun _ _ _ h => h) (Or.inl ⟨by rfl, ?_⟩) (by assumption) ?_
        rotate_left
        · intro w hSw; (try dsimp only at hSw); go_simp; try with_reducible rfl
        (try simp only [Act.put, List.setIfInBounds_toArray, List.set_cons_zero, List.set_cons_succ])
        refine wpAnyH_take (i := 2) (oi := ⟨some 21, _, _, _, _, _⟩) (v := ?_) rfl (by kernel_rfl) (by kernel_rfl) (by kernel_rfl) (fun _ _ _ h => h) (Or.inl ⟨by rfl, ?_⟩) (by assumption) ?_
        rotate_left
        · intro w hSw; (try dsimp only at hSw); go_simp; try with_reducible rfl
        (try simp only [Act.put, List.setIfInBounds_toArray, List.set_cons_zero, List.set_cons_succ])
        refine wpAnyH_take (i := 3) (oi := ⟨some 22, _, _, _, _, _⟩) (v := ?_) rfl (by kernel_rfl) (by kernel_rfl) (by kernel_rfl) (fun _ _ _ h => h) (Or.inl ⟨by rfl, ?_⟩) (by assumption) ?_
        rotate_left
        · intro w hSw; (try dsimp only at hSw); go_simp; try with_reducible rfl
        (try simp only [Act.put, List.setIfInBounds_toArray, List.set_cons_zero, List.set_cons_succ])
        refine wpAnyH_take (i := 4) (oi := ⟨some 9, _, _, _, _, _⟩) (v := ?_) rfl (by kernel_rfl) (by kernel_rfl) (by kernel_rfl) (fun _ _ _ h => h) (Or.inl ⟨by rfl, ?_⟩) (by assumption) ?_
        rotate_left
        · intro w hSw; (try dsimp only at hSw); go_simp; try with_reducible rfl
        (try simp only [Act.put, List.setIfInBounds_toArray, List.set_cons_zero, List.set_cons_succ])
        refine wpAnyH_take (i := 5) (oi := ⟨some 10, _, _, _, _, _⟩) (v := ?_) rfl (by kernel_rfl) (by kernel_rfl) (by kernel_rfl) (fun _ _ _ h => h) (Or.inl ⟨by rfl, ?_⟩) (by assumption) ?_
        rotate_left
        · intro w hSw; (try dsimp only at hSw); go_simp; try with_reducible rfl
        (try simp only [Act.put, List.setIfInBounds_toArray, List.set_cons_zero, List.set_cons_succ])
        refine wpAnyH_done (by kernel_rfl) ?_ _
        clear hHeld
        go_wp2_with (first | go_big_skip | go_big_guard | fail)
        replace hD := hD.drew
        refine wp_region_held_drew (S := (fun w' => (loadVarH 35 ⟨g2, 7, none⟩).run Try.prog w' = .ok (.int .u32 (wI r.h)) w' ∧ (loadVarH 35 ⟨g2, 5, none⟩).run Try.prog w' = .ok (.int .u32 (wI r.f)) w' ∧ (loadVarH 35 ⟨g2, 6, none⟩).run Try.prog w' = .ok (.int .u32 (wI r.g)) w' ∧ (loadVarH 35 ⟨g6, i, none⟩).run Try.prog w' = .ok (.int .u32 (wI K)) w')) (by kernel_rfl) (by exact ⟨ldS [_, _, _, _] hD rfl, ldS [_, _, _, _] hD rfl, ldS [_, _, _, _] hD rfl, ldS [_] hD (gK.out)⟩) (fun hHeld => ?_)
        refine wpAnyH_take (i := 0) (oi := ⟨some 23, _, _, _, _, _⟩) (v := ?_) rfl (by kernel_rfl) (by kernel_rfl) (by kernel_rfl) (fun _ _ _ h => h) (Or.inl ⟨by rfl, ?_⟩) (by assumption) ?_
        rotate_left
        · intro w hSw; (try dsimp only at hSw); go_simp; try with_reducible rfl
        (try simp only [Act.put, List.setIfInBounds_toArray, List.set_cons_zero, List.set_cons_succ])
        refine wpAnyH_take (i := 1) (oi := ⟨some 24, _, _, _, _, _⟩) (v := ?_) rfl (by kernel_rfl) (by kernel_rfl) (by kernel_rfl) (fun _ _ _ h => h) (Or.inl ⟨by rfl, ?_⟩) (by assumption) ?_
        rotate_left
        · intro w hSw; (try dsimp only at hSw); go_simp; try with_reducible rfl
        (try simp only [Act.put, List.setIfInBounds_toArray, List.set_cons_zero, List.set_cons_succ])
        refine wpAnyH_take (i := 2) (oi := ⟨some 25, _, _, _, _, _⟩) (v := ?_) rfl (by kernel_rfl) (by kernel_rfl) (by kernel_rfl) (fun _ _ _ h => h) (Or.inl ⟨by rfl, ?_⟩) (by assumption) ?_
        rotate_left
        · intro w hSw; (try dsimp only at hSw); go_simp; try with_reducible rfl
        (try simp only [Act.put, List.setIfInBounds_toArray, List.set_cons_zero, List.set_cons_succ])
        refine wpAnyH_take (i := 4) (oi := ⟨some 27, _, _, _, _, _⟩) (v := ?_) rfl (by kernel_rfl) (by kernel_rfl) (by kernel_rfl) (fun _ _ _ h => h) (Or.inl ⟨by rfl, ?_⟩) (by assumption) ?_
        rotate_left
        · intro w hSw; (try dsimp only at hSw); go_simp; try with_reducible rfl
        (try simp only [Act.put, List.setIfInBounds_toArray, List.set_cons_zero, List.set_cons_succ])
        refine wpAnyH_take (i := 7) (oi := ⟨some 30, _, _, _, _, _⟩) (v := ?_) rfl (by kernel_rfl) (by kernel_rfl) (by kernel_rfl) (fun _ _ _ h => h) (Or.inl ⟨by rfl, ?_⟩) (by assumption) ?_
        rotate_left
        · intro w hSw; (try dsimp only at hSw); go_simp; try with_reducible rfl
        (try simp only [Act.put, List.setIfInBounds_toArray, List.set_cons_zero, List.set_cons_succ])
        refine wpAnyH_take (i := 11) (oi := ⟨some 34, _, _, _, _, _⟩) (v := ?_) rfl (by kernel_rfl) (by kernel_rfl) (by kernel_rfl) (fun _ _ _ h => h) (Or.inl ⟨by rfl, ?_⟩) (by assumption) ?_
        rotate_left
        · intro w hSw; (try dsimp only at hSw); go_simp; try with_reducible rfl
        (try simp only [Act.put, List.setIfInBounds_toArray, List.set_cons_zero, List.set_cons_succ])
        refine wpAnyH_take (i := 12) (oi := ⟨some 35, _, _, _, _, _⟩) (v := ?_) rfl (by kernel_rfl) (by kernel_rfl) (by kernel_rfl) (fun _ _ _ h => h) (Or.inl ⟨by rfl, ?_⟩) (by assumption) ?_
        rotate_left
        · intro w hSw; (try dsimp only at hSw); go_simp; try with_reducible rfl
        (try simp only [Act.put, List.setIfInBounds_toArray, List.set_cons_zero, List.set_cons_succ])
        refine wpAnyH_take (i := 13) (oi := ⟨some 36, _, _, _, _, _⟩) (v := ?_) rfl (by kernel_rfl) (by kernel_rfl) (by kernel_rfl) (fun _ _ _ h => h) (Or.inl ⟨by rfl, ?_⟩) (by assumption) ?_
        rotate_left
        · intro w hSw; (try dsimp only at hSw); go_simp; try with_reducible rfl
        (try simp only [Act.put, List.setIfInBounds_toArray, List.set_cons_zero, List.set_cons_succ])
        refine wpAnyH_take (i := 14) (oi := ⟨some 37, _, _, _, _, _⟩) (v := ?_) rfl (by kernel_rfl) (by kernel_rfl) (by kernel_rfl) (fun _ _ _ h => h) (Or.inl ⟨by rfl, ?_⟩) (by assumption) ?_
        rotate_left
        · intro w hSw; (try dsimp only at hSw); go_simp; try with_reducible rfl
        (try simp only [Act.put, List.setIfInBounds_toArray, List.set_cons_zero, List.set_cons_succ])
        refine wpAnyH_take (i := 15) (oi := ⟨some 38, _, _, _, _, _⟩) (v := ?_) rfl (by kernel_rfl) (by kernel_rfl) (by kernel_rfl) (fun _ _ _ h => h) (Or.inl ⟨by rfl, ?_⟩) (by assumption) ?_
        rotate_left
        · intro w hSw; (try dsimp only at hSw); go_simp; try with_reducible rfl
        (try simp only [Act.put, List.setIfInBounds_toArray, List.set_cons_zero, List.set_cons_succ])
        refine wpAnyH_take (i := 16) (oi := ⟨some 39, _, _, _, _, _⟩) (v := ?_) rfl (by kernel_rfl) (by kernel_rfl) (by kernel_rfl) (fun _ _ _ h => h) (Or.inl ⟨by rfl, ?_⟩) (by assumption) ?_
        rotate_left
        · intro w hSw; (try dsimp only at hSw); go_simp; try with_reducible rfl
        (try simp only [Act.put, List.setIfInBounds_toArray, List.set_cons_zero, List.set_cons_succ])
        refine wpAnyH_take (i := 17) (oi := ⟨some 40, _, _, _, _, _⟩) (v := ?_) rfl (by kernel_rfl) (by kernel_rfl) (by kernel_rfl) (fun _ _ _ h => h) (Or.inl ⟨by rfl, ?_⟩) (by assumption) ?_
        rotate_left
        · intro w hSw; (try dsimp only at hSw); go_simp; try with_reducible rfl
        (try simp only [Act.put, List.setIfInBounds_toArray, List.set_cons_zero, List.set_cons_succ])
        refine wpAnyH_take (i := 18) (oi := ⟨some 41, _, _, _, _, _⟩) (v := ?_) rfl (by kernel_rfl) (by kernel_rfl) (by kernel_rfl) (fun _ _ _ h => h) (Or.inl ⟨by rfl, ?_⟩) (by assumption) ?_
        rotate_left
        · intro w hSw; (try dsimp only at hSw); go_simp; try with_reducible rfl
        (try simp only [Act.put, List.setIfInBounds_toArray, List.set_cons_zero, List.set_cons_succ])
        refine wpAnyH_take (i := 19) (oi := ⟨some 42, _, _, _, _, _⟩) (v := ?_) rfl (by kernel_rfl) (by kernel_rfl) (by kernel_rfl) (fun _ _ _ h => h) (Or.inl ⟨by rfl, ?_⟩) (by assumption) ?_
        rotate_left
        · intro w hSw; (try dsimp only at hSw); go_simp; try with_reducible rfl
        (try simp only [Act.put, List.setIfInBounds_toArray, List.set_cons_zero, List.set_cons_succ])
        refine wpAnyH_take (i := 20) (oi := ⟨some 43, _, _, _, _, _⟩) (v := ?_) rfl (by kernel_rfl) (by kernel_rfl) (by kernel_rfl) (fun _ _ _ h => h) (Or.inl ⟨by rfl, ?_⟩) (by assumption) ?_
        rotate_left
        · intro w hSw; (try dsimp only at hSw); go_simp; try with_reducible rfl
        (try simp only [Act.put, List.setIfInBounds_toArray, List.set_cons_zero, List.set_cons_succ])
        refine wpAnyH_take (i := 22) (oi := ⟨some 45, _, _, _, _, _⟩) (v := ?_) rfl (by kernel_rfl) (by kernel_rfl) (by kernel_rfl) (fun _ _ _ h => h) (Or.inl ⟨by rfl, ?_⟩) (by assumption) ?_
        rotate_left
        · intro w hSw; (try dsimp only at hSw); go_simp; try with_reducible rfl
        (try simp only [Act.put, List.setIfInBounds_toArray, List.set_cons_zero, List.set_cons_succ])
        refine wpAnyH_take (i := 23) (oi := ⟨some 46, _, _, _, _, _⟩) (v := ?_) rfl (by kernel_rfl) (by kernel_rfl) (by kernel_rfl) (fun _ _ _ h => h) (Or.inl ⟨by rfl, ?_⟩) (by assumption) ?_
        rotate_left
        · intro w hSw; (try dsimp only at hSw); go_simp; try with_reducible rfl
        (try simp only [Act.put, List.setIfInBounds_toArray, List.set_cons_zero, List.set_cons_succ])
        refine wpAnyH_take (i := 24) (oi := ⟨some 47, _, _, _, _, _⟩) (v := ?_) rfl (by kernel_rfl) (by kernel_rfl) (by kernel_rfl) (fun _ _ _ h => h) (Or.inl ⟨by rfl, ?_⟩) (by assumption) ?_
        rotate_left
        · intro w hSw; (try dsimp only at hSw); go_simp; try with_reducible rfl
        (try simp only [Act.put, List.setIfInBounds_toArray, List.set_cons_zero, List.set_cons_succ])
        refine wpAnyH_take (i := 26) (oi := ⟨some 49, _, _, _, _, _⟩) (v := ?_) rfl (by kernel_rfl) (by kernel_rfl) (by kernel_rfl) (fun _ _ _ h => h) (Or.inl ⟨by rfl, ?_⟩) (by assumption) ?_
        rotate_left
        · intro w hSw; (try dsimp only at hSw); go_simp; try with_reducible rfl
        (try simp only [Act.put, List.setIfInBounds_toArray, List.set_cons_zero, List.set_cons_succ])
        refine wpAnyH_take (i := 27) (oi := ⟨some 50, _, _, _, _, _⟩) (v := ?_) rfl (by kernel_rfl) (by kernel_rfl) (by kernel_rfl) (fun _ _ _ h => h) (Or.inl ⟨by rfl, ?_⟩) (by assumption) ?_
        rotate_left
        · intro w hSw; (try dsimp only at hSw); go_simp; try with_reducible rfl
        (try simp only [Act.put, List.setIfInBounds_toArray, List.set_cons_zero, List.set_cons_succ])
        refine wpAnyH_ready (rs := [3]) (by kernel_rfl) (by simp) ?_
        refine (AllReadyH.cons (o := ⟨some 26, _, _, _, _, _⟩) rfl (fun K hK => ?_) AllReadyH.nil)
        go_simp
        go_at_call 47
        refine (right_6 _ _).mono ?_
        rintro _ _ ⟨rfl, rfl⟩
        refine hK.out _ _ ?_ (fun hHeld => ?_)
        · exact ⟨ldS [_, _, _, _] hD rfl, ldS [_, _, _, _] hD rfl, ldS [_, _, _, _] hD rfl, ldS [_] hD (gK.out)⟩
        clear hK K
        (try simp only [Act.put, List.setIfInBounds_toArray, List.set_cons_zero, List.set_cons_succ])
        refine wpAnyH_ready (rs := [5]) (by kernel_rfl) (by simp) ?_
        refine (AllReadyH.cons (o := ⟨some 28, _, _, _, _, _⟩) rfl (fun K hK => ?_) AllReadyH.nil)
        go_simp
        go_at_call 47
        refine (right_11 _ _).mono ?_
        rintro _ _ ⟨rfl, rfl⟩
        refine hK.out _ _ ?_ (fun hHeld => ?_)
        · exact ⟨ldS [_, _, _, _] hD rfl, ldS [_, _, _, _] hD rfl, ldS [_, _, _, _] hD rfl, ldS [_] hD (gK.out)⟩
        clear hK K
        (try simp only [Act.put, List.setIfInBounds_toArray, List.set_cons_zero, List.set_cons_succ])
        refine wpAnyH_take (i := 6) (oi := ⟨some 29, _, _, _, _, _⟩) (v := ?_) rfl (by kernel_rfl) (by kernel_rfl) (by kernel_rfl) (fun _ _ _ h => h) (Or.inl ⟨by rfl, ?_⟩) (by assumption) ?_
        rotate_left
        · intro w hSw; (try dsimp only at hSw); go_simp; try with_reducible rfl
        (try simp only [Act.put, List.setIfInBounds_toArray, List.set_cons_zero, List.set_cons_succ])
        refine wpAnyH_ready (rs := [8]) (by kernel_rfl) (by simp) ?_
        refine (AllReadyH.cons (o := ⟨some 31, _, _, _, _, _⟩) rfl (fun K hK => ?_) AllReadyH.nil)
        go_simp
        go_at_call 47
        refine (right_25 _ _).mono ?_
        rintro _ _ ⟨rfl, rfl⟩
        refine hK.out _ _ ?_ (fun hHeld => ?_)
        · exact ⟨ldS [_, _, _, _] hD rfl, ldS [_, _, _, _] hD rfl, ldS [_, _, _, _] hD rfl, ldS [_] hD (gK.out)⟩
        clear hK K
        (try simp only [Act.put, List.setIfInBounds_toArray, List.set_cons_zero, List.set_cons_succ])
        refine wpAnyH_take (i := 9) (oi := ⟨some 32, _, _, _, _, _⟩) (v := ?_) rfl (by kernel_rfl) (by kernel_rfl) (by kernel_rfl) (fun _ _ _ h => h) (Or.inl ⟨by rfl, ?_⟩) (by assumption) ?_
        rotate_left
        · intro w hSw; (try dsimp only at hSw); go_simp; try with_reducible rfl
        (try simp only [Act.put, List.setIfInBounds_toArray, List.set_cons_zero, List.set_cons_succ])
        refine wpAnyH_take (i := 10) (oi := ⟨some 33, _, _, _, _, _⟩) (v := ?_) rfl (by kernel_rfl) (by kernel_rfl) (by kernel_rfl) (fun _ _ _ h => h) (Or.inl ⟨by rfl, ?_⟩) (by assumption) ?_
        rotate_left
        · intro w hSw; (try dsimp only at hSw); go_simp; try with_reducible rfl
        (try simp only [Act.put, List.setIfInBounds_toArray, List.set_cons_zero, List.set_cons_succ])
        refine wpAnyH_take (i := 21) (oi := ⟨some 44, _, _, _, _, _⟩) (v := ?_) rfl (by kernel_rfl) (by kernel_rfl) (by kernel_rfl) (fun _ _ _ h => h) (Or.inl ⟨by rfl, ?_⟩) (by assumption) ?_
        rotate_left
        · intro w hSw; (try dsimp only at hSw); go_simp; try with_reducible rfl
        (try simp only [Act.put, List.setIfInBounds_toArray, List.set_cons_zero, List.set_cons_succ])
        refine wpAnyH_take (i := 25) (oi := ⟨some 48, _, _, _, _, _⟩) (v := ?_) rfl (by kernel_rfl) (by kernel_rfl) (by kernel_rfl) (fun _ _ _ h => h) (Or.inl ⟨by rfl, ?_⟩) (by assumption) ?_
        rotate_left
        · intro w hSw; (try dsimp only at hSw); go_simp; try with_reducible rfl
        (try simp only [Act.put, List.setIfInBounds_toArray, List.set_cons_zero, List.set_cons_succ])
        refine wpAnyH_ready (rs := [28]) (by kernel_rfl) (by simp) ?_
        refine (AllReadyH.cons (o := ⟨some 51, _, _, _, _, _⟩) rfl (fun K hK => ?_) AllReadyH.nil)
        go_simp
        go_at_call 48
        refine (word_any g7 b off c i p _ (hD.all _ (.head _)) (Rd.old hD hp) Hl.out hi64 (St.ne_new hD (.head _) hb)).mono ?_
        rw [← HD.out]
        rintro _ _ ⟨rfl, h4⟩
        have hE := St.call1 [] hD h4
        clear h4
        refine hK.out _ _ ?_ (fun hHeld => ?_)
        · exact ⟨ldS [_, _, _, _] hE rfl, ldS [_, _, _, _] hE rfl, ldS [_, _, _, _] hE rfl, ldS [_] hE (gK.out)⟩
        clear hK K
        (try simp only [Act.put, List.setIfInBounds_toArray, List.set_cons_zero, List.set_cons_succ])
        refine wpAnyH_take (i := 29) (oi := ⟨some 52, _, _, _, _, _⟩) (v := ?_) rfl (by kernel_rfl) (by kernel_rfl) (by kernel_rfl) (fun _ _ _ h => h) (Or.inl ⟨by rfl, ?_⟩) (by assumption) ?_
        rotate_left
        · intro w hSw; (try dsimp only at hSw); go_simp; try with_reducible rfl
        (try simp only [Act.put, List.setIfInBounds_toArray, List.set_cons_zero, List.set_cons_succ])
        refine wpAnyH_take (i := 30) (oi := ⟨some 11, _, _, _, _, _⟩) (v := ?_) rfl (by kernel_rfl) (by kernel_rfl) (by kernel_rfl) (fun _ _ _ h => h) (Or.inl ⟨by rfl, ?_⟩) (by assumption) ?_
        rotate_left
        · intro w hSw; (try dsimp only at hSw); go_simp; try with_reducible rfl
        (try simp only [Act.put, List.setIfInBounds_toArray, List.set_cons_zero, List.set_cons_succ])
        refine wpAnyH_done (by kernel_rfl) ?_ _
        clear hHeld
        go_wp2_with (first | go_big_skip | go_big_guard | fail)
        have hF := hE.drew
        clear hE
        refine wp_region_held_drew (S := (fun w' => (loadVarH 35 ⟨g2, 1, none⟩).run Try.prog w' = .ok (.int .u32 (wI r.b)) w' ∧ (loadVarH 35 ⟨g2, 2, none⟩).run Try.prog w' = .ok (.int .u32 (wI r.c)) w')) (by kernel_rfl) (by exact ⟨ldS [_, _, _, _] hF rfl, ldS [_, _, _, _] hF rfl⟩) (fun hHeld => ?_)
        refine wpAnyH_take (i := 0) (oi := ⟨some 53, _, _, _, _, _⟩) (v := ?_) rfl (by kernel_rfl) (by kernel_rfl) (by kernel_rfl) (fun _ _ _ h => h) (Or.inl ⟨by rfl, ?_⟩) (by assumption) ?_
        rotate_left
        · intro w hSw; (try dsimp only at hSw); go_simp; try with_reducible rfl
        (try simp only [Act.put, List.setIfInBounds_toArray, List.set_cons_zero, List.set_cons_succ])
        refine wpAnyH_take (i := 2) (oi := ⟨some 55, _, _, _, _, _⟩) (v := ?_) rfl (by kernel_rfl) (by kernel_rfl) (by kernel_rfl) (fun _ _ _ h => h) (Or.inl ⟨by rfl, ?_⟩) (by assumption) ?_
        rotate_left
        · intro w hSw; (try dsimp only at hSw); go_simp; try with_reducible rfl
        (try simp only [Act.put, List.setIfInBounds_toArray, List.set_cons_zero, List.set_cons_succ])
        refine wpAnyH_take (i := 5) (oi := ⟨some 58, _, _, _, _, _⟩) (v := ?_) rfl (by kernel_rfl) (by kernel_rfl) (by kernel_rfl) (fun _ _ _ h => h) (Or.inl ⟨by rfl, ?_⟩) (by assumption) ?_
        rotate_left
        · intro w hSw; (try dsimp only at hSw); go_simp; try with_reducible rfl
        (try simp only [Act.put, List.setIfInBounds_toArray, List.set_cons_zero, List.set_cons_succ])
        refine wpAnyH_take (i := 8) (oi := ⟨some 61, _, _, _, _, _⟩) (v := ?_) rfl (by kernel_rfl) (by kernel_rfl) (by kernel_rfl) (fun _ _ _ h => h) (Or.inl ⟨by rfl, ?_⟩) (by assumption) ?_
        rotate_left
        · intro w hSw; (try dsimp only at hSw); go_simp; try with_reducible rfl
        (try simp only [Act.put, List.setIfInBounds_toArray, List.set_cons_zero, List.set_cons_succ])
        refine wpAnyH_take (i := 9) (oi := ⟨some 62, _, _, _, _, _⟩) (v := ?_) rfl (by kernel_rfl) (by kernel_rfl) (by kernel_rfl) (fun _ _ _ h => h) (Or.inl ⟨by rfl, ?_⟩) (by assumption) ?_
        rotate_left
        · intro w hSw; (try dsimp only at hSw); go_simp; try with_reducible rfl
        (try simp only [Act.put, List.setIfInBounds_toArray, List.set_cons_zero, List.set_cons_succ])
        refine wpAnyH_take (i := 10) (oi := ⟨some 63, _, _, _, _, _⟩) (v := ?_) rfl (by kernel_rfl) (by kernel_rfl) (by kernel_rfl) (fun _ _ _ h => h) (Or.inl ⟨by rfl, ?_⟩) (by assumption) ?_
        rotate_left
        · intro w hSw; (try dsimp only at hSw); go_simp; try with_reducible rfl
        (try simp only [Act.put, List.setIfInBounds_toArray, List.set_cons_zero, List.set_cons_succ])
        refine wpAnyH_take (i := 11) (oi := ⟨some 64, _, _, _, _, _⟩) (v := ?_) rfl (by kernel_rfl) (by kernel_rfl) (by kernel_rfl) (fun _ _ _ h => h) (Or.inl ⟨by rfl, ?_⟩) (by assumption) ?_
        rotate_left
        · intro w hSw; (try dsimp only at hSw); go_simp; try with_reducible rfl
        (try simp only [Act.put, List.setIfInBounds_toArray, List.set_cons_zero, List.set_cons_succ])
        refine wpAnyH_take (i := 12) (oi := ⟨some 65, _, _, _, _, _⟩) (v := ?_) rfl (by kernel_rfl) (by kernel_rfl) (by kernel_rfl) (fun _ _ _ h => h) (Or.inl ⟨by rfl, ?_⟩) (by assumption) ?_
        rotate_left
        · intro w hSw; (try dsimp only at hSw); go_simp; try with_reducible rfl
        (try simp only [Act.put, List.setIfInBounds_toArray, List.set_cons_zero, List.set_cons_succ])
        refine wpAnyH_take (i := 13) (oi := ⟨some 66, _, _, _, _, _⟩) (v := ?_) rfl (by kernel_rfl) (by kernel_rfl) (by kernel_rfl) (fun _ _ _ h => h) (Or.inl ⟨by rfl, ?_⟩) (by assumption) ?_
        rotate_left
        · intro w hSw; (try dsimp only at hSw); go_simp; try with_reducible rfl
        (try simp only [Act.put, List.setIfInBounds_toArray, List.set_cons_zero, List.set_cons_succ])
        refine wpAnyH_take (i := 14) (oi := ⟨some 67, _, _, _, _, _⟩) (v := ?_) rfl (by kernel_rfl) (by kernel_rfl) (by kernel_rfl) (fun _ _ _ h => h) (Or.inl ⟨by rfl, ?_⟩) (by assumption) ?_
        rotate_left
        · intro w hSw; (try dsimp only at hSw); go_simp; try with_reducible rfl
        (try simp only [Act.put, List.setIfInBounds_toArray, List.set_cons_zero, List.set_cons_succ])
        refine wpAnyH_take (i := 15) (oi := ⟨some 68, _, _, _, _, _⟩) (v := ?_) rfl (by kernel_rfl) (by kernel_rfl) (by kernel_rfl) (fun _ _ _ h => h) (Or.inl ⟨by rfl, ?_⟩) (by assumption) ?_
        rotate_left
        · intro w hSw; (try dsimp only at hSw); go_simp; try with_reducible rfl
        (try simp only [Act.put, List.setIfInBounds_toArray, List.set_cons_zero, List.set_cons_succ])
        refine wpAnyH_take (i := 16) (oi := ⟨some 69, _, _, _, _, _⟩) (v := ?_) rfl (by kernel_rfl) (by kernel_rfl) (by kernel_rfl) (fun _ _ _ h => h) (Or.inl ⟨by rfl, ?_⟩) (by assumption) ?_
        rotate_left
        · intro w hSw; (try dsimp only at hSw); go_simp; try with_reducible rfl
        (try simp only [Act.put, List.setIfInBounds_toArray, List.set_cons_zero, List.set_cons_succ])
        refine wpAnyH_take (i := 17) (oi := ⟨some 70, _, _, _, _, _⟩) (v := ?_) rfl (by kernel_rfl) (by kernel_rfl) (by kernel_rfl) (fun _ _ _ h => h) (Or.inl ⟨by rfl, ?_⟩) (by assumption) ?_
        rotate_left
        · intro w hSw; (try dsimp only at hSw); go_simp; try with_reducible rfl
        (try simp only [Act.put, List.setIfInBounds_toArray, List.set_cons_zero, List.set_cons_succ])
        refine wpAnyH_take (i := 18) (oi := ⟨some 71, _, _, _, _, _⟩) (v := ?_) rfl (by kernel_rfl) (by kernel_rfl) (by kernel_rfl) (fun _ _ _ h => h) (Or.inl ⟨by rfl, ?_⟩) (by assumption) ?_
        rotate_left
        · intro w hSw; (try dsimp only at hSw); go_simp; try with_reducible rfl
        (try simp only [Act.put, List.setIfInBounds_toArray, List.set_cons_zero, List.set_cons_succ])
        refine wpAnyH_take (i := 19) (oi := ⟨some 72, _, _, _, _, _⟩) (v := ?_) rfl (by kernel_rfl) (by kernel_rfl) (by kernel_rfl) (fun _ _ _ h => h) (Or.inl ⟨by rfl, ?_⟩) (by assumption) ?_
        rotate_left
        · intro w hSw; (try dsimp only at hSw); go_simp; try with_reducible rfl
        (try simp only [Act.put, List.setIfInBounds_toArray, List.set_cons_zero, List.set_cons_succ])
        refine wpAnyH_take (i := 20) (oi := ⟨some 73, _, _, _, _, _⟩) (v := ?_) rfl (by kernel_rfl) (by kernel_rfl) (by kernel_rfl) (fun _ _ _ h => h) (Or.inl ⟨by rfl, ?_⟩) (by assumption) ?_
        rotate_left
        · intro w hSw; (try dsimp only at hSw); go_simp; try with_reducible rfl
        (try simp only [Act.put, List.setIfInBounds_toArray, List.set_cons_zero, List.set_cons_succ])
        refine wpAnyH_take (i := 21) (oi := ⟨some 74, _, _, _, _, _⟩) (v := ?_) rfl (by kernel_rfl) (by kernel_rfl) (by kernel_rfl) (fun _ _ _ h => h) (Or.inl ⟨by rfl, ?_⟩) (by assumption) ?_
        rotate_left
        · intro w hSw; (try dsimp only at hSw); go_simp; try with_reducible rfl
        (try simp only [Act.put, List.setIfInBounds_toArray, List.set_cons_zero, List.set_cons_succ])
        refine wpAnyH_take (i := 22) (oi := ⟨some 75, _, _, _, _, _⟩) (v := ?_) rfl (by kernel_rfl) (by kernel_rfl) (by kernel_rfl) (fun _ _ _ h => h) (Or.inl ⟨by rfl, ?_⟩) (by assumption) ?_
        rotate_left
        · intro w hSw; (try dsimp only at hSw); go_simp; try with_reducible rfl
        (try simp only [Act.put, List.setIfInBounds_toArray, List.set_cons_zero, List.set_cons_succ])
        refine wpAnyH_ready (rs := [1]) (by kernel_rfl) (by simp) ?_
        refine (AllReadyH.cons (o := ⟨some 54, _, _, _, _, _⟩) rfl (fun K hK => ?_) AllReadyH.nil)
        go_simp
        go_at_call 47
        refine (right_2 _ _).mono ?_
        rintro _ _ ⟨rfl, rfl⟩
        refine hK.out _ _ ?_ (fun hHeld => ?_)
        · exact ⟨ldS [_, _, _, _] hF rfl, ldS [_, _, _, _] hF rfl⟩
        clear hK K
        (try simp only [Act.put, List.setIfInBounds_toArray, List.set_cons_zero, List.set_cons_succ])
        refine wpAnyH_ready (rs := [3]) (by kernel_rfl) (by simp) ?_
        refine (AllReadyH.cons (o := ⟨some 56, _, _, _, _, _⟩) rfl (fun K hK => ?_) AllReadyH.nil)
        go_simp
        go_at_call 47
        refine (right_13 _ _).mono ?_
        rintro _ _ ⟨rfl, rfl⟩
        refine hK.out _ _ ?_ (fun hHeld => ?_)
        · exact ⟨ldS [_, _, _, _] hF rfl, ldS [_, _, _, _] hF rfl⟩
        clear hK K
        (try simp only [Act.put, List.setIfInBounds_toArray, List.set_cons_zero, List.set_cons_succ])
        refine wpAnyH_take (i := 4) (oi := ⟨some 57, _, _, _, _, _⟩) (v := ?_) rfl (by kernel_rfl) (by kernel_rfl) (by kernel_rfl) (fun _ _ _ h => h) (Or.inl ⟨by rfl, ?_⟩) (by assumption) ?_
        rotate_left
        · intro w hSw; (try dsimp only at hSw); go_simp; try with_reducible rfl
        (try simp only [Act.put, List.setIfInBounds_toArray, List.set_cons_zero, List.set_cons_succ])
        refine wpAnyH_ready (rs := [6]) (by kernel_rfl) (by simp) ?_
        refine (AllReadyH.cons (o := ⟨some 59, _, _, _, _, _⟩) rfl (fun K hK => ?_) AllReadyH.nil)
        go_simp
        go_at_call 47
        refine (right_22 _ _).mono ?_
        rintro _ _ ⟨rfl, rfl⟩
        refine hK.out _ _ ?_ (fun hHeld => ?_)
        · exact ⟨ldS [_, _, _, _] hF rfl, ldS [_, _, _, _] hF rfl⟩
        clear hK K
        (try simp only [Act.put, List.setIfInBounds_toArray, List.set_cons_zero, List.set_cons_succ])
        refine wpAnyH_take (i := 7) (oi := ⟨some 60, _, _, _, _, _⟩) (v := ?_) rfl (by kernel_rfl) (by kernel_rfl) (by kernel_rfl) (fun _ _ _ h => h) (Or.inl ⟨by rfl, ?_⟩) (by assumption) ?_
        rotate_left
        · intro w hSw; (try dsimp only at hSw); go_simp; try with_reducible rfl
        (try simp only [Act.put, List.setIfInBounds_toArray, List.set_cons_zero, List.set_cons_succ])
        refine wpAnyH_take (i := 23) (oi := ⟨some 76, _, _, _, _, _⟩) (v := ?_) rfl (by kernel_rfl) (by kernel_rfl) (by kernel_rfl) (fun _ _ _ h => h) (Or.inl ⟨by rfl, ?_⟩) (by assumption) ?_
        rotate_left
        · intro w hSw; (try dsimp only at hSw); go_simp; try with_reducible rfl
        (try simp only [Act.put, List.setIfInBounds_toArray, List.set_cons_zero, List.set_cons_succ])
        refine wpAnyH_take (i := 24) (oi := ⟨some 12, _, _, _, _, _⟩) (v := ?_) rfl (by kernel_rfl) (by kernel_rfl) (by kernel_rfl) (fun _ _ _ h => h) (Or.inl ⟨by rfl, ?_⟩) (by assumption) ?_
        rotate_left
        · intro w hSw; (try dsimp only at hSw); go_simp; try with_reducible rfl
        (try simp only [Act.put, List.setIfInBounds_toArray, List.set_cons_zero, List.set_cons_succ])
        refine wpAnyH_done (by kernel_rfl) ?_ _
        clear hHeld
        go_wp2_with (first | go_big_skip | go_big_guard | (refine wl_loadE rfl rfl rfl ?_; first | refine ⟨_, Loads.at [_, _, _, _] hF rfl, ?_⟩) | (apply wl_buildX [(0, .int .u32 _), (1, .int .u32 _), (2, .int .u32 _), (3, .int .u32 _), (4, .int .u32 _), (5, .int .u32 _), (6, .int .u32 _), (7, .int .u32 _)]; rfl; rfl; exact rfl; exact bld8 _ _ _ _ _ _ _ _) | (refine wl_storeA [_, _, _, _] hF rfl rfl rfl rfl rfl rfl rfl ?_; intro w11 hst11; clear hF))
        have hst12 : St w [] w11 [.blk g7 76 (wordsV (win p (i + 1))), .blk g6 60 (wordsV kT), .blk g5 58 (wordsV s.list), .blk g4 58 (List.replicate 8 (.int .u32 0)), .blk g2 58 (wordsV (r.rnd K D).list)] := hst11
        rw [← HR.out] at hst12
        clear hst11
        go_roundw
        case rel => exact ⟨i + 1, by omega, by go_num, hst12⟩
        case measure => simp [intOf]; omega
      · have e : i = 64 := by omega
        subst e
        rw [show ((64 : Nat) : Int) = 64 from rfl]
        clear hi hi64
        obtain ⟨r, hr⟩ : ∃ r, r = rnds s p 64 := ⟨_, rfl⟩
        obtain ⟨F, hF⟩ : ∃ F, F = r.add s := ⟨_, rfl⟩
        have HR := hid (show s.turn p = F by rw [hF, hr]; rfl)
        have HF := hid hF
        rw [← hr] at hst
        clear hr hF
        have hst0 : St w [] wr [.blk g7 76 (wordsV (win p 64)), .blk g6 60 (wordsV kT), .blk g5 58 (wordsV s.list), .blk g4 58 (List.replicate 8 (.int .u32 0)), .blk g2 58 (wordsV (addP r.list s.list 0))] := hst
        clear hst
        go_wp2_with (first | go_big_skip | go_big_guard | fail)
        go_loopw [96] (fun q wr => ∃ j : Nat, j ≤ 8 ∧ q = .int .i64 j ∧ St w [] wr [.blk g7 76 (wordsV (win p 64)), .blk g6 60 (wordsV kT), .blk g5 58 (wordsV s.list), .blk g4 58 (List.replicate 8 (.int .u32 0)), .blk g2 58 (wordsV (addP r.list s.list j))]) (fun q _ => 8 - (intOf q).toNat)
        case atStart => exact ⟨0, by omega, rfl, hst0⟩
        case round =>
          clear hst0
          obtain ⟨j, hj, rfl, hst⟩ := hrel
          by_cases hj8 : j < 8
          · have hjz : (j : Int) < 8 := by omega
            have hlr : (addP r.list s.list j).length = 8 := length_addP _ _ _
            obtain ⟨A, hA⟩ : ∃ A, A = r.list.getD j 0 := ⟨_, rfl⟩
            obtain ⟨B, hB⟩ : ∃ A, A = s.list.getD j 0 := ⟨_, rfl⟩
            have gA := hid (show (wordsV (addP r.list s.list j))[j]? = some (.int .u32 (wI A)) by rw [words_get _ (by omega), addP_get _ _ _ _ (Nat.le_refl _), hA])
            have gB := hid (show (wordsV s.list)[j]? = some (.int .u32 (wI B)) by rw [words_get _ (by exact hj8), hB])
            have HA2 := hid (show (addP r.list s.list j).set j (A + B) = addP r.list s.list (j + 1) by rw [hA, hB]; rfl)
            have Hlr := hid hlr
            clear hA hB hlr
            go_wp2_with (first | go_big_skip | go_big_guard | fail)
            have hD := hst.drew
            clear hst
            refine wp_region_last (S := (fun w' => (loadVarH 35 ⟨g2, j, none⟩).run Try.prog w' = .ok (.int .u32 (wI A)) w' ∧ (loadVarH 35 ⟨g5, j, none⟩).run Try.prog w' = .ok (.int .u32 (wI B)) w')) (by kernel_rfl) rfl (by kernel_rfl) (by exact ⟨ldS [_, _, _, _] hD (gA.out), ldS [_, _] hD (gB.out)⟩) (fun hHeld => ?_)
            simp only [List.pop_toArray, List.dropLast, List.size_toArray, List.length_cons, List.length_nil]
            refine wpAnyH_take (i := 0) (oi := ⟨some 99, _, _, _, _, _⟩) (v := ?_) rfl (by kernel_rfl) (by kernel_rfl) (by kernel_rfl) (fun _ _ _ h => h) (Or.inl ⟨by rfl, ?_⟩) (by assumption) ?_
            rotate_left
            · intro w hSw; (try dsimp only at hSw); go_simp; try with_reducible rfl
            (try simp only [Act.put, List.setIfInBounds_toArray, List.set_cons_zero, List.set_cons_succ])
            refine wpAnyH_take (i := 1) (oi := ⟨some 100, _, _, _, _, _⟩) (v := ?_) rfl (by kernel_rfl) (by kernel_rfl) (by kernel_rfl) (fun _ _ _ h => h) (Or.inl ⟨by rfl, ?_⟩) (by assumption) ?_
            rotate_left
            · intro w hSw; (try dsimp only at hSw); go_simp; try with_reducible rfl
            (try simp only [Act.put, List.setIfInBounds_toArray, List.set_cons_zero, List.set_cons_succ])
            refine wpAnyH_take (i := 2) (oi := ⟨some 101, _, _, _, _, _⟩) (v := ?_) rfl (by kernel_rfl) (by kernel_rfl) (by kernel_rfl) (fun _ _ _ h => h) (Or.inl ⟨by rfl, ?_⟩) (by assumption) ?_
            rotate_left
            · intro w hSw; (try dsimp only at hSw); go_simp; try with_reducible rfl
            (try simp only [Act.put, List.setIfInBounds_toArray, List.set_cons_zero, List.set_cons_succ])
            refine wpAnyH_take (i := 3) (oi := ⟨some 102, _, _, _, _, _⟩) (v := ?_) rfl (by kernel_rfl) (by kernel_rfl) (by kernel_rfl) (fun _ _ _ h => h) (Or.inl ⟨by rfl, ?_⟩) (by assumption) ?_
            rotate_left
            · intro w hSw; (try dsimp only at hSw); go_simp; try with_reducible rfl
            (try simp only [Act.put, List.setIfInBounds_toArray, List.set_cons_zero, List.set_cons_succ])
            refine wpAnyH_take (i := 4) (oi := ⟨some 103, _, _, _, _, _⟩) (v := ?_) rfl (by kernel_rfl) (by kernel_rfl) (by kernel_rfl) (fun _ _ _ h => h) (Or.inl ⟨by rfl, ?_⟩) (by assumption) ?_
            rotate_left
            · intro w hSw; (try dsimp only at hSw); go_simp; try with_reducible rfl
            (try simp only [Act.put, List.setIfInBounds_toArray, List.set_cons_zero, List.set_cons_succ])
            refine wpAnyH_take (i := 5) (oi := ⟨some 104, _, _, _, _, _⟩) (v := ?_) rfl (by kernel_rfl) (by kernel_rfl) (by kernel_rfl) (fun _ _ _ h => h) (Or.inl ⟨by rfl, ?_⟩) (by assumption) ?_
            rotate_left
            · intro w hSw; (try dsimp only at hSw); go_simp; try with_reducible rfl
            (try simp only [Act.put, List.setIfInBounds_toArray, List.set_cons_zero, List.set_cons_succ])
            refine wpAnyH_take (i := 6) (oi := ⟨some 105, _, _, _, _, _⟩) (v := ?_) rfl (by kernel_rfl) (by kernel_rfl) (by kernel_rfl) (fun _ _ _ h => h) (Or.inl ⟨by rfl, ?_⟩) (by assumption) ?_
            rotate_left
            · intro w hSw; (try dsimp only at hSw); go_simp; try with_reducible rfl
            (try simp only [Act.put, List.setIfInBounds_toArray, List.set_cons_zero, List.set_cons_succ])
            refine wpAnyH_take (i := 7) (oi := ⟨some 106, _, _, _, _, _⟩) (v := ?_) rfl (by kernel_rfl) (by kernel_rfl) (by kernel_rfl) (fun _ _ _ h => h) (Or.inl ⟨by rfl, ?_⟩) (by assumption) ?_
            rotate_left
            · intro w hSw; (try dsimp only at hSw); go_simp; try with_reducible rfl
            (try simp only [Act.put, List.setIfInBounds_toArray, List.set_cons_zero, List.set_cons_succ])
            refine wpAnyH_done (by kernel_rfl) ?_ _
            clear hHeld
            refine QL_intro ?_
            refine wl_store [_, _, _, _] hD rfl rfl rfl (v := .int .u32 (wI (A + B))) rfl rfl rfl (by rw [length_wordsV, Hlr.out]; show j + 1 ≤ 8; omega) ?_
            intro w1 h1
            have h2 := st_setL [_, _, _, _] (by rw [Hlr.out]; exact hj8) h1
            rw [HA2.out] at h2
            clear h1 hD
            (try simp only [Act.put, List.setIfInBounds_toArray, List.set_cons_zero, List.set_cons_succ])
            go_wp2_with (first | go_big_skip | go_big_guard | fail)
            go_roundw
            case rel => exact ⟨j + 1, by omega, by go_num, h2⟩
            case measure => simp [intOf]; omega
          · have e : j = 8 := by omega
            subst e
            rw [addP_all, ← HF.out] at hst
            go_wp2_with (first | go_big_skip | go_big_guard | (refine wl_loadE rfl rfl rfl ?_; first | refine ⟨_, Loads.atA (wordsV F.list) [_, _, _, _] hst (rfl) (rfl), ?_⟩) | (refine wl_storeA [_, _, _] hst rfl rfl rfl rfl rfl rfl rfl ?_; intro w12 hst12; clear hst))
            have hl := Loads.atA (P := Try.prog) (off := 0) (T := 58) (wordsV F.list) [_, _, _] hst12 rfl rfl
            refine bodyPost_ret (results_cellL rfl rfl hl) rfl ⟨by rw [HR.out], hst12.nil⟩
end
end Go.Proofs.Ytilgjldnlgfehaa
