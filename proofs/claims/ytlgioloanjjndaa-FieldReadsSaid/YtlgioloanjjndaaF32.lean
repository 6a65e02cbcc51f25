import Derived.Test.YtlgioloanjjndaaF31
namespace Go.Proofs.Ytlgioloanjjndaa
open Go.RowKit Hp
attribute [local irreducible] Go.Calls
set_option maxRecDepth 100000
set_option maxHeartbeats 4000000
theorem loadedAsk (A : Addr) : loadVar 58 A = loadVarH 58 A := rfl
theorem bF_new {w0 w : World} {g q : Nat} {bv v : Value} {B : List UInt8} {s : RS} {R : List HA} (h : St w0 [] w (bP g bv q v B s ++ R)) : ∀ k ∈ bF g bv q v B s, w0.heap.size ≤ k := by
  intro k hk
  obtain ⟨x, hx, hf⟩ := List.mem_filterMap.1 hk
  rcases h.own x (List.mem_append_left _ hx) k hf with h1 | h1
  · exact h1
  · cases h1
theorem ow_bare {o : Oper} {a : Act} {w : World} {K : Act → World → Prop} {Q : Exit → Act → World → Prop} (h : Oper.wp Try.prog { o with guard := none } a w K Q) : o.wp Try.prog a w K Q := h
section
attribute [local go_sem ↓] loadedInt loadedFt loadedAsk
theorem reads_small (ao : Option Addr) (n c : Nat) (al : Option Addr) (nl cl : Nat) (B : List UInt8) (ks : List KV) (w : World) (hB : Rd w (.slice ao n c) 1 n (bytesV B)) (hL : B.length = n) (hK : Rd w (.slice al nl cl) 4 nl (ks.flatMap KV.cells)) (hkl : ks.length = nl) (hok : ∀ x ∈ ks, x.Ok) (hn : n ≤ 1000) (hnl : nl ≤ 60) :
    Calls Try.prog 6 #[.slice ao n c, .slice al nl cl] w fun e w' => e = .returned (.bool true) ∧ St w [] w' [] := by
  have hst := St.refl w
  have HL := hid hL
  have HKL := hid hkl
  have HOK := hid hok
  have d1 : decide (1000 < (n : Int)) = false := decide_eq_false (by omega)
  have d2 : decide (60 < (nl : Int)) = false := decide_eq_false (by omega)
  clear hL hkl hok
  go_enter Try.func6, Try.ntmps6
  go_wp2_with (first | go_big_skip | go_big_guard | (go_at_call 28; refine (lent_any ao n c B _ (Rd.old hst hB) HL.out (by omega)).mono ?_; rintro _ w1 ⟨gl, rfl, h4⟩; have hst1 := St.call hst h4; clear h4 hst) | (go_at_call 22; refine (open_any (some ⟨gl, 0, none⟩) n (n + 3) B _ (Rd.blk hst1 (.head _) (by omega) (by unfold maxLen; omega) (by rw [length_bytesV, HL.out]; omega) (by rw [List.drop_zero, lentB_V, List.take_left' rfl])) HL.out (by omega)).mono ?_; rintro _ w2 ⟨g, bv, rfl, h4⟩; have hst2 := St.call hst1 h4; clear h4 hst1) | (go_at_call 29; refine (qopen_any ao n c _).mono ?_; rintro _ w3 ⟨q, rfl, h4⟩; have hst3 := St.call hst2 h4; clear h4 hst2))
  have hst4 : St w [] w3 [.blk g 67 [.bool true, bv, .int .i64 (foldK B ks 0).pos, .int .i64 (foldK B ks 0).e, .int .i64 (foldK B ks 0).fa], .rowP isB bv 5 1 B.length (bytesV B), .blk q 61 [.slice ao n c, .int .i64 (foldK B ks 0).pos, .int .i64 (foldK B ks 0).e, .int .i64 (foldK B ks 0).fa], .blk gl 5 (bytesV (lentB B))] := by
    rw [foldK_zero]
    have hm : St w [] w3 ((rP g bv B ⟨0, 0, 0⟩ ++ [.blk gl 5 (bytesV (lentB B))]) ++ qP q (.slice ao n c) ⟨0, 0, 0⟩) := St.perm hst3 (List.perm_append_comm (l₁ := qP q (.slice ao n c) ⟨0, 0, 0⟩))
    have hm2 : St w [] w3 (rP g bv B ⟨0, 0, 0⟩ ++ (qP q (.slice ao n c) ⟨0, 0, 0⟩ ++ [.blk gl 5 (bytesV (lentB B))])) := St.perm hm (by rw [List.append_assoc]; exact List.Perm.append_left _ List.perm_append_comm)
    exact hm2
  clear hst3
  go_loopw [8] (fun i wr => ∃ k : Nat, k ≤ nl ∧ i = .int .i64 k ∧ St w [] wr [.blk g 67 [.bool true, bv, .int .i64 (foldK B ks k).pos, .int .i64 (foldK B ks k).e, .int .i64 (foldK B ks k).fa], .rowP isB bv 5 1 B.length (bytesV B), .blk q 61 [.slice ao n c, .int .i64 (foldK B ks k).pos, .int .i64 (foldK B ks k).e, .int .i64 (foldK B ks k).fa], .blk gl 5 (bytesV (lentB B))]) (fun i _ => nl - (intOf i).toNat)
  case atStart => exact ⟨0, Nat.zero_le _, rfl, hst4⟩
  case round =>
    clear hst4
    obtain ⟨k, hk, rfl, hst⟩ := hrel
    have hpS := foldK_pos B ks k
    by_cases hkn : k < nl
    · obtain ⟨x, hxk⟩ : ∃ x, ks[k]? = some x := ⟨_, List.getElem?_eq_getElem (by rw [HKL.out]; exact hkn)⟩
      obtain ⟨b, off, rfl, _⟩ := hK.at hkn
      have hxo := HOK.out x (List.mem_of_getElem? hxk)
      have hra := hid (asks_range hK hxk)
      have hpT := foldK_pos B ks (k + 1)
      have hS1 := foldK_succ (B := B) hxk
      obtain ⟨S, hS⟩ : ∃ S, S = foldK B ks k := ⟨_, rfl⟩
      obtain ⟨T, hT⟩ : ∃ T, T = foldK B ks (k + 1) := ⟨_, rfl⟩
      rw [← hT, ← hS] at hS1
      rw [← hS] at hst hpS
      rw [← hT] at hpT
      rw [HL.out] at hpS hpT
      have HS := hid hS1
      have HT := hid hT
      have hoff := Off.old hB (by decide) (bF_new (R := [.blk gl 5 (bytesV (lentB B))]) hst)
      have hofq : Off (.slice ao n c) [q] := fun A n' c' e hpos hm => hoff A n' c' e hpos (by rw [List.mem_singleton] at hm; rw [hm]; exact List.mem_filterMap.2 ⟨.blk q 61 [.slice ao n c, .int .i64 S.pos, .int .i64 S.e, .int .i64 S.fa], by simp [bP, rP, qP], rfl⟩)
      have hkk : (k : Int) < (nl : Int) := by omega
      have dk : decide ((k : Int) < (nl : Int)) = true := decide_eq_true hkk
      have z4 : IntKind.i64.wrap ((k : Int) + 1) = (k : Int) + 1 := IntWalk.i64_in _ (by omega)
      clear hS hT hxk hS1
      go_wp2_with (first | go_big_skip | go_big_guard | fail)
      have hD := hst.drew
      clear hst
      refine wp_region_held_drew (S := (fun w' => (loadVarH 58 ⟨b, off + k * 4, none⟩).run Try.prog w' = .ok (.agg (List.toArray [.int .i64 x.kind, .int .i64 x.size, .int .i64 x.low, .int .i64 x.high])) w')) (by kernel_rfl) (by exact Loads.oldA (cs := x.cells) (n := 4) hD rfl hra.out) (fun hHeld => ?_)
      refine wpAnyH_take (i := 0) (oi := ⟨some 32, _, _, _, _, _⟩) (v := ?_) rfl (by kernel_rfl) (by kernel_rfl) (by kernel_rfl) (fun _ _ _ h => h) (Or.inl ⟨by rfl, ?_⟩) (by assumption) ?_
      rotate_left
      · intro w hSw; (try dsimp only at hSw); go_simp; try with_reducible rfl
      (try simp only [Act.put, List.setIfInBounds_toArray, List.set_cons_zero, List.set_cons_succ])
      refine wpAnyH_take (i := 1) (oi := ⟨some 33, _, _, _, _, _⟩) (v := ?_) rfl (by kernel_rfl) (by kernel_rfl) (by kernel_rfl) (fun _ _ _ h => h) (Or.inl ⟨by rfl, ?_⟩) (by assumption) ?_
      rotate_left
      · intro w hSw; (try dsimp only at hSw); go_simp; try with_reducible rfl
      (try simp only [Act.put, List.setIfInBounds_toArray, List.set_cons_zero, List.set_cons_succ])
      refine wpAnyH_take (i := 2) (oi := ⟨some 34, _, _, _, _, _⟩) (v := ?_) rfl (by kernel_rfl) (by kernel_rfl) (by kernel_rfl) (fun _ _ _ h => h) (Or.inl ⟨by rfl, ?_⟩) (by assumption) ?_
      rotate_left
      · intro w hSw; (try dsimp only at hSw); go_simp; try with_reducible rfl
      (try simp only [Act.put, List.setIfInBounds_toArray, List.set_cons_zero, List.set_cons_succ])
      refine wpAnyH_take (i := 3) (oi := ⟨some 35, _, _, _, _, _⟩) (v := ?_) rfl (by kernel_rfl) (by kernel_rfl) (by kernel_rfl) (fun _ _ _ h => h) (Or.inl ⟨by rfl, ?_⟩) (by assumption) ?_
      rotate_left
      · intro w hSw; (try dsimp only at hSw); go_simp; try with_reducible rfl
      (try simp only [Act.put, List.setIfInBounds_toArray, List.set_cons_zero, List.set_cons_succ])
      refine wpAnyH_take (i := 4) (oi := ⟨some 36, _, _, _, _, _⟩) (v := ?_) rfl (by kernel_rfl) (by kernel_rfl) (by kernel_rfl) (fun _ _ _ h => h) (Or.inl ⟨by rfl, ?_⟩) (by assumption) ?_
      rotate_left
      · intro w hSw; (try dsimp only at hSw); go_simp; try with_reducible rfl
      (try simp only [Act.put, List.setIfInBounds_toArray, List.set_cons_zero, List.set_cons_succ])
      refine wpAnyH_take (i := 5) (oi := ⟨some 37, _, _, _, _, _⟩) (v := ?_) rfl (by kernel_rfl) (by kernel_rfl) (by kernel_rfl) (fun _ _ _ h => h) (Or.inl ⟨by rfl, ?_⟩) (by assumption) ?_
      rotate_left
      · intro w hSw; (try dsimp only at hSw); go_simp; try with_reducible rfl
      (try simp only [Act.put, List.setIfInBounds_toArray, List.set_cons_zero, List.set_cons_succ])
      refine wpAnyH_ready (rs := [6]) (by kernel_rfl) (by simp) ?_
      refine (AllReadyH.cons (o := ⟨some 38, _, _, _, _, _⟩) rfl (fun K hK => ?_) AllReadyH.nil)
      go_simp
      go_at_call 30
      have hSS : St _ (bF g bv q (.slice ao n c) B S) _ (bP g bv q (.slice ao n c) B S) := (St.sub (L' := bP g bv q (.slice ao n c) B S) hD (List.sublist_append_left (bP g bv q (.slice ao n c) B S) [_])).selfF
      refine (lread_any g bv q ao n c B S x _ hSS (Rd.old hD hB) hoff hofq HL.out hpS (by omega) hxo).mono ?_
      rw [← HS.out]
      rintro _ w5 ⟨rfl, h4⟩
      have hN1 : St w [] w5 [.blk g 67 [.bool true, bv, .int .i64 T.pos, .int .i64 T.e, .int .i64 T.fa], .rowP isB bv 5 1 B.length (bytesV B), .blk q 61 [.slice ao n c, .int .i64 T.pos, .int .i64 T.e, .int .i64 T.fa], .blk gl 5 (bytesV (lentB B))] := St.callF (bP g bv q (.slice ao n c) B S) (R := [.blk gl 5 (bytesV (lentB B))]) hD h4
      clear h4 hSS
      refine hK.out _ _ ?_ (fun hHeld => ?_)
      · exact Loads.oldA (cs := x.cells) (n := 4) hN1 rfl hra.out
      clear hK K
      (try simp only [Act.put, List.setIfInBounds_toArray, List.set_cons_zero, List.set_cons_succ])
      refine wpAnyH_take (i := 7) (oi := ⟨some 39, _, _, _, _, _⟩) (v := ?_) rfl (by kernel_rfl) (by kernel_rfl) (by kernel_rfl) (fun _ _ _ h => h) (Or.inl ⟨by rfl, ?_⟩) (by assumption) ?_
      rotate_left
      · intro w hSw; (try dsimp only at hSw); go_simp; try with_reducible rfl
      (try simp only [Act.put, List.setIfInBounds_toArray, List.set_cons_zero, List.set_cons_succ])
      refine wpAnyH_take (i := 8) (oi := ⟨some 40, _, _, _, _, _⟩) (v := ?_) rfl (by kernel_rfl) (by kernel_rfl) (by kernel_rfl) (fun _ _ _ h => h) (Or.inl ⟨by rfl, ?_⟩) (by assumption) ?_
      rotate_left
      · intro w hSw; (try dsimp only at hSw); go_simp; try with_reducible rfl
      (try simp only [Act.put, List.setIfInBounds_toArray, List.set_cons_zero, List.set_cons_succ])
      refine wpAnyH_take (i := 9) (oi := ⟨some 41, _, _, _, _, _⟩) (v := ?_) rfl (by kernel_rfl) (by kernel_rfl) (by kernel_rfl) (fun _ _ _ h => h) (Or.inl ⟨by rfl, ?_⟩) (by assumption) ?_
      rotate_left
      · intro w hSw; (try dsimp only at hSw); go_simp; try with_reducible rfl
      (try simp only [Act.put, List.setIfInBounds_toArray, List.set_cons_zero, List.set_cons_succ])
      refine wpAnyH_take (i := 11) (oi := ⟨some 43, _, _, _, _, _⟩) (v := ?_) rfl (by kernel_rfl) (by kernel_rfl) (by kernel_rfl) (fun _ _ _ h => h) (Or.inl ⟨by rfl, ?_⟩) (by assumption) ?_
      rotate_left
      · intro w hSw; (try dsimp only at hSw); go_simp; try with_reducible rfl
      (try simp only [Act.put, List.setIfInBounds_toArray, List.set_cons_zero, List.set_cons_succ])
      refine wpAnyH_take (i := 12) (oi := ⟨some 44, _, _, _, _, _⟩) (v := ?_) rfl (by kernel_rfl) (by kernel_rfl) (by kernel_rfl) (fun _ _ _ h => h) (Or.inl ⟨by rfl, ?_⟩) (by assumption) ?_
      rotate_left
      · intro w hSw; (try dsimp only at hSw); go_simp; try with_reducible rfl
      (try simp only [Act.put, List.setIfInBounds_toArray, List.set_cons_zero, List.set_cons_succ])
      refine wpAnyH_take (i := 13) (oi := ⟨some 45, _, _, _, _, _⟩) (v := ?_) rfl (by kernel_rfl) (by kernel_rfl) (by kernel_rfl) (fun _ _ _ h => h) (Or.inl ⟨by rfl, ?_⟩) (by assumption) ?_
      rotate_left
      · intro w hSw; (try dsimp only at hSw); go_simp; try with_reducible rfl
      (try simp only [Act.put, List.setIfInBounds_toArray, List.set_cons_zero, List.set_cons_succ])
      refine wpAnyH_ready (rs := [10, 14]) (by kernel_rfl) (by simp) ?_
      refine (AllReadyH.cons (o := ⟨some 42, _, _, _, _, _⟩) rfl (fun K hK => ?_) (AllReadyH.cons (o := ⟨some 46, _, _, _, _, _⟩) rfl (fun K hK => ?_) AllReadyH.nil))
      · go_simp
        go_at_call 31
        refine (at_any g bv B T _ (St.sub hN1 (.cons_cons _ (.cons_cons _ (List.nil_sublist _))))).mono ?_
        rintro _ w5 ⟨rfl, h4⟩
        have hN2 := St.call0 hN1 h4
        clear h4
        refine hK.out _ _ ?_ (fun hHeld => ?_)
        · exact Loads.oldA (cs := x.cells) (n := 4) hN2 rfl hra.out
        clear hK K
        (try simp only [Act.put, List.setIfInBounds_toArray, List.set_cons_zero, List.set_cons_succ])
        refine wpAnyH_ready (rs := [14]) (by kernel_rfl) (by simp) ?_
        refine (AllReadyH.cons (o := ⟨some 46, _, _, _, _, _⟩) rfl (fun K hK => ?_) AllReadyH.nil)
        rw [if_pos (by rfl)]
        refine ow_bare ?_
        refine ow_of_wl (ops := #[]) (by rfl) ?_
        refine wl_loadE rfl rfl rfl ?_
        refine ⟨_, Loads.at [_, _] hN2 rfl, ?_⟩
        refine q0_nil ?_
        refine hK.out _ _ ?_ (fun hHeld => ?_)
        · exact Loads.oldA (cs := x.cells) (n := 4) hN2 rfl hra.out
        clear hK K
        (try simp only [Act.put, List.setIfInBounds_toArray, List.set_cons_zero, List.set_cons_succ])
        refine wpAnyH_take (i := 15) (oi := ⟨some 47, _, _, _, _, _⟩) (v := ?_) rfl (by kernel_rfl) (by kernel_rfl) (by kernel_rfl) (fun _ _ _ h => h) (Or.inl ⟨by rfl, ?_⟩) (by assumption) ?_
        rotate_left
        · intro w hSw; (try dsimp only at hSw); go_simp; try with_reducible rfl
        (try simp only [Act.put, List.setIfInBounds_toArray, List.set_cons_zero, List.set_cons_succ])
        refine wpAnyH_take (i := 16) (oi := ⟨some 48, _, _, _, _, _⟩) (v := ?_) rfl (by kernel_rfl) (by kernel_rfl) (by kernel_rfl) (fun _ _ _ h => h) (Or.inl ⟨by rfl, ?_⟩) (by assumption) ?_
        rotate_left
        · intro w hSw; (try dsimp only at hSw); go_simp; try with_reducible rfl
        (try simp only [Act.put, List.setIfInBounds_toArray, List.set_cons_zero, List.set_cons_succ])
        refine wpAnyH_take (i := 17) (oi := ⟨some 49, _, _, _, _, _⟩) (v := ?_) rfl (by kernel_rfl) (by kernel_rfl) (by kernel_rfl) (fun _ _ _ h => h) (Or.inl ⟨by rfl, ?_⟩) (by assumption) ?_
        rotate_left
        · intro w hSw; (try dsimp only at hSw); go_simp; try with_reducible rfl
        (try simp only [Act.put, List.setIfInBounds_toArray, List.set_cons_zero, List.set_cons_succ])
        refine wpAnyH_take (i := 18) (oi := ⟨some 50, _, _, _, _, _⟩) (v := ?_) rfl (by kernel_rfl) (by kernel_rfl) (by kernel_rfl) (fun _ _ _ h => h) (Or.inl ⟨by rfl, ?_⟩) (by assumption) ?_
        rotate_left
        · intro w hSw; (try dsimp only at hSw); go_simp; try with_reducible rfl
        (try simp only [Act.put, List.setIfInBounds_toArray, List.set_cons_zero, List.set_cons_succ])
        refine wpAnyH_take (i := 20) (oi := ⟨some 52, _, _, _, _, _⟩) (v := ?_) rfl (by kernel_rfl) (by kernel_rfl) (by kernel_rfl) (fun _ _ _ h => h) (Or.inl ⟨by rfl, ?_⟩) (by assumption) ?_
        rotate_left
        · intro w hSw; (try dsimp only at hSw); go_simp; try with_reducible rfl
        (try simp only [Act.put, List.setIfInBounds_toArray, List.set_cons_zero, List.set_cons_succ])
        refine wpAnyH_ready (rs := [19]) (by kernel_rfl) (by simp) ?_
        refine (AllReadyH.cons (o := ⟨some 51, _, _, _, _, _⟩) rfl (fun K hK => ?_) AllReadyH.nil)
        go_simp
        go_at_call 32
        refine (left_any g bv B T _ (St.sub hN2 (.cons_cons _ (.cons_cons _ (List.nil_sublist _)))) (by rw [HL.out]; exact hpT) (by rw [HL.out]; omega)).mono ?_
        rw [HL.out]
        rintro _ w5 ⟨rfl, h4⟩
        have hN3 := St.call0 hN2 h4
        clear h4
        refine hK.out _ _ ?_ (fun hHeld => ?_)
        · exact Loads.oldA (cs := x.cells) (n := 4) hN3 rfl hra.out
        clear hK K
        (try simp only [Act.put, List.setIfInBounds_toArray, List.set_cons_zero, List.set_cons_succ])
        refine wpAnyH_ready (rs := [21]) (by kernel_rfl) (by simp) ?_
        refine (AllReadyH.cons (o := ⟨some 53, _, _, _, _, _⟩) rfl (fun K hK => ?_) AllReadyH.nil)
        go_simp
        go_at_call 33
        refine (qleft_any q ao n c T _ (St.sub hN3 (.cons _ (.cons _ (.cons_cons _ (List.nil_sublist _))))) hpT (by omega)).mono ?_
        rintro _ w5 ⟨rfl, h4⟩
        have hN4 := St.call0 hN3 h4
        clear h4
        refine hK.out _ _ ?_ (fun hHeld => ?_)
        · exact Loads.oldA (cs := x.cells) (n := 4) hN4 rfl hra.out
        clear hK K
        (try simp only [Act.put, List.setIfInBounds_toArray, List.set_cons_zero, List.set_cons_succ])
        refine wpAnyH_take (i := 22) (oi := ⟨some 54, _, _, _, _, _⟩) (v := ?_) rfl (by kernel_rfl) (by kernel_rfl) (by kernel_rfl) (fun _ _ _ h => h) (Or.inl ⟨by rfl, ?_⟩) (by assumption) ?_
        rotate_left
        · intro w hSw; (try dsimp only at hSw); go_simp; try with_reducible rfl
        (try simp only [Act.put, List.setIfInBounds_toArray, List.set_cons_zero, List.set_cons_succ])
        refine wpAnyH_take (i := 23) (oi := ⟨some 55, _, _, _, _, _⟩) (v := ?_) rfl (by kernel_rfl) (by kernel_rfl) (by kernel_rfl) (fun _ _ _ h => h) (Or.inl ⟨by rfl, ?_⟩) (by assumption) ?_
        rotate_left
        · intro w hSw; (try dsimp only at hSw); go_simp; try with_reducible rfl
        (try simp only [Act.put, List.setIfInBounds_toArray, List.set_cons_zero, List.set_cons_succ])
        refine wpAnyH_take (i := 24) (oi := ⟨some 56, _, _, _, _, _⟩) (v := ?_) rfl (by kernel_rfl) (by kernel_rfl) (by kernel_rfl) (fun _ _ _ h => h) (Or.inl ⟨by rfl, ?_⟩) (by assumption) ?_
        rotate_left
        · intro w hSw; (try dsimp only at hSw); go_simp; try with_reducible rfl
        (try simp only [Act.put, List.setIfInBounds_toArray, List.set_cons_zero, List.set_cons_succ])
        refine wpAnyH_take (i := 25) (oi := ⟨some 57, _, _, _, _, _⟩) (v := ?_) rfl (by kernel_rfl) (by kernel_rfl) (by kernel_rfl) (fun _ _ _ h => h) (Or.inl ⟨by rfl, ?_⟩) (by assumption) ?_
        rotate_left
        · intro w hSw; (try dsimp only at hSw); go_simp; try with_reducible rfl
        (try simp only [Act.put, List.setIfInBounds_toArray, List.set_cons_zero, List.set_cons_succ])
        refine wpAnyH_take (i := 27) (oi := ⟨some 59, _, _, _, _, _⟩) (v := ?_) rfl (by kernel_rfl) (by kernel_rfl) (by kernel_rfl) (fun _ _ _ h => h) (Or.inl ⟨by rfl, ?_⟩) (by assumption) ?_
        rotate_left
        · intro w hSw; (try dsimp only at hSw); go_simp; try with_reducible rfl
        (try simp only [Act.put, List.setIfInBounds_toArray, List.set_cons_zero, List.set_cons_succ])
        refine wpAnyH_take (i := 28) (oi := ⟨some 60, _, _, _, _, _⟩) (v := ?_) rfl (by kernel_rfl) (by kernel_rfl) (by kernel_rfl) (fun _ _ _ h => h) (Or.inl ⟨by rfl, ?_⟩) (by assumption) ?_
        rotate_left
        · intro w hSw; (try dsimp only at hSw); go_simp; try with_reducible rfl
        (try simp only [Act.put, List.setIfInBounds_toArray, List.set_cons_zero, List.set_cons_succ])
        refine wpAnyH_take (i := 29) (oi := ⟨some 61, _, _, _, _, _⟩) (v := ?_) rfl (by kernel_rfl) (by kernel_rfl) (by kernel_rfl) (fun _ _ _ h => h) (Or.inl ⟨by rfl, ?_⟩) (by assumption) ?_
        rotate_left
        · intro w hSw; (try dsimp only at hSw); go_simp; try with_reducible rfl
        (try simp only [Act.put, List.setIfInBounds_toArray, List.set_cons_zero, List.set_cons_succ])
        refine wpAnyH_ready (rs := [26, 30]) (by kernel_rfl) (by simp) ?_
        refine (AllReadyH.cons (o := ⟨some 58, _, _, _, _, _⟩) rfl (fun K hK => ?_) (AllReadyH.cons (o := ⟨some 62, _, _, _, _, _⟩) rfl (fun K hK => ?_) AllReadyH.nil))
        · go_simp
          go_at_call 26
          refine (fault_any g bv B T _ (St.sub hN4 (.cons_cons _ (.cons_cons _ (List.nil_sublist _))))).mono ?_
          rintro _ w5 ⟨rfl, h4⟩
          have hN5 := St.call0 hN4 h4
          clear h4
          refine hK.out _ _ ?_ (fun hHeld => ?_)
          · exact Loads.oldA (cs := x.cells) (n := 4) hN5 rfl hra.out
          clear hK K
          (try simp only [Act.put, List.setIfInBounds_toArray, List.set_cons_zero, List.set_cons_succ])
          refine wpAnyH_ready (rs := [30]) (by kernel_rfl) (by simp) ?_
          refine (AllReadyH.cons (o := ⟨some 62, _, _, _, _, _⟩) rfl (fun K hK => ?_) AllReadyH.nil)
          rw [if_pos (by rfl)]
          refine ow_bare ?_
          refine ow_of_wl (ops := #[]) (by rfl) ?_
          refine wl_loadE rfl rfl rfl ?_
          refine ⟨_, Loads.atA (off := 2) (T := 50) [.int .i64 T.e, .int .i64 T.fa] [_, _] hN5 rfl rfl, ?_⟩
          refine q0_nil ?_
          refine hK.out _ _ ?_ (fun hHeld => ?_)
          · exact Loads.oldA (cs := x.cells) (n := 4) hN5 rfl hra.out
          clear hK K
          (try simp only [Act.put, List.setIfInBounds_toArray, List.set_cons_zero, List.set_cons_succ])
          refine wpAnyH_take (i := 31) (oi := ⟨some 63, _, _, _, _, _⟩) (v := ?_) rfl (by kernel_rfl) (by kernel_rfl) (by kernel_rfl) (fun _ _ _ h => h) (Or.inl ⟨by rfl, ?_⟩) (by assumption) ?_
          rotate_left
          · intro w hSw; (try dsimp only at hSw); go_simp; try with_reducible rfl
          (try simp only [Act.put, List.setIfInBounds_toArray, List.set_cons_zero, List.set_cons_succ])
          refine wpAnyH_take (i := 32) (oi := ⟨some 64, _, _, _, _, _⟩) (v := ?_) rfl (by kernel_rfl) (by kernel_rfl) (by kernel_rfl) (fun _ _ _ h => h) (Or.inl ⟨by rfl, ?_⟩) (by assumption) ?_
          rotate_left
          · intro w hSw; (try dsimp only at hSw); go_simp; try with_reducible rfl
          (try simp only [Act.put, List.setIfInBounds_toArray, List.set_cons_zero, List.set_cons_succ])
          refine wpAnyH_take (i := 33) (oi := ⟨some 65, _, _, _, _, _⟩) (v := ?_) rfl (by kernel_rfl) (by kernel_rfl) (by kernel_rfl) (fun _ _ _ h => h) (Or.inl ⟨by rfl, ?_⟩) (by assumption) ?_
          rotate_left
          · intro w hSw; (try dsimp only at hSw); go_simp; try with_reducible rfl
          (try simp only [Act.put, List.setIfInBounds_toArray, List.set_cons_zero, List.set_cons_succ])
          refine wpAnyH_take (i := 34) (oi := ⟨some 66, _, _, _, _, _⟩) (v := ?_) rfl (by kernel_rfl) (by kernel_rfl) (by kernel_rfl) (fun _ _ _ h => h) (Or.inl ⟨by rfl, ?_⟩) (by assumption) ?_
          rotate_left
          · intro w hSw; (try dsimp only at hSw); go_simp; try with_reducible rfl
          (try simp only [Act.put, List.setIfInBounds_toArray, List.set_cons_zero, List.set_cons_succ])
          refine wpAnyH_take (i := 36) (oi := ⟨some 68, _, _, _, _, _⟩) (v := ?_) rfl (by kernel_rfl) (by kernel_rfl) (by kernel_rfl) (fun _ _ _ h => h) (Or.inl ⟨by rfl, ?_⟩) (by assumption) ?_
          rotate_left
          · intro w hSw; (try dsimp only at hSw); go_simp; try with_reducible rfl
          (try simp only [Act.put, List.setIfInBounds_toArray, List.set_cons_zero, List.set_cons_succ])
          refine wpAnyH_ready (rs := [35]) (by kernel_rfl) (by simp) ?_
          refine (AllReadyH.cons (o := ⟨some 67, _, _, _, _, _⟩) rfl (fun K hK => ?_) AllReadyH.nil)
          go_simp
          go_at_call 27
          refine (end_any g bv B T _ (St.sub hN5 (.cons_cons _ (.cons_cons _ (List.nil_sublist _)))) (by rw [HL.out]; exact hpT) (by rw [HL.out]; omega)).mono ?_
          rintro _ w5 ⟨rfl, h4⟩
          have hN6 := St.call0 hN5 h4
          clear h4
          refine hK.out _ _ ?_ (fun hHeld => ?_)
          · exact Loads.oldA (cs := x.cells) (n := 4) hN6 rfl hra.out
          clear hK K
          (try simp only [Act.put, List.setIfInBounds_toArray, List.set_cons_zero, List.set_cons_succ])
          refine wpAnyH_ready (rs := [37]) (by kernel_rfl) (by simp) ?_
          refine (AllReadyH.cons (o := ⟨some 69, _, _, _, _, _⟩) rfl (fun K hK => ?_) AllReadyH.nil)
          go_simp
          go_at_call 34
          refine (qend_any q ao n c T B _ (St.sub hN6 (.cons _ (.cons _ (.cons_cons _ (List.nil_sublist _))))) HL.out (by omega) hpT).mono ?_
          rintro _ w5 ⟨rfl, h4⟩
          have hN7 := St.call0 hN6 h4
          clear h4
          refine hK.out _ _ ?_ (fun hHeld => ?_)
          · exact Loads.oldA (cs := x.cells) (n := 4) hN7 rfl hra.out
          clear hK K
          (try simp only [Act.put, List.setIfInBounds_toArray, List.set_cons_zero, List.set_cons_succ])
          refine wpAnyH_take (i := 38) (oi := ⟨some 70, _, _, _, _, _⟩) (v := ?_) rfl (by kernel_rfl) (by kernel_rfl) (by kernel_rfl) (fun _ _ _ h => h) (Or.inl ⟨by rfl, ?_⟩) (by assumption) ?_
          rotate_left
          · intro w hSw; (try dsimp only at hSw); go_simp; try with_reducible rfl
          (try simp only [Act.put, List.setIfInBounds_toArray, List.set_cons_zero, List.set_cons_succ])
          refine wpAnyH_take (i := 39) (oi := ⟨some 71, _, _, _, _, _⟩) (v := ?_) rfl (by kernel_rfl) (by kernel_rfl) (by kernel_rfl) (fun _ _ _ h => h) (Or.inl ⟨by rfl, ?_⟩) (by assumption) ?_
          rotate_left
          · intro w hSw; (try dsimp only at hSw); go_simp; try with_reducible rfl
          (try simp only [Act.put, List.setIfInBounds_toArray, List.set_cons_zero, List.set_cons_succ])
          refine wpAnyH_done (by kernel_rfl) ?_ _
          clear hHeld
          go_wp2_with (first | go_big_skip | go_big_guard | fail)
          go_roundw
          case rel => exact ⟨k + 1, by omega, by go_num, by rw [← HT.out]; exact hN7⟩
          case measure => simp [intOf]; omega
        · rw [if_pos (by rfl)]
          refine ow_bare ?_
          refine ow_of_wl (ops := #[]) (by rfl) ?_
          refine wl_loadE rfl rfl rfl ?_
          refine ⟨_, Loads.atA (off := 2) (T := 50) [.int .i64 T.e, .int .i64 T.fa] [_, _] hN4 rfl rfl, ?_⟩
          refine q0_nil ?_
          refine hK.out _ _ ?_ (fun hHeld => ?_)
          · exact Loads.oldA (cs := x.cells) (n := 4) hN4 rfl hra.out
          clear hK K
          (try simp only [Act.put, List.setIfInBounds_toArray, List.set_cons_zero, List.set_cons_succ])
          refine wpAnyH_ready (rs := [26]) (by kernel_rfl) (by simp) ?_
          refine (AllReadyH.cons (o := ⟨some 58, _, _, _, _, _⟩) rfl (fun K hK => ?_) AllReadyH.nil)
          go_simp
          go_at_call 26
          refine (fault_any g bv B T _ (St.sub hN4 (.cons_cons _ (.cons_cons _ (List.nil_sublist _))))).mono ?_
          rintro _ w5 ⟨rfl, h4⟩
          have hN8 := St.call0 hN4 h4
          clear h4
          refine hK.out _ _ ?_ (fun hHeld => ?_)
          · exact Loads.oldA (cs := x.cells) (n := 4) hN8 rfl hra.out
          clear hK K
          (try simp only [Act.put, List.setIfInBounds_toArray, List.set_cons_zero, List.set_cons_succ])
          refine wpAnyH_take (i := 31) (oi := ⟨some 63, _, _, _, _, _⟩) (v := ?_) rfl (by kernel_rfl) (by kernel_rfl) (by kernel_rfl) (fun _ _ _ h => h) (Or.inl ⟨by rfl, ?_⟩) (by assumption) ?_
          rotate_left
          · intro w hSw; (try dsimp only at hSw); go_simp; try with_reducible rfl
          (try simp only [Act.put, List.setIfInBounds_toArray, List.set_cons_zero, List.set_cons_succ])
          refine wpAnyH_take (i := 32) (oi := ⟨some 64, _, _, _, _, _⟩) (v := ?_) rfl (by kernel_rfl) (by kernel_rfl) (by kernel_rfl) (fun _ _ _ h => h) (Or.inl ⟨by rfl, ?_⟩) (by assumption) ?_
          rotate_left
          · intro w hSw; (try dsimp only at hSw); go_simp; try with_reducible rfl
          (try simp only [Act.put, List.setIfInBounds_toArray, List.set_cons_zero, List.set_cons_succ])
          refine wpAnyH_take (i := 33) (oi := ⟨some 65, _, _, _, _, _⟩) (v := ?_) rfl (by kernel_rfl) (by kernel_rfl) (by kernel_rfl) (fun _ _ _ h => h) (Or.inl ⟨by rfl, ?_⟩) (by assumption) ?_
          rotate_left
          · intro w hSw; (try dsimp only at hSw); go_simp; try with_reducible rfl
          (try simp only [Act.put, List.setIfInBounds_toArray, List.set_cons_zero, List.set_cons_succ])
          refine wpAnyH_take (i := 34) (oi := ⟨some 66, _, _, _, _, _⟩) (v := ?_) rfl (by kernel_rfl) (by kernel_rfl) (by kernel_rfl) (fun _ _ _ h => h) (Or.inl ⟨by rfl, ?_⟩) (by assumption) ?_
          rotate_left
          · intro w hSw; (try dsimp only at hSw); go_simp; try with_reducible rfl
          (try simp only [Act.put, List.setIfInBounds_toArray, List.set_cons_zero, List.set_cons_succ])
          refine wpAnyH_take (i := 36) (oi := ⟨some 68, _, _, _, _, _⟩) (v := ?_) rfl (by kernel_rfl) (by kernel_rfl) (by kernel_rfl) (fun _ _ _ h => h) (Or.inl ⟨by rfl, ?_⟩) (by assumption) ?_
          rotate_left
          · intro w hSw; (try dsimp only at hSw); go_simp; try with_reducible rfl
          (try simp only [Act.put, List.setIfInBounds_toArray, List.set_cons_zero, List.set_cons_succ])
          refine wpAnyH_ready (rs := [35]) (by kernel_rfl) (by simp) ?_
          refine (AllReadyH.cons (o := ⟨some 67, _, _, _, _, _⟩) rfl (fun K hK => ?_) AllReadyH.nil)
          go_simp
          go_at_call 27
          refine (end_any g bv B T _ (St.sub hN8 (.cons_cons _ (.cons_cons _ (List.nil_sublist _)))) (by rw [HL.out]; exact hpT) (by rw [HL.out]; omega)).mono ?_
          rintro _ w5 ⟨rfl, h4⟩
          have hN9 := St.call0 hN8 h4
          clear h4
          refine hK.out _ _ ?_ (fun hHeld => ?_)
          · exact Loads.oldA (cs := x.cells) (n := 4) hN9 rfl hra.out
          clear hK K
          (try simp only [Act.put, List.setIfInBounds_toArray, List.set_cons_zero, List.set_cons_succ])
          refine wpAnyH_ready (rs := [37]) (by kernel_rfl) (by simp) ?_
          refine (AllReadyH.cons (o := ⟨some 69, _, _, _, _, _⟩) rfl (fun K hK => ?_) AllReadyH.nil)
          go_simp
          go_at_call 34
          refine (qend_any q ao n c T B _ (St.sub hN9 (.cons _ (.cons _ (.cons_cons _ (List.nil_sublist _))))) HL.out (by omega) hpT).mono ?_
          rintro _ w5 ⟨rfl, h4⟩
          have hN10 := St.call0 hN9 h4
          clear h4
          refine hK.out _ _ ?_ (fun hHeld => ?_)
          · exact Loads.oldA (cs := x.cells) (n := 4) hN10 rfl hra.out
          clear hK K
          (try simp only [Act.put, List.setIfInBounds_toArray, List.set_cons_zero, List.set_cons_succ])
          refine wpAnyH_take (i := 38) (oi := ⟨some 70, _, _, _, _, _⟩) (v := ?_) rfl (by kernel_rfl) (by kernel_rfl) (by kernel_rfl) (fun _ _ _ h => h) (Or.inl ⟨by rfl, ?_⟩) (by assumption) ?_
          rotate_left
          · intro w hSw; (try dsimp only at hSw); go_simp; try with_reducible rfl
          (try simp only [Act.put, List.setIfInBounds_toArray, List.set_cons_zero, List.set_cons_succ])
          refine wpAnyH_take (i := 39) (oi := ⟨some 71, _, _, _, _, _⟩) (v := ?_) rfl (by kernel_rfl) (by kernel_rfl) (by kernel_rfl) (fun _ _ _ h => h) (Or.inl ⟨by rfl, ?_⟩) (by assumption) ?_
          rotate_left
          · intro w hSw; (try dsimp only at hSw); go_simp; try with_reducible rfl
          (try simp only [Act.put, List.setIfInBounds_toArray, List.set_cons_zero, List.set_cons_succ])
          refine wpAnyH_done (by kernel_rfl) ?_ _
          clear hHeld
          go_wp2_with (first | go_big_skip | go_big_guard | fail)
          go_roundw
          case rel => exact ⟨k + 1, by omega, by go_num, by rw [← HT.out]; exact hN10⟩
          case measure => simp [intOf]; omega
      · rw [if_pos (by rfl)]
        refine ow_bare ?_
        refine ow_of_wl (ops := #[]) (by rfl) ?_
        refine wl_loadE rfl rfl rfl ?_
        refine ⟨_, Loads.at [_, _] hN1 rfl, ?_⟩
        refine q0_nil ?_
        refine hK.out _ _ ?_ (fun hHeld => ?_)
        · exact Loads.oldA (cs := x.cells) (n := 4) hN1 rfl hra.out
        clear hK K
        (try simp only [Act.put, List.setIfInBounds_toArray, List.set_cons_zero, List.set_cons_succ])
        refine wpAnyH_ready (rs := [10]) (by kernel_rfl) (by simp) ?_
        refine (AllReadyH.cons (o := ⟨some 42, _, _, _, _, _⟩) rfl (fun K hK => ?_) AllReadyH.nil)
        go_simp
        go_at_call 31
        refine (at_any g bv B T _ (St.sub hN1 (.cons_cons _ (.cons_cons _ (List.nil_sublist _))))).mono ?_
        rintro _ w5 ⟨rfl, h4⟩
        have hN11 := St.call0 hN1 h4
        clear h4
        refine hK.out _ _ ?_ (fun hHeld => ?_)
        · exact Loads.oldA (cs := x.cells) (n := 4) hN11 rfl hra.out
        clear hK K
        (try simp only [Act.put, List.setIfInBounds_toArray, List.set_cons_zero, List.set_cons_succ])
        refine wpAnyH_take (i := 15) (oi := ⟨some 47, _, _, _, _, _⟩) (v := ?_) rfl (by kernel_rfl) (by kernel_rfl) (by kernel_rfl) (fun _ _ _ h => h) (Or.inl ⟨by rfl, ?_⟩) (by assumption) ?_
        rotate_left
        · intro w hSw; (try dsimp only at hSw); go_simp; try with_reducible rfl
        (try simp only [Act.put, List.setIfInBounds_toArray, List.set_cons_zero, List.set_cons_succ])
        refine wpAnyH_take (i := 16) (oi := ⟨some 48, _, _, _, _, _⟩) (v := ?_) rfl (by kernel_rfl) (by kernel_rfl) (by kernel_rfl) (fun _ _ _ h => h) (Or.inl ⟨by rfl, ?_⟩) (by assumption) ?_
        rotate_left
        · intro w hSw; (try dsimp only at hSw); go_simp; try with_reducible rfl
        (try simp only [Act.put, List.setIfInBounds_toArray, List.set_cons_zero, List.set_cons_succ])
        refine wpAnyH_take (i := 17) (oi := ⟨some 49, _, _, _, _, _⟩) (v := ?_) rfl (by kernel_rfl) (by kernel_rfl) (by kernel_rfl) (fun _ _ _ h => h) (Or.inl ⟨by rfl, ?_⟩) (by assumption) ?_
        rotate_left
        · intro w hSw; (try dsimp only at hSw); go_simp; try with_reducible rfl
        (try simp only [Act.put, List.setIfInBounds_toArray, List.set_cons_zero, List.set_cons_succ])
        refine wpAnyH_take (i := 18) (oi := ⟨some 50, _, _, _, _, _⟩) (v := ?_) rfl (by kernel_rfl) (by kernel_rfl) (by kernel_rfl) (fun _ _ _ h => h) (Or.inl ⟨by rfl, ?_⟩) (by assumption) ?_
        rotate_left
        · intro w hSw; (try dsimp only at hSw); go_simp; try with_reducible rfl
        (try simp only [Act.put, List.setIfInBounds_toArray, List.set_cons_zero, List.set_cons_succ])
        refine wpAnyH_take (i := 20) (oi := ⟨some 52, _, _, _, _, _⟩) (v := ?_) rfl (by kernel_rfl) (by kernel_rfl) (by kernel_rfl) (fun _ _ _ h => h) (Or.inl ⟨by rfl, ?_⟩) (by assumption) ?_
        rotate_left
        · intro w hSw; (try dsimp only at hSw); go_simp; try with_reducible rfl
        (try simp only [Act.put, List.setIfInBounds_toArray, List.set_cons_zero, List.set_cons_succ])
        refine wpAnyH_ready (rs := [19]) (by kernel_rfl) (by simp) ?_
        refine (AllReadyH.cons (o := ⟨some 51, _, _, _, _, _⟩) rfl (fun K hK => ?_) AllReadyH.nil)
        go_simp
        go_at_call 32
        refine (left_any g bv B T _ (St.sub hN11 (.cons_cons _ (.cons_cons _ (List.nil_sublist _)))) (by rw [HL.out]; exact hpT) (by rw [HL.out]; omega)).mono ?_
        rw [HL.out]
        rintro _ w5 ⟨rfl, h4⟩
        have hN12 := St.call0 hN11 h4
        clear h4
        refine hK.out _ _ ?_ (fun hHeld => ?_)
        · exact Loads.oldA (cs := x.cells) (n := 4) hN12 rfl hra.out
        clear hK K
        (try simp only [Act.put, List.setIfInBounds_toArray, List.set_cons_zero, List.set_cons_succ])
        refine wpAnyH_ready (rs := [21]) (by kernel_rfl) (by simp) ?_
        refine (AllReadyH.cons (o := ⟨some 53, _, _, _, _, _⟩) rfl (fun K hK => ?_) AllReadyH.nil)
        go_simp
        go_at_call 33
        refine (qleft_any q ao n c T _ (St.sub hN12 (.cons _ (.cons _ (.cons_cons _ (List.nil_sublist _))))) hpT (by omega)).mono ?_
        rintro _ w5 ⟨rfl, h4⟩
        have hN13 := St.call0 hN12 h4
        clear h4
        refine hK.out _ _ ?_ (fun hHeld => ?_)
        · exact Loads.oldA (cs := x.cells) (n := 4) hN13 rfl hra.out
        clear hK K
        (try simp only [Act.put, List.setIfInBounds_toArray, List.set_cons_zero, List.set_cons_succ])
        refine wpAnyH_take (i := 22) (oi := ⟨some 54, _, _, _, _, _⟩) (v := ?_) rfl (by kernel_rfl) (by kernel_rfl) (by kernel_rfl) (fun _ _ _ h => h) (Or.inl ⟨by rfl, ?_⟩) (by assumption) ?_
        rotate_left
        · intro w hSw; (try dsimp only at hSw); go_simp; try with_reducible rfl
        (try simp only [Act.put, List.setIfInBounds_toArray, List.set_cons_zero, List.set_cons_succ])
        refine wpAnyH_take (i := 23) (oi := ⟨some 55, _, _, _, _, _⟩) (v := ?_) rfl (by kernel_rfl) (by kernel_rfl) (by kernel_rfl) (fun _ _ _ h => h) (Or.inl ⟨by rfl, ?_⟩) (by assumption) ?_
        rotate_left
        · intro w hSw; (try dsimp only at hSw); go_simp; try with_reducible rfl
        (try simp only [Act.put, List.setIfInBounds_toArray, List.set_cons_zero, List.set_cons_succ])
        refine wpAnyH_take (i := 24) (oi := ⟨some 56, _, _, _, _, _⟩) (v := ?_) rfl (by kernel_rfl) (by kernel_rfl) (by kernel_rfl) (fun _ _ _ h => h) (Or.inl ⟨by rfl, ?_⟩) (by assumption) ?_
        rotate_left
        · intro w hSw; (try dsimp only at hSw); go_simp; try with_reducible rfl
        (try simp only [Act.put, List.setIfInBounds_toArray, List.set_cons_zero, List.set_cons_succ])
        refine wpAnyH_take (i := 25) (oi := ⟨some 57, _, _, _, _, _⟩) (v := ?_) rfl (by kernel_rfl) (by kernel_rfl) (by kernel_rfl) (fun _ _ _ h => h) (Or.inl ⟨by rfl, ?_⟩) (by assumption) ?_
        rotate_left
        · intro w hSw; (try dsimp only at hSw); go_simp; try with_reducible rfl
        (try simp only [Act.put, List.setIfInBounds_toArray, List.set_cons_zero, List.set_cons_succ])
        refine wpAnyH_take (i := 27) (oi := ⟨some 59, _, _, _, _, _⟩) (v := ?_) rfl (by kernel_rfl) (by kernel_rfl) (by kernel_rfl) (fun _ _ _ h => h) (Or.inl ⟨by rfl, ?_⟩) (by assumption) ?_
        rotate_left
        · intro w hSw; (try dsimp only at hSw); go_simp; try with_reducible rfl
        (try simp only [Act.put, List.setIfInBounds_toArray, List.set_cons_zero, List.set_cons_succ])
        refine wpAnyH_take (i := 28) (oi := ⟨some 60, _, _, _, _, _⟩) (v := ?_) rfl (by kernel_rfl) (by kernel_rfl) (by kernel_rfl) (fun _ _ _ h => h) (Or.inl ⟨by rfl, ?_⟩) (by assumption) ?_
        rotate_left
        · intro w hSw; (try dsimp only at hSw); go_simp; try with_reducible rfl
        (try simp only [Act.put, List.setIfInBounds_toArray, List.set_cons_zero, List.set_cons_succ])
        refine wpAnyH_take (i := 29) (oi := ⟨some 61, _, _, _, _, _⟩) (v := ?_) rfl (by kernel_rfl) (by kernel_rfl) (by kernel_rfl) (fun _ _ _ h => h) (Or.inl ⟨by rfl, ?_⟩) (by assumption) ?_
        rotate_left
        · intro w hSw; (try dsimp only at hSw); go_simp; try with_reducible rfl
        (try simp only [Act.put, List.setIfInBounds_toArray, List.set_cons_zero, List.set_cons_succ])
        refine wpAnyH_ready (rs := [26, 30]) (by kernel_rfl) (by simp) ?_
        refine (AllReadyH.cons (o := ⟨some 58, _, _, _, _, _⟩) rfl (fun K hK => ?_) (AllReadyH.cons (o := ⟨some 62, _, _, _, _, _⟩) rfl (fun K hK => ?_) AllReadyH.nil))
        · go_simp
          go_at_call 26
          refine (fault_any g bv B T _ (St.sub hN13 (.cons_cons _ (.cons_cons _ (List.nil_sublist _))))).mono ?_
          rintro _ w5 ⟨rfl, h4⟩
          have hN14 := St.call0 hN13 h4
          clear h4
          refine hK.out _ _ ?_ (fun hHeld => ?_)
          · exact Loads.oldA (cs := x.cells) (n := 4) hN14 rfl hra.out
          clear hK K
          (try simp only [Act.put, List.setIfInBounds_toArray, List.set_cons_zero, List.set_cons_succ])
          refine wpAnyH_ready (rs := [30]) (by kernel_rfl) (by simp) ?_
          refine (AllReadyH.cons (o := ⟨some 62, _, _, _, _, _⟩) rfl (fun K hK => ?_) AllReadyH.nil)
          rw [if_pos (by rfl)]
          refine ow_bare ?_
          refine ow_of_wl (ops := #[]) (by rfl) ?_
          refine wl_loadE rfl rfl rfl ?_
          refine ⟨_, Loads.atA (off := 2) (T := 50) [.int .i64 T.e, .int .i64 T.fa] [_, _] hN14 rfl rfl, ?_⟩
          refine q0_nil ?_
          refine hK.out _ _ ?_ (fun hHeld => ?_)
          · exact Loads.oldA (cs := x.cells) (n := 4) hN14 rfl hra.out
          clear hK K
          (try simp only [Act.put, List.setIfInBounds_toArray, List.set_cons_zero, List.set_cons_succ])
          refine wpAnyH_take (i := 31) (oi := ⟨some 63, _, _, _, _, _⟩) (v := ?_) rfl (by kernel_rfl) (by kernel_rfl) (by kernel_rfl) (fun _ _ _ h => h) (Or.inl ⟨by rfl, ?_⟩) (by assumption) ?_
          rotate_left
          · intro w hSw; (try dsimp only at hSw); go_simp; try with_reducible rfl
          (try simp only [Act.put, List.setIfInBounds_toArray, List.set_cons_zero, List.set_cons_succ])
          refine wpAnyH_take (i := 32) (oi := ⟨some 64, _, _, _, _, _⟩) (v := ?_) rfl (by kernel_rfl) (by kernel_rfl) (by kernel_rfl) (fun _ _ _ h => h) (Or.inl ⟨by rfl, ?_⟩) (by assumption) ?_
          rotate_left
          · intro w hSw; (try dsimp only at hSw); go_simp; try with_reducible rfl
          (try simp only [Act.put, List.setIfInBounds_toArray, List.set_cons_zero, List.set_cons_succ])
          refine wpAnyH_take (i := 33) (oi := ⟨some 65, _, _, _, _, _⟩) (v := ?_) rfl (by kernel_rfl) (by kernel_rfl) (by kernel_rfl) (fun _ _ _ h => h) (Or.inl ⟨by rfl, ?_⟩) (by assumption) ?_
          rotate_left
          · intro w hSw; (try dsimp only at hSw); go_simp; try with_reducible rfl
          (try simp only [Act.put, List.setIfInBounds_toArray, List.set_cons_zero, List.set_cons_succ])
          refine wpAnyH_take (i := 34) (oi := ⟨some 66, _, _, _, _, _⟩) (v := ?_) rfl (by kernel_rfl) (by kernel_rfl) (by kernel_rfl) (fun _ _ _ h => h) (Or.inl ⟨by rfl, ?_⟩) (by assumption) ?_
          rotate_left
          · intro w hSw; (try dsimp only at hSw); go_simp; try with_reducible rfl
          (try simp only [Act.put, List.setIfInBounds_toArray, List.set_cons_zero, List.set_cons_succ])
          refine wpAnyH_take (i := 36) (oi := ⟨some 68, _, _, _, _, _⟩) (v := ?_) rfl (by kernel_rfl) (by kernel_rfl) (by kernel_rfl) (fun _ _ _ h => h) (Or.inl ⟨by rfl, ?_⟩) (by assumption) ?_
          rotate_left
          · intro w hSw; (try dsimp only at hSw); go_simp; try with_reducible rfl
          (try simp only [Act.put, List.setIfInBounds_toArray, List.set_cons_zero, List.set_cons_succ])
          refine wpAnyH_ready (rs := [35]) (by kernel_rfl) (by simp) ?_
          refine (AllReadyH.cons (o := ⟨some 67, _, _, _, _, _⟩) rfl (fun K hK => ?_) AllReadyH.nil)
          go_simp
          go_at_call 27
          refine (end_any g bv B T _ (St.sub hN14 (.cons_cons _ (.cons_cons _ (List.nil_sublist _)))) (by rw [HL.out]; exact hpT) (by rw [HL.out]; omega)).mono ?_
          rintro _ w5 ⟨rfl, h4⟩
          have hN15 := St.call0 hN14 h4
          clear h4
          refine hK.out _ _ ?_ (fun hHeld => ?_)
          · exact Loads.oldA (cs := x.cells) (n := 4) hN15 rfl hra.out
          clear hK K
          (try simp only [Act.put, List.setIfInBounds_toArray, List.set_cons_zero, List.set_cons_succ])
          refine wpAnyH_ready (rs := [37]) (by kernel_rfl) (by simp) ?_
          refine (AllReadyH.cons (o := ⟨some 69, _, _, _, _, _⟩) rfl (fun K hK => ?_) AllReadyH.nil)
          go_simp
          go_at_call 34
          refine (qend_any q ao n c T B _ (St.sub hN15 (.cons _ (.cons _ (.cons_cons _ (List.nil_sublist _))))) HL.out (by omega) hpT).mono ?_
          rintro _ w5 ⟨rfl, h4⟩
          have hN16 := St.call0 hN15 h4
          clear h4
          refine hK.out _ _ ?_ (fun hHeld => ?_)
          · exact Loads.oldA (cs := x.cells) (n := 4) hN16 rfl hra.out
          clear hK K
          (try simp only [Act.put, List.setIfInBounds_toArray, List.set_cons_zero, List.set_cons_succ])
          refine wpAnyH_take (i := 38) (oi := ⟨some 70, _, _, _, _, _⟩) (v := ?_) rfl (by kernel_rfl) (by kernel_rfl) (by kernel_rfl) (fun _ _ _ h => h) (Or.inl ⟨by rfl, ?_⟩) (by assumption) ?_
          rotate_left
          · intro w hSw; (try dsimp only at hSw); go_simp; try with_reducible rfl
          (try simp only [Act.put, List.setIfInBounds_toArray, List.set_cons_zero, List.set_cons_succ])
          refine wpAnyH_take (i := 39) (oi := ⟨some 71, _, _, _, _, _⟩) (v := ?_) rfl (by kernel_rfl) (by kernel_rfl) (by kernel_rfl) (fun _ _ _ h => h) (Or.inl ⟨by rfl, ?_⟩) (by assumption) ?_
          rotate_left
          · intro w hSw; (try dsimp only at hSw); go_simp; try with_reducible rfl
          (try simp only [Act.put, List.setIfInBounds_toArray, List.set_cons_zero, List.set_cons_succ])
          refine wpAnyH_done (by kernel_rfl) ?_ _
          clear hHeld
          go_wp2_with (first | go_big_skip | go_big_guard | fail)
          go_roundw
          case rel => exact ⟨k + 1, by omega, by go_num, by rw [← HT.out]; exact hN16⟩
          case measure => simp [intOf]; omega
        · rw [if_pos (by rfl)]
          refine ow_bare ?_
          refine ow_of_wl (ops := #[]) (by rfl) ?_
          refine wl_loadE rfl rfl rfl ?_
          refine ⟨_, Loads.atA (off := 2) (T := 50) [.int .i64 T.e, .int .i64 T.fa] [_, _] hN13 rfl rfl, ?_⟩
          refine q0_nil ?_
          refine hK.out _ _ ?_ (fun hHeld => ?_)
          · exact Loads.oldA (cs := x.cells) (n := 4) hN13 rfl hra.out
          clear hK K
          (try simp only [Act.put, List.setIfInBounds_toArray, List.set_cons_zero, List.set_cons_succ])
          refine wpAnyH_ready (rs := [26]) (by kernel_rfl) (by simp) ?_
          refine (AllReadyH.cons (o := ⟨some 58, _, _, _, _, _⟩) rfl (fun K hK => ?_) AllReadyH.nil)
          go_simp
          go_at_call 26
          refine (fault_any g bv B T _ (St.sub hN13 (.cons_cons _ (.cons_cons _ (List.nil_sublist _))))).mono ?_
          rintro _ w5 ⟨rfl, h4⟩
          have hN17 := St.call0 hN13 h4
          clear h4
          refine hK.out _ _ ?_ (fun hHeld => ?_)
          · exact Loads.oldA (cs := x.cells) (n := 4) hN17 rfl hra.out
          clear hK K
          (try simp only [Act.put, List.setIfInBounds_toArray, List.set_cons_zero, List.set_cons_succ])
          refine wpAnyH_take (i := 31) (oi := ⟨some 63, _, _, _, _, _⟩) (v := ?_) rfl (by kernel_rfl) (by kernel_rfl) (by kernel_rfl) (fun _ _ _ h => h) (Or.inl ⟨by rfl, ?_⟩) (by assumption) ?_
          rotate_left
          · intro w hSw; (try dsimp only at hSw); go_simp; try with_reducible rfl
          (try simp only [Act.put, List.setIfInBounds_toArray, List.set_cons_zero, List.set_cons_succ])
          refine wpAnyH_take (i := 32) (oi := ⟨some 64, _, _, _, _, _⟩) (v := ?_) rfl (by kernel_rfl) (by kernel_rfl) (by kernel_rfl) (fun _ _ _ h => h) (Or.inl ⟨by rfl, ?_⟩) (by assumption) ?_
          rotate_left
          · intro w hSw; (try dsimp only at hSw); go_simp; try with_reducible rfl
          (try simp only [Act.put, List.setIfInBounds_toArray, List.set_cons_zero, List.set_cons_succ])
          refine wpAnyH_take (i := 33) (oi := ⟨some 65, _, _, _, _, _⟩) (v := ?_) rfl (by kernel_rfl) (by kernel_rfl) (by kernel_rfl) (fun _ _ _ h => h) (Or.inl ⟨by rfl, ?_⟩) (by assumption) ?_
          rotate_left
          · intro w hSw; (try dsimp only at hSw); go_simp; try with_reducible rfl
          (try simp only [Act.put, List.setIfInBounds_toArray, List.set_cons_zero, List.set_cons_succ])
          refine wpAnyH_take (i := 34) (oi := ⟨some 66, _, _, _, _, _⟩) (v := ?_) rfl (by kernel_rfl) (by kernel_rfl) (by kernel_rfl) (fun _ _ _ h => h) (Or.inl ⟨by rfl, ?_⟩) (by assumption) ?_
          rotate_left
          · intro w hSw; (try dsimp only at hSw); go_simp; try with_reducible rfl
          (try simp only [Act.put, List.setIfInBounds_toArray, List.set_cons_zero, List.set_cons_succ])
          refine wpAnyH_take (i := 36) (oi := ⟨some 68, _, _, _, _, _⟩) (v := ?_) rfl (by kernel_rfl) (by kernel_rfl) (by kernel_rfl) (fun _ _ _ h => h) (Or.inl ⟨by rfl, ?_⟩) (by assumption) ?_
          rotate_left
          · intro w hSw; (try dsimp only at hSw); go_simp; try with_reducible rfl
          (try simp only [Act.put, List.setIfInBounds_toArray, List.set_cons_zero, List.set_cons_succ])
          refine wpAnyH_ready (rs := [35]) (by kernel_rfl) (by simp) ?_
          refine (AllReadyH.cons (o := ⟨some 67, _, _, _, _, _⟩) rfl (fun K hK => ?_) AllReadyH.nil)
          go_simp
          go_at_call 27
          refine (end_any g bv B T _ (St.sub hN17 (.cons_cons _ (.cons_cons _ (List.nil_sublist _)))) (by rw [HL.out]; exact hpT) (by rw [HL.out]; omega)).mono ?_
          rintro _ w5 ⟨rfl, h4⟩
          have hN18 := St.call0 hN17 h4
          clear h4
          refine hK.out _ _ ?_ (fun hHeld => ?_)
          · exact Loads.oldA (cs := x.cells) (n := 4) hN18 rfl hra.out
          clear hK K
          (try simp only [Act.put, List.setIfInBounds_toArray, List.set_cons_zero, List.set_cons_succ])
          refine wpAnyH_ready (rs := [37]) (by kernel_rfl) (by simp) ?_
          refine (AllReadyH.cons (o := ⟨some 69, _, _, _, _, _⟩) rfl (fun K hK => ?_) AllReadyH.nil)
          go_simp
          go_at_call 34
          refine (qend_any q ao n c T B _ (St.sub hN18 (.cons _ (.cons _ (.cons_cons _ (List.nil_sublist _))))) HL.out (by omega) hpT).mono ?_
          rintro _ w5 ⟨rfl, h4⟩
          have hN19 := St.call0 hN18 h4
          clear h4
          refine hK.out _ _ ?_ (fun hHeld => ?_)
          · exact Loads.oldA (cs := x.cells) (n := 4) hN19 rfl hra.out
          clear hK K
          (try simp only [Act.put, List.setIfInBounds_toArray, List.set_cons_zero, List.set_cons_succ])
          refine wpAnyH_take (i := 38) (oi := ⟨some 70, _, _, _, _, _⟩) (v := ?_) rfl (by kernel_rfl) (by kernel_rfl) (by kernel_rfl) (fun _ _ _ h => h) (Or.inl ⟨by rfl, ?_⟩) (by assumption) ?_
          rotate_left
          · intro w hSw; (try dsimp only at hSw); go_simp; try with_reducible rfl
          (try simp only [Act.put, List.setIfInBounds_toArray, List.set_cons_zero, List.set_cons_succ])
          refine wpAnyH_take (i := 39) (oi := ⟨some 71, _, _, _, _, _⟩) (v := ?_) rfl (by kernel_rfl) (by kernel_rfl) (by kernel_rfl) (fun _ _ _ h => h) (Or.inl ⟨by rfl, ?_⟩) (by assumption) ?_
          rotate_left
          · intro w hSw; (try dsimp only at hSw); go_simp; try with_reducible rfl
          (try simp only [Act.put, List.setIfInBounds_toArray, List.set_cons_zero, List.set_cons_succ])
          refine wpAnyH_done (by kernel_rfl) ?_ _
          clear hHeld
          go_wp2_with (first | go_big_skip | go_big_guard | fail)
          go_roundw
          case rel => exact ⟨k + 1, by omega, by go_num, by rw [← HT.out]; exact hN19⟩
          case measure => simp [intOf]; omega
    · have e : k = nl := by omega
      subst e
      have dk : decide ((k : Int) < (k : Int)) = false := by simp
      obtain ⟨T, hT⟩ : ∃ T, T = foldK B ks k := ⟨_, rfl⟩
      rw [← hT] at hst hpS
      have hpT := hpS
      rw [HL.out] at hpT
      clear hT
      go_wp2_with (first | go_big_skip | go_big_guard | (go_at_call 27; refine (end_any g bv B T _ (St.sub hst (.cons_cons _ (.cons_cons _ (List.nil_sublist _)))) (by rw [HL.out]; exact hpT) (by rw [HL.out]; omega)).mono ?_; rintro _ _ ⟨rfl, h4⟩; have ho20 := St.call0 hst h4; clear h4 hst) | (go_at_call 34; refine (qend_any q ao n c T B _ (St.sub ho20 (.cons _ (.cons _ (.cons_cons _ (List.nil_sublist _))))) HL.out (by omega) hpT).mono ?_; rintro _ _ ⟨rfl, h4⟩; have ho21 := St.call0 ho20 h4; clear h4 ho20) | (go_at_call 32; refine (left_any g bv B T _ (St.sub ho21 (.cons_cons _ (.cons_cons _ (List.nil_sublist _)))) (by rw [HL.out]; exact hpT) (by rw [HL.out]; omega)).mono ?_; rw [HL.out]; rintro _ _ ⟨rfl, h4⟩; have ho22 := St.call0 ho21 h4; clear h4 ho21) | (go_at_call 33; refine (qleft_any q ao n c T _ (St.sub ho22 (.cons _ (.cons _ (.cons_cons _ (List.nil_sublist _))))) hpT (by omega)).mono ?_; rintro _ _ ⟨rfl, h4⟩; have ho23 := St.call0 ho22 h4; clear h4 ho22) | (go_at_call 35; refine (kept_g ao gl n c B _ (ho23.all _ (.tail _ (.tail _ (.tail _ (.head _))))) (Rd.old ho23 hB) HL.out (by omega)).mono ?_; rintro _ _ ⟨rfl, h4⟩; have ho24 := St.call0 ho23 h4; clear h4 ho23) | (go_at_call 12; refine (awake_any _).mono ?_; rintro _ _ ⟨rfl, h4⟩; have ho25 := St.call0 ho24 h4; clear h4 ho24))
      go_ret
      exact ⟨by simp, ho25.nil⟩
theorem reads_law (ao : Option Addr) (n c : Nat) (al : Option Addr) (nl cl : Nat) (B : List UInt8) (ks : List KV) (w : World) (hB : Rd w (.slice ao n c) 1 n (bytesV B)) (hL : B.length = n) (hK : Rd w (.slice al nl cl) 4 nl (ks.flatMap KV.cells)) (hkl : ks.length = nl) (hok : ∀ x ∈ ks, x.Ok) :
    Calls Try.prog 6 #[.slice ao n c, .slice al nl cl] w fun e w' => e = .returned (.bool true) ∧ St w [] w' [] := by
  by_cases h : 1000 < n ∨ 60 < nl
  · exact reads_big ao n c al nl cl w (Nat.le_trans hB.bd.1 hB.bd.2.1) (Nat.le_trans hK.bd.1 hK.bd.2.1) h
  · exact reads_small ao n c al nl cl B ks w hB hL hK hkl hok (by omega) (by omega)
end
end Go.Proofs.Ytlgioloanjjndaa
