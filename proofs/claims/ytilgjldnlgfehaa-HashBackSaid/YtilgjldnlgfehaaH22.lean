import Derived.Test.YtilgjldnlgfehaaH21
namespace Go.Proofs.Ytilgjldnlgfehaa
set_option linter.unusedVariables false
set_option linter.unusedSimpArgs false
open Go.RowKit Hp
attribute [local irreducible] Go.Calls
set_option maxRecDepth 100000
set_option maxHeartbeats 4000000
/-- A row's cells, frozen: the row is no longer the call's to write. -/
theorem Hp.St.freezeRow {w0 w : World} {M : List Nat} {L1 L2 : List HA} {p : Value → Bool} {g n c m sz : Nat} {T : TypeId} {xs : List Value} (h : St w0 M w (L1 ++ .rowP p (.slice (some ⟨g, 0, none⟩) n c) T sz m xs :: L2)) (k : Nat) :
    St w0 M (w.freeze ⟨g, 0, none⟩ k) (L1 ++ L2) := by
  have hmem : HA.rowP p (.slice (some ⟨g, 0, none⟩) n c) T sz m xs ∈ L1 ++ .rowP p (.slice (some ⟨g, 0, none⟩) n c) T sz m xs :: L2 := by simp
  have hown := h.own _ hmem g rfl
  have hap := h.apart
  unfold Apart at hap
  rw [List.pairwise_append, List.pairwise_cons] at hap
  have hother : ∀ x ∈ L1 ++ L2, ∀ k, x.foot = some k → k ≠ g := by
    intro x hx k hk e
    subst e
    rcases List.mem_append.1 hx with hx | hx
    · exact hap.2.2 x hx _ (List.mem_cons_self) k hk rfl
    · exact hap.2.1.1 x hx k rfl hk
  have hheap : ∀ j, j ≠ g → (w.freeze ⟨g, 0, none⟩ k).heap[j]? = w.heap[j]? := by
    intro j hj
    unfold World.freeze
    split
    · rfl
    · simp only [Array.getElem?_modify]
      rw [if_neg (fun e => hj e.symm)]
  have hsz : (w.freeze ⟨g, 0, none⟩ k).heap.size = w.heap.size := by
    unfold World.freeze
    split
    · rfl
    · simp
  have hos : (w.freeze ⟨g, 0, none⟩ k).os = w.os ∧ (w.freeze ⟨g, 0, none⟩ k).tape = w.tape ∧ (w.freeze ⟨g, 0, none⟩ k).output = w.output := by
    unfold World.freeze
    split <;> exact ⟨rfl, rfl, rfl⟩
  refine ⟨hos.1.trans h.os, hos.2.1.trans h.tape, hos.2.2.trans h.output, by rw [hsz]; exact h.size, fun j hj hM => ?_, fun x hx => ?_, fun x hx j hj => ?_, h.apart.sublist (by simp)⟩
  · rw [hheap j (by rintro rfl; rcases hown with h1 | h1; omega; exact hM h1)]
    exact h.old j hj hM
  · have hx' : x ∈ L1 ++ .rowP p (.slice (some ⟨g, 0, none⟩) n c) T sz m xs :: L2 := by
      rcases List.mem_append.1 hx with hx | hx <;> simp [hx]
    exact HA.keep (h.all x hx') fun j hj => hheap j (hother x hx j hj)
  · have hx' : x ∈ L1 ++ .rowP p (.slice (some ⟨g, 0, none⟩) n c) T sz m xs :: L2 := by
      rcases List.mem_append.1 hx with hx | hx <;> simp [hx]
    exact h.own x hx' j hj
theorem ow_ssd {P : Program} {o : Oper} {a : Act} {w : World} {K : Act → World → Prop} {Q : Exit → Act → World → Prop} {x : Operand} {t : TypeId} {A : Addr} {n c : Nat}
    (hop : o.op = .call { callee := .builtin .unsafeSliceData, args := #[x], argTypes := #[t] }) (hx : a.eval x = .slice (some A) n c) (hc : c ≠ 0) (h : K (a.put o.dst (.pointer (some A))) w) : o.wp P a w K Q := by
  refine ow_run ?_ h
  unfold execOp
  simp only [hop, resolve, invoke, builtin, Sem.run_bind, Sem.run_pure, Result.andThen_ok, List.map_toArray, List.map_cons, List.map_nil, hx]
  rw [Lib.run_unsafeSliceData_row _ _ _ _ _ _ hc]
  rfl
theorem ow_ustr {P : Program} {o : Oper} {a : Act} {w0 w : World} {M : List Nat} {L1 L2 : List HA} {K : Act → World → Prop} {Q : Exit → Act → World → Prop} {x y : Operand} {pt it T : TypeId} {g n c : Nat} {p : Value → Bool} {bs : List UInt8}
    (hst : St w0 M w (L1 ++ .rowP p (.slice (some ⟨g, 0, none⟩) n c) T 1 n (bytesV bs) :: L2)) (hop : o.op = .call { callee := .builtin .unsafeString, args := #[x, y], argTypes := #[pt, it] }) (hx : a.eval x = .pointer (some ⟨g, 0, none⟩)) (hy : a.eval y = .int .i64 n)
    (hp : P.underlying pt = some (.pointer T)) (hc : P.cellsOf T = 1) (h0 : bs ≠ []) (hn : bs.length = n) (h : ∀ w', St w0 M w' (L1 ++ L2) → K (a.put o.dst (.string ⟨bs.toArray⟩)) w') : o.wp P a w K Q := by
  subst hn
  have hm : HA.rowP p (.slice (some ⟨g, 0, none⟩) bs.length c) T 1 bs.length (bytesV bs) ∈ L1 ++ .rowP p (.slice (some ⟨g, 0, none⟩) bs.length c) T 1 bs.length (bytesV bs) :: L2 := by simp
  have hr := (Rd.rowP hst hm).range
  obtain ⟨⟨hl, h2⟩, _⟩ := hst.ownsP hm
  rcases h2 with ⟨he, _⟩ | ⟨g', cap, cur, he, _, hg, hnc, hcm, hsz, _⟩
  · cases he
  · cases he
    refine ow_run ?_ (h _ (hst.freezeRow bs.length))
    unfold execOp
    simp only [hop, resolve, invoke, builtin, Sem.run_bind, Sem.run_pure, Result.andThen_ok, List.map_toArray, List.map_cons, List.map_nil, hx, hy]
    rw [Lib.run_unsafeString_row _ pt it _ T hp hc g cur.size (by unfold World.shape?; rw [hg]) bs h0 (by omega) (by unfold maxLen at hcm; omega) (fun j x hj => by
      rw [Addr.add_mid]
      exact hr j _ (by unfold bytesV; rw [List.getElem?_map, hj]; rfl))]
    rfl
section
theorem loadedBy (A : Addr) : loadVar 22 A = loadVarH 22 A := rfl
attribute [local go_sem ↓] loadedBy
theorem bstr_any {w0 w : World} {M : List Nat} {L : List HA} (g : Nat) (p v : Value) (bs : List UInt8) (h : St w0 M w (.blk g 70 [p, v] :: .rowP isB v 5 1 bs.length (bytesV bs) :: L)) (h0 : bs ≠ []) :
    Calls Try.prog 44 #[.pointer (some ⟨g, 0, none⟩)] w fun e w' => e = .returned (.string ⟨bs.toArray⟩) ∧ St w0 M w' L := by
  obtain ⟨⟨_, h2⟩, _⟩ := h.ownsP (.tail _ (.head _))
  rcases h2 with ⟨_, hx⟩ | ⟨gr, cap, cur, rfl, _, _, hnc, hcm, _⟩
  · exact absurd (List.eq_nil_of_length_eq_zero hx) h0
  · have hl0 : 0 < bs.length := List.length_pos_iff.2 h0
    obtain ⟨N, hN⟩ : ∃ N, N = bs.length := ⟨_, rfl⟩
    rw [← hN] at h hnc hl0
    have HN := hid hN
    have H0 := hid h0
    clear hN h0
    go_enter Try.func44, Try.ntmps44
    go_wp2_with (first | go_big_skip | go_big_guard | fail)
    have hD := h.drew
    clear h
    refine wp_region_held_drew (S := (fun w' => (loadVarH 22 ⟨g, 1, none⟩).run Try.prog w' = .ok (.slice (some ⟨gr, 0, none⟩) N cap) w')) (by kernel_rfl) (by exact ldS [] hD rfl) (fun hHeld => ?_)
    refine wpAnyH_take (i := 0) (oi := ⟨some 3, _, _, _, _, _⟩) (v := ?_) rfl (by kernel_rfl) (by kernel_rfl) (by kernel_rfl) (fun _ _ _ h => h) (Or.inl ⟨by rfl, ?_⟩) (by assumption) ?_
    rotate_left
    · intro w hSw; (try dsimp only at hSw); go_simp; try with_reducible rfl
    (try simp only [Act.put, List.setIfInBounds_toArray, List.set_cons_zero, List.set_cons_succ])
    refine wpAnyH_take (i := 5) (oi := ⟨some 8, _, _, _, _, _⟩) (v := ?_) rfl (by kernel_rfl) (by kernel_rfl) (by kernel_rfl) (fun _ _ _ h => h) (Or.inl ⟨by rfl, ?_⟩) (by assumption) ?_
    rotate_left
    · intro w hSw; (try dsimp only at hSw); go_simp; try with_reducible rfl
    (try simp only [Act.put, List.setIfInBounds_toArray, List.set_cons_zero, List.set_cons_succ])
    refine wpAnyH_take (i := 1) (oi := ⟨some 4, _, _, _, _, _⟩) (v := ?_) rfl (by kernel_rfl) (by kernel_rfl) (by kernel_rfl) (fun _ _ _ h => h) (Or.inl ⟨by rfl, ?_⟩) (by assumption) ?_
    rotate_left
    · intro w hSw; (try dsimp only at hSw); go_simp; try with_reducible rfl
    (try simp only [Act.put, List.setIfInBounds_toArray, List.set_cons_zero, List.set_cons_succ])
    refine wpAnyH_take (i := 6) (oi := ⟨some 9, _, _, _, _, _⟩) (v := ?_) rfl (by kernel_rfl) (by kernel_rfl) (by kernel_rfl) (fun _ _ _ h => h) (Or.inl ⟨by rfl, ?_⟩) (by assumption) ?_
    rotate_left
    · intro w hSw; (try dsimp only at hSw); go_simp; try with_reducible rfl
    (try simp only [Act.put, List.setIfInBounds_toArray, List.set_cons_zero, List.set_cons_succ])
    refine wpAnyH_take (i := 2) (oi := ⟨some 5, _, _, _, _, _⟩) (v := ?_) rfl (by kernel_rfl) (by kernel_rfl) (by kernel_rfl) (fun _ _ _ h => h) (Or.inl ⟨by rfl, ?_⟩) (by assumption) ?_
    rotate_left
    · intro w hSw; (try dsimp only at hSw); go_simp; try with_reducible rfl
    (try simp only [Act.put, List.setIfInBounds_toArray, List.set_cons_zero, List.set_cons_succ])
    refine wpAnyH_take (i := 7) (oi := ⟨some 10, _, _, _, _, _⟩) (v := ?_) rfl (by kernel_rfl) (by kernel_rfl) (by kernel_rfl) (fun _ _ _ h => h) (Or.inl ⟨by rfl, ?_⟩) (by assumption) ?_
    rotate_left
    · intro w hSw; (try dsimp only at hSw); go_simp; try with_reducible rfl
    (try simp only [Act.put, List.setIfInBounds_toArray, List.set_cons_zero, List.set_cons_succ])
    refine wpAnyH_take (i := 3) (oi := ⟨some 6, _, _, _, _, _⟩) (v := ?_) rfl (by kernel_rfl) (by kernel_rfl) (by kernel_rfl) (fun _ _ _ h => h) (Or.inl ⟨by rfl, ?_⟩) (by assumption) ?_
    rotate_left
    · intro w hSw; (try dsimp only at hSw); go_simp; try with_reducible rfl
    (try simp only [Act.put, List.setIfInBounds_toArray, List.set_cons_zero, List.set_cons_succ])
    refine wpAnyH_take (i := 8) (oi := ⟨some 11, _, _, _, _, _⟩) (v := ?_) rfl (by kernel_rfl) (by kernel_rfl) (by kernel_rfl) (fun _ _ _ h => h) (Or.inl ⟨by rfl, ?_⟩) (by assumption) ?_
    rotate_left
    · intro w hSw; (try dsimp only at hSw); go_simp; try with_reducible rfl
    (try simp only [Act.put, List.setIfInBounds_toArray, List.set_cons_zero, List.set_cons_succ])
    refine wpAnyH_take (i := 9) (oi := ⟨some 12, _, _, _, _, _⟩) (v := ?_) rfl (by kernel_rfl) (by kernel_rfl) (by kernel_rfl) (fun _ _ _ h => h) (Or.inl ⟨by rfl, ?_⟩) (by assumption) ?_
    rotate_left
    · intro w hSw; (try dsimp only at hSw); go_simp; try with_reducible rfl
    (try simp only [Act.put, List.setIfInBounds_toArray, List.set_cons_zero, List.set_cons_succ])
    refine wpAnyH_ready (rs := [4]) (by kernel_rfl) (by simp) ?_
    refine (AllReadyH.cons (o := ⟨some 7, _, _, _, _, _⟩) rfl (fun K hK => ?_) AllReadyH.nil)
    rw [if_pos (by rfl)]
    refine ow_ssd rfl rfl (by omega) ?_
    refine hK.out _ _ ?_ (fun hHeld => ?_)
    · exact ldS [] hD rfl
    clear hK K
    (try simp only [Act.put, List.setIfInBounds_toArray, List.set_cons_zero, List.set_cons_succ])
    refine wpAnyH_ready (rs := [10]) (by kernel_rfl) (by simp) ?_
    refine (AllReadyH.cons (o := ⟨some 13, _, _, _, _, _⟩) rfl (fun K hK => ?_) AllReadyH.nil)
    rw [if_pos (by rfl)]
    refine ow_ustr (L1 := [_]) hD rfl rfl rfl (by kernel_rfl) (by kernel_rfl) H0.out HN.out.symm ?_
    intro w8 hZ
    refine hK.out _ _ ?_ (fun hHeld => ?_)
    · exact ldS [] hZ rfl
    clear hK K
    (try simp only [Act.put, List.setIfInBounds_toArray, List.set_cons_zero, List.set_cons_succ])
    refine wpAnyH_take (i := 11) (oi := ⟨some 2, _, _, _, _, _⟩) (v := ?_) rfl (by kernel_rfl) (by kernel_rfl) (by kernel_rfl) (fun _ _ _ h => h) (Or.inl ⟨by rfl, ?_⟩) (by assumption) ?_
    rotate_left
    · intro w hSw; (try dsimp only at hSw); go_simp; try with_reducible rfl
    (try simp only [Act.put, List.setIfInBounds_toArray, List.set_cons_zero, List.set_cons_succ])
    refine wpAnyH_done (by kernel_rfl) ?_ _
    clear hHeld
    go_wp2_with (first | go_big_skip | go_big_guard | fail)
    go_ret
    exact ⟨rfl, St.sub hZ (.cons _ (List.Sublist.refl _))⟩
end
theorem Hp.wl_strIxQ {P : Program} {ops : Array Oper} {rest : List Oper} {o : Oper} {a : Act} {w : World} {Q : Exit → Act → World → Prop} {T : TypeId} {x y : Operand} {q : IntKind} {k : Nat} (l : List UInt8)
    (hop : o.op = .index T x y) (hw : Region.wanted o (yielded ops a.tmps) = true) (hx : a.eval x = .string ⟨l.toArray⟩) (hy : a.eval y = .int q k) (ht : P.underlying T = some .string) (hk : k < l.length)
    (h : wpList P ops Q rest (a.put o.dst (.int .u8 ((l.getD k 0).toNat : Int))) w) : wpList P ops Q (o :: rest) a w := by
  refine wl_run hw ?_ h
  unfold execOp
  have hb : (0 : Int) ≤ (k : Int) ∧ (k : Int) < ((⟨l.toArray⟩ : ByteArray).size : Int) := by rw [size_l]; omega
  simp only [hop, hx, hy, Sem.run_bind, run_index_string _ _ _ _ _ ht, dif_pos hb, Result.andThen_ok, Sem.run_pure]
  congr 4
  simp [List.getD, hk, ByteArray.getElem_eq_getElem_data]
end Go.Proofs.Ytilgjldnlgfehaa
