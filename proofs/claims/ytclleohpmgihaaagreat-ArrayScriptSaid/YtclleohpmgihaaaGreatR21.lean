/- New: an array of noughts. -/
import Derived.Test.YtclleohpmgihaaaGreatR20
namespace Go.Proofs.YtclleohpmgihaaaGreat
set_option linter.unusedVariables false
set_option linter.unusedSimpArgs false
open Go.RowKit Hp
attribute [local irreducible] Go.Calls Go.wpList
set_option maxRecDepth 100000
set_option maxHeartbeats 4000000
theorem madeCells_rep (v : Value) (sz n : Nat) (hs : 0 < sz) : madeCells (List.replicate sz v).toArray n = (List.replicate n v).toArray := by
  apply Array.ext
  · simp [madeCells]
  · intro i h1 h2
    have hi : i % sz < sz := Nat.mod_lt _ hs
    simp [madeCells, hi]
/-- make of a slice of arrays of one scalar. -/
theorem wl_makeR {ops : Array Oper} {rest : List Oper} {o : Oper} {a : Act} {w0 w : World} {M : List Nat} {L : List HA} {Q : Exit → Act → World → Prop} {T e : TypeId} {x y : Operand} {bytes sz : Nat} {z : Value} {u v : Int} (l c : Nat) (hst : St w0 M w L) (hop : o.op = .makeSlice T x y)
    (hw : Region.wanted o (yielded ops a.tmps) = true) (hx : a.eval x = .int .i64 u) (hy : a.eval y = .int .i64 v) (ht : TySl Tryz.prog T e) (he : TyE Tryz.prog e sz bytes) (hz : TyZ Tryz.prog e (List.replicate sz z)) (hsz : 0 < sz) (hu : u = (l : Int)) (hv : v = (c : Int)) (hlc : l ≤ c) (hb : c * bytes ≤ 281474976710656 ∧ c ≤ 9223372036854775807)
    (h : ∀ g w', St w0 M w' (.blk g e (List.replicate (c * sz) z) :: L) → wpList Tryz.prog ops Q rest (a.put o.dst (.slice (some ⟨g, 0, none⟩) l c)) w') : wpList Tryz.prog ops Q (o :: rest) a w := by
  subst hu hv
  obtain ⟨i, zz, hi, hzz, hs, hbs, hzs⟩ := tyE_spec he.out
  have hzl : zz.cells = (List.replicate sz z).toArray := by
    have := hz.out
    unfold tyZ at this
    simp [hi, hzz] at this
    exact Array.toList_inj.1 (by simpa using this)
  have hm := run_make (P := Tryz.prog) w T e i zz ht.out hi hzz .i64 .i64 l c (by omega) (by omega) (by rw [hbs, ← Int.natCast_mul, Nat.mul_comm]; have h3 := hb.1; revert h3; generalize c * bytes = q; intro h3; omega) (by have := hb.2; omega)
  rw [hzl, hs, madeCells_rep _ _ _ hsz] at hm
  simp only [Int.toNat_natCast] at hm
  refine wl_run hw ?_ (h _ _ (hst.alloc e (List.replicate (c * sz) z)))
  unfold execOp
  simp only [hop, hx, hy, Sem.run_bind, hm, Sem.run_pure, Result.andThen_ok]
/-- A row that is there, as its whole block. -/
theorem row_open {w0 w : World} {M : List Nat} {L1 L2 : List HA} {v : Value} {T : TypeId} {sz n : Nat} {xs : List Value} (h : St w0 M w (L1 ++ .row v T sz n xs :: L2)) (hn : 0 < n) : ∃ g c rest, v = .slice (some ⟨g, 0, none⟩) n c ∧ St w0 M w (L1 ++ .blk g T (xs ++ rest) :: L2) := by
  obtain ⟨hl, h2⟩ := h.owns (v := v) (T := T) (sz := sz) (n := n) (xs := xs) (by simp)
  rcases h2 with ⟨_, hz⟩ | ⟨g, cap, cur, rfl, _, hh, _, _, _, hp⟩
  · omega
  · refine ⟨g, cap, cur.toList.drop (n * sz), rfl, h.rep (y := .blk g T (xs ++ cur.toList.drop (n * sz))) rfl fun _ => ?_⟩
    show w.heap[g]? = _
    rw [hh, ← hp, List.take_append_drop]
/-- A blank device; a new array. -/
def blank (s : Nat) (g : Nat) : DV := ⟨g, List.replicate s (List.replicate 256 0), false, false, false, 0, 0⟩
def newA (s : Nat) (gs : List Nat) : AR := ⟨gs.map (blank s), [], -1, false, 0⟩
theorem bytesV_zero (n : Nat) : bytesV (List.replicate n 0) = List.replicate n (.int .u8 0) := by simp [bytesV]
theorem secsV_zero (s : Nat) : secsV (List.replicate s (List.replicate 256 0)) = List.replicate (s * 256) (.int .u8 0) := by
  induction s with
  | zero => rfl
  | succ s ih =>
    unfold secsV at ih ⊢
    rw [List.replicate_succ, List.flatMap_cons, ih, bytesV_zero, List.replicate_append_replicate, Nat.add_mul, Nat.one_mul, Nat.add_comm]
theorem blank_firm (s g : Nat) : (blank s g).firm.length = s := by simp [blank]
theorem newA_ok {s : Nat} {gs : List Nat} (hd : 1 ≤ gs.length ∧ gs.length ≤ 8) (hs : s ≤ 4096) : (newA s gs).Ok := by
  have hsec : (newA s gs).secs = s := by
    unfold AR.secs newA
    match gs, hd.1 with
    | g :: gs, _ => simp [blank]
  refine ⟨?_, ?_, by omega, ?_, ?_, ?_⟩
  · intro h
    have : (newA s gs).devs.length = 0 := by rw [h]; rfl
    simp [newA] at this
    rw [this] at hd
    simp at hd
  · simp [newA]; omega
  · intro d hd2
    simp only [newA, List.mem_map] at hd2
    obtain ⟨g, _, rfl⟩ := hd2
    rw [hsec]
    refine ⟨blank_firm s g, fun t ht => ?_, fun h => by simp [blank] at h, by simp [blank], by simp [blank]⟩
    rw [(List.mem_replicate.1 ht).2, List.length_replicate]
  · intro w hw
    simp [newA] at hw
  · simp [newA]
section
theorem newM_any (d s : Nat) (hd : 2 ≤ d ∧ d ≤ 8) (hs : 8 ≤ s ∧ s ≤ 4096) (w : World) :
    Calls Tryz.prog 6 #[.int .i64 (d : Int), .int .i64 (s : Int)] w fun e w' => ∃ ga x gs, e = .returned (.tuple #[.pointer (some ⟨ga, 0, none⟩), .int .i64 0]) ∧ gs.length = d ∧ St w [] w' (arP ga x (newA s gs)) := by
  have hst0 := St.refl w
  have d1 : decide ((d : Int) < 2) = false := decide_eq_false (by omega)
  have d2 : decide ((d : Int) > 8) = false := decide_eq_false (by omega)
  have d2' : decide ((8 : Int) < (d : Int)) = false := d2
  have d3 : decide ((s : Int) < 8) = false := decide_eq_false (by omega)
  have d4 : decide ((s : Int) > 4096) = false := decide_eq_false (by omega)
  have d4' : decide ((4096 : Int) < (s : Int)) = false := d4
  have e1 : ¬ d < 2 := by omega
  have e2 : ¬ 8 < d := by omega
  have e3 : ¬ s < 8 := by omega
  have e4 : ¬ 4096 < s := by omega
  go_enter Tryz.func6, Tryz.ntmps6
  go_wp2_with (first | go_big_skip | go_big_guard | (refine wl_buildX (cs := [.slice none 0 0, .slice none 0 0, .int .i64 (-1), .bool false, .int .i64 0]) [(2, _)] rfl rfl (by exact rfl) (by kernel_rfl) ?_) | (refine wl_boxA hst0 rfl rfl rfl ?_; intro ga _ hst1; clear hst0))
  go_loopw [24] (fun i wr => ∃ (j : Nat) (gs : List Nat) (dv : Value), j ≤ d ∧ i = .int .i64 (j : Int) ∧ gs.length = j ∧ St w [] wr (.blk ga 49 [dv, .slice none 0 0, .int .i64 (-1), .bool false, .int .i64 0] :: .row dv 53 5 j ((gs.map (blank s)).flatMap DV.cells) :: (gs.map (blank s)).map blkD)) (fun i _ => d - (intOf i).toNat)
  case atStart =>
    refine ⟨0, [], .slice none 0 0, Nat.zero_le _, rfl, rfl, ?_⟩
    exact St.perm (St.nilR 53 5 hst1) (List.Perm.swap _ _ _)
  case round =>
    clear hst1
    obtain ⟨j, gs, dv, hj, rfl, hgl, hst⟩ := hrel
    by_cases hlj : j < d
    · have d5 : decide ((j : Int) < (d : Int)) = true := decide_eq_true (by omega)
      have z1 : IntKind.i64.wrap ((j : Int) + 1) = (j : Int) + 1 := IntWalk.i64_in _ (by omega)
      have HGL := hid hgl
      obtain ⟨XS, hXS⟩ : ∃ XS, XS = (gs.map (blank s)).flatMap DV.cells := ⟨_, rfl⟩
      obtain ⟨FZ, hFS⟩ : ∃ FZ, FZ = (gs.map (blank s)).map blkD := ⟨_, rfl⟩
      have HXS := hid hXS
      have HFS := hid hFS
      rw [← hXS, ← hFS] at hst
      clear hgl hXS hFS
      go_wp2_with (first | go_big_skip | go_big_guard | fail)
      have hX := hst.drew
      clear hst
      refine wp_region_held_drew (S := (fun w' => True)) (by kernel_rfl) (by exact trivial) (fun hHeld => ?_)
      refine wpAnyH_take (i := 0) (oi := ⟨some 26, _, _, _, _, _⟩) (v := ?_) rfl (by kernel_rfl) (by kernel_rfl) (by kernel_rfl) (fun _ _ _ h => h) (Or.inl ⟨by rfl, ?_⟩) (by assumption) ?_
      rotate_left
      · intro w hSw; (try dsimp only at hSw); go_simp; try with_reducible rfl
      (try simp only [Act.put, List.setIfInBounds_toArray, List.set_cons_zero, List.set_cons_succ])
      refine wpAnyH_take (i := 1) (oi := ⟨some 27, _, _, _, _, _⟩) (v := ?_) rfl (by kernel_rfl) (by kernel_rfl) (by kernel_rfl) (fun _ _ _ h => h) (Or.inl ⟨by rfl, ?_⟩) (by assumption) ?_
      rotate_left
      · intro w hSw; (try dsimp only at hSw); go_simp; try with_reducible rfl
      (try simp only [Act.put, List.setIfInBounds_toArray, List.set_cons_zero, List.set_cons_succ])
      refine wpAnyH_take (i := 5) (oi := ⟨some 31, _, _, _, _, _⟩) (v := ?_) rfl (by kernel_rfl) (by kernel_rfl) (by kernel_rfl) (fun _ _ _ h => h) (Or.inl ⟨by rfl, ?_⟩) (by assumption) ?_
      rotate_left
      · intro w hSw; (try dsimp only at hSw); go_simp; try with_reducible rfl
      (try simp only [Act.put, List.setIfInBounds_toArray, List.set_cons_zero, List.set_cons_succ])
      refine wpAnyH_take (i := 2) (oi := ⟨some 28, _, _, _, _, _⟩) (v := ?_) rfl (by kernel_rfl) (by kernel_rfl) (by kernel_rfl) (fun _ _ _ h => h) (Or.inl ⟨by rfl, ?_⟩) (by assumption) ?_
      rotate_left
      · intro w hSw; (try dsimp only at hSw); go_simp; try with_reducible rfl
      (try simp only [Act.put, List.setIfInBounds_toArray, List.set_cons_zero, List.set_cons_succ])
      refine wpAnyH_take (i := 3) (oi := ⟨some 29, _, _, _, _, _⟩) (v := ?_) rfl (by kernel_rfl) (by kernel_rfl) (by kernel_rfl) (fun _ _ _ h => h) (Or.inl ⟨by rfl, ?_⟩) (by assumption) ?_
      rotate_left
      · intro w hSw; (try dsimp only at hSw); go_simp; try with_reducible rfl
      (try simp only [Act.put, List.setIfInBounds_toArray, List.set_cons_zero, List.set_cons_succ])
      refine wpAnyH_ready (rs := [4, 6]) (by kernel_rfl) (by simp) ?_
      refine (AllReadyH.cons (o := ⟨some 30, _, _, _, _, _⟩) rfl (fun K hK => ?_) (AllReadyH.cons (o := ⟨some 32, _, _, _, _, _⟩) rfl (fun K hK => ?_) AllReadyH.nil))
      · rw [if_pos (by rfl)]
        refine ow_of_wl (ops := #[]) (by rfl) ?_
        refine wl_loadE rfl rfl rfl ?_
        refine ⟨_, Loads.at [] hX rfl, ?_⟩
        refine q0_nil ?_
        refine hK.out _ _ ?_ (fun hHeld => ?_)
        · exact trivial
        clear hK K
        (try simp only [Act.put, List.setIfInBounds_toArray, List.set_cons_zero, List.set_cons_succ])
        refine wpAnyH_ready (rs := [6]) (by kernel_rfl) (by simp) ?_
        refine (AllReadyH.cons (o := ⟨some 32, _, _, _, _, _⟩) rfl (fun K hK => ?_) AllReadyH.nil)
        rw [if_pos (by rfl)]
        refine ow_of_wl (ops := #[]) (by rfl) ?_
        apply wl_makeR (sz := 256) (z := .int .u8 0) s s hX
        rfl
        rfl
        exact rfl
        exact rfl
        infer_instance
        infer_instance
        infer_instance
        decide
        exact rfl
        exact rfl
        exact Nat.le_refl _
        (refine ⟨by omega, by omega⟩)
        intro gf w3 hM1
        refine q0_nil ?_
        refine hK.out _ _ ?_ (fun hHeld => ?_)
        · exact trivial
        clear hK K
        (try simp only [Act.put, List.setIfInBounds_toArray, List.set_cons_zero, List.set_cons_succ])
        refine wpAnyH_ready (rs := [7]) (by kernel_rfl) (by simp) ?_
        refine (AllReadyH.cons (o := ⟨some 33, _, _, _, _, _⟩) rfl (fun K hK => ?_) AllReadyH.nil)
        rw [if_pos (by rfl)]
        refine ow_of_wl (ops := #[]) (by rfl) ?_
        refine wl_buildX (cs := [.slice (some ⟨gf, 0, none⟩) s s, .bool false, .int .u8 0, .int .i64 0, .int .i64 0]) [(0, .slice (some ⟨gf, 0, none⟩) s s)] rfl rfl (by exact rfl) (by kernel_rfl) ?_
        refine q0_nil ?_
        refine hK.out _ _ ?_ (fun hHeld => ?_)
        · exact trivial
        clear hK K
        (try simp only [Act.put, List.setIfInBounds_toArray, List.set_cons_zero, List.set_cons_succ])
        refine wpAnyH_ready (rs := [8]) (by kernel_rfl) (by simp) ?_
        refine (AllReadyH.cons (o := ⟨some 34, _, _, _, _, _⟩) rfl (fun K hK => ?_) AllReadyH.nil)
        rw [if_pos (by rfl)]
        refine ow_of_wl (ops := #[]) (by rfl) ?_
        apply wl_bsX [.agg (List.toArray [.slice (some ⟨gf, 0, none⟩) s s, .bool false, .int .u8 0, .int .i64 0, .int .i64 0])] ([.slice (some ⟨gf, 0, none⟩) s s, .bool false, .int .u8 0, .int .i64 0, .int .i64 0]) hM1
        rfl
        rfl
        exact rfl
        exact rfl
        infer_instance
        infer_instance
        rfl
        rfl
        rfl
        intro gb w4 hM2
        refine q0_nil ?_
        refine hK.out _ _ ?_ (fun hHeld => ?_)
        · exact trivial
        clear hK K
        (try simp only [Act.put, List.setIfInBounds_toArray, List.set_cons_zero, List.set_cons_succ])
        refine wpAnyH_ready (rs := [9]) (by kernel_rfl) (by simp) ?_
        refine (AllReadyH.cons (o := ⟨some 35, _, _, _, _, _⟩) rfl (fun K hK => ?_) AllReadyH.nil)
        rw [if_pos (by rfl)]
        refine ow_of_wl (ops := #[]) (by rfl) ?_
        apply wl_appX (m := 1) (ys := [.slice (some ⟨gf, 0, none⟩) s s, .bool false, .int .u8 0, .int .i64 0, .int .i64 0]) [_, _, _] hM2
        rfl
        rfl
        exact rfl
        exact rfl
        infer_instance
        infer_instance
        infer_instance
        exact Rd.blk (n := 1) hM2 (.head _) (Nat.le_refl _) (by decide) rfl rfl
        rfl
        (refine ⟨by decide, by unfold maxLen; omega, by omega⟩)
        intro v9 w5 hM3 _
        obtain ⟨ao9, c9, rfl, _, _, _⟩ := row_form hM3 (.tail _ (.tail _ (.tail _ (.head _))))
        refine q0_nil ?_
        refine hK.out _ _ ?_ (fun hHeld => ?_)
        · exact trivial
        clear hK K
        (try simp only [Act.put, List.setIfInBounds_toArray, List.set_cons_zero, List.set_cons_succ])
        refine wpAnyH_take (i := 10) (oi := ⟨some 36, _, _, _, _, _⟩) (v := ?_) rfl (by kernel_rfl) (by kernel_rfl) (by kernel_rfl) (fun _ _ _ h => h) (Or.inl ⟨by rfl, ?_⟩) (by assumption) ?_
        rotate_left
        · intro w hSw; (try dsimp only at hSw); go_simp; try with_reducible rfl
        (try simp only [Act.put, List.setIfInBounds_toArray, List.set_cons_zero, List.set_cons_succ])
        refine wpAnyH_take (i := 11) (oi := ⟨some 37, _, _, _, _, _⟩) (v := ?_) rfl (by kernel_rfl) (by kernel_rfl) (by kernel_rfl) (fun _ _ _ h => h) (Or.inl ⟨by rfl, ?_⟩) (by assumption) ?_
        rotate_left
        · intro w hSw; (try dsimp only at hSw); go_simp; try with_reducible rfl
        (try simp only [Act.put, List.setIfInBounds_toArray, List.set_cons_zero, List.set_cons_succ])
        refine wpAnyH_ready (rs := [12]) (by kernel_rfl) (by simp) ?_
        refine (AllReadyH.cons (o := ⟨none, _, _, _, _, _⟩) rfl (fun K hK => ?_) AllReadyH.nil)
        rw [if_pos (by rfl)]
        refine ow_of_wl (ops := #[]) (by rfl) ?_
        refine wl_store [_, _] hM3 rfl rfl rfl (v := .slice _ _ _) rfl rfl rfl (by show (0 : Nat) + 1 ≤ 5; decide) ?_
        intro w6 hM4
        refine q0_nil ?_
        refine hK.out _ _ ?_ (fun hHeld => ?_)
        · exact trivial
        clear hK K
        (try simp only [Act.put, List.setIfInBounds_toArray, List.set_cons_zero, List.set_cons_succ])
        refine wpAnyH_done (by kernel_rfl) ?_ _
        clear hHeld
        go_wp2_with (first | go_big_skip | go_big_guard | fail)
        go_roundw
        case rel =>
          refine ⟨j + 1, gs ++ [gf], .slice ao9 (j + 1) c9, by omega, rfl, by rw [List.length_append, HGL.out]; rfl, ?_⟩
          have e1 : ((gs ++ [gf]).map (blank s)).flatMap DV.cells = XS ++ [.slice (some ⟨gf, 0, none⟩) s s, .bool false, .int .u8 0, .int .i64 0, .int .i64 0] := by
            rw [List.map_append, List.flatMap_append, ← HXS.out]
            congr 1
            show (blank s gf).cells ++ [] = _
            rw [List.append_nil]
            unfold DV.cells
            rw [blank_firm]
            rfl
          have e2 : ((gs ++ [gf]).map (blank s)).map blkD = FZ ++ [.blk gf 84 (List.replicate (s * 256) (.int .u8 0))] := by
            rw [List.map_append, List.map_append, ← HFS.out]
            congr 1
            show [blkD (blank s gf)] = _
            unfold blkD
            rw [show (blank s gf).firm = List.replicate s (List.replicate 256 0) from rfl, secsV_zero]
            rfl
          rw [e1, e2]
          have h9 := (St.front (L1 := [_, _, _]) (St.front (L1 := [_, _, _]) (St.front (L1 := [_]) hM4)))
          refine St.perm (St.sub h9 (.cons_cons _ (.cons_cons _ (.cons_cons _ (.cons _ (List.Sublist.refl _)))))) ?_
          exact List.Perm.cons _ (List.Perm.cons _ (List.perm_append_singleton _ _).symm)
        case measure => simp [intOf]; omega
      · rw [if_pos (by rfl)]
        refine ow_of_wl (ops := #[]) (by rfl) ?_
        apply wl_makeR (sz := 256) (z := .int .u8 0) s s hX
        rfl
        rfl
        exact rfl
        exact rfl
        infer_instance
        infer_instance
        infer_instance
        decide
        exact rfl
        exact rfl
        exact Nat.le_refl _
        (refine ⟨by omega, by omega⟩)
        intro gf w3 hM1
        refine q0_nil ?_
        refine hK.out _ _ ?_ (fun hHeld => ?_)
        · exact trivial
        clear hK K
        (try simp only [Act.put, List.setIfInBounds_toArray, List.set_cons_zero, List.set_cons_succ])
        refine wpAnyH_ready (rs := [4, 7]) (by kernel_rfl) (by simp) ?_
        refine (AllReadyH.cons (o := ⟨some 30, _, _, _, _, _⟩) rfl (fun K hK => ?_) (AllReadyH.cons (o := ⟨some 33, _, _, _, _, _⟩) rfl (fun K hK => ?_) AllReadyH.nil))
        · rw [if_pos (by rfl)]
          refine ow_of_wl (ops := #[]) (by rfl) ?_
          refine wl_loadE rfl rfl rfl ?_
          refine ⟨_, Loads.at [_] hM1 rfl, ?_⟩
          refine q0_nil ?_
          refine hK.out _ _ ?_ (fun hHeld => ?_)
          · exact trivial
          clear hK K
          (try simp only [Act.put, List.setIfInBounds_toArray, List.set_cons_zero, List.set_cons_succ])
          refine wpAnyH_ready (rs := [7]) (by kernel_rfl) (by simp) ?_
          refine (AllReadyH.cons (o := ⟨some 33, _, _, _, _, _⟩) rfl (fun K hK => ?_) AllReadyH.nil)
          rw [if_pos (by rfl)]
          refine ow_of_wl (ops := #[]) (by rfl) ?_
          refine wl_buildX (cs := [.slice (some ⟨gf, 0, none⟩) s s, .bool false, .int .u8 0, .int .i64 0, .int .i64 0]) [(0, .slice (some ⟨gf, 0, none⟩) s s)] rfl rfl (by exact rfl) (by kernel_rfl) ?_
          refine q0_nil ?_
          refine hK.out _ _ ?_ (fun hHeld => ?_)
          · exact trivial
          clear hK K
          (try simp only [Act.put, List.setIfInBounds_toArray, List.set_cons_zero, List.set_cons_succ])
          refine wpAnyH_ready (rs := [8]) (by kernel_rfl) (by simp) ?_
          refine (AllReadyH.cons (o := ⟨some 34, _, _, _, _, _⟩) rfl (fun K hK => ?_) AllReadyH.nil)
          rw [if_pos (by rfl)]
          refine ow_of_wl (ops := #[]) (by rfl) ?_
          apply wl_bsX [.agg (List.toArray [.slice (some ⟨gf, 0, none⟩) s s, .bool false, .int .u8 0, .int .i64 0, .int .i64 0])] ([.slice (some ⟨gf, 0, none⟩) s s, .bool false, .int .u8 0, .int .i64 0, .int .i64 0]) hM1
          rfl
          rfl
          exact rfl
          exact rfl
          infer_instance
          infer_instance
          rfl
          rfl
          rfl
          intro gb w4 hM2
          refine q0_nil ?_
          refine hK.out _ _ ?_ (fun hHeld => ?_)
          · exact trivial
          clear hK K
          (try simp only [Act.put, List.setIfInBounds_toArray, List.set_cons_zero, List.set_cons_succ])
          refine wpAnyH_ready (rs := [9]) (by kernel_rfl) (by simp) ?_
          refine (AllReadyH.cons (o := ⟨some 35, _, _, _, _, _⟩) rfl (fun K hK => ?_) AllReadyH.nil)
          rw [if_pos (by rfl)]
          refine ow_of_wl (ops := #[]) (by rfl) ?_
          apply wl_appX (m := 1) (ys := [.slice (some ⟨gf, 0, none⟩) s s, .bool false, .int .u8 0, .int .i64 0, .int .i64 0]) [_, _, _] hM2
          rfl
          rfl
          exact rfl
          exact rfl
          infer_instance
          infer_instance
          infer_instance
          exact Rd.blk (n := 1) hM2 (.head _) (Nat.le_refl _) (by decide) rfl rfl
          rfl
          (refine ⟨by decide, by unfold maxLen; omega, by omega⟩)
          intro v9 w5 hM3 _
          obtain ⟨ao9, c9, rfl, _, _, _⟩ := row_form hM3 (.tail _ (.tail _ (.tail _ (.head _))))
          refine q0_nil ?_
          refine hK.out _ _ ?_ (fun hHeld => ?_)
          · exact trivial
          clear hK K
          (try simp only [Act.put, List.setIfInBounds_toArray, List.set_cons_zero, List.set_cons_succ])
          refine wpAnyH_take (i := 10) (oi := ⟨some 36, _, _, _, _, _⟩) (v := ?_) rfl (by kernel_rfl) (by kernel_rfl) (by kernel_rfl) (fun _ _ _ h => h) (Or.inl ⟨by rfl, ?_⟩) (by assumption) ?_
          rotate_left
          · intro w hSw; (try dsimp only at hSw); go_simp; try with_reducible rfl
          (try simp only [Act.put, List.setIfInBounds_toArray, List.set_cons_zero, List.set_cons_succ])
          refine wpAnyH_take (i := 11) (oi := ⟨some 37, _, _, _, _, _⟩) (v := ?_) rfl (by kernel_rfl) (by kernel_rfl) (by kernel_rfl) (fun _ _ _ h => h) (Or.inl ⟨by rfl, ?_⟩) (by assumption) ?_
          rotate_left
          · intro w hSw; (try dsimp only at hSw); go_simp; try with_reducible rfl
          (try simp only [Act.put, List.setIfInBounds_toArray, List.set_cons_zero, List.set_cons_succ])
          refine wpAnyH_ready (rs := [12]) (by kernel_rfl) (by simp) ?_
          refine (AllReadyH.cons (o := ⟨none, _, _, _, _, _⟩) rfl (fun K hK => ?_) AllReadyH.nil)
          rw [if_pos (by rfl)]
          refine ow_of_wl (ops := #[]) (by rfl) ?_
          refine wl_store [_, _] hM3 rfl rfl rfl (v := .slice _ _ _) rfl rfl rfl (by show (0 : Nat) + 1 ≤ 5; decide) ?_
          intro w6 hM4
          refine q0_nil ?_
          refine hK.out _ _ ?_ (fun hHeld => ?_)
          · exact trivial
          clear hK K
          (try simp only [Act.put, List.setIfInBounds_toArray, List.set_cons_zero, List.set_cons_succ])
          refine wpAnyH_done (by kernel_rfl) ?_ _
          clear hHeld
          go_wp2_with (first | go_big_skip | go_big_guard | fail)
          go_roundw
          case rel =>
            refine ⟨j + 1, gs ++ [gf], .slice ao9 (j + 1) c9, by omega, rfl, by rw [List.length_append, HGL.out]; rfl, ?_⟩
            have e1 : ((gs ++ [gf]).map (blank s)).flatMap DV.cells = XS ++ [.slice (some ⟨gf, 0, none⟩) s s, .bool false, .int .u8 0, .int .i64 0, .int .i64 0] := by
              rw [List.map_append, List.flatMap_append, ← HXS.out]
              congr 1
              show (blank s gf).cells ++ [] = _
              rw [List.append_nil]
              unfold DV.cells
              rw [blank_firm]
              rfl
            have e2 : ((gs ++ [gf]).map (blank s)).map blkD = FZ ++ [.blk gf 84 (List.replicate (s * 256) (.int .u8 0))] := by
              rw [List.map_append, List.map_append, ← HFS.out]
              congr 1
              show [blkD (blank s gf)] = _
              unfold blkD
              rw [show (blank s gf).firm = List.replicate s (List.replicate 256 0) from rfl, secsV_zero]
              rfl
            rw [e1, e2]
            have h9 := (St.front (L1 := [_, _, _]) (St.front (L1 := [_, _, _]) (St.front (L1 := [_]) hM4)))
            refine St.perm (St.sub h9 (.cons_cons _ (.cons_cons _ (.cons_cons _ (.cons _ (List.Sublist.refl _)))))) ?_
            exact List.Perm.cons _ (List.Perm.cons _ (List.perm_append_singleton _ _).symm)
          case measure => simp [intOf]; omega
        · rw [if_pos (by rfl)]
          refine ow_of_wl (ops := #[]) (by rfl) ?_
          refine wl_buildX (cs := [.slice (some ⟨gf, 0, none⟩) s s, .bool false, .int .u8 0, .int .i64 0, .int .i64 0]) [(0, .slice (some ⟨gf, 0, none⟩) s s)] rfl rfl (by exact rfl) (by kernel_rfl) ?_
          refine q0_nil ?_
          refine hK.out _ _ ?_ (fun hHeld => ?_)
          · exact trivial
          clear hK K
          (try simp only [Act.put, List.setIfInBounds_toArray, List.set_cons_zero, List.set_cons_succ])
          refine wpAnyH_ready (rs := [4, 8]) (by kernel_rfl) (by simp) ?_
          refine (AllReadyH.cons (o := ⟨some 30, _, _, _, _, _⟩) rfl (fun K hK => ?_) (AllReadyH.cons (o := ⟨some 34, _, _, _, _, _⟩) rfl (fun K hK => ?_) AllReadyH.nil))
          · rw [if_pos (by rfl)]
            refine ow_of_wl (ops := #[]) (by rfl) ?_
            refine wl_loadE rfl rfl rfl ?_
            refine ⟨_, Loads.at [_] hM1 rfl, ?_⟩
            refine q0_nil ?_
            refine hK.out _ _ ?_ (fun hHeld => ?_)
            · exact trivial
            clear hK K
            (try simp only [Act.put, List.setIfInBounds_toArray, List.set_cons_zero, List.set_cons_succ])
            refine wpAnyH_ready (rs := [8]) (by kernel_rfl) (by simp) ?_
            refine (AllReadyH.cons (o := ⟨some 34, _, _, _, _, _⟩) rfl (fun K hK => ?_) AllReadyH.nil)
            rw [if_pos (by rfl)]
            refine ow_of_wl (ops := #[]) (by rfl) ?_
            apply wl_bsX [.agg (List.toArray [.slice (some ⟨gf, 0, none⟩) s s, .bool false, .int .u8 0, .int .i64 0, .int .i64 0])] ([.slice (some ⟨gf, 0, none⟩) s s, .bool false, .int .u8 0, .int .i64 0, .int .i64 0]) hM1
            rfl
            rfl
            exact rfl
            exact rfl
            infer_instance
            infer_instance
            rfl
            rfl
            rfl
            intro gb w4 hM2
            refine q0_nil ?_
            refine hK.out _ _ ?_ (fun hHeld => ?_)
            · exact trivial
            clear hK K
            (try simp only [Act.put, List.setIfInBounds_toArray, List.set_cons_zero, List.set_cons_succ])
            refine wpAnyH_ready (rs := [9]) (by kernel_rfl) (by simp) ?_
            refine (AllReadyH.cons (o := ⟨some 35, _, _, _, _, _⟩) rfl (fun K hK => ?_) AllReadyH.nil)
            rw [if_pos (by rfl)]
            refine ow_of_wl (ops := #[]) (by rfl) ?_
            apply wl_appX (m := 1) (ys := [.slice (some ⟨gf, 0, none⟩) s s, .bool false, .int .u8 0, .int .i64 0, .int .i64 0]) [_, _, _] hM2
            rfl
            rfl
            exact rfl
            exact rfl
            infer_instance
            infer_instance
            infer_instance
            exact Rd.blk (n := 1) hM2 (.head _) (Nat.le_refl _) (by decide) rfl rfl
            rfl
            (refine ⟨by decide, by unfold maxLen; omega, by omega⟩)
            intro v9 w5 hM3 _
            obtain ⟨ao9, c9, rfl, _, _, _⟩ := row_form hM3 (.tail _ (.tail _ (.tail _ (.head _))))
            refine q0_nil ?_
            refine hK.out _ _ ?_ (fun hHeld => ?_)
            · exact trivial
            clear hK K
            (try simp only [Act.put, List.setIfInBounds_toArray, List.set_cons_zero, List.set_cons_succ])
            refine wpAnyH_take (i := 10) (oi := ⟨some 36, _, _, _, _, _⟩) (v := ?_) rfl (by kernel_rfl) (by kernel_rfl) (by kernel_rfl) (fun _ _ _ h => h) (Or.inl ⟨by rfl, ?_⟩) (by assumption) ?_
            rotate_left
            · intro w hSw; (try dsimp only at hSw); go_simp; try with_reducible rfl
            (try simp only [Act.put, List.setIfInBounds_toArray, List.set_cons_zero, List.set_cons_succ])
            refine wpAnyH_take (i := 11) (oi := ⟨some 37, _, _, _, _, _⟩) (v := ?_) rfl (by kernel_rfl) (by kernel_rfl) (by kernel_rfl) (fun _ _ _ h => h) (Or.inl ⟨by rfl, ?_⟩) (by assumption) ?_
            rotate_left
            · intro w hSw; (try dsimp only at hSw); go_simp; try with_reducible rfl
            (try simp only [Act.put, List.setIfInBounds_toArray, List.set_cons_zero, List.set_cons_succ])
            refine wpAnyH_ready (rs := [12]) (by kernel_rfl) (by simp) ?_
            refine (AllReadyH.cons (o := ⟨none, _, _, _, _, _⟩) rfl (fun K hK => ?_) AllReadyH.nil)
            rw [if_pos (by rfl)]
            refine ow_of_wl (ops := #[]) (by rfl) ?_
            refine wl_store [_, _] hM3 rfl rfl rfl (v := .slice _ _ _) rfl rfl rfl (by show (0 : Nat) + 1 ≤ 5; decide) ?_
            intro w6 hM4
            refine q0_nil ?_
            refine hK.out _ _ ?_ (fun hHeld => ?_)
            · exact trivial
            clear hK K
            (try simp only [Act.put, List.setIfInBounds_toArray, List.set_cons_zero, List.set_cons_succ])
            refine wpAnyH_done (by kernel_rfl) ?_ _
            clear hHeld
            go_wp2_with (first | go_big_skip | go_big_guard | fail)
            go_roundw
            case rel =>
              refine ⟨j + 1, gs ++ [gf], .slice ao9 (j + 1) c9, by omega, rfl, by rw [List.length_append, HGL.out]; rfl, ?_⟩
              have e1 : ((gs ++ [gf]).map (blank s)).flatMap DV.cells = XS ++ [.slice (some ⟨gf, 0, none⟩) s s, .bool false, .int .u8 0, .int .i64 0, .int .i64 0] := by
                rw [List.map_append, List.flatMap_append, ← HXS.out]
                congr 1
                show (blank s gf).cells ++ [] = _
                rw [List.append_nil]
                unfold DV.cells
                rw [blank_firm]
                rfl
              have e2 : ((gs ++ [gf]).map (blank s)).map blkD = FZ ++ [.blk gf 84 (List.replicate (s * 256) (.int .u8 0))] := by
                rw [List.map_append, List.map_append, ← HFS.out]
                congr 1
                show [blkD (blank s gf)] = _
                unfold blkD
                rw [show (blank s gf).firm = List.replicate s (List.replicate 256 0) from rfl, secsV_zero]
                rfl
              rw [e1, e2]
              have h9 := (St.front (L1 := [_, _, _]) (St.front (L1 := [_, _, _]) (St.front (L1 := [_]) hM4)))
              refine St.perm (St.sub h9 (.cons_cons _ (.cons_cons _ (.cons_cons _ (.cons _ (List.Sublist.refl _)))))) ?_
              exact List.Perm.cons _ (List.Perm.cons _ (List.perm_append_singleton _ _).symm)
            case measure => simp [intOf]; omega
          · rw [if_pos (by rfl)]
            refine ow_of_wl (ops := #[]) (by rfl) ?_
            apply wl_bsX [.agg (List.toArray [.slice (some ⟨gf, 0, none⟩) s s, .bool false, .int .u8 0, .int .i64 0, .int .i64 0])] ([.slice (some ⟨gf, 0, none⟩) s s, .bool false, .int .u8 0, .int .i64 0, .int .i64 0]) hM1
            rfl
            rfl
            exact rfl
            exact rfl
            infer_instance
            infer_instance
            rfl
            rfl
            rfl
            intro gb w4 hM2
            refine q0_nil ?_
            refine hK.out _ _ ?_ (fun hHeld => ?_)
            · exact trivial
            clear hK K
            (try simp only [Act.put, List.setIfInBounds_toArray, List.set_cons_zero, List.set_cons_succ])
            refine wpAnyH_ready (rs := [4]) (by kernel_rfl) (by simp) ?_
            refine (AllReadyH.cons (o := ⟨some 30, _, _, _, _, _⟩) rfl (fun K hK => ?_) AllReadyH.nil)
            rw [if_pos (by rfl)]
            refine ow_of_wl (ops := #[]) (by rfl) ?_
            refine wl_loadE rfl rfl rfl ?_
            refine ⟨_, Loads.at [_, _] hM2 rfl, ?_⟩
            refine q0_nil ?_
            refine hK.out _ _ ?_ (fun hHeld => ?_)
            · exact trivial
            clear hK K
            (try simp only [Act.put, List.setIfInBounds_toArray, List.set_cons_zero, List.set_cons_succ])
            refine wpAnyH_ready (rs := [9]) (by kernel_rfl) (by simp) ?_
            refine (AllReadyH.cons (o := ⟨some 35, _, _, _, _, _⟩) rfl (fun K hK => ?_) AllReadyH.nil)
            rw [if_pos (by rfl)]
            refine ow_of_wl (ops := #[]) (by rfl) ?_
            apply wl_appX (m := 1) (ys := [.slice (some ⟨gf, 0, none⟩) s s, .bool false, .int .u8 0, .int .i64 0, .int .i64 0]) [_, _, _] hM2
            rfl
            rfl
            exact rfl
            exact rfl
            infer_instance
            infer_instance
            infer_instance
            exact Rd.blk (n := 1) hM2 (.head _) (Nat.le_refl _) (by decide) rfl rfl
            rfl
            (refine ⟨by decide, by unfold maxLen; omega, by omega⟩)
            intro v9 w5 hM3 _
            obtain ⟨ao9, c9, rfl, _, _, _⟩ := row_form hM3 (.tail _ (.tail _ (.tail _ (.head _))))
            refine q0_nil ?_
            refine hK.out _ _ ?_ (fun hHeld => ?_)
            · exact trivial
            clear hK K
            (try simp only [Act.put, List.setIfInBounds_toArray, List.set_cons_zero, List.set_cons_succ])
            refine wpAnyH_take (i := 10) (oi := ⟨some 36, _, _, _, _, _⟩) (v := ?_) rfl (by kernel_rfl) (by kernel_rfl) (by kernel_rfl) (fun _ _ _ h => h) (Or.inl ⟨by rfl, ?_⟩) (by assumption) ?_
            rotate_left
            · intro w hSw; (try dsimp only at hSw); go_simp; try with_reducible rfl
            (try simp only [Act.put, List.setIfInBounds_toArray, List.set_cons_zero, List.set_cons_succ])
            refine wpAnyH_take (i := 11) (oi := ⟨some 37, _, _, _, _, _⟩) (v := ?_) rfl (by kernel_rfl) (by kernel_rfl) (by kernel_rfl) (fun _ _ _ h => h) (Or.inl ⟨by rfl, ?_⟩) (by assumption) ?_
            rotate_left
            · intro w hSw; (try dsimp only at hSw); go_simp; try with_reducible rfl
            (try simp only [Act.put, List.setIfInBounds_toArray, List.set_cons_zero, List.set_cons_succ])
            refine wpAnyH_ready (rs := [12]) (by kernel_rfl) (by simp) ?_
            refine (AllReadyH.cons (o := ⟨none, _, _, _, _, _⟩) rfl (fun K hK => ?_) AllReadyH.nil)
            rw [if_pos (by rfl)]
            refine ow_of_wl (ops := #[]) (by rfl) ?_
            refine wl_store [_, _] hM3 rfl rfl rfl (v := .slice _ _ _) rfl rfl rfl (by show (0 : Nat) + 1 ≤ 5; decide) ?_
            intro w6 hM4
            refine q0_nil ?_
            refine hK.out _ _ ?_ (fun hHeld => ?_)
            · exact trivial
            clear hK K
            (try simp only [Act.put, List.setIfInBounds_toArray, List.set_cons_zero, List.set_cons_succ])
            refine wpAnyH_done (by kernel_rfl) ?_ _
            clear hHeld
            go_wp2_with (first | go_big_skip | go_big_guard | fail)
            go_roundw
            case rel =>
              refine ⟨j + 1, gs ++ [gf], .slice ao9 (j + 1) c9, by omega, rfl, by rw [List.length_append, HGL.out]; rfl, ?_⟩
              have e1 : ((gs ++ [gf]).map (blank s)).flatMap DV.cells = XS ++ [.slice (some ⟨gf, 0, none⟩) s s, .bool false, .int .u8 0, .int .i64 0, .int .i64 0] := by
                rw [List.map_append, List.flatMap_append, ← HXS.out]
                congr 1
                show (blank s gf).cells ++ [] = _
                rw [List.append_nil]
                unfold DV.cells
                rw [blank_firm]
                rfl
              have e2 : ((gs ++ [gf]).map (blank s)).map blkD = FZ ++ [.blk gf 84 (List.replicate (s * 256) (.int .u8 0))] := by
                rw [List.map_append, List.map_append, ← HFS.out]
                congr 1
                show [blkD (blank s gf)] = _
                unfold blkD
                rw [show (blank s gf).firm = List.replicate s (List.replicate 256 0) from rfl, secsV_zero]
                rfl
              rw [e1, e2]
              have h9 := (St.front (L1 := [_, _, _]) (St.front (L1 := [_, _, _]) (St.front (L1 := [_]) hM4)))
              refine St.perm (St.sub h9 (.cons_cons _ (.cons_cons _ (.cons_cons _ (.cons _ (List.Sublist.refl _)))))) ?_
              exact List.Perm.cons _ (List.Perm.cons _ (List.perm_append_singleton _ _).symm)
            case measure => simp [intOf]; omega
    · have d5 : decide ((j : Int) < (d : Int)) = false := decide_eq_false (by omega)
      have hjd : j = d := by omega
      subst hjd
      go_wp2_with (first | go_big_skip | go_big_guard | fail)
      go_ret2
      obtain ⟨gd, cd, rest, rfl, h2⟩ := row_open (L1 := [_]) hst (by omega)
      refine ⟨ga, ⟨gd, cd, rest, .slice none 0 0⟩, gs, rfl, hgl, ?_⟩
      have h3 := St.nilR 86 258 h2
      have h4 := St.perm h3 (L' := .blk ga 49 [.slice (some ⟨gd, 0, none⟩) j cd, .slice none 0 0, .int .i64 (-1), .bool false, .int .i64 0] :: .blk gd 53 ((gs.map (blank s)).flatMap DV.cells ++ rest) :: .row (.slice none 0 0) 86 258 0 [] :: (gs.map (blank s)).map blkD)
        ((List.Perm.swap _ _ _).trans (List.Perm.cons _ (List.Perm.swap _ _ _)))
      have hl : (newA s gs).devs.length = j := by simp [newA, hgl]
      unfold arP arrC
      rw [hl]
      exact h4
end
end Go.Proofs.YtclleohpmgihaaaGreat
