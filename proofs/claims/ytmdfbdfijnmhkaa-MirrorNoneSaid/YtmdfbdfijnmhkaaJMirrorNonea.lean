import Derived.Test.YtmdfbdfijnmhkaaR20
import Derived.Test.YtmdfbdfijnmhkaaKTy
import Derived.Test.YtmdfbdfijnmhkaaSepP
import Derived.Test.YtmdfbdfijnmhkaaSepO
import Derived.Deep.RegionHeld3
import Derived.Outline
import Derived.IntWalk
namespace Go.Proofs.Ytmdfbdfijnmhkaa
set_option linter.unusedVariables false
set_option linter.unusedSimpArgs false
open Go.RowKit Hp
attribute [local irreducible] Go.Calls Go.wpList
set_option maxRecDepth 100000
set_option maxHeartbeats 4000000
theorem madeCells_rep (v : Value) (sz n : Nat) (hs : 0 < sz) : madeCells (List.replicate sz v).toArray n = (List.replicate n v).toArray := by
  apply Array.ext
  · simp [madeCells]
  · intro i h1 h2
    have hi : i % sz < sz := Nat.mod_lt _ hs
    simp [madeCells, hi]
theorem wl_makeR {ops : Array Oper} {rest : List Oper} {o : Oper} {a : Act} {w0 w : World} {M : List Nat} {L : List HA} {Q : Exit → Act → World → Prop} {T e : TypeId} {x y : Operand} {bytes sz : Nat} {z : Value} {u v : Int} (l c : Nat) (hst : St w0 M w L) (hop : o.op = .makeSlice T x y)
    (hw : Region.wanted o (yielded ops a.tmps) = true) (hx : a.eval x = .int .i64 u) (hy : a.eval y = .int .i64 v) (ht : TySl Try.prog T e) (he : TyE Try.prog e sz bytes) (hz : TyZ Try.prog e (List.replicate sz z)) (hsz : 0 < sz) (hu : u = (l : Int)) (hv : v = (c : Int)) (hlc : l ≤ c) (hb : c * bytes ≤ 281474976710656 ∧ c ≤ 9223372036854775807)
    (h : ∀ g w', St w0 M w' (.blk g e (List.replicate (c * sz) z) :: L) → wpList Try.prog ops Q rest (a.put o.dst (.slice (some ⟨g, 0, none⟩) l c)) w') : wpList Try.prog ops Q (o :: rest) a w := by
  subst hu hv
  obtain ⟨i, zz, hi, hzz, hs, hbs, hzs⟩ := tyE_spec he.out
  have hzl : zz.cells = (List.replicate sz z).toArray := by
    have := hz.out
    unfold tyZ at this
    simp [hi, hzz] at this
    exact Array.toList_inj.1 (by simpa using this)
  have hm := run_make (P := Try.prog) w T e i zz ht.out hi hzz .i64 .i64 l c (by omega) (by omega) (by rw [hbs, ← Int.natCast_mul, Nat.mul_comm]; have h3 := hb.1; revert h3; generalize c * bytes = q; intro h3; omega) (by have := hb.2; omega)
  rw [hzl, hs, madeCells_rep _ _ _ hsz] at hm
  simp only [Int.toNat_natCast] at hm
  refine wl_run hw ?_ (h _ _ (hst.alloc e (List.replicate (c * sz) z)))
  unfold execOp
  simp only [hop, hx, hy, Sem.run_bind, hm, Sem.run_pure, Result.andThen_ok]
theorem row_open {w0 w : World} {M : List Nat} {L1 L2 : List HA} {v : Value} {T : TypeId} {sz n : Nat} {xs : List Value} (h : St w0 M w (L1 ++ .row v T sz n xs :: L2)) (hn : 0 < n) : ∃ g c rest, v = .slice (some ⟨g, 0, none⟩) n c ∧ St w0 M w (L1 ++ .blk g T (xs ++ rest) :: L2) := by
  obtain ⟨hl, h2⟩ := h.owns (v := v) (T := T) (sz := sz) (n := n) (xs := xs) (by simp)
  rcases h2 with ⟨_, hz⟩ | ⟨g, cap, cur, rfl, _, hh, _, _, _, hp⟩
  · omega
  · refine ⟨g, cap, cur.toList.drop (n * sz), rfl, h.rep (y := .blk g T (xs ++ cur.toList.drop (n * sz))) rfl fun _ => ?_⟩
    show w.heap[g]? = _
    rw [hh, ← hp, List.take_append_drop]
def blank (s : Nat) (g : Nat) : DV := ⟨g, List.replicate s (List.replicate 256 0), false, false, false, 0, 0⟩
def newA (s : Nat) (gs : List Nat) : AR := ⟨gs.map (blank s), [], -1, false, 0⟩
theorem bytesV_zero (n : Nat) : bytesV (List.replicate n 0) = List.replicate n (.int .u8 0) := by simp [bytesV]
theorem secsV_zero (s : Nat) : secsV (List.replicate s (List.replicate 256 0)) = List.replicate (s * 256) (.int .u8 0) := by
  induction s with
  | zero => rfl
  | succ s ih =>
    unfold secsV at ih ⊢
    rw [List.replicate_succ, List.flatMap_cons, ih, bytesV_zero, List.replicate_append_replicate, Nat.add_mul, Nat.one_mul, Nat.add_comm]
theorem blank_firm (s g : Nat) : (blank s g).firm.length = s := by simp [blank]
section
theorem newM_any (d s : Nat) (hd : 2 ≤ d ∧ d ≤ 8) (hs : 8 ≤ s ∧ s ≤ 4096) (w : World) :
    Calls Try.prog 26 #[.int .i64 (d : Int), .int .i64 (s : Int)] w fun e w' => ∃ ga x gs, e = .returned (.tuple #[.pointer (some ⟨ga, 0, none⟩), .int .i64 0]) ∧ gs.length = d ∧ St w [] w' (arP ga x (newA s gs)) := by
  have hst0 := St.refl w
  have d1 : decide ((d : Int) < 2) = false := decide_eq_false (by omega)
  have d2 : decide ((d : Int) > 8) = false := decide_eq_false (by omega)
  have d2' : decide ((8 : Int) < (d : Int)) = false := d2
  have d3 : decide ((s : Int) < 8) = false := decide_eq_false (by omega)
  have d4 : decide ((s : Int) > 4096) = false := decide_eq_false (by omega)
  have d4' : decide ((4096 : Int) < (s : Int)) = false := d4
  have e1 : ¬ d < 2 := by omega
  have e2 : ¬ 8 < d := by omega
  have e3 : ¬ s < 8 := by omega
  have e4 : ¬ 4096 < s := by omega
  go_enter Try.func26, Try.ntmps26
  go_wp2_with (first | go_big_skip | go_big_guard | (refine wl_buildX (cs := [.slice none 0 0, .slice none 0 0, .int .i64 (-1), .bool false, .int .i64 0]) [(2, _)] rfl rfl (by exact rfl) (by kernel_rfl) ?_) | (refine wl_boxA hst0 rfl rfl rfl ?_; intro ga _ hst1; clear hst0))
  go_loopw [24] (fun i wr => ∃ (j : Nat) (gs : List Nat) (dv : Value), j ≤ d ∧ i = .int .i64 (j : Int) ∧ gs.length = j ∧ St w [] wr (.blk ga 70 [dv, .slice none 0 0, .int .i64 (-1), .bool false, .int .i64 0] :: .row dv 93 5 j ((gs.map (blank s)).flatMap DV.cells) :: (gs.map (blank s)).map blkD)) (fun i _ => d - (intOf i).toNat)
  case atStart =>
    refine ⟨0, [], .slice none 0 0, Nat.zero_le _, rfl, rfl, ?_⟩
    exact St.perm (St.nilR 93 5 hst1) (List.Perm.swap _ _ _)
  case round =>
    clear hst1
    obtain ⟨j, gs, dv, hj, rfl, hgl, hst⟩ := hrel
    by_cases hlj : j < d
    · have d5 : decide ((j : Int) < (d : Int)) = true := decide_eq_true (by omega)
      have z1 : IntKind.i64.wrap ((j : Int) + 1) = (j : Int) + 1 := IntWalk.i64_in _ (by omega)
      have HGL := hid hgl
      obtain ⟨XS, hXS⟩ : ∃ XS, XS = (gs.map (blank s)).flatMap DV.cells := ⟨_, rfl⟩
      obtain ⟨FZ, hFS⟩ : ∃ FZ, FZ = (gs.map (blank s)).map blkD := ⟨_, rfl⟩
      have HXS := hid hXS
      have HFS := hid hFS
      rw [← hXS, ← hFS] at hst
      clear hgl hXS hFS
      go_wp2_with (first | go_big_skip | go_big_guard | fail)
      have hX := hst.drew
      clear hst
      refine wp_region_held_drew (S := (fun w' => True)) (by kernel_rfl) (by exact trivial) (fun hHeld => ?_)
      refine wpAnyH_take (i := 0) (oi := ⟨some 26, _, _, _, _, _⟩) (v := ?_) rfl (by kernel_rfl) (by kernel_rfl) (by kernel_rfl) (fun _ _ _ h => h) (Or.inl ⟨by rfl, ?_⟩) (by assumption) ?_
      rotate_left
      · intro w hSw; (try dsimp only at hSw); go_simp; try with_reducible rfl
      (try simp only [Act.put, List.setIfInBounds_toArray, List.set_cons_zero, List.set_cons_succ])
      refine wpAnyH_take (i := 1) (oi := ⟨some 27, _, _, _, _, _⟩) (v := ?_) rfl (by kernel_rfl) (by kernel_rfl) (by kernel_rfl) (fun _ _ _ h => h) (Or.inl ⟨by rfl, ?_⟩) (by assumption) ?_
      rotate_left
      · intro w hSw; (try dsimp only at hSw); go_simp; try with_reducible rfl
      (try simp only [Act.put, List.setIfInBounds_toArray, List.set_cons_zero, List.set_cons_succ])
      refine wpAnyH_take (i := 5) (oi := ⟨some 31, _, _, _, _, _⟩) (v := ?_) rfl (by kernel_rfl) (by kernel_rfl) (by kernel_rfl) (fun _ _ _ h => h) (Or.inl ⟨by rfl, ?_⟩) (by assumption) ?_
      rotate_left
      · intro w hSw; (try dsimp only at hSw); go_simp; try with_reducible rfl
      (try simp only [Act.put, List.setIfInBounds_toArray, List.set_cons_zero, List.set_cons_succ])
      refine wpAnyH_take (i := 2) (oi := ⟨some 28, _, _, _, _, _⟩) (v := ?_) rfl (by kernel_rfl) (by kernel_rfl) (by kernel_rfl) (fun _ _ _ h => h) (Or.inl ⟨by rfl, ?_⟩) (by assumption) ?_
      rotate_left
      · intro w hSw; (try dsimp only at hSw); go_simp; try with_reducible rfl
      (try simp only [Act.put, List.setIfInBounds_toArray, List.set_cons_zero, List.set_cons_succ])
      refine wpAnyH_take (i := 3) (oi := ⟨some 29, _, _, _, _, _⟩) (v := ?_) rfl (by kernel_rfl) (by kernel_rfl) (by kernel_rfl) (fun _ _ _ h => h) (Or.inl ⟨by rfl, ?_⟩) (by assumption) ?_
      rotate_left
      · intro w hSw; (try dsimp only at hSw); go_simp; try with_reducible rfl
      (try simp only [Act.put, List.setIfInBounds_toArray, List.set_cons_zero, List.set_cons_succ])
      refine wpAnyH_ready (rs := [4, 6]) (by kernel_rfl) (by simp) ?_
      refine (AllReadyH.cons (o := ⟨some 30, _, _, _, _, _⟩) rfl (fun K hK => ?_) (AllReadyH.cons (o := ⟨some 32, _, _, _, _, _⟩) rfl (fun K hK => ?_) AllReadyH.nil))
      · rw [if_pos (by rfl)]
        refine ow_of_wl (ops := #[]) (by rfl) ?_
        refine wl_loadE rfl rfl rfl ?_
        refine ⟨_, Loads.at [] hX rfl, ?_⟩
        refine q0_nil ?_
        refine hK.out _ _ ?_ (fun hHeld => ?_)
        · exact trivial
        clear hK K
        (try simp only [Act.put, List.setIfInBounds_toArray, List.set_cons_zero, List.set_cons_succ])
        refine wpAnyH_ready (rs := [6]) (by kernel_rfl) (by simp) ?_
        refine (AllReadyH.cons (o := ⟨some 32, _, _, _, _, _⟩) rfl (fun K hK => ?_) AllReadyH.nil)
        rw [if_pos (by rfl)]
        refine ow_of_wl (ops := #[]) (by rfl) ?_
        apply wl_makeR (sz := 256) (z := .int .u8 0) s s hX
        rfl
        rfl
        exact rfl
        exact rfl
        infer_instance
        infer_instance
        infer_instance
        decide
        exact rfl
        exact rfl
        exact Nat.le_refl _
        (refine ⟨by omega, by omega⟩)
        intro gf w3 hM1
        refine q0_nil ?_
        refine hK.out _ _ ?_ (fun hHeld => ?_)
        · exact trivial
        clear hK K
        (try simp only [Act.put, List.setIfInBounds_toArray, List.set_cons_zero, List.set_cons_succ])
        refine wpAnyH_ready (rs := [7]) (by kernel_rfl) (by simp) ?_
        refine (AllReadyH.cons (o := ⟨some 33, _, _, _, _, _⟩) rfl (fun K hK => ?_) AllReadyH.nil)
        rw [if_pos (by rfl)]
        refine ow_of_wl (ops := #[]) (by rfl) ?_
        refine wl_buildX (cs := [.slice (some ⟨gf, 0, none⟩) s s, .bool false, .int .u8 0, .int .i64 0, .int .i64 0]) [(0, .slice (some ⟨gf, 0, none⟩) s s)] rfl rfl (by exact rfl) (by kernel_rfl) ?_
        refine q0_nil ?_
        refine hK.out _ _ ?_ (fun hHeld => ?_)
        · exact trivial
        clear hK K
        (try simp only [Act.put, List.setIfInBounds_toArray, List.set_cons_zero, List.set_cons_succ])
        refine wpAnyH_ready (rs := [8]) (by kernel_rfl) (by simp) ?_
        refine (AllReadyH.cons (o := ⟨some 34, _, _, _, _, _⟩) rfl (fun K hK => ?_) AllReadyH.nil)
        rw [if_pos (by rfl)]
        refine ow_of_wl (ops := #[]) (by rfl) ?_
        apply wl_bsX [.agg (List.toArray [.slice (some ⟨gf, 0, none⟩) s s, .bool false, .int .u8 0, .int .i64 0, .int .i64 0])] ([.slice (some ⟨gf, 0, none⟩) s s, .bool false, .int .u8 0, .int .i64 0, .int .i64 0]) hM1
        rfl
        rfl
        exact rfl
        exact rfl
        infer_instance
        infer_instance
        rfl
        rfl
        rfl
        intro gb w4 hM2
        refine q0_nil ?_
        refine hK.out _ _ ?_ (fun hHeld => ?_)
        · exact trivial
        clear hK K
        (try simp only [Act.put, List.setIfInBounds_toArray, List.set_cons_zero, List.set_cons_succ])
        refine wpAnyH_ready (rs := [9]) (by kernel_rfl) (by simp) ?_
        refine (AllReadyH.cons (o := ⟨some 35, _, _, _, _, _⟩) rfl (fun K hK => ?_) AllReadyH.nil)
        rw [if_pos (by rfl)]
        refine ow_of_wl (ops := #[]) (by rfl) ?_
        apply wl_appX (m := 1) (ys := [.slice (some ⟨gf, 0, none⟩) s s, .bool false, .int .u8 0, .int .i64 0, .int .i64 0]) [_, _, _] hM2
        rfl
        rfl
        exact rfl
        exact rfl
        infer_instance
        infer_instance
        infer_instance
        exact Rd.blk (n := 1) hM2 (.head _) (Nat.le_refl _) (by decide) rfl rfl
        rfl
        (refine ⟨by decide, by unfold maxLen; omega, by omega⟩)
        intro v9 w5 hM3 _
        obtain ⟨ao9, c9, rfl, _, _, _⟩ := row_form hM3 (.tail _ (.tail _ (.tail _ (.head _))))
        refine q0_nil ?_
        refine hK.out _ _ ?_ (fun hHeld => ?_)
        · exact trivial
        clear hK K
        (try simp only [Act.put, List.setIfInBounds_toArray, List.set_cons_zero, List.set_cons_succ])
        refine wpAnyH_take (i := 10) (oi := ⟨some 36, _, _, _, _, _⟩) (v := ?_) rfl (by kernel_rfl) (by kernel_rfl) (by kernel_rfl) (fun _ _ _ h => h) (Or.inl ⟨by rfl, ?_⟩) (by assumption) ?_
        rotate_left
        · intro w hSw; (try dsimp only at hSw); go_simp; try with_reducible rfl
        (try simp only [Act.put, List.setIfInBounds_toArray, List.set_cons_zero, List.set_cons_succ])
        refine wpAnyH_take (i := 11) (oi := ⟨some 37, _, _, _, _, _⟩) (v := ?_) rfl (by kernel_rfl) (by kernel_rfl) (by kernel_rfl) (fun _ _ _ h => h) (Or.inl ⟨by rfl, ?_⟩) (by assumption) ?_
        rotate_left
        · intro w hSw; (try dsimp only at hSw); go_simp; try with_reducible rfl
        (try simp only [Act.put, List.setIfInBounds_toArray, List.set_cons_zero, List.set_cons_succ])
        refine wpAnyH_ready (rs := [12]) (by kernel_rfl) (by simp) ?_
        refine (AllReadyH.cons (o := ⟨none, _, _, _, _, _⟩) rfl (fun K hK => ?_) AllReadyH.nil)
        rw [if_pos (by rfl)]
        refine ow_of_wl (ops := #[]) (by rfl) ?_
        refine wl_store [_, _] hM3 rfl rfl rfl (v := .slice _ _ _) rfl rfl rfl (by show (0 : Nat) + 1 ≤ 5; decide) ?_
        intro w6 hM4
        refine q0_nil ?_
        refine hK.out _ _ ?_ (fun hHeld => ?_)
        · exact trivial
        clear hK K
        (try simp only [Act.put, List.setIfInBounds_toArray, List.set_cons_zero, List.set_cons_succ])
        refine wpAnyH_done (by kernel_rfl) ?_ _
        clear hHeld
        go_wp2_with (first | go_big_skip | go_big_guard | fail)
        go_roundw
        case rel =>
          refine ⟨j + 1, gs ++ [gf], .slice ao9 (j + 1) c9, by omega, rfl, by rw [List.length_append, HGL.out]; rfl, ?_⟩
          have e1 : ((gs ++ [gf]).map (blank s)).flatMap DV.cells = XS ++ [.slice (some ⟨gf, 0, none⟩) s s, .bool false, .int .u8 0, .int .i64 0, .int .i64 0] := by
            rw [List.map_append, List.flatMap_append, ← HXS.out]
            congr 1
            show (blank s gf).cells ++ [] = _
            rw [List.append_nil]
            unfold DV.cells
            rw [blank_firm]
            rfl
          have e2 : ((gs ++ [gf]).map (blank s)).map blkD = FZ ++ [.blk gf 89 (List.replicate (s * 256) (.int .u8 0))] := by
            rw [List.map_append, List.map_append, ← HFS.out]
            congr 1
            show [blkD (blank s gf)] = _
            unfold blkD
            rw [show (blank s gf).firm = List.replicate s (List.replicate 256 0) from rfl, secsV_zero]
            rfl
          rw [e1, e2]
          have h9 := (St.front (L1 := [_, _, _]) (St.front (L1 := [_, _, _]) (St.front (L1 := [_]) hM4)))
          refine St.perm (St.sub h9 (.cons_cons _ (.cons_cons _ (.cons_cons _ (.cons _ (List.Sublist.refl _)))))) ?_
          exact List.Perm.cons _ (List.Perm.cons _ (List.perm_append_singleton _ _).symm)
        case measure => simp [intOf]; omega
      · rw [if_pos (by rfl)]
        refine ow_of_wl (ops := #[]) (by rfl) ?_
        apply wl_makeR (sz := 256) (z := .int .u8 0) s s hX
        rfl
        rfl
        exact rfl
        exact rfl
        infer_instance
        infer_instance
        infer_instance
        decide
        exact rfl
        exact rfl
        exact Nat.le_refl _
        (refine ⟨by omega, by omega⟩)
        intro gf w3 hM1
        refine q0_nil ?_
        refine hK.out _ _ ?_ (fun hHeld => ?_)
        · exact trivial
        clear hK K
        (try simp only [Act.put, List.setIfInBounds_toArray, List.set_cons_zero, List.set_cons_succ])
        refine wpAnyH_ready (rs := [4, 7]) (by kernel_rfl) (by simp) ?_
        refine (AllReadyH.cons (o := ⟨some 30, _, _, _, _, _⟩) rfl (fun K hK => ?_) (AllReadyH.cons (o := ⟨some 33, _, _, _, _, _⟩) rfl (fun K hK => ?_) AllReadyH.nil))
        · rw [if_pos (by rfl)]
          refine ow_of_wl (ops := #[]) (by rfl) ?_
          refine wl_loadE rfl rfl rfl ?_
          refine ⟨_, Loads.at [_] hM1 rfl, ?_⟩
          refine q0_nil ?_
          refine hK.out _ _ ?_ (fun hHeld => ?_)
          · exact trivial
          clear hK K
          (try simp only [Act.put, List.setIfInBounds_toArray, List.set_cons_zero, List.set_cons_succ])
          refine wpAnyH_ready (rs := [7]) (by kernel_rfl) (by simp) ?_
          refine (AllReadyH.cons (o := ⟨some 33, _, _, _, _, _⟩) rfl (fun K hK => ?_) AllReadyH.nil)
          rw [if_pos (by rfl)]
          refine ow_of_wl (ops := #[]) (by rfl) ?_
          refine wl_buildX (cs := [.slice (some ⟨gf, 0, none⟩) s s, .bool false, .int .u8 0, .int .i64 0, .int .i64 0]) [(0, .slice (some ⟨gf, 0, none⟩) s s)] rfl rfl (by exact rfl) (by kernel_rfl) ?_
          refine q0_nil ?_
          refine hK.out _ _ ?_ (fun hHeld => ?_)
          · exact trivial
          clear hK K
          (try simp only [Act.put, List.setIfInBounds_toArray, List.set_cons_zero, List.set_cons_succ])
          refine wpAnyH_ready (rs := [8]) (by kernel_rfl) (by simp) ?_
          refine (AllReadyH.cons (o := ⟨some 34, _, _, _, _, _⟩) rfl (fun K hK => ?_) AllReadyH.nil)
          rw [if_pos (by rfl)]
          refine ow_of_wl (ops := #[]) (by rfl) ?_
          apply wl_bsX [.agg (List.toArray [.slice (some ⟨gf, 0, none⟩) s s, .bool false, .int .u8 0, .int .i64 0, .int .i64 0])] ([.slice (some ⟨gf, 0, none⟩) s s, .bool false, .int .u8 0, .int .i64 0, .int .i64 0]) hM1
          rfl
          rfl
          exact rfl
          exact rfl
          infer_instance
          infer_instance
          rfl
          rfl
          rfl
          intro gb w4 hM2
          refine q0_nil ?_
          refine hK.out _ _ ?_ (fun hHeld => ?_)
          · exact trivial
          clear hK K
          (try simp only [Act.put, List.setIfInBounds_toArray, List.set_cons_zero, List.set_cons_succ])
          refine wpAnyH_ready (rs := [9]) (by kernel_rfl) (by simp) ?_
          refine (AllReadyH.cons (o := ⟨some 35, _, _, _, _, _⟩) rfl (fun K hK => ?_) AllReadyH.nil)
          rw [if_pos (by rfl)]
          refine ow_of_wl (ops := #[]) (by rfl) ?_
          apply wl_appX (m := 1) (ys := [.slice (some ⟨gf, 0, none⟩) s s, .bool false, .int .u8 0, .int .i64 0, .int .i64 0]) [_, _, _] hM2
          rfl
          rfl
          exact rfl
          exact rfl
          infer_instance
          infer_instance
          infer_instance
          exact Rd.blk (n := 1) hM2 (.head _) (Nat.le_refl _) (by decide) rfl rfl
          rfl
          (refine ⟨by decide, by unfold maxLen; omega, by omega⟩)
          intro v9 w5 hM3 _
          obtain ⟨ao9, c9, rfl, _, _, _⟩ := row_form hM3 (.tail _ (.tail _ (.tail _ (.head _))))
          refine q0_nil ?_
          refine hK.out _ _ ?_ (fun hHeld => ?_)
          · exact trivial
          clear hK K
          (try simp only [Act.put, List.setIfInBounds_toArray, List.set_cons_zero, List.set_cons_succ])
          refine wpAnyH_take (i := 10) (oi := ⟨some 36, _, _, _, _, _⟩) (v := ?_) rfl (by kernel_rfl) (by kernel_rfl) (by kernel_rfl) (fun _ _ _ h => h) (Or.inl ⟨by rfl, ?_⟩) (by assumption) ?_
          rotate_left
          · intro w hSw; (try dsimp only at hSw); go_simp; try with_reducible rfl
          (try simp only [Act.put, List.setIfInBounds_toArray, List.set_cons_zero, List.set_cons_succ])
          refine wpAnyH_take (i := 11) (oi := ⟨some 37, _, _, _, _, _⟩) (v := ?_) rfl (by kernel_rfl) (by kernel_rfl) (by kernel_rfl) (fun _ _ _ h => h) (Or.inl ⟨by rfl, ?_⟩) (by assumption) ?_
          rotate_left
          · intro w hSw; (try dsimp only at hSw); go_simp; try with_reducible rfl
          (try simp only [Act.put, List.setIfInBounds_toArray, List.set_cons_zero, List.set_cons_succ])
          refine wpAnyH_ready (rs := [12]) (by kernel_rfl) (by simp) ?_
          refine (AllReadyH.cons (o := ⟨none, _, _, _, _, _⟩) rfl (fun K hK => ?_) AllReadyH.nil)
          rw [if_pos (by rfl)]
          refine ow_of_wl (ops := #[]) (by rfl) ?_
          refine wl_store [_, _] hM3 rfl rfl rfl (v := .slice _ _ _) rfl rfl rfl (by show (0 : Nat) + 1 ≤ 5; decide) ?_
          intro w6 hM4
          refine q0_nil ?_
          refine hK.out _ _ ?_ (fun hHeld => ?_)
          · exact trivial
          clear hK K
          (try simp only [Act.put, List.setIfInBounds_toArray, List.set_cons_zero, List.set_cons_succ])
          refine wpAnyH_done (by kernel_rfl) ?_ _
          clear hHeld
          go_wp2_with (first | go_big_skip | go_big_guard | fail)
          go_roundw
          case rel =>
            refine ⟨j + 1, gs ++ [gf], .slice ao9 (j + 1) c9, by omega, rfl, by rw [List.length_append, HGL.out]; rfl, ?_⟩
            have e1 : ((gs ++ [gf]).map (blank s)).flatMap DV.cells = XS ++ [.slice (some ⟨gf, 0, none⟩) s s, .bool false, .int .u8 0, .int .i64 0, .int .i64 0] := by
              rw [List.map_append, List.flatMap_append, ← HXS.out]
              congr 1
              show (blank s gf).cells ++ [] = _
              rw [List.append_nil]
              unfold DV.cells
              rw [blank_firm]
              rfl
            have e2 : ((gs ++ [gf]).map (blank s)).map blkD = FZ ++ [.blk gf 89 (List.replicate (s * 256) (.int .u8 0))] := by
              rw [List.map_append, List.map_append, ← HFS.out]
              congr 1
              show [blkD (blank s gf)] = _
              unfold blkD
              rw [show (blank s gf).firm = List.replicate s (List.replicate 256 0) from rfl, secsV_zero]
              rfl
            rw [e1, e2]
            have h9 := (St.front (L1 := [_, _, _]) (St.front (L1 := [_, _, _]) (St.front (L1 := [_]) hM4)))
            refine St.perm (St.sub h9 (.cons_cons _ (.cons_cons _ (.cons_cons _ (.cons _ (List.Sublist.refl _)))))) ?_
            exact List.Perm.cons _ (List.Perm.cons _ (List.perm_append_singleton _ _).symm)
          case measure => simp [intOf]; omega
        · rw [if_pos (by rfl)]
          refine ow_of_wl (ops := #[]) (by rfl) ?_
          refine wl_buildX (cs := [.slice (some ⟨gf, 0, none⟩) s s, .bool false, .int .u8 0, .int .i64 0, .int .i64 0]) [(0, .slice (some ⟨gf, 0, none⟩) s s)] rfl rfl (by exact rfl) (by kernel_rfl) ?_
          refine q0_nil ?_
          refine hK.out _ _ ?_ (fun hHeld => ?_)
          · exact trivial
          clear hK K
          (try simp only [Act.put, List.setIfInBounds_toArray, List.set_cons_zero, List.set_cons_succ])
          refine wpAnyH_ready (rs := [4, 8]) (by kernel_rfl) (by simp) ?_
          refine (AllReadyH.cons (o := ⟨some 30, _, _, _, _, _⟩) rfl (fun K hK => ?_) (AllReadyH.cons (o := ⟨some 34, _, _, _, _, _⟩) rfl (fun K hK => ?_) AllReadyH.nil))
          · rw [if_pos (by rfl)]
            refine ow_of_wl (ops := #[]) (by rfl) ?_
            refine wl_loadE rfl rfl rfl ?_
            refine ⟨_, Loads.at [_] hM1 rfl, ?_⟩
            refine q0_nil ?_
            refine hK.out _ _ ?_ (fun hHeld => ?_)
            · exact trivial
            clear hK K
            (try simp only [Act.put, List.setIfInBounds_toArray, List.set_cons_zero, List.set_cons_succ])
            refine wpAnyH_ready (rs := [8]) (by kernel_rfl) (by simp) ?_
            refine (AllReadyH.cons (o := ⟨some 34, _, _, _, _, _⟩) rfl (fun K hK => ?_) AllReadyH.nil)
            rw [if_pos (by rfl)]
            refine ow_of_wl (ops := #[]) (by rfl) ?_
            apply wl_bsX [.agg (List.toArray [.slice (some ⟨gf, 0, none⟩) s s, .bool false, .int .u8 0, .int .i64 0, .int .i64 0])] ([.slice (some ⟨gf, 0, none⟩) s s, .bool false, .int .u8 0, .int .i64 0, .int .i64 0]) hM1
            rfl
            rfl
            exact rfl
            exact rfl
            infer_instance
            infer_instance
            rfl
            rfl
            rfl
            intro gb w4 hM2
            refine q0_nil ?_
            refine hK.out _ _ ?_ (fun hHeld => ?_)
            · exact trivial
            clear hK K
            (try simp only [Act.put, List.setIfInBounds_toArray, List.set_cons_zero, List.set_cons_succ])
            refine wpAnyH_ready (rs := [9]) (by kernel_rfl) (by simp) ?_
            refine (AllReadyH.cons (o := ⟨some 35, _, _, _, _, _⟩) rfl (fun K hK => ?_) AllReadyH.nil)
            rw [if_pos (by rfl)]
            refine ow_of_wl (ops := #[]) (by rfl) ?_
            apply wl_appX (m := 1) (ys := [.slice (some ⟨gf, 0, none⟩) s s, .bool false, .int .u8 0, .int .i64 0, .int .i64 0]) [_, _, _] hM2
            rfl
            rfl
            exact rfl
            exact rfl
            infer_instance
            infer_instance
            infer_instance
            exact Rd.blk (n := 1) hM2 (.head _) (Nat.le_refl _) (by decide) rfl rfl
            rfl
            (refine ⟨by decide, by unfold maxLen; omega, by omega⟩)
            intro v9 w5 hM3 _
            obtain ⟨ao9, c9, rfl, _, _, _⟩ := row_form hM3 (.tail _ (.tail _ (.tail _ (.head _))))
            refine q0_nil ?_
            refine hK.out _ _ ?_ (fun hHeld => ?_)
            · exact trivial
            clear hK K
            (try simp only [Act.put, List.setIfInBounds_toArray, List.set_cons_zero, List.set_cons_succ])
            refine wpAnyH_take (i := 10) (oi := ⟨some 36, _, _, _, _, _⟩) (v := ?_) rfl (by kernel_rfl) (by kernel_rfl) (by kernel_rfl) (fun _ _ _ h => h) (Or.inl ⟨by rfl, ?_⟩) (by assumption) ?_
            rotate_left
            · intro w hSw; (try dsimp only at hSw); go_simp; try with_reducible rfl
            (try simp only [Act.put, List.setIfInBounds_toArray, List.set_cons_zero, List.set_cons_succ])
            refine wpAnyH_take (i := 11) (oi := ⟨some 37, _, _, _, _, _⟩) (v := ?_) rfl (by kernel_rfl) (by kernel_rfl) (by kernel_rfl) (fun _ _ _ h => h) (Or.inl ⟨by rfl, ?_⟩) (by assumption) ?_
            rotate_left
            · intro w hSw; (try dsimp only at hSw); go_simp; try with_reducible rfl
            (try simp only [Act.put, List.setIfInBounds_toArray, List.set_cons_zero, List.set_cons_succ])
            refine wpAnyH_ready (rs := [12]) (by kernel_rfl) (by simp) ?_
            refine (AllReadyH.cons (o := ⟨none, _, _, _, _, _⟩) rfl (fun K hK => ?_) AllReadyH.nil)
            rw [if_pos (by rfl)]
            refine ow_of_wl (ops := #[]) (by rfl) ?_
            refine wl_store [_, _] hM3 rfl rfl rfl (v := .slice _ _ _) rfl rfl rfl (by show (0 : Nat) + 1 ≤ 5; decide) ?_
            intro w6 hM4
            refine q0_nil ?_
            refine hK.out _ _ ?_ (fun hHeld => ?_)
            · exact trivial
            clear hK K
            (try simp only [Act.put, List.setIfInBounds_toArray, List.set_cons_zero, List.set_cons_succ])
            refine wpAnyH_done (by kernel_rfl) ?_ _
            clear hHeld
            go_wp2_with (first | go_big_skip | go_big_guard | fail)
            go_roundw
            case rel =>
              refine ⟨j + 1, gs ++ [gf], .slice ao9 (j + 1) c9, by omega, rfl, by rw [List.length_append, HGL.out]; rfl, ?_⟩
              have e1 : ((gs ++ [gf]).map (blank s)).flatMap DV.cells = XS ++ [.slice (some ⟨gf, 0, none⟩) s s, .bool false, .int .u8 0, .int .i64 0, .int .i64 0] := by
                rw [List.map_append, List.flatMap_append, ← HXS.out]
                congr 1
                show (blank s gf).cells ++ [] = _
                rw [List.append_nil]
                unfold DV.cells
                rw [blank_firm]
                rfl
              have e2 : ((gs ++ [gf]).map (blank s)).map blkD = FZ ++ [.blk gf 89 (List.replicate (s * 256) (.int .u8 0))] := by
                rw [List.map_append, List.map_append, ← HFS.out]
                congr 1
                show [blkD (blank s gf)] = _
                unfold blkD
                rw [show (blank s gf).firm = List.replicate s (List.replicate 256 0) from rfl, secsV_zero]
                rfl
              rw [e1, e2]
              have h9 := (St.front (L1 := [_, _, _]) (St.front (L1 := [_, _, _]) (St.front (L1 := [_]) hM4)))
              refine St.perm (St.sub h9 (.cons_cons _ (.cons_cons _ (.cons_cons _ (.cons _ (List.Sublist.refl _)))))) ?_
              exact List.Perm.cons _ (List.Perm.cons _ (List.perm_append_singleton _ _).symm)
            case measure => simp [intOf]; omega
          · rw [if_pos (by rfl)]
            refine ow_of_wl (ops := #[]) (by rfl) ?_
            apply wl_bsX [.agg (List.toArray [.slice (some ⟨gf, 0, none⟩) s s, .bool false, .int .u8 0, .int .i64 0, .int .i64 0])] ([.slice (some ⟨gf, 0, none⟩) s s, .bool false, .int .u8 0, .int .i64 0, .int .i64 0]) hM1
            rfl
            rfl
            exact rfl
            exact rfl
            infer_instance
            infer_instance
            rfl
            rfl
            rfl
            intro gb w4 hM2
            refine q0_nil ?_
            refine hK.out _ _ ?_ (fun hHeld => ?_)
            · exact trivial
            clear hK K
            (try simp only [Act.put, List.setIfInBounds_toArray, List.set_cons_zero, List.set_cons_succ])
            refine wpAnyH_ready (rs := [4]) (by kernel_rfl) (by simp) ?_
            refine (AllReadyH.cons (o := ⟨some 30, _, _, _, _, _⟩) rfl (fun K hK => ?_) AllReadyH.nil)
            rw [if_pos (by rfl)]
            refine ow_of_wl (ops := #[]) (by rfl) ?_
            refine wl_loadE rfl rfl rfl ?_
            refine ⟨_, Loads.at [_, _] hM2 rfl, ?_⟩
            refine q0_nil ?_
            refine hK.out _ _ ?_ (fun hHeld => ?_)
            · exact trivial
            clear hK K
            (try simp only [Act.put, List.setIfInBounds_toArray, List.set_cons_zero, List.set_cons_succ])
            refine wpAnyH_ready (rs := [9]) (by kernel_rfl) (by simp) ?_
            refine (AllReadyH.cons (o := ⟨some 35, _, _, _, _, _⟩) rfl (fun K hK => ?_) AllReadyH.nil)
            rw [if_pos (by rfl)]
            refine ow_of_wl (ops := #[]) (by rfl) ?_
            apply wl_appX (m := 1) (ys := [.slice (some ⟨gf, 0, none⟩) s s, .bool false, .int .u8 0, .int .i64 0, .int .i64 0]) [_, _, _] hM2
            rfl
            rfl
            exact rfl
            exact rfl
            infer_instance
            infer_instance
            infer_instance
            exact Rd.blk (n := 1) hM2 (.head _) (Nat.le_refl _) (by decide) rfl rfl
            rfl
            (refine ⟨by decide, by unfold maxLen; omega, by omega⟩)
            intro v9 w5 hM3 _
            obtain ⟨ao9, c9, rfl, _, _, _⟩ := row_form hM3 (.tail _ (.tail _ (.tail _ (.head _))))
            refine q0_nil ?_
            refine hK.out _ _ ?_ (fun hHeld => ?_)
            · exact trivial
            clear hK K
            (try simp only [Act.put, List.setIfInBounds_toArray, List.set_cons_zero, List.set_cons_succ])
            refine wpAnyH_take (i := 10) (oi := ⟨some 36, _, _, _, _, _⟩) (v := ?_) rfl (by kernel_rfl) (by kernel_rfl) (by kernel_rfl) (fun _ _ _ h => h) (Or.inl ⟨by rfl, ?_⟩) (by assumption) ?_
            rotate_left
            · intro w hSw; (try dsimp only at hSw); go_simp; try with_reducible rfl
            (try simp only [Act.put, List.setIfInBounds_toArray, List.set_cons_zero, List.set_cons_succ])
            refine wpAnyH_take (i := 11) (oi := ⟨some 37, _, _, _, _, _⟩) (v := ?_) rfl (by kernel_rfl) (by kernel_rfl) (by kernel_rfl) (fun _ _ _ h => h) (Or.inl ⟨by rfl, ?_⟩) (by assumption) ?_
            rotate_left
            · intro w hSw; (try dsimp only at hSw); go_simp; try with_reducible rfl
            (try simp only [Act.put, List.setIfInBounds_toArray, List.set_cons_zero, List.set_cons_succ])
            refine wpAnyH_ready (rs := [12]) (by kernel_rfl) (by simp) ?_
            refine (AllReadyH.cons (o := ⟨none, _, _, _, _, _⟩) rfl (fun K hK => ?_) AllReadyH.nil)
            rw [if_pos (by rfl)]
            refine ow_of_wl (ops := #[]) (by rfl) ?_
            refine wl_store [_, _] hM3 rfl rfl rfl (v := .slice _ _ _) rfl rfl rfl (by show (0 : Nat) + 1 ≤ 5; decide) ?_
            intro w6 hM4
            refine q0_nil ?_
            refine hK.out _ _ ?_ (fun hHeld => ?_)
            · exact trivial
            clear hK K
            (try simp only [Act.put, List.setIfInBounds_toArray, List.set_cons_zero, List.set_cons_succ])
            refine wpAnyH_done (by kernel_rfl) ?_ _
            clear hHeld
            go_wp2_with (first | go_big_skip | go_big_guard | fail)
            go_roundw
            case rel =>
              refine ⟨j + 1, gs ++ [gf], .slice ao9 (j + 1) c9, by omega, rfl, by rw [List.length_append, HGL.out]; rfl, ?_⟩
              have e1 : ((gs ++ [gf]).map (blank s)).flatMap DV.cells = XS ++ [.slice (some ⟨gf, 0, none⟩) s s, .bool false, .int .u8 0, .int .i64 0, .int .i64 0] := by
                rw [List.map_append, List.flatMap_append, ← HXS.out]
                congr 1
                show (blank s gf).cells ++ [] = _
                rw [List.append_nil]
                unfold DV.cells
                rw [blank_firm]
                rfl
              have e2 : ((gs ++ [gf]).map (blank s)).map blkD = FZ ++ [.blk gf 89 (List.replicate (s * 256) (.int .u8 0))] := by
                rw [List.map_append, List.map_append, ← HFS.out]
                congr 1
                show [blkD (blank s gf)] = _
                unfold blkD
                rw [show (blank s gf).firm = List.replicate s (List.replicate 256 0) from rfl, secsV_zero]
                rfl
              rw [e1, e2]
              have h9 := (St.front (L1 := [_, _, _]) (St.front (L1 := [_, _, _]) (St.front (L1 := [_]) hM4)))
              refine St.perm (St.sub h9 (.cons_cons _ (.cons_cons _ (.cons_cons _ (.cons _ (List.Sublist.refl _)))))) ?_
              exact List.Perm.cons _ (List.Perm.cons _ (List.perm_append_singleton _ _).symm)
            case measure => simp [intOf]; omega
    · have d5 : decide ((j : Int) < (d : Int)) = false := decide_eq_false (by omega)
      have hjd : j = d := by omega
      subst hjd
      go_wp2_with (first | go_big_skip | go_big_guard | fail)
      go_ret2
      obtain ⟨gd, cd, rest, rfl, h2⟩ := row_open (L1 := [_]) hst (by omega)
      refine ⟨ga, ⟨gd, cd, rest, .slice none 0 0⟩, gs, rfl, hgl, ?_⟩
      have h3 := St.nilR 128 258 h2
      have h4 := St.perm h3 (L' := .blk ga 70 [.slice (some ⟨gd, 0, none⟩) j cd, .slice none 0 0, .int .i64 (-1), .bool false, .int .i64 0] :: .blk gd 93 ((gs.map (blank s)).flatMap DV.cells ++ rest) :: .row (.slice none 0 0) 128 258 0 [] :: (gs.map (blank s)).map blkD)
        ((List.Perm.swap _ _ _).trans (List.Perm.cons _ (List.Perm.swap _ _ _)))
      have hl : (newA s gs).devs.length = j := by simp [newA, hgl]
      unfold arP arrC
      rw [hl]
      exact h4
end
end Go.Proofs.Ytmdfbdfijnmhkaa
namespace Go.Proofs.Ytmdfbdfijnmhkaa
set_option linter.unusedVariables false
set_option linter.unusedSimpArgs false
open Go.RowKit Hp
set_option maxRecDepth 100000
def setF (p : Nat) (b : List UInt8) (d : DV) : DV := { d with firm := d.firm.set p b }
def tornF (p : Nat) (b : List UInt8) (t : Nat) (d : DV) : DV := { d with firm := d.firm.set p (b.take t ++ (d.firm.getD p []).drop t) }
def crashF (t : Nat) (s : AR × Bool) (w : LW) (keep : Bool) : AR × Bool :=
  if keep then (s.1.upd (w.dev : Int) (setF w.pl w.b), s.2) else if s.2 then (s.1.upd (w.dev : Int) (tornF w.pl w.b t), false) else s
structure Good (a b : AR) : Prop where
  len : b.devs.length = a.devs.length
  cel : devC b = devC a
  fm : ∀ d ∈ b.devs, d.firm.length = a.secs ∧ ∀ s ∈ d.firm, s.length = 256
theorem Good.inD {a b : AR} (h : Good a b) (dev : Int) : b.inD dev = a.inD dev := by unfold AR.inD; rw [h.len]
theorem Good.refl {a : AR} (ok : a.Ok) : Good a a := ⟨rfl, rfl, fun d hd => ⟨(ok.fm d hd).1, (ok.fm d hd).2.1⟩⟩
theorem Good.upd {a b : AR} (h : Good a b) {k : Nat} (hk : a.inD (k : Int) = true) {f : DV → DV} (hf : ∀ d, (f d).g = d.g ∧ (f d).gone = d.gone ∧ (f d).lo = d.lo ∧ (f d).st = d.st ∧ (f d).to = d.to ∧ (f d).fail = d.fail ∧ (f d).firm.length = d.firm.length)
    (hs : ∀ s ∈ (f (b.dv (k : Int))).firm, s.length = 256) : Good a (b.upd (k : Int) f) := by
  have hin : b.inD (k : Int) = true := by rw [h.inD]; exact hk
  refine ⟨by rw [upd_len, h.len], ?_, fun d hd => ?_⟩
  · rw [devC_firm (k : Int) (fun d => ?_), h.cel]
    obtain ⟨h1, h2, h3, h4, h5, h6, h7⟩ := hf d
    unfold DV.cells DV.nx
    rw [h1, h2, h3, h4, h5, h6, h7]
  · have hm : d ∈ b.devs.modify k f := by unfold AR.upd at hd; rwa [Int.toNat_natCast] at hd
    obtain ⟨j, hj, rfl⟩ := List.getElem_of_mem hm
    have hj2 : (b.devs.modify k f)[j]? = some (b.devs.modify k f)[j] := List.getElem?_eq_getElem hj
    rw [modify_get] at hj2
    have hd0 := devs_get hin
    rw [Int.toNat_natCast] at hd0
    by_cases hkj : k = j
    · subst hkj
      rw [if_pos rfl, hd0, Option.map_some] at hj2
      have e := Option.some.inj hj2
      rw [← e]
      exact ⟨by rw [(hf _).2.2.2.2.2.2]; exact (h.fm _ (List.mem_of_getElem? hd0)).1, hs⟩
    · rw [if_neg hkj] at hj2
      exact h.fm _ (List.mem_of_getElem? hj2)
theorem setF_same (p : Nat) (b : List UInt8) (d : DV) : (setF p b d).g = d.g ∧ (setF p b d).gone = d.gone ∧ (setF p b d).lo = d.lo ∧ (setF p b d).st = d.st ∧ (setF p b d).to = d.to ∧ (setF p b d).fail = d.fail ∧ (setF p b d).firm.length = d.firm.length := ⟨rfl, rfl, rfl, rfl, rfl, rfl, by simp [setF]⟩
theorem tornF_same (p : Nat) (b : List UInt8) (t : Nat) (d : DV) : (tornF p b t d).g = d.g ∧ (tornF p b t d).gone = d.gone ∧ (tornF p b t d).lo = d.lo ∧ (tornF p b t d).st = d.st ∧ (tornF p b t d).to = d.to ∧ (tornF p b t d).fail = d.fail ∧ (tornF p b t d).firm.length = d.firm.length := ⟨rfl, rfl, rfl, rfl, rfl, rfl, by simp [tornF]⟩
theorem torn_len {l : List (List UInt8)} {p t : Nat} {b : List UInt8} (hl : ∀ s ∈ l, s.length = 256) (hb : b.length = 256) (hp : p < l.length) (ht : t ≤ 256) : (b.take t ++ (l.getD p []).drop t).length = 256 := by
  have h1 : (l.getD p []).length = 256 := by
    rw [List.getD_eq_getElem?_getD, List.getElem?_eq_getElem hp]
    exact hl _ (List.getElem_mem hp)
  rw [List.length_append, List.length_take, List.length_drop, h1, hb]
  omega
theorem Good.step {a b : AR} (h : Good a b) {w : LW} {t : Nat} {first keep : Bool} (hw : w.dev < a.devs.length ∧ w.pl < a.secs ∧ w.b.length = 256) (ht : t ≤ 256) : Good a (crashF t (b, first) w keep).1 := by
  have hk : a.inD (w.dev : Int) = true := by
    unfold AR.inD
    simp only [Bool.and_eq_true, decide_eq_true_eq]
    omega
  have hin : b.inD (w.dev : Int) = true := by rw [h.inD]; exact hk
  have hd := h.fm _ (List.mem_of_getElem? (devs_get hin))
  unfold crashF
  cases keep
  · rw [if_neg (by decide)]
    cases first
    · exact h
    · exact h.upd hk (tornF_same _ _ _) fun s hs => by
        rcases List.mem_or_eq_of_mem_set hs with h1 | rfl
        · exact hd.2 s h1
        · exact torn_len hd.2 hw.2.2 (by rw [hd.1]; exact hw.2.1) ht
  · exact h.upd hk (setF_same _ _) fun s hs => by
      rcases List.mem_or_eq_of_mem_set hs with h1 | rfl
      · exact hd.2 s h1
      · exact hw.2.2
end Go.Proofs.Ytmdfbdfijnmhkaa
namespace Go.Proofs.Ytmdfbdfijnmhkaa
set_option linter.unusedVariables false
set_option linter.unusedSimpArgs false
open Go.RowKit Hp
attribute [local irreducible] Go.Calls Go.wpList
set_option maxRecDepth 100000
set_option maxHeartbeats 4000000
instance rSB : TyS Try.prog 56 := ⟨by kernel_rfl⟩
instance rSlB : TySl Try.prog 56 4 := ⟨by kernel_rfl⟩
instance rEB : TyE Try.prog 4 1 1 := ⟨by kernel_rfl⟩
def boolsV (l : List Bool) : List Value := l.map .bool
section
attribute [local go_sem ↓] loadedSD loadedIn loadedSS
end
end Go.Proofs.Ytmdfbdfijnmhkaa
namespace Go.Proofs.Ytmdfbdfijnmhkaa
set_option linter.unusedVariables false
set_option linter.unusedSimpArgs false
open Go.RowKit Hp
attribute [local irreducible] Go.Calls
set_option maxHeartbeats 1000000
theorem sameBytes_any (v u : Value) (n m : Nat) (l k : List UInt8) (w : World) (hv : Rd w v 1 n (bytesV l)) (hu : Rd w u 1 m (bytesV k)) :
    Calls Try.prog 13 #[v, u] w fun e w' => e = .returned (.bool (l == k)) ∧ St w [] w' [] := by
  go_enter Try.func13, Try.ntmps13
  go_wp2_with (first | go_big_skip | go_big_guard | (refine wl_bytes_string rfl rfl rfl hv ?_) | (refine wl_bytes_string rfl rfl rfl hu ?_))
  go_ret
  exact ⟨rfl, St.refl w⟩
end Go.Proofs.Ytmdfbdfijnmhkaa
namespace Go.Proofs.Ytmdfbdfijnmhkaa
set_option linter.unusedVariables false
set_option linter.unusedSimpArgs false
open Go.RowKit Hp
attribute [local irreducible] Go.Calls Go.wpList
set_option maxRecDepth 100000
set_option maxHeartbeats 4000000
end Go.Proofs.Ytmdfbdfijnmhkaa
namespace Go.Proofs.Ytmdfbdfijnmhkaa
set_option linter.unusedVariables false
set_option linter.unusedSimpArgs false
open Go.RowKit Hp
set_option maxRecDepth 100000
theorem secs_eq (a : AR) : a.secs = ((a.devs[0]?).map fun d => d.firm.length).getD 0 := by
  unfold AR.secs
  cases a.devs <;> rfl
theorem upd_secs {a : AR} {dev : Int} {f : DV → DV} (hin : a.inD dev = true) (hl : (f (a.dv dev)).firm.length = (a.dv dev).firm.length) : (a.upd dev f).secs = a.secs := by
  have hd := devs_get hin
  rw [secs_eq, secs_eq]
  unfold AR.upd
  rw [modify_get]
  by_cases h0 : dev.toNat = 0
  · rw [if_pos h0, ← h0, hd, Option.map_some, Option.map_some, Option.map_some, hl]
  · rw [if_neg h0]
theorem mem_upd {a : AR} {dev : Int} {f : DV → DV} {d : DV} (hin : a.inD dev = true) (hd : d ∈ (a.upd dev f).devs) : d = f (a.dv dev) ∨ d ∈ a.devs := by
  unfold AR.upd at hd
  obtain ⟨j, hj⟩ := List.getElem?_of_mem hd
  rw [modify_get] at hj
  by_cases h0 : dev.toNat = j
  · subst h0
    rw [if_pos rfl, devs_get hin, Option.map_some] at hj
    exact .inl (Option.some.inj hj).symm
  · rw [if_neg h0] at hj
    exact .inr (List.mem_of_getElem? hj)
def DV.Fine (s : Nat) (d : DV) : Prop := d.firm.length = s ∧ (∀ t ∈ d.firm, t.length = 256) ∧ (d.st = true → 0 ≤ d.to ∧ d.to < s) ∧ 0 ≤ d.fail ∧ d.fail ≤ 9223372036854775807
theorem AR.Ok.dv {a : AR} (ok : a.Ok) {dev : Int} (hin : a.inD dev = true) : (a.dv dev).Fine a.secs := ok.fm _ (List.mem_of_getElem? (devs_get hin))
theorem AR.Ok.upd {a : AR} (ok : a.Ok) {dev : Int} {f : DV → DV} (hin : a.inD dev = true) (hf : (f (a.dv dev)).Fine a.secs) : (a.upd dev f).Ok := by
  have hs : (a.upd dev f).secs = a.secs := upd_secs hin (by rw [hf.1, (ok.dv hin).1])
  have hl : (a.upd dev f).devs.length = a.devs.length := upd_len _ _ _
  refine ⟨?_, by rw [hl]; exact ok.dn, by rw [hs]; exact ok.sn, fun d hd => ?_, ?_, ok.fu⟩
  · intro h
    rw [h] at hl
    exact ok.d0 (List.eq_nil_of_length_eq_zero hl.symm)
  · rw [hs]
    rcases mem_upd hin hd with rfl | h
    · exact hf
    · exact ok.fm d h
  · intro w hw
    rw [hl, hs]
    exact ok.lw w hw
theorem AR.Ok.loose {a : AR} (ok : a.Ok) {l : List LW} (h : ∀ w ∈ l, w.dev < a.devs.length ∧ w.pl < a.secs ∧ w.b.length = 256) : ({ a with loose := l } : AR).Ok := ⟨ok.d0, ok.dn, ok.sn, ok.fm, h, ok.fu⟩
theorem AR.Ok.step {a : AR} (ok : a.Ok) : a.step.Ok := by
  have h := ok.fu
  unfold AR.step
  split
  · exact ⟨ok.d0, ok.dn, ok.sn, ok.fm, ok.lw, ok.fu⟩
  · refine ⟨ok.d0, ok.dn, ok.sn, ok.fm, ok.lw, ?_⟩
    show -1 ≤ (if 0 < a.fuse then a.fuse - 1 else a.fuse) ∧ (if 0 < a.fuse then a.fuse - 1 else a.fuse) ≤ 9223372036854775807
    split <;> omega
theorem AR.Ok.lay {a : AR} (ok : a.Ok) {dev pl : Int} {b : List UInt8} (hs : a.inS dev pl = true) (hb : b.length = 256) : (a.lay dev pl b).Ok := by
  have hin := inS_inD hs
  have hf := ok.dv hin
  have hd := inD_dev hin
  have hp := inS_pl hs
  unfold AR.lay
  split
  · exact ok.upd hin hf
  · split
    · rename_i hst
      have ok2 := ok.upd (f := fun d => { d with st := false }) hin ⟨hf.1, hf.2.1, (fun h => by cases h), hf.2.2.2⟩
      refine ok2.loose fun w hw => ?_
      rcases List.mem_append.1 hw with h | h
      · have := ok2.lw w h
        exact this
      · simp only [List.mem_singleton] at h
        subst h
        have hto := hf.2.2.1 hst
        rw [upd_len, upd_secs hin rfl]
        exact ⟨by show dev.toNat < _; omega, by show ((a.dv dev).to).toNat < _; omega, hb⟩
    · refine ok.loose fun w hw => ?_
      rcases List.mem_append.1 hw with h | h
      · exact ok.lw w h
      · simp only [List.mem_singleton] at h
        subst h
        exact ⟨by show dev.toNat < _; omega, by show pl.toNat < _; omega, hb⟩
theorem AR.Ok.write {a : AR} (ok : a.Ok) (dev pl : Int) (b : List UInt8) : (a.write dev pl b).Ok := by
  unfold AR.write
  split
  · exact ok
  · rename_i h
    split
    · exact ok.step
    · have hs : a.inS dev pl = true := by
        cases hh : a.inS dev pl
        · exact absurd (.inr (.inr (.inl hh))) h
        · rfl
      have hb : b.length = 256 := by
        by_cases hh : b.length = 256
        · exact hh
        · exact absurd (.inr (.inr (.inr (.inl hh)))) h
      refine ok.step.lay ?_ hb
      unfold AR.inS at hs ⊢
      rw [step_inD, step_secs]
      exact hs
theorem AR.Ok.read {a : AR} (ok : a.Ok) (dev pl : Int) : (a.read dev pl).Ok := by
  unfold AR.read
  split
  · rename_i h
    have hs : a.inS dev pl = true ∧ 0 < (a.dv dev).fail := by
      unfold AR.readE at h
      split at h
      · cases h
      · split at h
        · cases h
        · split at h
          · cases h
          · rename_i hh
            split at h
            · cases h
            · split at h
              · rename_i h5
                exact ⟨by simpa using hh, h5⟩
              · cases h
    have hf := ok.dv (inS_inD hs.1)
    exact ok.upd (inS_inD hs.1) ⟨hf.1, hf.2.1, hf.2.2.1, by show 0 ≤ (a.dv dev).fail - 1; omega, by show (a.dv dev).fail - 1 ≤ _; have := hf.2.2.2.2; omega⟩
  · exact ok
theorem AR.Ok.firms {a : AR} (ok : a.Ok) {k : Nat} (hin : a.inD (k : Int) = true) : (a.firms k).Ok := by
  have hf := ok.dv hin
  have ok2 := ok.upd (f := fun d => { d with firm := (a.loose.filter fun w => w.dev == k).foldl setS d.firm }) hin
    ⟨by rw [show ({ (a.dv (k : Int)) with firm := (a.loose.filter fun w => w.dev == k).foldl setS (a.dv (k : Int)).firm } : DV).firm.length = (a.dv (k : Int)).firm.length from foldS_len _ _]; exact hf.1,
      foldS_all hf.2.1 (fun w hw => (ok.lw w (List.mem_filter.1 hw).1).2.2), hf.2.2⟩
  exact ok2.loose fun w hw => ok2.lw w (List.mem_filter.1 hw).1
theorem AR.Ok.flush {a : AR} (ok : a.Ok) (dev : Int) : (a.flush dev).Ok := by
  unfold AR.flush
  split
  · exact ok
  · rename_i h
    split
    · exact ok.step
    · have hs : a.inD dev = true := by
        cases hh : a.inD dev
        · exact absurd (.inr (.inr (.inl hh))) h
        · rfl
      have h0 := inD_dev hs
      refine ok.step.firms ?_
      rw [step_inD, Int.toNat_of_nonneg h0.1]
      exact hs
theorem St.behind {w0 w : World} {M : List Nat} {A R : List HA} {p : HA} (h : St w0 M w (p :: (A ++ R))) : St w0 M w (A ++ p :: R) := St.perm h (List.perm_middle.symm)
theorem St.arr {w0 w : World} {M : List Nat} {R : List HA} {ga : Nat} {x : GA} {a : AR} (h : St w0 M w (arP ga x a ++ R)) : St w (arF ga x a) w (arP ga x a) := (St.sub h (List.sublist_append_left _ _)).selfF
end Go.Proofs.Ytmdfbdfijnmhkaa
namespace Go.Proofs.Ytmdfbdfijnmhkaa
set_option linter.unusedVariables false
set_option linter.unusedSimpArgs false
open Go.RowKit Hp
attribute [local irreducible] Go.Calls Go.wpList
set_option maxRecDepth 100000
set_option maxHeartbeats 4000000
end Go.Proofs.Ytmdfbdfijnmhkaa
namespace Go.Proofs.Ytmdfbdfijnmhkaa
set_option linter.unusedVariables false
set_option linter.unusedSimpArgs false
open Go.RowKit Hp
end Go.Proofs.Ytmdfbdfijnmhkaa
namespace Go.Proofs.Ytmdfbdfijnmhkaa
set_option linter.unusedVariables false
set_option linter.unusedSimpArgs false
open Go.RowKit Hp
attribute [local irreducible] Go.Calls Go.wpList
set_option maxRecDepth 100000
set_option maxHeartbeats 4000000
end Go.Proofs.Ytmdfbdfijnmhkaa
namespace Go.Proofs.Ytmdfbdfijnmhkaa
set_option linter.unusedVariables false
set_option linter.unusedSimpArgs false
open Go.RowKit Hp
attribute [local irreducible] Go.Calls Go.wpList
set_option maxRecDepth 100000
set_option maxHeartbeats 4000000
end Go.Proofs.Ytmdfbdfijnmhkaa
namespace Go.Proofs.Ytmdfbdfijnmhkaa
set_option linter.unusedVariables false
set_option linter.unusedSimpArgs false
open Go.RowKit Hp
attribute [local irreducible] Go.Calls Go.wpList
set_option maxRecDepth 100000
set_option maxHeartbeats 4000000
def AR.rest (a : AR) (k : Nat) : AR := { a with loose := a.loose.filter fun w => w.dev != k }
theorem befallsE_fine {w : World} {M : List Nat} {Lb : List HA} {ga : Nat} {x : GA} {a a' : AR} (hS : St w M w (Lb ++ arP ga x a)) (ok : a.Ok) (dev : Int) (fn : Nat) (cap : List Value) (v : Value) (m : Nat) (ws : List Value) (rs : List Int)
    (hfn : ∀ (a : Array Value) (w : World), (callFunc fn a).run Try.prog w = .ok (.enter fn a) w)
    (hr : ∀ (X : List HA) (w' : World), St w M w' (X ++ (Lb ++ arP ga x a)) → Rd w' v 1 m ws) (hw : ws.length = m) (hrs : rs.length = m) (hm : m ≤ 10) (h1c : ws.all (·.oneCell') = true)
    (hp : ∀ (X : List HA) (j : Nat) (f : Value) (e : Int), ws[j]? = some f → rs[j]? = some e → (∀ i < j, rs.getD i 0 = 0) → Probe f e (fun w' => St w M w' (X ++ (Lb ++ arP ga x a))) (fun w' => St w M w' (X ++ (Lb ++ arP ga x a))))
    (hin : firstE rs = 0 → a.inD dev = true) (hE : ∀ e ∈ rs, e = 0 ∨ isE e)
    (hD : firstE rs = 0 → (a.dv dev).gone = false → ∀ (X : List HA) (w' : World), St w M w' (X ++ (Lb ++ arP ga x a)) → Calls Try.prog fn (List.toArray (.pointer (some ⟨x.gd, dev.toNat * 5, none⟩) :: cap)) w' fun e w'' => e = .returned (.tuple #[]) ∧ ∃ x', St w M w'' (X ++ (Lb ++ arP ga x' a'))) (h1 : firstE rs = 0) (h2 : (a.dv dev).gone = false) :
    Calls Try.prog 29 #[.pointer (some ⟨ga, 0, none⟩), .int .i64 dev, .func (.func fn) #[] (List.toArray cap), v] w fun e w' => e = .returned (.int .i64 (0)) ∧ ∃ X x', St w M w' (X ++ (Lb ++ arP ga x' a')) := by
  have hst0 : St w M w ([] ++ (Lb ++ arP ga x a)) := hS
  have HR := hid hr
  have HW := hid hw
  have HRS := hid hrs
  have HP := hid hp
  have HIN := hid hin
  have HDD := hid hD
  have H1 := hid h1
  have OK := hid ok
  have H1C := hid h1c
  have hmf := rmf
  have hin2 := hin h1
  obtain ⟨k, rfl⟩ : ∃ k : Nat, dev = k := ⟨dev.toNat, by have := (inD_dev hin2).1; omega⟩
  have hlt : k < a.devs.length := by have := (inD_dev hin2).2; omega
  have HI2 := hid hin2
  clear hin2
  have H2 := hid h2
  have HG : Hid (orE (!(a.dv (k : Int)).gone) 14 = 0) := hid (by rw [h2]; rfl)
  clear hr hw hrs hp hin hD h1 ok hE h1c hS h2
  go_enter Try.func29, Try.ntmps29
  go_wp2_with (first | go_big_skip | go_big_guard | (apply wl_bsX ([methV 53 (ptrV ga)]) ([methV 53 (ptrV ga)]) hst0; rfl; rfl; exact rfl; exact rfl; infer_instance; infer_instance; rfl; rfl; rfl; intro g1 w1 hst1; clear hst0; have hst2 : St w M w1 (.row (.slice (some ⟨g1, 0, none⟩) 1 1) 85 1 1 [methV 53 (ptrV ga)] :: (Lb ++ arP ga x a)) := St.toRow (n := 1) (cap := 1) (sz := 1) hst1 rfl (Nat.le_refl _) (by decide); clear hst1) | (apply wl_appX (m := m) (ys := ws) [] hst2; rfl; rfl; exact rfl; exact rfl; infer_instance; infer_instance; infer_instance; exact HR.out [_] _ hst2; exact H1C.out; (refine ⟨by decide, by unfold maxLen; omega, by omega⟩); intro v1 w2 hst3 _; clear hst2) | (go_at_call 55; refine (isHere_any ga (k : Int) _).mono ?_; rintro _ w4 ⟨k0, k1, rfl, h4⟩; have hst4 := St.call hst3 h4; clear h4 hst3) | (apply wl_bsX ([cloV 78 [ptrV k0, ptrV k1]]) ([cloV 78 [ptrV k0, ptrV k1]]) hst4; rfl; rfl; exact rfl; exact rfl; infer_instance; infer_instance; rfl; rfl; rfl; intro gb w5 hst5; clear hst4) | (apply wl_appX (m := 1) (ys := [cloV 78 [ptrV k0, ptrV k1]]) [_, _, _] hst5; rfl; rfl; exact rfl; exact rfl; infer_instance; infer_instance; infer_instance; exact Rd.blk (n := 1) hst5 (.head _) (Nat.le_refl _) (by decide) rfl rfl; rfl; (refine ⟨by decide, by unfold maxLen; omega, by omega⟩); intro v2 w6 hst6 _; clear hst5) | (go_at_call 52; have hC := checks_any (k : Int) (v := v2) (n := 1 + m + 1) (fs := methV 53 (ptrV ga) :: ws) (f9 := cloV 78 [ptrV k0, ptrV k1]) (es := 0 :: rs) (e9 := orE (!(a.dv ((k : Int))).gone) 14) (A := fun w' => St w M w' (([HA.blk gb 85 [cloV 78 [ptrV k0, ptrV k1]], .blk k1 3 [.int .i64 (k : Int)], .blk k0 25 [.pointer (some ⟨ga, 0, none⟩)], .row v2 85 1 (1 + m + 1) (([methV 53 (ptrV ga)] ++ ws) ++ [cloV 78 [ptrV k0, ptrV k1]])] : List HA) ++ (Lb ++ arP ga x a))) (B := fun w' => St w M w' (([HA.blk gb 85 [cloV 78 [ptrV k0, ptrV k1]], .blk k1 3 [.int .i64 (k : Int)], .blk k0 25 [.pointer (some ⟨ga, 0, none⟩)], .row v2 85 1 (1 + m + 1) (([methV 53 (ptrV ga)] ++ ws) ++ [cloV 78 [ptrV k0, ptrV k1]])] : List HA) ++ (Lb ++ arP ga x a))) _ (fun _ h => Rd.row h (.tail _ (.tail _ (.tail _ (.head _))))) (by rw [List.length_cons, List.length_cons, HW.out, HRS.out]) (by rw [List.length_cons, HW.out]; omega) (by omega) (fun j f e hf he hz => (match j, hf, he, hz with | 0, hf, he, _ => (by cases hf; cases he; exact probe_made (fun _ h => ArrAt.of h (fun p hp => List.mem_append_right _ (List.mem_append_right _ hp)) OK.out.d0) keeps_st) | j + 1, hf, he, hz => HP.out _ j f e (by simpa using hf) (by simpa using he) (getD_cons0 hz))) (fun hz => probe_isHere (fun _ h => ArrAt.of h (fun p hp => List.mem_append_right _ (List.mem_append_right _ hp)) OK.out.d0) keeps_st (HIN.out (by rw [← firstE_cons0]; exact firstE_zero hz)) (fun _ h => St.cell h (off := 0) (.tail _ (.tail _ (.head _))) rfl) (fun _ h => St.cell h (off := 0) (.tail _ (.head _)) rfl)) hst6; rw [HG.out] at hC; refine hC.mono ?_; rintro _ w8 hh; obtain ⟨rfl, h4⟩ := checks_fine (by rw [firstE_cons0]; exact H1.out) hh; clear hC hh hst6; have hst7 := h4; clear h4) | (refine wl_loadE rfl rfl rfl ?_; refine ⟨_, Loads.cell (T := 67) TyS.out (St.cell hst7 (off := 0) (g := ga) (T := 70) (cs := arrC x a) (List.mem_append_right _ (List.mem_append_right _ (.head _))) rfl), ?_⟩) | (refine wl_index (k := k) rfl rfl rfl rfl hlt ?_) | ((refine (HDD.out H1.out H2.out _ _ hst7).mono ?_); rintro _ w9 ⟨rfl, x', h4⟩; have hst8 := h4; clear h4 hst7))
  go_ret
  exact ⟨rfl, _, _, hst8⟩
theorem arr_in {w0 w : World} {M : List Nat} {X : List HA} {ga : Nat} {x : GA} {a : AR} (h : St w0 M w (X ++ arP ga x a)) : St w (arF ga x a) w (arP ga x a) := (St.sub h (List.sublist_append_right _ _)).selfF
theorem arr_out {w0 w w' : World} {M : List Nat} {X : List HA} {ga : Nat} {x x' : GA} {a a' : AR} (h : St w0 M w (X ++ arP ga x a)) (h4 : St w (arF ga x a) w' (arP ga x' a')) : St w0 M w' (X ++ arP ga x' a') :=
  St.perm (St.callF (arP ga x a) (St.perm h List.perm_append_comm) h4) List.perm_append_comm
theorem arr_off {w0 w : World} {M : List Nat} {X : List HA} {ga : Nat} {x : GA} {a : AR} (h : St w0 M w (X ++ arP ga x a)) {g : Nat} {T : TypeId} {cs : List Value} (hm : HA.blk g T cs ∈ X) : g ∉ arF ga x a := by
  intro hF
  have hap := h.apart
  unfold Apart at hap
  rw [List.pairwise_append] at hap
  obtain ⟨y, hy, hk⟩ := List.mem_filterMap.1 hF
  exact hap.2.2 _ hm y hy g rfl hk
theorem befallsE_any {w : World} {M : List Nat} {Lb : List HA} {ga : Nat} {x : GA} {a : AR} (hS : St w M w (Lb ++ arP ga x a)) (ok : a.Ok) (dev : Int) (fn : Nat) (cap : List Value) (v : Value) (m : Nat) (ws : List Value) (rs : List Int) (a' : AR)
    (hfn : ∀ (a : Array Value) (w : World), (callFunc fn a).run Try.prog w = .ok (.enter fn a) w)
    (hr : ∀ (X : List HA) (w' : World), St w M w' (X ++ (Lb ++ arP ga x a)) → Rd w' v 1 m ws) (hw : ws.length = m) (hrs : rs.length = m) (hm : m ≤ 10) (h1c : ws.all (·.oneCell') = true)
    (hp : ∀ (X : List HA) (j : Nat) (f : Value) (e : Int), ws[j]? = some f → rs[j]? = some e → (∀ i < j, rs.getD i 0 = 0) → Probe f e (fun w' => St w M w' (X ++ (Lb ++ arP ga x a))) (fun w' => St w M w' (X ++ (Lb ++ arP ga x a))))
    (hin : firstE rs = 0 → a.inD dev = true) (hE : ∀ e ∈ rs, e = 0 ∨ isE e)
    (hD : firstE rs = 0 → (a.dv dev).gone = false → ∀ (w' : World), (∀ (g : Nat) (T : TypeId) (cs : List Value), HA.blk g T cs ∈ Lb → w'.heap[g]? = some (.cells cs.toArray T (0, 0)) ∧ g ∉ arF ga x a) → St w' (arF ga x a) w' (arP ga x a) →
      Calls Try.prog fn (List.toArray (.pointer (some ⟨x.gd, dev.toNat * 5, none⟩) :: cap)) w' fun e w'' => e = .returned (.tuple #[]) ∧ ∃ x', St w' (arF ga x a) w'' (arP ga x' a')) :
    Calls Try.prog 29 #[.pointer (some ⟨ga, 0, none⟩), .int .i64 dev, .func (.func fn) #[] (List.toArray cap), v] w fun e w' => e = .returned (.int .i64 (a.fellE dev rs)) ∧ ∃ X x', St w M w' (X ++ (Lb ++ arP ga x' (if a.fellE dev rs = 0 then a' else a))) := by
  have hD' : firstE rs = 0 → (a.dv dev).gone = false → ∀ (X : List HA) (w' : World), St w M w' (X ++ (Lb ++ arP ga x a)) → Calls Try.prog fn (List.toArray (.pointer (some ⟨x.gd, dev.toNat * 5, none⟩) :: cap)) w' fun e w'' => e = .returned (.tuple #[]) ∧ ∃ x', St w M w'' (X ++ (Lb ++ arP ga x' a')) := by
    intro h1 h2 X w' h
    rw [← List.append_assoc] at h
    refine (hD h1 h2 w' (fun g T cs hm => ⟨h.all (.blk g T cs) (List.mem_append_left _ (List.mem_append_right _ hm)), arr_off h (List.mem_append_right _ hm)⟩) (arr_in h)).mono ?_
    rintro _ w'' ⟨rfl, x', h4⟩
    have h5 := arr_out h h4
    rw [List.append_assoc] at h5
    exact ⟨rfl, x', h5⟩
  have hD0 : firstE rs = 0 → (a.dv dev).gone = true → False → ∀ (X : List HA) (w' : World), True := fun _ _ _ _ _ => trivial
  unfold AR.fellE
  rw [firstE_snoc]
  by_cases h1 : firstE rs = 0
  · rw [if_pos h1]
    cases h2 : (a.dv dev).gone
    · rw [if_pos (by decide)]
      exact befallsE_fine hS ok dev fn cap v m ws rs hfn hr hw hrs hm h1c hp hin hE hD' h1 h2
    · rw [if_neg (by decide)]
      refine (befalls_gone (x' := x) (a' := a) hS ok dev fn cap v m ws rs hfn hr hw hrs hm h1c hp hin hE (fun _ h3 => absurd h3 (by rw [h2]; decide)) h1 h2).mono ?_
      rintro _ w' ⟨rfl, X, h4⟩
      exact ⟨rfl, X, x, h4⟩
  · rw [if_neg h1, if_neg h1]
    refine (befalls_bad (x' := x) (a' := a) hS ok dev fn cap v m ws rs hfn hr hw hrs hm h1c hp hin hE (fun h3 => absurd h3 h1) h1).mono ?_
    rintro _ w' ⟨rfl, X, h4⟩
    exact ⟨rfl, X, x, h4⟩
theorem AR.Ok.rest {a : AR} (ok : a.Ok) (k : Nat) : (a.rest k).Ok := ok.loose fun w hw => ok.lw w (List.mem_filter.1 hw).1
theorem fellE_in {a : AR} {dev : Int} {rs : List Int} {e : Int} (he : e ≠ 0) {b : Bool} (hb : orE b e ∈ rs) (h : a.fellE dev rs = 0) : b = true := by
  unfold AR.fellE at h
  exact orE_zero he (firstE_all h _ (List.mem_append_left _ hb))
end Go.Proofs.Ytmdfbdfijnmhkaa
namespace Go.Proofs.Ytmdfbdfijnmhkaa
set_option linter.unusedVariables false
set_option linter.unusedSimpArgs false
open Go.RowKit Hp
attribute [local irreducible] Go.Calls Go.wpList
set_option maxRecDepth 100000
set_option maxHeartbeats 4000000
section
attribute [local go_sem ↓] loadedPA loadedIn
end
end Go.Proofs.Ytmdfbdfijnmhkaa
