/- DirBack's tables, one behind the other. No program in sight. -/
import Derived.Test.YtifajcblbedcoaaJDirBackg
namespace Go.Proofs.Ytifajcblbedcoaa
set_option linter.unusedVariables false
set_option linter.unusedSimpArgs false
open Go.RowKit Hp
attribute [local irreducible] Go.Calls Go.wpList
set_option maxRecDepth 100000
set_option maxHeartbeats 8000000
attribute [local go_sem ↓] heldInt heldInts heldRecs heldRec heldStr heldTab heldPtr heldFn
theorem put_name (v : Value × RC) (z : List UInt8) : putAt (cellsR v) 1 [.string ⟨z.toArray⟩] = cellsR (v.1, { v.2 with name := z }) := rfl
def nameX (x : Value × RC) (z : List UInt8) : Value × RC := (x.1, { x.2 with name := z })
def renX (nm tn : List UInt8) (x : Value × RC) : Value × RC := (x.1, renR nm tn x.2)
theorem renR_root (nm tn : List UInt8) (x : RC) : (renR nm tn x).S = x.S ∧ (renR nm tn x).l = x.l := by
  unfold renR
  split
  · exact ⟨rfl, rfl⟩
  · split <;> exact ⟨rfl, rfl⟩
theorem renX_root (nm tn : List UInt8) (x : Value × RC) : rootH (renX nm tn x) = rootH x := by
  unfold rootH renX
  rw [(renR_root nm tn x.2).2]
theorem renR_len {nm tn : List UInt8} (h : tn.length ≤ 1000000) {x : RC} (hx : x.name.length ≤ 1000000) : (renR nm tn x).name.length ≤ 1000000 := by
  unfold renR
  split
  · exact h
  · split
    · have := join_len tn (splitL x.name).2.1
      show (joinL tn (splitL x.name).2.1).1.length ≤ 1000000
      omega
    · exact hx
theorem rowLoad {w0 w : World} {M : List Nat} {L : List HA} {g2 n c j : Nat} {xs : List (Value × RC)} {x : Value × RC} (hst : St w0 M w L) (hm : HA.row (.slice (some ⟨g2, 0, none⟩) n c) 51 44 n (recsV xs) ∈ L) (hn : xs.length = n) (hl : LX xs) (hx : xs[j]? = some x) : Loads Try.prog w 51 ⟨g2, 0 + j * 44, none⟩ (.agg (cellsR x).toArray) := by
  have hr := (Rd.row hst hm).range
  have h2 := range_flat (f := cellsR) (sz := 44) (fun d hd => cellsR_len (hl d hd)) hx hr
  exact Loads.range (by rw [cellsR_len (hl x (List.mem_of_getElem? hx))]; exact (inferInstance : TyA Try.prog 51 44).out) h2
/-- Where the loop stands: so many records are laid anew. -/
structure RenS (w w1 : World) (g : Nat) (t : TC) (rv lv : Value) (g2 c : Nat) (xs ys : List (Value × RC)) (j : Nat) (nm tn : List UInt8) (R : List HA) : Prop where
  st : St w [] w1 (.blk g 27 (tabC t rv lv) :: .row rv 51 44 j (recsV ys) :: .row (.slice (some ⟨g2, 0, none⟩) xs.length c) 51 44 xs.length (recsV xs) :: .row lv 3 1 t.lives.length (numsV t.lives) :: (xs.map rootH ++ R))
  len : ys.length = j
  eq : ys.map (·.2) = sortL ((t.recs.take j).map (renR nm tn))
  roots : (ys.map rootH).Perm ((xs.take j).map rootH)
  ok : ∀ y ∈ ys, L32 y.2.S ∧ y.2.name.length ≤ 1000000
theorem RenS.own {w w1 : World} {g : Nat} {t : TC} {rv lv : Value} {g2 c : Nat} {xs ys : List (Value × RC)} {j : Nat} {nm tn : List UInt8} {R : List HA} (h : RenS w w1 g t rv lv g2 c xs ys j nm tn R) (a b : HA) : OwnX (a :: b :: (xs.map rootH ++ R)) ys := fun y hy => by
  refine ⟨.tail _ (.tail _ (List.mem_append_left _ ?_)), h.ok y hy⟩
  have h1 : rootH y ∈ ys.map rootH := List.mem_map_of_mem hy
  have h2 := h.roots.subset h1
  rw [List.map_take] at h2
  exact List.mem_of_mem_take h2
theorem RenS.sorted {w w1 : World} {g : Nat} {t : TC} {rv lv : Value} {g2 c : Nat} {xs ys : List (Value × RC)} {j : Nat} {nm tn : List UInt8} {R : List HA} (h : RenS w w1 g t rv lv g2 c xs ys j nm tn R) (hk : t.ok = true) (ha : alikeB nm tn = true) (ht : isAt tn t.recs = false) : Sorted (ys.map (·.2)) := by
  rw [h.eq, sorted_iff]
  refine sortL_sorted ?_
  have := ren_distinct hk ha ht
  unfold Distinct at this ⊢
  rw [List.map_take]
  exact this.sublist (List.take_sublist _ _)
theorem RenS.next {w w1 : World} {g : Nat} {t : TC} {rv lv : Value} {g2 c : Nat} {xs ys : List (Value × RC)} {j : Nat} {nm tn : List UInt8} {R : List HA} {x : Value × RC} (h : RenS w w1 g t rv lv g2 c xs ys j nm tn R) (hok : Okx xs t) (hx : xs[j]? = some x) (htn : tn.length ≤ 1000000) {w2 : World} {rv' : Value}
    (hst : St w [] w2 (.blk g 27 (tabC t rv' lv) :: .row rv' 51 44 (j + 1) (recsV (ys.take (nLess (renX nm tn x).2 (ys.map (·.2))) ++ renX nm tn x :: ys.drop (nLess (renX nm tn x).2 (ys.map (·.2))))) :: .row (.slice (some ⟨g2, 0, none⟩) xs.length c) 51 44 xs.length (recsV xs) :: .row lv 3 1 t.lives.length (numsV t.lives) :: (xs.map rootH ++ R))) :
    RenS w w2 g t rv' lv g2 c xs (ys.take (nLess (renX nm tn x).2 (ys.map (·.2))) ++ renX nm tn x :: ys.drop (nLess (renX nm tn x).2 (ys.map (·.2)))) (j + 1) nm tn R := by
  have hxr : t.recs[j]? = some x.2 := by rw [← hok.eq, List.getElem?_map, hx]; rfl
  refine ⟨hst, ?_, ?_, ?_, ?_⟩
  · have hle := nLess_le (renX nm tn x).2 (ys.map (·.2))
    rw [List.length_map] at hle
    rw [List.length_append, List.length_cons, List.length_take, List.length_drop, ← h.len]
    omega
  · rw [lay_map, h.eq, List.take_add_one, hxr, List.map_append]
    exact (sortL_snoc _ _).symm
  · refine (lay_roots rootH (renX nm tn x) ys _).trans ?_
    rw [renX_root, List.take_add_one, hx, List.map_append]
    exact (List.Perm.cons _ h.roots).trans (List.perm_append_singleton _ _).symm
  · intro y hy
    rcases List.mem_append.1 hy with hy | hy
    · exact h.ok y (List.mem_of_mem_take hy)
    · rcases List.mem_cons.1 hy with rfl | hy
      · have := hok.ok x (List.mem_of_getElem? hx)
        exact ⟨by show L32 (renR nm tn x.2).S; rw [(renR_root nm tn x.2).1]; exact this.1, renR_len htn this.2⟩
      · exact h.ok y (List.mem_of_mem_drop hy)
theorem ren_done {w w1 : World} {g : Nat} {al : Option Addr} {cl : Nat} {t : TC} {rv : Value} {g2 c : Nat} {xs ys : List (Value × RC)} {nm tn : List UInt8} {R : List HA} {r : TR} (h : RenS w w1 g t rv (.slice al t.lives.length cl) g2 c xs ys xs.length nm tn R) (hok : Okx xs t) (hr : r = (0, { t with recs := sortL (t.recs.map (renR nm tn)) })) : DoesPost g al cl w t r R (.returned (.int .i64 0)) w1 := by
  subst hr
  have e : t.recs.take xs.length = t.recs := List.take_of_length_le (by rw [hok.len]; exact Nat.le_refl _)
  refine ⟨rfl, fun _ => ⟨rv, ys, ⟨?_, h.ok⟩, ?_, rfl⟩, fun h0 => by cases h0⟩
  · have := h.eq
    rwa [e] at this
  · have hp := h.roots
    rw [List.take_length] at hp
    unfold TP
    rw [h.len]
    exact St.perm (St.sub h.st (.cons_cons _ (.cons_cons _ (.cons _ (.cons_cons _ (List.Sublist.refl _)))))) (.cons _ (.cons _ (.cons _ (hp.symm.append_right R))))
theorem rename_does {w : World} {g1 gt : Nat} (nm tn : List UInt8) (h1 : w.cell? ⟨g1, 0, none⟩ = some (.string ⟨nm.toArray⟩)) (h2 : w.cell? ⟨gt, 0, none⟩ = some (.string ⟨tn.toArray⟩)) (hl : nm.length ≤ 1000000) (hln : tn.length ≤ 1000000) (t : TC) (hk : t.ok = true) :
    Does 37 #[.pointer (some ⟨g1, 0, none⟩), .pointer (some ⟨gt, 0, none⟩)] w t (renameT t nm tn) := by
  intro g ao c al cl xs R w1 hok hst0
  show Calls _ _ #[.pointer (some ⟨g, 0, none⟩), .pointer (some ⟨g1, 0, none⟩), .pointer (some ⟨gt, 0, none⟩)] _ _
  have hst := hst0
  have H1 := hid h1
  have H2 := hid h2
  have HOK := hid hok
  have HK := hid hk
  have b2 : xs.length ≤ 16 := by rw [hok.len]; exact ok_many hk
  clear hst0 hok hk h1 h2
  obtain ⟨r, hr⟩ : ∃ r, r = renameT t nm tn := ⟨_, rfl⟩
  rw [← hr]
  obtain ⟨e, hal⟩ : ∃ e, alikeB nm tn = e := ⟨_, rfl⟩
  have HAL := hid hal
  have HV := hid (show r = if e then (if isAt nm t.recs then (if isAt tn t.recs then badR 7 else (0, { t with recs := sortL (t.recs.map (renR nm tn)) })) else badR 6) else badR 2 by rw [hr]; unfold renameT; rw [hal])
  clear hr hal
  cases e
  · have HB := hid (show r = badR 2 from HV.out)
    clear HV
    go_enter Try.func37, Try.ntmps37
    go_wp2_with (first | go_big_skip | go_big_guard | (refine wl_loadE rfl rfl rfl ?_; first | refine ⟨_, Loads.old hst H1.out, ?_⟩ | refine ⟨_, Loads.old hst H2.out, ?_⟩) | (go_at_call 38; refine (alike13_any nm tn _ (by omega) (by omega)).mono ?_; rw [HAL.out]; rintro _ w9 ⟨rfl, h4⟩; replace hst := St.call0 hst h4; clear h4))
    go_ret
    exact does_bad (L := []) HB.out (by decide) hst
  · have HALB : Hid (alikeB nm tn = true) := HAL
    rcases find_split (nm := nm) (l := t.recs) with ⟨hra, hf⟩ | ⟨j, y, hy, hra, hfn, hf, hnm⟩
    · have HF := hid hf
      have hi : isAt nm t.recs = false := by unfold isAt; rw [hra]; rfl
      have HB := hid (show r = badR 6 by rw [HV.out, hi]; rfl)
      clear HV hf hra hi
      go_enter Try.func37, Try.ntmps37
      go_wp2_with (first | go_big_skip | go_big_guard | (refine wl_loadE rfl rfl rfl ?_; first | refine ⟨_, Loads.old hst H1.out, ?_⟩ | refine ⟨_, Loads.old hst H2.out, ?_⟩) | (go_at_call 38; refine (alike13_any nm tn _ (by omega) (by omega)).mono ?_; rw [HAL.out]; rintro _ w9 ⟨rfl, h4⟩; replace hst := St.call0 hst h4; clear h4))
      have hX := hst.drew
      clear hst
      refine wp_region_held_drew (S := (fun w' => (loadVarH 27 ⟨g, 0, none⟩).run Try.prog w' = .ok (.agg (List.toArray ((tabC t (.slice ao xs.length c) (.slice al t.lives.length cl))))) w' ∧ (loadVarH 9 ⟨g1, 0, none⟩).run Try.prog w' = .ok (.string ⟨nm.toArray⟩) w')) (by kernel_rfl) (by exact ⟨ldA ((tabC t (.slice ao xs.length c) (.slice al t.lives.length cl))) [] hX (rfl) (rfl), ldO hX (H1.out)⟩) (fun hHeld => ?_)
      refine tq 0 20 ?_
      refine tq 3 23 ?_
      refine tq 1 21 ?_
      refine tq 2 22 ?_
      refine wpAnyH_ready (rs := [4]) (by kernel_rfl) (by simp) ?_
      refine (AllReadyH.cons (o := ⟨some 24, _, _, _, _, _⟩) rfl (fun K hK => ?_) AllReadyH.nil)
      rw [if_pos (by rfl)]
      go_simp
      go_at_call 33
      refine (find_any t _ nm ao xs.length c xs _ (tp_recs [] HOK.out hX) (by omega)).mono ?_
      rw [HOK.out.eq, HF.out]
      rintro _ w5 ⟨rfl, h4⟩
      have hstF := St.call0 hX h4
      clear h4
      refine hK.out _ _ ?_ (fun hHeld => ?_)
      · exact ⟨ldA ((tabC t (.slice ao xs.length c) (.slice al t.lives.length cl))) [] hstF (rfl) (rfl), ldO hstF (H1.out)⟩
      clear hK K
      (try simp only [Act.put, List.setIfInBounds_toArray, List.set_cons_zero, List.set_cons_succ])
      refine tq 5 19 ?_
      refine tq 6 25 ?_
      refine tq 7 26 ?_
      refine tq 8 5 ?_
      refine tq 9 6 ?_
      refine wpAnyH_done (by kernel_rfl) ?_ _
      clear hHeld
      have hst : St w [] _ (TP g t (.slice ao xs.length c) (.slice al t.lives.length cl) xs R) := hstF
      clear hstF
      go_wp2_with (first | go_big_skip | go_big_guard | fail)
      go_ret
      exact does_bad (L := []) HB.out (by decide) hst
    · have HF := hid hf
      have hi : isAt nm t.recs = true := by unfold isAt; rw [hra]; rfl
      have hn0 : 0 < xs.length := by rw [HOK.out.len]; have := (List.getElem?_eq_some_iff.1 hy).1; omega
      obtain ⟨g2, c2, he⟩ := tp_spot [] hst hn0
      cases he
      rcases find_split (nm := tn) (l := t.recs) with ⟨hra2, hf2⟩ | ⟨j2, y2, hy2, hra2, hfn2, hf2, hnm2⟩
      · have HF2 := hid hf2
        have hi2 : isAt tn t.recs = false := by unfold isAt; rw [hra2]; rfl
        have HTN := hid hi2
        have HB := hid (show r = (0, { t with recs := sortL (t.recs.map (renR nm tn)) }) by rw [HV.out, hi, hi2]; rfl)
        clear HV hf hra hi hy hfn hnm hf2 hra2 hi2
        go_enter Try.func37, Try.ntmps37
        go_wp2_with (first | go_big_skip | go_big_guard | (refine wl_loadE rfl rfl rfl ?_; first | refine ⟨_, Loads.old hst H1.out, ?_⟩ | refine ⟨_, Loads.old hst H2.out, ?_⟩) | (go_at_call 38; refine (alike13_any nm tn _ (by omega) (by omega)).mono ?_; rw [HAL.out]; rintro _ w9 ⟨rfl, h4⟩; replace hst := St.call0 hst h4; clear h4))
        have hX := hst.drew
        clear hst
        refine wp_region_held_drew (S := (fun w' => (loadVarH 27 ⟨g, 0, none⟩).run Try.prog w' = .ok (.agg (List.toArray ((tabC t (.slice (some ⟨g2, 0, none⟩) xs.length c) (.slice al t.lives.length cl))))) w' ∧ (loadVarH 9 ⟨g1, 0, none⟩).run Try.prog w' = .ok (.string ⟨nm.toArray⟩) w')) (by kernel_rfl) (by exact ⟨ldA ((tabC t (.slice (some ⟨g2, 0, none⟩) xs.length c) (.slice al t.lives.length cl))) [] hX (rfl) (rfl), ldO hX (H1.out)⟩) (fun hHeld => ?_)
        refine tq 0 20 ?_
        refine tq 3 23 ?_
        refine tq 1 21 ?_
        refine tq 2 22 ?_
        refine wpAnyH_ready (rs := [4]) (by kernel_rfl) (by simp) ?_
        refine (AllReadyH.cons (o := ⟨some 24, _, _, _, _, _⟩) rfl (fun K hK => ?_) AllReadyH.nil)
        rw [if_pos (by rfl)]
        go_simp
        go_at_call 33
        refine (find_any t _ nm (some ⟨g2, 0, none⟩) xs.length c xs _ (tp_recs [] HOK.out hX) (by omega)).mono ?_
        rw [HOK.out.eq, HF.out]
        rintro _ w5 ⟨rfl, h4⟩
        have hstF := St.call0 hX h4
        clear h4
        refine hK.out _ _ ?_ (fun hHeld => ?_)
        · exact ⟨ldA ((tabC t (.slice (some ⟨g2, 0, none⟩) xs.length c) (.slice al t.lives.length cl))) [] hstF (rfl) (rfl), ldO hstF (H1.out)⟩
        clear hK K
        (try simp only [Act.put, List.setIfInBounds_toArray, List.set_cons_zero, List.set_cons_succ])
        refine tq 5 19 ?_
        refine tq 6 25 ?_
        refine tq 7 26 ?_
        refine tq 8 5 ?_
        refine tq 9 6 ?_
        refine wpAnyH_done (by kernel_rfl) ?_ _
        clear hHeld
        have hst : St w [] _ (TP g t (.slice (some ⟨g2, 0, none⟩) xs.length c) (.slice al t.lives.length cl) xs R) := hstF
        clear hstF
        go_wp2_with (first | go_big_skip | go_big_guard | fail)
        have hZ := hst.drew
        clear hst
        refine wp_region_held_drew (S := (fun w' => (loadVarH 27 ⟨g, 0, none⟩).run Try.prog w' = .ok (.agg (List.toArray ((tabC t (.slice (some ⟨g2, 0, none⟩) xs.length c) (.slice al t.lives.length cl))))) w' ∧ (loadVarH 9 ⟨gt, 0, none⟩).run Try.prog w' = .ok (.string ⟨tn.toArray⟩) w')) (by kernel_rfl) (by exact ⟨ldA ((tabC t (.slice (some ⟨g2, 0, none⟩) xs.length c) (.slice al t.lives.length cl))) [] hZ (rfl) (rfl), ldO hZ (H2.out)⟩) (fun hHeld => ?_)
        refine tq 0 30 ?_
        refine tq 3 33 ?_
        refine tq 1 31 ?_
        refine tq 2 32 ?_
        refine wpAnyH_ready (rs := [4]) (by kernel_rfl) (by simp) ?_
        refine (AllReadyH.cons (o := ⟨some 34, _, _, _, _, _⟩) rfl (fun K hK => ?_) AllReadyH.nil)
        rw [if_pos (by rfl)]
        go_simp
        go_at_call 33
        refine (find_any t _ tn (some ⟨g2, 0, none⟩) xs.length c xs _ (tp_recs [] HOK.out hZ) (by omega)).mono ?_
        rw [HOK.out.eq, HF2.out]
        rintro _ w5 ⟨rfl, h4⟩
        have hstG := St.call0 hZ h4
        clear h4
        refine hK.out _ _ ?_ (fun hHeld => ?_)
        · exact ⟨ldA ((tabC t (.slice (some ⟨g2, 0, none⟩) xs.length c) (.slice al t.lives.length cl))) [] hstG (rfl) (rfl), ldO hstG (H2.out)⟩
        clear hK K
        (try simp only [Act.put, List.setIfInBounds_toArray, List.set_cons_zero, List.set_cons_succ])
        refine tq 5 29 ?_
        refine tq 6 35 ?_
        refine tq 7 36 ?_
        refine tq 8 7 ?_
        refine tq 9 8 ?_
        refine wpAnyH_done (by kernel_rfl) ?_ _
        clear hHeld
        have hst : St w [] _ (TP g t (.slice (some ⟨g2, 0, none⟩) xs.length c) (.slice al t.lives.length cl) xs R) := hstG
        clear hstG
        go_wp2_with (first | go_big_skip | go_big_guard | (refine wl_loadE rfl rfl rfl ?_; first | refine ⟨_, Loads.at [] hst rfl, ?_⟩) | (refine wl_store [] hst rfl rfl rfl (off := 1) (v := .slice none 0 0) rfl rfl rfl (by show (1 : Nat) + 1 ≤ 7; decide) ?_; intro w7 h4; have h5 := St.nilR 51 44 h4; have hstS : St w [] w7 (.blk g 27 (tabC t (.slice none 0 0) (.slice al t.lives.length cl)) :: .row (.slice none 0 0) 51 44 0 (recsV []) :: .row (.slice (some ⟨g2, 0, none⟩) xs.length c) 51 44 xs.length (recsV xs) :: .row (.slice al t.lives.length cl) 3 1 t.lives.length (numsV t.lives) :: (xs.map rootH ++ R)) := St.perm h5 (.swap _ _ _); clear h4 h5 hst))
        go_loopw [47] (fun i wr => ∃ (j : Nat) (rv : Value) (ys : List (Value × RC)), j ≤ xs.length ∧ i = .int .i64 (j : Int) ∧ RenS w wr g t rv (.slice al t.lives.length cl) g2 c xs ys j nm tn R) (fun i _ => xs.length - (intOf i).toNat)
        case atStart =>
          refine ⟨0, .slice none 0 0, [], Nat.zero_le _, rfl, ⟨?_, rfl, rfl, List.Perm.refl _, fun _ h => by cases h⟩⟩
          exact hstS
        case round =>
          clear hstS
          obtain ⟨j, rv, ys, hj, rfl, hS⟩ := hrel
          obtain ⟨ar, cr, rfl, _, _⟩ := rowS [_] hS.st
          have HS := hid hS
          clear hS
          by_cases hlt : j < xs.length
          · have e1 : decide ((j : Int) < (xs.length : Int)) = true := decide_eq_true (by omega)
            have z1 : IntKind.i64.wrap ((j : Int) + 1) = (j : Int) + 1 := IntWalk.i64_in _ (by omega)
            obtain ⟨x, hx⟩ : ∃ x, xs[j]? = some x := ⟨_, List.getElem?_eq_getElem hlt⟩
            have hxm := List.mem_of_getElem? hx
            have hxt : x.2 ∈ t.recs := by rw [← HOK.out.eq]; exact List.mem_map_of_mem hxm
            have HX := hid hx
            have HLX := hid (cellsR_len (HOK.out.ok x hxm).1)
            have HON := hid (cellsR_ones (OwnR.In (L := xs.map rootH ++ R) ⟨List.mem_append_left _ (List.mem_map_of_mem hxm), HOK.out.ok x hxm⟩ (St.sub HS.out.st (.cons _ (.cons _ (.cons _ (.cons _ (List.Sublist.refl _))))))))
            have hnl : x.2.name.length ≤ 1000000 := (HOK.out.ok x hxm).2
            have HNL := hid (show x.2.name.length ≤ 9223372036854775807 by omega)
            have HOR : Hid (OwnR (.row (.slice (some ⟨g2, 0, none⟩) xs.length c) 51 44 xs.length (recsV xs) :: .row (.slice al t.lives.length cl) 3 1 t.lives.length (numsV t.lives) :: (xs.map rootH ++ R)) (renX nm tn x)) := hid ⟨.tail _ (.tail _ (List.mem_append_left _ (by rw [renX_root]; exact List.mem_map_of_mem hxm))), by show L32 (renR nm tn x.2).S; rw [(renR_root nm tn x.2).1]; exact (HOK.out.ok x hxm).1, renR_len hln hnl⟩
            have HLY := hid (HOR.out.L)
            obtain ⟨⟨v, u, f⟩, hsp⟩ : ∃ p, splitL x.2.name = p := ⟨_, rfl⟩
            have HSP := hid hsp
            have HUL := hid (show u.length ≤ 9223372036854775807 by have := (split_in x.2.name hnl).2; rw [hsp] at this; have h2 : u.length ≤ 1000000 := this; omega)
            cases d1 : (x.2.name == nm)
            · cases d2 : (f && (v == nm))
              · have HRN := hid (show renX nm tn x = x by unfold renX renR; rw [if_neg (by rw [d1]; decide), hsp, if_neg (by rw [d2]; decide)])
                cases f
                · clear hx hxm hxt hsp d2 hnl
                  
                  go_wp2_with (first | go_big_skip | go_big_guard | (refine wl_index rfl rfl rfl rfl hlt ?_) | (refine wl_loadE rfl rfl rfl ?_; first | refine ⟨_, rowLoad HS.out.st (.tail _ (.tail _ (.head _))) rfl HOK.out.LX HX.out, ?_⟩ | refine ⟨.string ⟨x.2.name.toArray⟩, Loads.at [] hst3 rfl, ?_⟩ | refine ⟨_, Loads.old hst3 H1.out, ?_⟩ | refine ⟨_, Loads.old hst3 H2.out, ?_⟩ | refine ⟨_, (show Loads _ _ _ _ (.agg (cellsR (renX nm tn x)).toArray) from by rw [HRN.out]; exact Loads.atA (cellsR x) [] hst3 HLX.out (cellsR_all x)), ?_⟩) | (refine wl_alloc HS.out.st rfl rfl ?_; intro g9 w3 hst2) | (refine wl_storeA [] hst2 rfl rfl rfl rfl (by exact HLX.out) HON.out rfl ?_; intro w4 hst3; clear hst2) | (go_at_call 39; refine (split_any x.2.name _ HNL.out).mono ?_; rw [HSP.out]; rintro _ w9 ⟨rfl, h4⟩; replace hst3 := St.call0 hst3 h4; clear h4) | (go_at_call 40; refine (join_any tn u _ (by omega) HUL.out).mono ?_; rintro _ w9 ⟨rfl, h4⟩; replace hst3 := St.call0 hst3 h4; clear h4) | (go_at_call 41; refine (lay_any g t ar j cr (.slice al t.lives.length cl) ys (renX nm tn x) (St.sub hst3 (.cons _ (List.Sublist.refl _))) (HS.out.own _ _) HOR.out HS.out.len (HS.out.sorted HK.out HALB.out HTN.out) (by omega)).mono ?_; rintro _ w9 ⟨rv9, rfl, h4⟩; have hst5 := HS.out.next HOK.out HX.out hln h4; clear h4 hst3))
                  go_roundw
                  case rel => exact ⟨j + 1, rv9, _, by omega, rfl, hst5⟩
                  case measure => simp [intOf]; omega
                · have d3 : (v == nm) = false := by simpa using d2
                  clear hx hxm hxt hsp d2 hnl
                  
                  go_wp2_with (first | go_big_skip | go_big_guard | (refine wl_index rfl rfl rfl rfl hlt ?_) | (refine wl_loadE rfl rfl rfl ?_; first | refine ⟨_, rowLoad HS.out.st (.tail _ (.tail _ (.head _))) rfl HOK.out.LX HX.out, ?_⟩ | refine ⟨.string ⟨x.2.name.toArray⟩, Loads.at [] hst3 rfl, ?_⟩ | refine ⟨_, Loads.old hst3 H1.out, ?_⟩ | refine ⟨_, Loads.old hst3 H2.out, ?_⟩ | refine ⟨_, (show Loads _ _ _ _ (.agg (cellsR (renX nm tn x)).toArray) from by rw [HRN.out]; exact Loads.atA (cellsR x) [] hst3 HLX.out (cellsR_all x)), ?_⟩) | (refine wl_alloc HS.out.st rfl rfl ?_; intro g9 w3 hst2) | (refine wl_storeA [] hst2 rfl rfl rfl rfl (by exact HLX.out) HON.out rfl ?_; intro w4 hst3; clear hst2) | (go_at_call 39; refine (split_any x.2.name _ HNL.out).mono ?_; rw [HSP.out]; rintro _ w9 ⟨rfl, h4⟩; replace hst3 := St.call0 hst3 h4; clear h4) | (go_at_call 40; refine (join_any tn u _ (by omega) HUL.out).mono ?_; rintro _ w9 ⟨rfl, h4⟩; replace hst3 := St.call0 hst3 h4; clear h4) | (go_at_call 41; refine (lay_any g t ar j cr (.slice al t.lives.length cl) ys (renX nm tn x) (St.sub hst3 (.cons _ (List.Sublist.refl _))) (HS.out.own _ _) HOR.out HS.out.len (HS.out.sorted HK.out HALB.out HTN.out) (by omega)).mono ?_; rintro _ w9 ⟨rv9, rfl, h4⟩; have hst5 := HS.out.next HOK.out HX.out hln h4; clear h4 hst3))
                  go_roundw
                  case rel => exact ⟨j + 1, rv9, _, by omega, rfl, hst5⟩
                  case measure => simp [intOf]; omega
              · have h3 : f = true ∧ (v == nm) = true := by revert d2; cases f <;> cases (v == nm) <;> decide
                obtain ⟨rfl, d3⟩ := h3
                have HRN := hid (show renX nm tn x = nameX x (joinL tn u).1 by unfold renX renR; rw [if_neg (by rw [d1]; decide), hsp, if_pos (by rw [d3]; rfl)]; rfl)
                clear hx hxm hxt hsp d2 hnl
                
                go_wp2_with (first | go_big_skip | go_big_guard | (refine wl_index rfl rfl rfl rfl hlt ?_) | (refine wl_loadE rfl rfl rfl ?_; first | refine ⟨_, rowLoad HS.out.st (.tail _ (.tail _ (.head _))) rfl HOK.out.LX HX.out, ?_⟩ | refine ⟨.string ⟨x.2.name.toArray⟩, Loads.at [] hst3 rfl, ?_⟩ | refine ⟨_, Loads.old hst3 H1.out, ?_⟩ | refine ⟨_, Loads.old hst3 H2.out, ?_⟩ | refine ⟨_, Loads.atA (cellsR (renX nm tn x)) [] hst4 HLY.out (cellsR_all _), ?_⟩) | (refine wl_alloc HS.out.st rfl rfl ?_; intro g9 w3 hst2) | (refine wl_storeA [] hst2 rfl rfl rfl rfl (by exact HLX.out) HON.out rfl ?_; intro w4 hst3; clear hst2) | (go_at_call 39; refine (split_any x.2.name _ HNL.out).mono ?_; rw [HSP.out]; rintro _ w9 ⟨rfl, h4⟩; replace hst3 := St.call0 hst3 h4; clear h4) | (go_at_call 40; refine (join_any tn u _ (by omega) HUL.out).mono ?_; rintro _ w9 ⟨rfl, h4⟩; replace hst3 := St.call0 hst3 h4; clear h4) | (refine wl_store [] hst3 rfl rfl rfl (off := 1) (v := .string ⟨(joinL tn u).1.toArray⟩) rfl rfl rfl (by rw [HLX.out]; show (1 : Nat) + 1 ≤ 44; decide) ?_; intro w7 h4; have hst4 : St w [] w7 (.blk g9 51 (cellsR (renX nm tn x)) :: .blk g 27 (tabC t (.slice ar j cr) (.slice al t.lives.length cl)) :: .row (.slice ar j cr) 51 44 j (recsV ys) :: .row (.slice (some ⟨g2, 0, none⟩) xs.length c) 51 44 xs.length (recsV xs) :: .row (.slice al t.lives.length cl) 3 1 t.lives.length (numsV t.lives) :: (xs.map rootH ++ R)) := (by have e : cellsR (renX nm tn x) = cellsR (nameX x (joinL tn u).1) := (by rw [HRN.out]); rw [e]; exact h4); clear h4 hst3) | (go_at_call 41; refine (lay_any g t ar j cr (.slice al t.lives.length cl) ys (renX nm tn x) (St.sub hst4 (.cons _ (List.Sublist.refl _))) (HS.out.own _ _) HOR.out HS.out.len (HS.out.sorted HK.out HALB.out HTN.out) (by omega)).mono ?_; rintro _ w9 ⟨rv9, rfl, h4⟩; have hst5 := HS.out.next HOK.out HX.out hln h4; clear h4 hst4))
                go_roundw
                case rel => exact ⟨j + 1, rv9, _, by omega, rfl, hst5⟩
                case measure => simp [intOf]; omega
            · have HRN := hid (show renX nm tn x = nameX x tn by unfold renX renR; rw [if_pos d1]; rfl)
              clear hx hxm hxt hsp hnl
              
              go_wp2_with (first | go_big_skip | go_big_guard | (refine wl_index rfl rfl rfl rfl hlt ?_) | (refine wl_loadE rfl rfl rfl ?_; first | refine ⟨_, rowLoad HS.out.st (.tail _ (.tail _ (.head _))) rfl HOK.out.LX HX.out, ?_⟩ | refine ⟨.string ⟨x.2.name.toArray⟩, Loads.at [] hst3 rfl, ?_⟩ | refine ⟨_, Loads.old hst3 H1.out, ?_⟩ | refine ⟨_, Loads.old hst3 H2.out, ?_⟩ | refine ⟨_, Loads.atA (cellsR (renX nm tn x)) [] hst4 HLY.out (cellsR_all _), ?_⟩) | (refine wl_alloc HS.out.st rfl rfl ?_; intro g9 w3 hst2) | (refine wl_storeA [] hst2 rfl rfl rfl rfl (by exact HLX.out) HON.out rfl ?_; intro w4 hst3; clear hst2) | (go_at_call 39; refine (split_any x.2.name _ HNL.out).mono ?_; rw [HSP.out]; rintro _ w9 ⟨rfl, h4⟩; replace hst3 := St.call0 hst3 h4; clear h4) | (go_at_call 40; refine (join_any tn u _ (by omega) HUL.out).mono ?_; rintro _ w9 ⟨rfl, h4⟩; replace hst3 := St.call0 hst3 h4; clear h4) | (refine wl_store [] hst3 rfl rfl rfl (off := 1) (v := .string ⟨tn.toArray⟩) rfl rfl rfl (by rw [HLX.out]; show (1 : Nat) + 1 ≤ 44; decide) ?_; intro w7 h4; have hst4 : St w [] w7 (.blk g9 51 (cellsR (renX nm tn x)) :: .blk g 27 (tabC t (.slice ar j cr) (.slice al t.lives.length cl)) :: .row (.slice ar j cr) 51 44 j (recsV ys) :: .row (.slice (some ⟨g2, 0, none⟩) xs.length c) 51 44 xs.length (recsV xs) :: .row (.slice al t.lives.length cl) 3 1 t.lives.length (numsV t.lives) :: (xs.map rootH ++ R)) := (by have e : cellsR (renX nm tn x) = cellsR (nameX x tn) := (by rw [HRN.out]); rw [e]; exact h4); clear h4 hst3) | (go_at_call 41; refine (lay_any g t ar j cr (.slice al t.lives.length cl) ys (renX nm tn x) (St.sub hst4 (.cons _ (List.Sublist.refl _))) (HS.out.own _ _) HOR.out HS.out.len (HS.out.sorted HK.out HALB.out HTN.out) (by omega)).mono ?_; rintro _ w9 ⟨rv9, rfl, h4⟩; have hst5 := HS.out.next HOK.out HX.out hln h4; clear h4 hst4))
              go_roundw
              case rel => exact ⟨j + 1, rv9, _, by omega, rfl, hst5⟩
              case measure => simp [intOf]; omega
          · have e1 : decide ((j : Int) < (xs.length : Int)) = false := decide_eq_false (by omega)
            obtain rfl : j = xs.length := by omega
            go_wp2_with (first | go_big_skip | go_big_guard | fail)
            go_ret
            exact ren_done HS.out HOK.out HB.out
      · have HF2 := hid hf2
        have hi2 : isAt tn t.recs = true := by unfold isAt; rw [hra2]; rfl
        have HB := hid (show r = badR 7 by rw [HV.out, hi, hi2]; rfl)
        clear HV hf hra hi hy hfn hnm hf2 hra2 hi2 hy2 hfn2 hnm2
        go_enter Try.func37, Try.ntmps37
        go_wp2_with (first | go_big_skip | go_big_guard | (refine wl_loadE rfl rfl rfl ?_; first | refine ⟨_, Loads.old hst H1.out, ?_⟩ | refine ⟨_, Loads.old hst H2.out, ?_⟩) | (go_at_call 38; refine (alike13_any nm tn _ (by omega) (by omega)).mono ?_; rw [HAL.out]; rintro _ w9 ⟨rfl, h4⟩; replace hst := St.call0 hst h4; clear h4))
        have hX := hst.drew
        clear hst
        refine wp_region_held_drew (S := (fun w' => (loadVarH 27 ⟨g, 0, none⟩).run Try.prog w' = .ok (.agg (List.toArray ((tabC t (.slice (some ⟨g2, 0, none⟩) xs.length c) (.slice al t.lives.length cl))))) w' ∧ (loadVarH 9 ⟨g1, 0, none⟩).run Try.prog w' = .ok (.string ⟨nm.toArray⟩) w')) (by kernel_rfl) (by exact ⟨ldA ((tabC t (.slice (some ⟨g2, 0, none⟩) xs.length c) (.slice al t.lives.length cl))) [] hX (rfl) (rfl), ldO hX (H1.out)⟩) (fun hHeld => ?_)
        refine tq 0 20 ?_
        refine tq 3 23 ?_
        refine tq 1 21 ?_
        refine tq 2 22 ?_
        refine wpAnyH_ready (rs := [4]) (by kernel_rfl) (by simp) ?_
        refine (AllReadyH.cons (o := ⟨some 24, _, _, _, _, _⟩) rfl (fun K hK => ?_) AllReadyH.nil)
        rw [if_pos (by rfl)]
        go_simp
        go_at_call 33
        refine (find_any t _ nm (some ⟨g2, 0, none⟩) xs.length c xs _ (tp_recs [] HOK.out hX) (by omega)).mono ?_
        rw [HOK.out.eq, HF.out]
        rintro _ w5 ⟨rfl, h4⟩
        have hstF := St.call0 hX h4
        clear h4
        refine hK.out _ _ ?_ (fun hHeld => ?_)
        · exact ⟨ldA ((tabC t (.slice (some ⟨g2, 0, none⟩) xs.length c) (.slice al t.lives.length cl))) [] hstF (rfl) (rfl), ldO hstF (H1.out)⟩
        clear hK K
        (try simp only [Act.put, List.setIfInBounds_toArray, List.set_cons_zero, List.set_cons_succ])
        refine tq 5 19 ?_
        refine tq 6 25 ?_
        refine tq 7 26 ?_
        refine tq 8 5 ?_
        refine tq 9 6 ?_
        refine wpAnyH_done (by kernel_rfl) ?_ _
        clear hHeld
        have hst : St w [] _ (TP g t (.slice (some ⟨g2, 0, none⟩) xs.length c) (.slice al t.lives.length cl) xs R) := hstF
        clear hstF
        go_wp2_with (first | go_big_skip | go_big_guard | fail)
        have hZ := hst.drew
        clear hst
        refine wp_region_held_drew (S := (fun w' => (loadVarH 27 ⟨g, 0, none⟩).run Try.prog w' = .ok (.agg (List.toArray ((tabC t (.slice (some ⟨g2, 0, none⟩) xs.length c) (.slice al t.lives.length cl))))) w' ∧ (loadVarH 9 ⟨gt, 0, none⟩).run Try.prog w' = .ok (.string ⟨tn.toArray⟩) w')) (by kernel_rfl) (by exact ⟨ldA ((tabC t (.slice (some ⟨g2, 0, none⟩) xs.length c) (.slice al t.lives.length cl))) [] hZ (rfl) (rfl), ldO hZ (H2.out)⟩) (fun hHeld => ?_)
        refine tq 0 30 ?_
        refine tq 3 33 ?_
        refine tq 1 31 ?_
        refine tq 2 32 ?_
        refine wpAnyH_ready (rs := [4]) (by kernel_rfl) (by simp) ?_
        refine (AllReadyH.cons (o := ⟨some 34, _, _, _, _, _⟩) rfl (fun K hK => ?_) AllReadyH.nil)
        rw [if_pos (by rfl)]
        go_simp
        go_at_call 33
        refine (find_any t _ tn (some ⟨g2, 0, none⟩) xs.length c xs _ (tp_recs [] HOK.out hZ) (by omega)).mono ?_
        rw [HOK.out.eq, HF2.out]
        rintro _ w5 ⟨rfl, h4⟩
        have hstG := St.call0 hZ h4
        clear h4
        refine hK.out _ _ ?_ (fun hHeld => ?_)
        · exact ⟨ldA ((tabC t (.slice (some ⟨g2, 0, none⟩) xs.length c) (.slice al t.lives.length cl))) [] hstG (rfl) (rfl), ldO hstG (H2.out)⟩
        clear hK K
        (try simp only [Act.put, List.setIfInBounds_toArray, List.set_cons_zero, List.set_cons_succ])
        refine tq 5 29 ?_
        refine tq 6 35 ?_
        refine tq 7 36 ?_
        refine tq 8 7 ?_
        refine tq 9 8 ?_
        refine wpAnyH_done (by kernel_rfl) ?_ _
        clear hHeld
        have hst : St w [] _ (TP g t (.slice (some ⟨g2, 0, none⟩) xs.length c) (.slice al t.lives.length cl) xs R) := hstG
        clear hstG
        go_wp2_with (first | go_big_skip | go_big_guard | fail)
        go_ret
        exact does_bad (L := []) HB.out (by decide) hst
end Go.Proofs.Ytifajcblbedcoaa
namespace Go.Proofs.Ytifajcblbedcoaa
set_option linter.unusedVariables false
set_option linter.unusedSimpArgs false
open Go.RowKit Hp
attribute [local irreducible] Go.Calls Go.wpList
set_option maxRecDepth 100000
set_option maxHeartbeats 8000000
attribute [local go_sem ↓] heldInt heldInts heldRecs heldRec heldStr heldTab heldPtr heldFn
theorem rename13_any (t : TC) (ar al : Option Addr) (nr cr nl cl : Nat) (xs : List (Value × RC)) (w : World) (ht : TabIn w t ar nr cr al nl cl xs) (nm : List UInt8) (tn : List UInt8) (hnm : nm.length ≤ 1000000) (htn : tn.length ≤ 1000000) :
    Calls Try.prog 13 #[.agg (tabC t (.slice ar nr cr) (.slice al nl cl)).toArray, .string ⟨nm.toArray⟩, .string ⟨tn.toArray⟩] w (TabRet (opR t (renameT t nm tn)) w) := by
  have hst0 := St.refl w
  have HT := hid ht
  clear ht
  obtain ⟨r, hr⟩ : ∃ r, r = opR t (renameT t nm tn) := ⟨_, rfl⟩
  rw [← hr]
  have HR := hid hr
  clear hr
  go_enter Try.func13, Try.ntmps13
  go_wp2_with (first | go_big_skip | go_big_guard | (refine wl_boxA hst0 rfl rfl rfl ?_; intro g4 w1 hA0; clear hst0) | (refine wl_box hA0 rfl rfl rfl ?_; intro g5 _ hA1; clear hA0) | (refine wl_box hA1 rfl rfl rfl ?_; intro g6 _ hA2; clear hA1) | (refine wl_alloc hA2 rfl rfl ?_; intro gz _ hst; clear hA2) | (refine wl_loadE rfl rfl rfl ?_; refine ⟨_, Loads.atA (tabC t (.slice ar nr cr) (.slice al nl cl)) [_, _, _] hst rfl rfl, ?_⟩) | (go_at_call 24; refine (owned_any 37 #[.pointer (some ⟨g5, 0, none⟩), .pointer (some ⟨g6, 0, none⟩)] (fun _ _ => rfl) t ar al nr cr nl cl xs _ (HT.out.old hst.nil) (renameT t nm tn) (fun hk => rename_does nm tn (hst.cell (g := g5) (off := 0) (.tail _ (.tail _ (.head _))) rfl) (hst.cell (g := g6) (off := 0) (.tail _ (.head _)) rfl) hnm htn t hk)).mono ?_; rw [← HR.out]; rintro _ w9 ⟨rv9, lv9, xs9, rfl, hok9, h4⟩; have hst2 := St.call hst h4; clear h4 hst; obtain ⟨a9, c9, rfl, _, _⟩ := rowS [] hst2; obtain ⟨a8, c8, rfl, _, _⟩ := rowS [_] hst2; have HOK := hid hok9; clear hok9) | (refine wl_storeA (_ :: _ :: List.map rootH xs9) hst2 rfl rfl rfl rfl (vs := tabC r.2 (.slice a9 xs9.length c9) (.slice a8 r.2.lives.length c8)) rfl rfl rfl ?_; intro w7 hst3; clear hst2))
  have hl := Loads.atA (P := Try.prog) (off := 0) (T := 27) (tabC r.2 (.slice a9 xs9.length c9) (.slice a8 r.2.lives.length c8)) (_ :: _ :: List.map rootH xs9) hst3 rfl rfl
  refine bodyPost_ret (results_cellR rfl rfl rfl hl) rfl ?_
  exact ⟨_, _, xs9, rfl, HOK.out, St.sub hst3 (.cons_cons _ (.cons_cons _ (List.sublist_append_left _ _)))⟩
end Go.Proofs.Ytifajcblbedcoaa
namespace Go.Proofs.Ytifajcblbedcoaa
set_option linter.unusedVariables false
set_option linter.unusedSimpArgs false
open Go.RowKit Hp
attribute [local irreducible] Go.Calls Go.wpList
set_option maxRecDepth 100000
set_option maxHeartbeats 8000000
/-- A table lies among the pieces. -/
structure InP (P : List HA) (t : TC) (ar al : Option Addr) (cr cl : Nat) (xs : List (Value × RC)) : Prop where
  rr : HA.row (.slice ar xs.length cr) 51 44 xs.length (recsV xs) ∈ P
  ll : HA.row (.slice al t.lives.length cl) 3 1 t.lives.length (numsV t.lives) ∈ P
  roots : ∀ x ∈ xs, rootH x ∈ P
  ok : Okx xs t
theorem InP.mono {P P' : List HA} {t : TC} {ar al : Option Addr} {cr cl : Nat} {xs : List (Value × RC)} (h : InP P t ar al cr cl xs) (hs : ∀ y ∈ P, y ∈ P') : InP P' t ar al cr cl xs := ⟨hs _ h.rr, hs _ h.ll, fun x hx => hs _ (h.roots x hx), h.ok⟩
theorem InP.own {P : List HA} {t : TC} {ar al : Option Addr} {cr cl : Nat} {xs : List (Value × RC)} (h : InP P t ar al cr cl xs) : OwnX P xs := fun x hx => ⟨h.roots x hx, h.ok.ok x hx⟩
theorem InP.recs {w0 w : World} {M : List Nat} {B P : List HA} {t : TC} {ar al : Option Addr} {cr cl : Nat} {xs : List (Value × RC)} (h : InP P t ar al cr cl xs) (hst : St w0 M w (B ++ P)) : RecsIn w (.slice ar xs.length cr) xs.length xs :=
  recs_inL hst (List.mem_append_right _ h.rr) rfl (h.own.sub fun _ hy => List.mem_append_right _ hy)
theorem InP.tab {w0 w : World} {M : List Nat} {B P : List HA} {t : TC} {ar al : Option Addr} {cr cl : Nat} {xs : List (Value × RC)} (h : InP P t ar al cr cl xs) (hst : St w0 M w (B ++ P)) (hb : t.recs.length ≤ 1000000 ∧ t.lives.length ≤ 1000000) : TabIn w t ar xs.length cr al t.lives.length cl xs :=
  ⟨h.recs hst, h.ok.eq, Rd.row hst (List.mem_append_right _ h.ll), rfl, by rw [h.ok.len]; exact hb.1, hb.2⟩
/-- What a call told, among what was known. -/
theorem ret_pool {w w1 w2 : World} {B P : List HA} {z : Int} {u : TC} {e : Ending} (hst : St w [] w1 (B ++ P)) (h : TabRet (z, u) w1 e w2) :
    ∃ (a a' : Option Addr) (c c' : Nat) (P' : List HA) (xs' : List (Value × RC)), e = .returned (.tuple #[.agg (tabC u (.slice a xs'.length c) (.slice a' u.lives.length c')).toArray, .int .i64 z]) ∧ InP P' u a a' c c' xs' ∧ (∀ y ∈ P, y ∈ P') ∧ St w [] w2 (B ++ P') := by
  obtain ⟨rv, lv, xs, rfl, hok, h4⟩ := h
  have h5 := St.call hst h4
  obtain ⟨a9, c9, rfl, _, _⟩ := rowS [] h5
  obtain ⟨a8, c8, rfl, _, _⟩ := rowS [_] h5
  refine ⟨a9, a8, c9, c8, (.row (.slice a9 xs.length c9) 51 44 xs.length (recsV xs) :: .row (.slice a8 u.lives.length c8) 3 1 u.lives.length (numsV u.lives) :: xs.map rootH) ++ P, xs, rfl, ⟨by simp, by simp, fun x hx => List.mem_append_left _ (.tail _ (.tail _ (List.mem_map_of_mem hx))), hok⟩, fun y hy => List.mem_append_right _ hy, St.perm h5 ?_⟩
  rw [← List.append_assoc, ← List.append_assoc]
  exact List.perm_append_comm.append_right P
def namesOf (t : TC) : List (List UInt8) := t.recs.map (·.name)
def strsW (l : List (List UInt8)) : List Value := l.map fun s => .string ⟨s.toArray⟩
theorem strsW_get {l : List (List UInt8)} {k : Nat} {s : List UInt8} (h : l[k]? = some s) : (strsW l)[k]? = some (.string ⟨s.toArray⟩) := by simp [strsW, h]
attribute [local go_sem ↓] heldInt heldInts heldRecs heldRec heldStr heldTab heldPtr heldFn
instance slStr : TySl Try.prog 73 9 := ⟨by kernel_rfl⟩
instance elStr : TyE Try.prog 9 1 16 := ⟨by kernel_rfl⟩
theorem list_no {l k : List (List UInt8)} {j : Nat} {a b : List UInt8} (ha : l[j]? = some a) (hb : k[j]? = some b) (h : a ≠ b) : (l == k) = false := by
  rw [beq_eq_false_iff_ne]
  rintro rfl
  rw [ha] at hb
  exact h (Option.some.inj hb)
theorem list_all {l k : List (List UInt8)} (hl : l.length = k.length) (h : ∀ (j : Nat) (a b : List UInt8), l[j]? = some a → k[j]? = some b → a = b) : (l == k) = true := by
  rw [beq_iff_eq]
  apply List.ext_getElem hl
  intro j h1 h2
  exact h j _ _ (List.getElem?_eq_getElem h1) (List.getElem?_eq_getElem h2)
theorem list_len {l k : List (List UInt8)} (h : l.length ≠ k.length) : (l == k) = false := by
  rw [beq_eq_false_iff_ne]
  exact fun e => h (by rw [e])
theorem names13_any (t : TC) (ar : Option Addr) (nr cr : Nat) (lv : Value) (xs : List (Value × RC)) (so' : Option Addr) (k ck : Nat) (want : List (List UInt8)) (w : World) (hR : RecsIn w (.slice ar nr cr) nr xs) (he : xs.map (·.2) = t.recs) (hb : nr ≤ 1000) (hs : Rd w (.slice so' k ck) 1 k (strsW want)) (hk : want.length = k) (hkb : k ≤ 1000) :
    Calls Try.prog 14 #[.agg (tabC t (.slice ar nr cr) lv).toArray, .slice so' k ck] w fun e w' => e = .returned (.bool (namesOf t == want)) ∧ St w [] w' [] := by
  have hst0 := St.refl w
  have HR := hid hR
  have HSR := hid hs
  have HK := hid hk
  have hnl : (namesOf t).length = nr := by unfold namesOf; rw [List.length_map, ← he, List.length_map, hR.len]
  have HNL := hid hnl
  have HNE := hid he
  obtain ⟨E, hE⟩ : ∃ E, E = (namesOf t == want) := ⟨_, rfl⟩
  rw [← hE]
  have HE := hid hE
  clear hR hs hk hE hnl he
  by_cases hnk : nr = k
  · subst hnk
    have d1 : ((nr : Int) != (nr : Int)) = false := by simp
    go_enter Try.func14, Try.ntmps14
    go_wp2_with (first | go_big_skip | go_big_guard | (refine wl_boxA hst0 rfl rfl rfl ?_; intro g2 w1 hst; clear hst0) | (refine wl_loadE rfl rfl rfl ?_; refine ⟨_, Loads.at [] hst rfl, ?_⟩))
    go_loopw [5] (fun i wr => ∃ j : Nat, j ≤ nr ∧ i = .int .i64 (j : Int) ∧ St w [] wr [.blk g2 27 (tabC t (.slice ar nr cr) lv)] ∧ Hid (∀ (i : Nat) (a b : List UInt8), i < j → (namesOf t)[i]? = some a → want[i]? = some b → a = b)) (fun i _ => nr - (intOf i).toNat)
    case atStart => exact ⟨0, Nat.zero_le _, rfl, hst, hid (fun i a b hi _ _ => by omega)⟩
    case round =>
      clear hst
      obtain ⟨j, hj, rfl, hst, HP⟩ := hrel
      by_cases hlt : j < nr
      · have e1 : decide ((j : Int) < (nr : Int)) = true := decide_eq_true (by omega)
        have z1 : IntKind.i64.wrap ((j : Int) + 1) = (j : Int) + 1 := IntWalk.i64_in _ (by omega)
        obtain ⟨x, lb, lo, hx, har, hin, hr⟩ := RecsIn.at HR.out hlt
        subst har
        obtain ⟨s, hs⟩ : ∃ s, want[j]? = some s := ⟨_, List.getElem?_eq_getElem (by rw [HK.out]; exact hlt)⟩
        obtain ⟨sb, so, hso, hr2⟩ := Rd.at HSR.out hlt
        subst hso
        have HX : Hid ((namesOf t)[j]? = some x.2.name) := hid (by unfold namesOf; rw [← HNE.out, List.getElem?_map, List.getElem?_map, hx]; rfl)
        have HS := hid hs
        have HNX := hid (show w.cell? ⟨lb, lo + j * 44 + 1, none⟩ = some (.string ⟨x.2.name.toArray⟩) from hr 1 _ rfl)
        have HNS := hid (show w.cell? ⟨sb, so + j, none⟩ = some (.string ⟨s.toArray⟩) from hr2 j _ (strsW_get hs))
        clear hx hs hr hr2 hin
        go_wp2_with (first | go_big_skip | go_big_guard | fail)
        cases hq : (x.2.name == s)
        · have HQ := hid hq
          have hX := hst.drew
          clear hst
          refine wp_region_held_drew (S := (fun w' => (loadVarH 22 ⟨g2, 1, none⟩).run Try.prog w' = .ok (.slice (some ⟨lb, lo, none⟩) nr cr) w' ∧ (loadVarH 9 ⟨lb, lo + j * 44 + 1, none⟩).run Try.prog w' = .ok (.string ⟨x.2.name.toArray⟩) w' ∧ (loadVarH 9 ⟨sb, so + j, none⟩).run Try.prog w' = .ok (.string ⟨s.toArray⟩) w')) (by kernel_rfl) (by exact ⟨ldS [] hX rfl, ldO hX HNX.out, ldO hX HNS.out⟩) (fun hHeld => ?_)
          refine tq 0 18 ?_
          refine tq 2 20 ?_
          refine tq 6 24 ?_
          refine tq 7 25 ?_
          refine tq 1 19 ?_
          refine tq 8 26 ?_
          refine tq 3 21 ?_
          refine tq 9 27 ?_
          refine tq 4 22 ?_
          refine tq 5 23 ?_
          refine tq 10 28 ?_
          refine wpAnyH_done (by kernel_rfl) ?_ _
          clear hHeld
          go_wp2_with (first | go_big_skip | go_big_guard | fail)
          go_ret
          exact ⟨by rw [HE.out, list_no HX.out HS.out (by simpa using HQ.out)]; rfl, hX.nil⟩
        · have HQ := hid hq
          have hX := hst.drew
          clear hst
          refine wp_region_held_drew (S := (fun w' => (loadVarH 22 ⟨g2, 1, none⟩).run Try.prog w' = .ok (.slice (some ⟨lb, lo, none⟩) nr cr) w' ∧ (loadVarH 9 ⟨lb, lo + j * 44 + 1, none⟩).run Try.prog w' = .ok (.string ⟨x.2.name.toArray⟩) w' ∧ (loadVarH 9 ⟨sb, so + j, none⟩).run Try.prog w' = .ok (.string ⟨s.toArray⟩) w')) (by kernel_rfl) (by exact ⟨ldS [] hX rfl, ldO hX HNX.out, ldO hX HNS.out⟩) (fun hHeld => ?_)
          refine tq 0 18 ?_
          refine tq 2 20 ?_
          refine tq 6 24 ?_
          refine tq 7 25 ?_
          refine tq 1 19 ?_
          refine tq 8 26 ?_
          refine tq 3 21 ?_
          refine tq 9 27 ?_
          refine tq 4 22 ?_
          refine tq 5 23 ?_
          refine tq 10 28 ?_
          refine wpAnyH_done (by kernel_rfl) ?_ _
          clear hHeld
          go_wp2_with (first | go_big_skip | go_big_guard | fail)
          go_roundw
          case rel => exact ⟨j + 1, by omega, rfl, hX, hid (fun i a b hi ha hb => by
            by_cases e : i = j
            · subst e
              rw [HX.out] at ha; rw [HS.out] at hb
              cases ha; cases hb
              simpa using HQ.out
            · exact HP.out i a b (by omega) ha hb)⟩
          case measure => simp [intOf]; omega
      · have e1 : decide ((j : Int) < (nr : Int)) = false := decide_eq_false (by omega)
        go_wp2_with (first | go_big_skip | go_big_guard | fail)
        go_ret
        exact ⟨by rw [HE.out, list_all (by rw [HNL.out, HK.out]) (fun i a b ha hb => HP.out i a b (by have := (List.getElem?_eq_some_iff.1 ha).1; have := HNL.out; omega) ha hb)]; rfl, hst.nil⟩
  · have d1 : ((nr : Int) != (k : Int)) = true := by rw [bne_iff_ne]; omega
    have HNN := hid hnk
    clear hnk
    go_enter Try.func14, Try.ntmps14
    go_wp2_with (first | go_big_skip | go_big_guard | (refine wl_boxA hst0 rfl rfl rfl ?_; intro g2 w1 hst; clear hst0) | (refine wl_loadE rfl rfl rfl ?_; refine ⟨_, Loads.at [] hst rfl, ?_⟩))
    go_ret
    exact ⟨by rw [HE.out, list_len (by rw [HNL.out, HK.out]; exact HNN.out)]; rfl, hst.nil⟩
end Go.Proofs.Ytifajcblbedcoaa
namespace Go.Proofs.Ytifajcblbedcoaa
set_option linter.unusedVariables false
set_option linter.unusedSimpArgs false
open Go.RowKit Hp
attribute [local irreducible] Go.Calls Go.wpList PV.same
set_option maxRecDepth 100000
set_option maxHeartbeats 8000000
attribute [local go_sem ↓] heldInt heldInts heldRecs heldRec heldStr heldTab heldPtr heldFn
def hasB (l : List RC) (p : PV) : Bool := l.any fun r => (r.pv undef).same p
theorem rangeR_root {w : World} {b off : Nat} {x : Value × RC} (h : w.rangeAt b off (cellsR x)) : w.rangeAt b (off + 4) (x.2.pv x.1).cells := fun d v hv => by
  have := h (d + 4) v (by
    show (_ :: _ :: _ :: _ :: ((x.2.pv x.1).cells ++ x.2.tail))[d + 4]? = some v
    simp only [List.getElem?_cons_succ]
    rw [List.getElem?_append_left (List.getElem?_eq_some_iff.1 hv).1]
    exact hv)
  rwa [show off + (d + 4) = off + 4 + d by omega] at this
theorem pv_same_sv (r : RC) (sv sv' : Value) (p : PV) : (r.pv sv).same p = (r.pv sv').same p := by
  unfold PV.same RC.pv
  rfl
theorem has_yes {xs : List (Value × RC)} {l : List RC} (he : xs.map (·.2) = l) {j : Nat} {x : Value × RC} {p : PV} (hx : xs[j]? = some x) (h : (x.2.pv x.1).same p = true) : hasB l p = true := by
  subst he
  unfold hasB
  rw [List.any_eq_true]
  exact ⟨x.2, List.mem_map_of_mem (List.mem_of_getElem? hx), by rw [pv_same_sv x.2 undef x.1]; exact h⟩
theorem has_no {xs : List (Value × RC)} {l : List RC} (he : xs.map (·.2) = l) {p : PV} (h : ∀ (j : Nat) (x : Value × RC), j < xs.length → xs[j]? = some x → (x.2.pv x.1).same p = false) : hasB l p = false := by
  subst he
  unfold hasB
  rw [List.any_eq_false]
  intro r hr
  obtain ⟨x, hx, rfl⟩ := List.mem_map.1 hr
  obtain ⟨j, hj⟩ := List.getElem?_of_mem hx
  rw [pv_same_sv x.2 undef x.1, h j x (List.getElem?_eq_some_iff.1 hj).1 hj]
  decide
end Go.Proofs.Ytifajcblbedcoaa
namespace Go.Proofs.Ytifajcblbedcoaa
set_option linter.unusedVariables false
set_option linter.unusedSimpArgs false
open Go.RowKit Hp
def kinP (l : List RC) (x : RC) : Prop := if x.kind = 2 then ∃ v ∈ l, v.name = (splitL x.name).1 ∧ v.id = x.own else (x.origin = 0 ∨ ∃ y ∈ l, y.id = x.origin ∧ y.kind = 2)
structure OkP (t : TC) : Prop where
  next : 1 ≤ t.next ∧ t.next ≤ 2147483648
  many : t.recs.length ≤ 16
  devs : 2 ≤ t.lives.length ∧ t.lives.length ≤ 8
  cur : t.curB = true
  lives : t.livesB = true
  alone : ∀ x ∈ t.recs, x.aloneB = true
  lt : t.recs.Pairwise NameLt
  ids : t.recs.Pairwise fun x y => x.id ≠ y.id
  low : ∀ x ∈ t.recs, x.id < t.next
  kin : ∀ x ∈ t.recs, kinP t.recs x
theorem inB_iff {n lo hi : Int} : inB n lo hi = true ↔ lo ≤ n ∧ n ≤ hi := by unfold inB; simp
theorem find_name {l : List RC} (h : l.Pairwise NameLt) {nm : List UInt8} {v : RC} (hv : v ∈ l) (hn : v.name = nm) : ∃ k : Nat, findN nm l = (k : Int) ∧ l[k]? = some v := by
  rcases find_split (nm := nm) (l := l) with ⟨h1, _⟩ | ⟨j, y, hy, _, hf, _, hyn⟩
  · unfold recAt at h1
    rw [List.find?_eq_none] at h1
    have := h1 v hv
    simp [hn] at this
  · refine ⟨j, hf, ?_⟩
    obtain ⟨i, hi⟩ := List.getElem?_of_mem hv
    have hs := sorted_iff.2 h
    by_cases hij : i = j
    · subst hij; exact hi
    · exfalso
      rcases Nat.lt_or_gt_of_ne hij with hlt | hlt
      · exact NameLt.ne (hs i j v y hlt hi hy) (hn.trans hyn.symm)
      · exact NameLt.ne (hs j i y v hlt hy hi) (hyn.trans hn.symm)
theorem volB_iff {l : List RC} (h : l.Pairwise NameLt) {r : RC} : volB l r = true ↔ ∃ v ∈ l, v.name = (splitL r.name).1 ∧ v.id = r.own := by
  unfold volB
  rw [Bool.and_eq_true, decide_eq_true_eq]
  constructor
  · rintro ⟨h1, h2⟩
    rcases find_split (nm := (splitL r.name).1) (l := l) with ⟨_, hf⟩ | ⟨j, y, hy, _, hf, _, hyn⟩
    · exfalso
      unfold findP at hf
      rw [if_neg (by omega)] at hf
      exact absurd (congrArg Prod.snd hf) (by simp)
    · unfold idAt at h2
      rw [hf, Int.toNat_natCast, hy] at h2
      exact ⟨y, List.mem_of_getElem? hy, hyn, by simpa using h2⟩
  · rintro ⟨v, hv, hn, hi⟩
    obtain ⟨k, hf, hk⟩ := find_name h hv hn
    refine ⟨by omega, ?_⟩
    unfold idAt
    rw [hf, Int.toNat_natCast, hk]
    simpa using hi
theorem kinB_iff {l : List RC} (h : l.Pairwise NameLt) {r : RC} : kinB l r = true ↔ kinP l r := by
  unfold kinB kinP
  by_cases hk : r.kind = 2
  · rw [if_pos (by simpa using hk), if_pos hk, volB_iff h]
  · rw [if_neg (by simpa using hk), if_neg hk]
    simp
theorem ids_iff {l : List RC} : (∀ (i : Nat) (x : RC), l[i]? = some x → ((l.take i).any fun y => y.id == x.id) = false) ↔ l.Pairwise fun x y => x.id ≠ y.id := by
  rw [List.pairwise_iff_getElem]
  constructor
  · intro h i j hi hj hij e
    have := h j l[j] (List.getElem?_eq_getElem hj)
    rw [List.any_eq_false] at this
    have h2 := this l[i] (by rw [List.mem_take_iff_getElem]; exact ⟨i, by omega, rfl⟩)
    simp at h2
    exact h2 e
  · intro h i x hx
    obtain ⟨hi, rfl⟩ := List.getElem?_eq_some_iff.1 hx
    rw [List.any_eq_false]
    intro y hy
    obtain ⟨k, hk, rfl⟩ := List.mem_take_iff_getElem.1 hy
    simpa using h k i (by omega) hi (by omega)
theorem less_step {l : List RC} : (∀ (i : Nat) (x : RC), l[i]? = some x → lessAt l i x = true) ↔ l.Pairwise NameLt := by
  constructor
  · intro h
    rw [← sorted_iff]
    have step : ∀ (i : Nat) (x y : RC), l[i]? = some x → l[i + 1]? = some y → lessL x.name y.name = true := fun i x y hx hy => by
      have h2 := h (i + 1) y hy
      have e : lessAt l (i + 1) y = lessL x.name y.name := by
        show (match l[i]? with
          | some u => lessL u.name y.name
          | none => true) = _
        rw [hx]
      rwa [e] at h2
    intro i j x y hij hx hy
    obtain ⟨d, rfl⟩ : ∃ d, j = i + 1 + d := ⟨j - (i + 1), by omega⟩
    induction d generalizing y with
    | zero => exact step i x y hx hy
    | succ d ih =>
      have hlt := (List.getElem?_eq_some_iff.1 hy).1
      have hz : l[i + 1 + d]? = some l[i + 1 + d] := List.getElem?_eq_getElem (by omega)
      exact less_trans (ih _ (by omega) hz) (step (i + 1 + d) _ y hz hy)
  · intro h i x hx
    have hs := sorted_iff.2 h
    cases i with
    | zero => rfl
    | succ i =>
      show (match l[i]? with
        | some u => lessL u.name x.name
        | none => true) = true
      cases hy : l[i]? with
      | none => rfl
      | some y => exact hs i (i + 1) y x (by omega) hy hx
theorem okP_iff {t : TC} : t.ok = true ↔ OkP t := by
  constructor
  · intro h
    have hlt := ok_lt h
    have hbd := ok_bd h
    have h0 := h
    unfold TC.ok at h0
    simp only [Bool.and_eq_true] at h0
    obtain ⟨⟨⟨⟨h1, h2⟩, h3⟩, h4⟩, h5⟩ := h0
    unfold TC.sizeB at h1
    simp only [Bool.and_eq_true, decide_eq_true_eq] at h1
    have hrel : ∀ (i : Nat) (x : RC), t.recs[i]? = some x → relB t.next t.recs i x = true := fun i x hx => allAt_at h5 hx
    refine ⟨inB_iff.1 h1.1.1, hbd.many, ?_, h2, h3, fun x hx => ok_alone h hx, hlt, ids_iff.1 fun i x hx => ?_, fun x hx => ?_, fun x hx => ?_⟩
    · have := inB_iff.1 h1.2
      omega
    · have := hrel i x hx
      unfold relB at this
      have h6 := (Bool.and_eq_true_iff.1 (Bool.and_eq_true_iff.1 this).1).1
      simpa using h6
    · obtain ⟨i, hi⟩ := List.getElem?_of_mem hx
      have := hrel i x hi
      unfold relB at this
      simpa using (Bool.and_eq_true_iff.1 (Bool.and_eq_true_iff.1 this).1).2
    · obtain ⟨i, hi⟩ := List.getElem?_of_mem hx
      have := hrel i x hi
      unfold relB at this
      exact (kinB_iff hlt).1 (Bool.and_eq_true_iff.1 this).2
  · intro h
    refine ok_all ?_ h.cur h.lives (allAt_all fun i x hx => ?_) (allAt_all fun i x hx => ?_)
    · unfold TC.sizeB
      rw [inB_iff.2 h.next, inB_iff.2 (by have := h.devs; omega), decide_eq_true (by have := h.many; omega)]
      rfl
    · unfold eachB
      rw [h.alone x (List.mem_of_getElem? hx), less_step.2 h.lt i x hx]
      rfl
    · unfold relB
      rw [ids_iff.2 h.ids i x hx, decide_eq_true (h.low x (List.mem_of_getElem? hx)), (kinB_iff h.lt).2 (h.kin x (List.mem_of_getElem? hx))]
      rfl
end Go.Proofs.Ytifajcblbedcoaa
namespace Go.Proofs.Ytifajcblbedcoaa
set_option linter.unusedVariables false
set_option linter.unusedSimpArgs false
open Go.RowKit Hp
theorem kinP.mono {l l' : List RC} {x : RC} (h : kinP l x) (hs : ∀ y ∈ l, ∃ y' ∈ l', y'.name = y.name ∧ y'.id = y.id ∧ y'.kind = y.kind) : kinP l' x := by
  unfold kinP at h ⊢
  split
  · rename_i hk
    rw [if_pos hk] at h
    obtain ⟨v, hv, h1, h2⟩ := h
    obtain ⟨v', hv', q1, q2, _⟩ := hs v hv
    exact ⟨v', hv', q1.trans h1, q2.trans h2⟩
  · rename_i hk
    rw [if_neg hk] at h
    rcases h with h | ⟨y, hy, h1, h2⟩
    · exact .inl h
    · obtain ⟨y', hy', _, q2, q3⟩ := hs y hy
      exact .inr ⟨y', hy', q2.trans h1, q3.trans h2⟩
theorem perm_pair {α : Type} {R : α → α → Prop} (hs : ∀ x y, R x y → R y x) {l k : List α} (h : l.Perm k) (hl : l.Pairwise R) : k.Pairwise R := (h.pairwise_iff fun {x y} => hs x y).1 hl
theorem put_ok {t : TC} {x : RC} (h : OkP t) (hm : t.recs.length < 16) (hn : t.next < 2147483648) (hx : isAt x.name t.recs = false) (ha : ({ x with id := t.next } : RC).aloneB = true) (hk : kinP t.recs { x with id := t.next }) : OkP (putT t x) := by
  have hp : (layL { x with id := t.next } t.recs).Perm ({ x with id := t.next } :: t.recs) := layL_perm _ _
  have hsub : ∀ y ∈ t.recs, ∃ y' ∈ layL { x with id := t.next } t.recs, y'.name = y.name ∧ y'.id = y.id ∧ y'.kind = y.kind := fun y hy => ⟨y, hp.symm.subset (.tail _ hy), rfl, rfl, rfl⟩
  refine ⟨⟨by have := h.next.1; show 1 ≤ t.next + 1; omega, by show t.next + 1 ≤ 2147483648; omega⟩, ?_, h.devs, h.cur, h.lives, fun y hy => ?_, ?_, ?_, fun y hy => ?_, fun y hy => ?_⟩
  · show (layL _ t.recs).length ≤ 16
    rw [layL_length]
    omega
  · rcases List.mem_cons.1 (hp.subset hy) with rfl | hy
    · exact ha
    · exact h.alone y hy
  · exact layL_sorted h.lt fun y hy => isAt_no hx y hy
  · refine perm_pair (fun x y hxy => Ne.symm hxy) hp.symm (List.pairwise_cons.2 ⟨fun y hy => ?_, h.ids⟩)
    have := h.low y hy
    show t.next ≠ y.id
    omega
  · show y.id < t.next + 1
    rcases List.mem_cons.1 (hp.subset hy) with rfl | hy
    · show t.next < t.next + 1
      omega
    · have := h.low y hy
      omega
  · rcases List.mem_cons.1 (hp.subset hy) with rfl | hy
    · exact hk.mono hsub
    · exact (h.kin y hy).mono hsub
theorem set_same {α : Type} {l : List α} {k : Nat} {a : α} (h : l[k]? = some a) : l.set k a = l := by
  obtain ⟨hk, rfl⟩ := List.getElem?_eq_some_iff.1 h
  exact List.set_getElem_self hk
theorem set_pair {α β : Type} {f : α → β} {S : β → β → Prop} {l : List α} {k : Nat} {v y : α} (hk : l[k]? = some v) (hf : f y = f v) (h : l.Pairwise fun a b => S (f a) (f b)) : (l.set k y).Pairwise fun a b => S (f a) (f b) := by
  rw [← List.pairwise_map (f := f)] at h ⊢
  rw [List.map_set, set_same (by rw [List.getElem?_map, hk, hf]; rfl)]
  exact h
theorem set_ok {t : TC} {k : Nat} {v y : RC} (h : OkP t) (hv : t.recs[k]? = some v) (hi : y.id = v.id) (hn : y.name = v.name) (hkd : y.kind = v.kind) (ho : y.own = v.own) (hg : y.origin = v.origin) (ha : y.aloneB = true) : OkP { t with recs := t.recs.set k y } := by
  have hvm := List.mem_of_getElem? hv
  have hlt : k < t.recs.length := (List.getElem?_eq_some_iff.1 hv).1
  have hmem : ∀ x ∈ t.recs.set k y, x ∈ t.recs ∨ x = y := fun x hx => List.mem_or_eq_of_mem_set hx
  have hym : y ∈ t.recs.set k y := List.mem_of_getElem? (List.getElem?_set_self hlt)
  have hsub : ∀ u ∈ t.recs, ∃ u' ∈ t.recs.set k y, u'.name = u.name ∧ u'.id = u.id ∧ u'.kind = u.kind := fun u hu => by
    obtain ⟨i, hu⟩ := List.getElem?_of_mem hu
    by_cases e : i = k
    · subst e
      rw [hv] at hu
      cases hu
      exact ⟨y, hym, hn, hi, hkd⟩
    · exact ⟨u, List.mem_of_getElem? (by rw [List.getElem?_set_ne (Ne.symm e)]; exact hu), rfl, rfl, rfl⟩
  refine ⟨h.next, by show (t.recs.set k y).length ≤ 16; rw [List.length_set]; exact h.many, h.devs, h.cur, h.lives, fun x hx => ?_, set_pair (f := fun r : RC => r.name) (S := fun a b => lessL a b = true) hv hn h.lt, set_pair (f := fun r : RC => r.id) (S := fun a b => a ≠ b) hv hi h.ids, fun x hx => ?_, fun x hx => ?_⟩
  · rcases hmem x hx with hx | rfl
    · exact h.alone x hx
    · exact ha
  · rcases hmem x hx with hx | rfl
    · exact h.low x hx
    · rw [hi]; exact h.low v hvm
  · rcases hmem x hx with hx | rfl
    · exact (h.kin x hx).mono hsub
    · have := (h.kin v hvm).mono hsub
      unfold kinP at this ⊢
      rw [hkd, hn, ho, hg]
      exact this
theorem mem_erase {l : List RC} {k : Nat} {r u : RC} (hr : l[k]? = some r) (hu : u ∈ l) (hne : u ≠ r) : u ∈ l.eraseIdx k := by
  obtain ⟨i, hi⟩ := List.getElem?_of_mem hu
  have hik : i ≠ k := by
    rintro rfl
    rw [hr] at hi
    exact hne (Option.some.inj hi).symm
  rw [List.mem_eraseIdx_iff_getElem?]
  exact ⟨i, hik, hi⟩
theorem drop_ok {t : TC} {k : Nat} {r : RC} (h : OkP t) (hr : t.recs[k]? = some r) (hb : ∀ x ∈ t.recs, x.own ≠ r.id ∧ x.origin ≠ r.id) : OkP { t with recs := t.recs.eraseIdx k } := by
  have hs := List.eraseIdx_sublist t.recs k
  refine ⟨h.next, Nat.le_trans hs.length_le h.many, h.devs, h.cur, h.lives, fun x hx => h.alone x (hs.subset hx), h.lt.sublist hs, h.ids.sublist hs, fun x hx => h.low x (hs.subset hx), fun x hx => ?_⟩
  have hx' := hs.subset hx
  have hk := h.kin x hx'
  unfold kinP at hk ⊢
  split
  · rename_i h2
    rw [if_pos h2] at hk
    obtain ⟨v, hv, h3, h4⟩ := hk
    exact ⟨v, mem_erase hr hv (fun e => (hb x hx').1 (by rw [← h4, e])), h3, h4⟩
  · rename_i h2
    rw [if_neg h2] at hk
    rcases hk with hk | ⟨y, hy, h3, h4⟩
    · exact .inl hk
    · exact .inr ⟨y, mem_erase hr hy (fun e => (hb x hx').2 (by rw [← h3, e])), h3, h4⟩
theorem alone_name {r : RC} {z : List UInt8} (h : r.aloneB = true) (h1 : r.kind = 1 → partB z = true) (h2 : r.kind = 2 → snapB z = true) : ({ r with name := z } : RC).aloneB = true := by
  have hk := alone_kind h
  unfold RC.aloneB at h ⊢
  rw [Bool.and_eq_true] at h ⊢
  refine ⟨h.1, ?_⟩
  have h4 := h.2
  unfold RC.kindB at h4 ⊢
  rcases hk with ⟨k1, _⟩ | ⟨k2, _⟩
  · rw [if_pos (by simpa using k1)] at h4 ⊢
    simp only [Bool.and_eq_true] at h4 ⊢
    exact ⟨⟨⟨⟨h1 k1, h4.1.1.1.2⟩, h4.1.1.2⟩, h4.1.2⟩, h4.2⟩
  · rw [if_neg (by simp [k2]), if_pos (by simpa using k2)] at h4 ⊢
    simp only [Bool.and_eq_true] at h4 ⊢
    exact ⟨⟨⟨⟨⟨h2 k2, h4.1.1.1.1.2⟩, h4.1.1.1.2⟩, h4.1.1.2⟩, h4.1.2⟩, h4.2⟩
theorem ren_same (nm tn : List UInt8) (x : RC) : (renR nm tn x).id = x.id ∧ (renR nm tn x).kind = x.kind ∧ (renR nm tn x).own = x.own ∧ (renR nm tn x).origin = x.origin ∧ (renR nm tn x).made = x.made ∧ (renR nm tn x).l = x.l ∧ (renR nm tn x).b = x.b ∧ (renR nm tn x).v = x.v ∧ (renR nm tn x).S = x.S := by
  unfold renR
  split
  · exact ⟨rfl, rfl, rfl, rfl, rfl, rfl, rfl, rfl, rfl⟩
  · split <;> exact ⟨rfl, rfl, rfl, rfl, rfl, rfl, rfl, rfl, rfl⟩
theorem part_not_snap {s : List UInt8} (h : partB s = true) : snapB s = false := by unfold snapB; rw [part_split h]
theorem alike_part {nm tn : List UInt8} (h : alikeB nm tn = true) (hp : partB nm = true) : partB tn = true := by
  unfold alikeB at h
  rcases Bool.or_eq_true_iff.1 h with h | h
  · exact (Bool.and_eq_true_iff.1 h).2
  · rw [part_split hp] at h
    simp at h
theorem alike_snap {nm tn : List UInt8} (h : alikeB nm tn = true) (hp : snapB nm = true) : snapB tn = true ∧ (splitL tn).1 = (splitL nm).1 := by
  unfold alikeB at h
  rcases Bool.or_eq_true_iff.1 h with h | h
  · have := part_not_snap (Bool.and_eq_true_iff.1 h).1
    rw [hp] at this
    cases this
  · simp only [Bool.and_eq_true, beq_iff_eq] at h
    exact ⟨h.1.2, h.2.symm⟩
theorem rename_ok {t : TC} {nm tn : List UInt8} (h : OkP t) (ha : alikeB nm tn = true) (ht : isAt tn t.recs = false) : OkP { t with recs := sortL (t.recs.map (renR nm tn)) } := by
  have hok := okP_iff.2 h
  have hp := sortL_perm (t.recs.map (renR nm tn))
  have hmem : ∀ y ∈ sortL (t.recs.map (renR nm tn)), ∃ x ∈ t.recs, y = renR nm tn x := fun y hy => by
    obtain ⟨x, hx, e⟩ := List.mem_map.1 (hp.subset hy)
    exact ⟨x, hx, e.symm⟩
  have hto : ∀ x ∈ t.recs, renR nm tn x ∈ sortL (t.recs.map (renR nm tn)) := fun x hx => hp.symm.subset (List.mem_map_of_mem hx)
  have hpart : ∀ v ∈ t.recs, partB v.name = true → v.name ≠ nm → renR nm tn v = v := fun v hv h1 h2 => by
    rcases ren_ways hok ha hv with ⟨e, _⟩ | ⟨_, p, _, _, _, e, _⟩ | ⟨_, r, _⟩
    · exact absurd e h2
    · exact absurd e (at_no h1)
    · exact r
  refine ⟨h.next, ?_, h.devs, h.cur, h.lives, fun y hy => ?_, sortL_sorted (ren_distinct hok ha ht), ?_, fun y hy => ?_, fun y hy => ?_⟩
  · show (sortL _).length ≤ 16
    rw [hp.length_eq, List.length_map]
    exact h.many
  · obtain ⟨x, hx, rfl⟩ := hmem y hy
    have hax := h.alone x hx
    rcases ren_ways hok ha hx with ⟨e, r⟩ | ⟨_, p, a1, a2, a3, e, r⟩ | ⟨_, r, _⟩
    · rw [r]
      rcases alone_kind hax with ⟨k1, n1⟩ | ⟨k2, n2⟩
      · rw [e] at n1
        exact alone_name hax (fun _ => alike_part ha n1) (fun k => by omega)
      · rw [e] at n2
        exact alone_name hax (fun k => by omega) (fun _ => (alike_snap ha n2).1)
    · rw [r]
      rcases alone_kind hax with ⟨k1, n1⟩ | ⟨k2, n2⟩
      · exact absurd e (at_no n1)
      · exact alone_name hax (fun k => by omega) (fun _ => by unfold snapB; rw [split_joined a2 a3])
    · rw [r]; exact hax
  · refine perm_pair (fun x y hxy => Ne.symm hxy) hp.symm ?_
    rw [List.pairwise_map]
    refine h.ids.imp fun {x y} hxy => ?_
    rw [(ren_same nm tn x).1, (ren_same nm tn y).1]
    exact hxy
  · obtain ⟨x, hx, rfl⟩ := hmem y hy
    show (renR nm tn x).id < t.next
    rw [(ren_same nm tn x).1]
    exact h.low x hx
  · obtain ⟨x, hx, rfl⟩ := hmem y hy
    have hk := h.kin x hx
    obtain ⟨s1, s2, s3, s4, _⟩ := ren_same nm tn x
    unfold kinP at hk ⊢
    rw [s2, s3, s4]
    split
    · rename_i k2
      rw [if_pos k2] at hk
      obtain ⟨v, hv, hvn, hvi⟩ := hk
      have hsn : snapB x.name = true := by
        rcases alone_kind (h.alone x hx) with ⟨k1, _⟩ | ⟨_, n2⟩
        · omega
        · exact n2
      obtain ⟨a, b, hs, he, hpa, hpb⟩ := snap_form hsn
      have hvp : partB v.name = true := by rw [hvn, hs]; exact hpa
      rcases ren_ways hok ha hx with ⟨e, r⟩ | ⟨e0, p, a1, a2, a3, e, r⟩ | ⟨_, r, hno⟩
      · rw [e] at hsn
        have hal := alike_snap ha hsn
        refine ⟨v, ?_, ?_, hvi⟩
        · have := hto v hv
          rwa [hpart v hv hvp (fun e2 => by rw [e2] at hvp; rw [part_not_snap hvp] at hsn; cases hsn)] at this
        · rw [r, hvn, e]
          exact hal.2.symm
      · have hvn2 : v.name = nm := by rw [hvn, e, split_joined a1 a3]
        refine ⟨renR nm tn v, hto v hv, ?_, by rw [(ren_same nm tn v).1]; exact hvi⟩
        rw [r]
        show (renR nm tn v).name = (splitL (tn ++ 64 :: p)).1
        rw [split_joined a2 a3]
        rcases ren_ways hok ha hv with ⟨_, rv⟩ | ⟨e3, _⟩ | ⟨e3, _⟩
        · rw [rv]
        · exact absurd hvn2 e3
        · exact absurd hvn2 e3
      · refine ⟨v, ?_, by rw [r]; exact hvn, hvi⟩
        have := hto v hv
        rwa [hpart v hv hvp (fun e2 => hno ⟨hsn, by rw [← hvn]; exact e2⟩)] at this
    · rename_i k2
      rw [if_neg k2] at hk
      rcases hk with hk | ⟨y, hy, h1, h2⟩
      · exact .inl hk
      · exact .inr ⟨renR nm tn y, hto y hy, by rw [(ren_same nm tn y).1]; exact h1, by rw [(ren_same nm tn y).2.1]; exact h2⟩
end Go.Proofs.Ytifajcblbedcoaa
namespace Go.Proofs.Ytifajcblbedcoaa
set_option linter.unusedVariables false
set_option linter.unusedSimpArgs false
open Go.RowKit Hp
def Rt (x y : RC) : Prop := x.l = y.l ∧ x.b = y.b ∧ x.v = y.v ∧ x.S = y.S
theorem Rt.refl (x : RC) : Rt x x := ⟨rfl, rfl, rfl, rfl⟩
structure Keeps (t u : TC) (txg : Int) : Prop where
  ok : OkP u
  grow : (u.recs.length = t.recs.length ∧ u.next = t.next) ∨ (u.recs.length = t.recs.length + 1 ∧ u.next = t.next + 1) ∨ (u.recs.length + 1 = t.recs.length ∧ u.next = t.next)
  made : u.recs.length = t.recs.length + 1 → ∀ x ∈ u.recs, x.id = t.next → x.made = txg
def Froms (t u : TC) : Prop := ∀ x ∈ u.recs, ∃ y ∈ t.recs, Rt y x
def Tos (t u : TC) : Prop := ∀ y ∈ t.recs, ∃ x ∈ u.recs, Rt x y
theorem op_zero {t : TC} {r : TR} (hk : t.ok = true) (h : (opR t r).1 = 0) : r.1 = 0 ∧ opR t r = r := by
  unfold opR at h ⊢
  rw [if_pos hk] at h ⊢
  by_cases e : (r.1 == 0) = true
  · rw [if_pos e] at h ⊢
    exact ⟨h, rfl⟩
  · rw [if_neg e] at h
    have h' : r.1 = 0 := h
    rw [h'] at e
    exact absurd rfl e
theorem room_zero {t : TC} {nm : List UInt8} (h : (roomE t nm == 0) = true) : isAt nm t.recs = false ∧ t.recs.length < 16 ∧ t.next < 2147483648 := by
  unfold roomE at h
  cases hi : isAt nm t.recs with
  | true => rw [hi] at h; simp at h
  | false =>
    rw [hi] at h
    cases hf : fullB t with
    | true => rw [hf] at h; simp at h
    | false =>
      unfold fullB at hf
      simp only [Bool.or_eq_false_iff, decide_eq_false_iff_not] at hf
      exact ⟨rfl, by omega, by omega⟩
theorem rec_mem {nm : List UInt8} {l : List RC} {x : RC} (h : recAt nm l = some x) : x ∈ l ∧ x.name = nm := ⟨List.mem_of_find?_eq_some h, by simpa using List.find?_some h⟩
/-- One is put in. -/
theorem put_keeps {t : TC} {x : RC} (h : OkP t) (hr : (roomE t x.name == 0) = true) (ha : ({ x with id := t.next } : RC).aloneB = true) (hk : kinP t.recs { x with id := t.next }) : Keeps t (putT t x) x.made ∧ Tos t (putT t x) ∧ ((∃ y ∈ t.recs, Rt y x) → Froms t (putT t x)) := by
  obtain ⟨h1, h2, h3⟩ := room_zero hr
  have hp : (layL { x with id := t.next } t.recs).Perm ({ x with id := t.next } :: t.recs) := layL_perm _ _
  refine ⟨⟨put_ok h h2 h3 h1 ha hk, .inr (.inl ⟨layL_length _ _, rfl⟩), fun _ y hy he => ?_⟩, fun y hy => ⟨y, hp.symm.subset (.tail _ hy), Rt.refl y⟩, fun hf y hy => ?_⟩
  · rcases List.mem_cons.1 (hp.subset hy) with rfl | hy
    · rfl
    · have := h.low y hy
      omega
  · rcases List.mem_cons.1 (hp.subset hy) with rfl | hy
    · obtain ⟨z, hz, q⟩ := hf
      exact ⟨z, hz, q⟩
    · exact ⟨y, hy, Rt.refl y⟩
/-- One is turned. -/
theorem set_keeps {t : TC} {k : Nat} {v y : RC} (h : OkP t) (hv : t.recs[k]? = some v) (hi : y.id = v.id) (hn : y.name = v.name) (hkd : y.kind = v.kind) (ho : y.own = v.own) (hg : y.origin = v.origin) (ha : y.aloneB = true) (txg : Int) :
    Keeps t { t with recs := t.recs.set k y } txg ∧ ((∃ z ∈ t.recs, Rt z y) → Froms t { t with recs := t.recs.set k y }) ∧ (Rt y v → Tos t { t with recs := t.recs.set k y }) := by
  refine ⟨⟨set_ok h hv hi hn hkd ho hg ha, .inl ⟨List.length_set, rfl⟩, fun hh => ?_⟩, fun hf x hx => ?_, fun hf x hx => ?_⟩
  · have hh' : (t.recs.set k y).length = t.recs.length + 1 := hh
    rw [List.length_set] at hh'
    omega
  · rcases List.mem_or_eq_of_mem_set hx with hx | rfl
    · exact ⟨x, hx, Rt.refl x⟩
    · exact hf
  · obtain ⟨j, hj⟩ := List.getElem?_of_mem hx
    by_cases e : j = k
    · subst e
      rw [hv] at hj
      cases hj
      exact ⟨y, List.mem_of_getElem? (i := j) (by rw [List.getElem?_set_self (List.getElem?_eq_some_iff.1 hv).1]), hf⟩
    · exact ⟨x, List.mem_of_getElem? (i := j) (by rw [List.getElem?_set_ne (Ne.symm e)]; exact hj), Rt.refl x⟩
theorem drop_keeps {t : TC} {k : Nat} {r : RC} (h : OkP t) (hr : t.recs[k]? = some r) (hb : ∀ x ∈ t.recs, x.own ≠ r.id ∧ x.origin ≠ r.id) (txg : Int) : Keeps t { t with recs := t.recs.eraseIdx k } txg ∧ Froms t { t with recs := t.recs.eraseIdx k } := by
  have hk := (List.getElem?_eq_some_iff.1 hr).1
  have hl : (t.recs.eraseIdx k).length + 1 = t.recs.length := by rw [List.length_eraseIdx_of_lt hk]; omega
  refine ⟨⟨drop_ok h hr hb, .inr (.inr ⟨hl, rfl⟩), fun hh => ?_⟩, fun x hx => ⟨x, List.mem_of_mem_eraseIdx hx, Rt.refl x⟩⟩
  have hh' : (t.recs.eraseIdx k).length = t.recs.length + 1 := hh
  omega
theorem rename_keeps {t : TC} {nm tn : List UInt8} (h : OkP t) (ha : alikeB nm tn = true) (ht : isAt tn t.recs = false) (txg : Int) : Keeps t { t with recs := sortL (t.recs.map (renR nm tn)) } txg ∧ Froms t { t with recs := sortL (t.recs.map (renR nm tn)) } ∧ Tos t { t with recs := sortL (t.recs.map (renR nm tn)) } := by
  have hp := sortL_perm (t.recs.map (renR nm tn))
  have hl : (sortL (t.recs.map (renR nm tn))).length = t.recs.length := by rw [hp.length_eq, List.length_map]
  have hrt : ∀ x, Rt (renR nm tn x) x := fun x => by
    have q := ren_same nm tn x
    exact ⟨q.2.2.2.2.2.1, q.2.2.2.2.2.2.1, q.2.2.2.2.2.2.2.1, q.2.2.2.2.2.2.2.2⟩
  refine ⟨⟨rename_ok h ha ht, .inl ⟨hl, rfl⟩, fun hh => ?_⟩, fun y hy => ?_, fun x hx => ⟨_, hp.symm.subset (List.mem_map_of_mem hx), hrt x⟩⟩
  · have hh' : (sortL (t.recs.map (renR nm tn))).length = t.recs.length + 1 := hh
    omega
  · obtain ⟨x, hx, rfl⟩ := List.mem_map.1 (hp.subset hy)
    have q := hrt x
    exact ⟨x, hx, q.1.symm, q.2.1.symm, q.2.2.1.symm, q.2.2.2.symm⟩

/-! ### Each call -/
theorem hole_root : rootB (PV.mk undef [] 0 0 nones) = true := by decide +kernel
theorem root_alone {r s : RC} (h : s.aloneB = true) (hr : Rt r s) : rootB (r.pv undef) = true := by
  unfold RC.aloneB at h
  have h3 : rootB (s.pv undef) = true := (Bool.and_eq_true_iff.1 (Bool.and_eq_true_iff.1 h).1).2
  unfold RC.pv at h3 ⊢
  rw [hr.1, hr.2.1, hr.2.2.1, hr.2.2.2]
  exact h3
theorem alone_mk {r : RC} (h1 : inB r.id 1 2147483647 = true) (h2 : inB r.size 1 64 = true) (h3 : inB r.made 1 2147483648 = true) (h4 : rootB (r.pv undef) = true) (h5 : r.kindB = true) : r.aloneB = true := by
  unfold RC.aloneB
  rw [h1, h2, h3, h4, h5]
  rfl
theorem alone_in {r : RC} (h : r.aloneB = true) : inB r.id 1 2147483647 = true ∧ inB r.size 1 64 = true ∧ inB r.made 1 2147483648 = true ∧ r.kindB = true := by
  unfold RC.aloneB at h
  simp only [Bool.and_eq_true] at h
  exact ⟨h.1.1.1.1, h.1.1.1.2, h.1.1.2, h.2⟩
theorem next_in {t : TC} (h : OkP t) (hn : t.next < 2147483648) : inB t.next 1 2147483647 = true := inB_iff.2 ⟨h.next.1, by omega⟩
theorem kindB_vol {r : RC} (k : r.kind = 1) (h1 : partB r.name = true) (h2 : r.own = 0) (h3 : inB r.origin 0 2147483647 = true) (h4 : inB r.quota 0 64 = true) (h5 : inB r.reserve 0 64 = true) : r.kindB = true := by
  unfold RC.kindB
  rw [k, h1, h2, h3, h4, h5]
  rfl
theorem kindB_snap {r : RC} (k : r.kind = 2) (h1 : snapB r.name = true) (h2 : inB r.own 1 2147483647 = true) (h3 : r.origin = 0) (h4 : r.quota = 0) (h5 : r.reserve = 0) (h6 : r.b ≤ r.made) : r.kindB = true := by
  unfold RC.kindB
  rw [k, h1, h2, h3, h4, h5, decide_eq_true h6]
  rfl
theorem room_no {t : TC} {nm : List UInt8} (hr : ¬ (roomE t nm == 0) = true) (hz : (badR (roomE t nm)).1 = 0) : False := by
  have hz' : roomE t nm = 0 := hz
  rw [hz'] at hr
  exact hr rfl
theorem snap_part {s : List UInt8} (h : snapB s = true) : partB (splitL s).1 = true := by
  obtain ⟨a, b, e, _, ha, _⟩ := snap_form h
  rw [e]
  exact ha
theorem bad_no {e : Int} (h : (badR e).1 = 0) (he : e ≠ 0) : False := he h
theorem in_zero2 : inB 0 0 2147483647 = true := by decide
theorem in_zero : inB 0 0 64 = true := by decide
theorem make_keeps {t : TC} {nm : List UInt8} {size txg : Int} (h : OkP t) (hz : (makeR t nm size txg).1 = 0) : Keeps t (makeR t nm size txg).2 txg ∧ Tos t (makeR t nm size txg).2 := by
  unfold makeR at hz ⊢
  by_cases hc : ((partB nm && inB size 1 64) && txgB txg) = true
  · rw [if_pos hc] at hz ⊢
    by_cases hr : (roomE t nm == 0) = true
    · rw [if_pos hr]
      simp only [Bool.and_eq_true] at hc
      have hn := (room_zero hr).2.2
      have q := put_keeps (x := volR nm size txg) h hr (alone_mk (next_in h hn) hc.1.2 hc.2 hole_root (kindB_vol rfl hc.1.1 rfl in_zero2 in_zero in_zero)) (by unfold kinP; rw [if_neg (by show ¬ (1 : Int) = 2; decide)]; exact .inl rfl)
      exact ⟨q.1, q.2.1⟩
    · rw [if_neg hr] at hz
      exact absurd hz (room_no hr)
  · rw [if_neg hc] at hz
    exact (bad_no (e := 2) hz (by decide)).elim
theorem snap_keeps {t : TC} {nm : List UInt8} {txg : Int} (h : OkP t) (hz : (snapT t nm txg).1 = 0) : Keeps t (snapT t nm txg).2 txg ∧ Froms t (snapT t nm txg).2 ∧ Tos t (snapT t nm txg).2 := by
  unfold snapT at hz ⊢
  by_cases hc : (snapB nm && txgB txg) = true
  · rw [if_pos hc] at hz ⊢
    cases hv : recAt (splitL nm).1 t.recs with
    | none => rw [hv] at hz; exact (bad_no (e := 6) hz (by decide)).elim
    | some v =>
      rw [hv] at hz
      simp only at hz ⊢
      by_cases hr : (roomE t nm == 0) = true
      · rw [if_pos hr] at hz ⊢
        by_cases hb : decide (txg < v.b) = true
        · rw [if_pos hb] at hz
          exact (bad_no (e := 2) hz (by decide)).elim
        · rw [if_neg hb]
          simp only [Bool.and_eq_true] at hc
          have hn := (room_zero hr).2.2
          obtain ⟨hm, he⟩ := rec_mem hv
          have hav := h.alone v hm
          have hpv : v.kind = 1 ∧ partB v.name = true := by
            rcases alone_kind hav with k | ⟨k2, n2⟩
            · exact k
            · rw [he] at n2
              exact absurd (part_not_snap (snap_part hc.1)) (by rw [n2]; decide)
          have q := put_keeps (x := snapR v nm txg) h hr (alone_mk (next_in h hn) (alone_in hav).2.1 hc.2 (root_alone hav ⟨rfl, rfl, rfl, rfl⟩) (kindB_snap rfl hc.1 (alone_in hav).1 rfl rfl rfl (by show v.b ≤ txg; simp at hb; omega))) (by unfold kinP; rw [if_pos (by rfl)]; exact ⟨v, hm, he, rfl⟩)
          exact ⟨q.1, q.2.2 ⟨v, hm, ⟨rfl, rfl, rfl, rfl⟩⟩, q.2.1⟩
      · rw [if_neg hr] at hz
        exact absurd hz (room_no hr)
  · rw [if_neg hc] at hz
    exact (bad_no (e := 2) hz (by decide)).elim
theorem clone_keeps {t : TC} {sp nm : List UInt8} {txg : Int} (h : OkP t) (hz : (cloneT t sp nm txg).1 = 0) : Keeps t (cloneT t sp nm txg).2 txg ∧ Froms t (cloneT t sp nm txg).2 ∧ Tos t (cloneT t sp nm txg).2 := by
  unfold cloneT at hz ⊢
  by_cases hc : ((snapB sp && partB nm) && txgB txg) = true
  · rw [if_pos hc] at hz ⊢
    cases hv : recAt sp t.recs with
    | none => rw [hv] at hz; exact (bad_no (e := 6) hz (by decide)).elim
    | some s =>
      rw [hv] at hz
      simp only at hz ⊢
      by_cases hr : (roomE t nm == 0) = true
      · rw [if_pos hr]
        simp only [Bool.and_eq_true] at hc
        have hn := (room_zero hr).2.2
        obtain ⟨hm, he⟩ := rec_mem hv
        have has := h.alone s hm
        have hk2 : s.kind = 2 := by
          rcases alone_kind has with ⟨k1, n1⟩ | ⟨k2, _⟩
          · rw [he] at n1
            exact absurd hc.1.1 (by rw [part_not_snap n1]; decide)
          · exact k2
        have hid := inB_iff.1 (alone_in has).1
        have q := put_keeps (x := cloneR s nm txg) h hr (alone_mk (next_in h hn) (alone_in has).2.1 hc.2 (root_alone has ⟨rfl, rfl, rfl, rfl⟩) (kindB_vol rfl hc.1.2 rfl (inB_iff.2 ⟨by show 0 ≤ s.id; omega, hid.2⟩) in_zero in_zero)) (by unfold kinP; rw [if_neg (by show ¬ (1 : Int) = 2; decide)]; exact .inr ⟨s, hm, rfl, hk2⟩)
        exact ⟨q.1, q.2.2 ⟨s, hm, ⟨rfl, rfl, rfl, rfl⟩⟩, q.2.1⟩
      · rw [if_neg hr] at hz
        exact absurd hz (room_no hr)
  · rw [if_neg hc] at hz
    exact (bad_no (e := 2) hz (by decide)).elim
theorem set_findN {t : TC} {nm : List UInt8} {r y : RC} (hr : recAt nm t.recs = some r) : ∃ k : Nat, t.recs[k]? = some r ∧ r.name = nm ∧ findN nm t.recs = (k : Int) ∧ setN nm t.recs y = t.recs.set k y := by
  rcases find_split (nm := nm) (l := t.recs) with ⟨h1, _⟩ | ⟨j, z, h1, h2, h3, _, h5⟩
  · rw [h1] at hr
    cases hr
  · rw [h2] at hr
    cases hr
    exact ⟨j, h1, h5, h3, by unfold setN; rw [h3]; rfl⟩
theorem roll_keeps {t : TC} {sp : List UInt8} (txg : Int) (h : OkP t) (hz : (rollT t sp).1 = 0) : Keeps t (rollT t sp).2 txg ∧ Froms t (rollT t sp).2 := by
  unfold rollT at hz ⊢
  by_cases hc : snapB sp = true
  · rw [if_pos hc] at hz ⊢
    cases hv : recAt sp t.recs with
    | none => rw [hv] at hz; exact (bad_no (e := 6) hz (by decide)).elim
    | some s =>
      rw [hv] at hz
      simp only at hz ⊢
      split at hz
      next => exact (bad_no (e := 17) hz (by decide)).elim
      next hb =>
        rw [if_neg hb]
        obtain ⟨k, v, h1, h2, h3, h4, h5, h6⟩ := snap_vol (okP_iff.2 h) hc hv
        rw [h2]
        simp only
        obtain ⟨hm, he⟩ := rec_mem hv
        have has := h.alone s hm
        have hav := h.alone v (List.mem_of_getElem? h1)
        obtain ⟨k', q1, q2, q3, q4⟩ := set_findN (y := backR v s) h2
        rw [h3] at q3
        have ek : k' = k := by omega
        subst ek
        rw [q4]
        have hvk : v.kind = 1 ∧ partB v.name = true := by
          rcases alone_kind hav with q | ⟨_, n2⟩
          · exact q
          · rw [q2] at n2
            exact absurd (part_not_snap (snap_part hc)) (by rw [n2]; decide)
        have q := set_keeps (y := backR v s) h h1 rfl rfl rfl rfl rfl (alone_mk (alone_in hav).1 (alone_in has).2.1 (alone_in hav).2.2.1 (root_alone has ⟨rfl, rfl, rfl, rfl⟩) (by have e := (alone_in hav).2.2.2; unfold RC.kindB at e ⊢; rw [if_pos (by simp [hvk.1])] at e; rw [if_pos (by show (v.kind == 1) = true; simp [hvk.1])]; exact e)) txg
        exact ⟨q.1, q.2.1 ⟨s, hm, ⟨rfl, rfl, rfl, rfl⟩⟩⟩
  · rw [if_neg hc] at hz
    exact (bad_no (e := 2) hz (by decide)).elim
theorem dropT_keeps {t : TC} {nm : List UInt8} (txg : Int) (h : OkP t) (hz : (dropT t nm).1 = 0) : Keeps t (dropT t nm).2 txg ∧ Froms t (dropT t nm).2 := by
  unfold dropT at hz ⊢
  by_cases hc : namedB nm = true
  · rw [if_pos hc] at hz ⊢
    cases hv : recAt nm t.recs with
    | none => rw [hv] at hz; exact (bad_no (e := 6) hz (by decide)).elim
    | some r =>
      rw [hv] at hz
      simp only at hz ⊢
      split at hz
      next => exact (bad_no (e := 17) hz (by decide)).elim
      next hb =>
        rw [if_neg hb]
        obtain ⟨k, q1, q2, q3, _⟩ := set_findN (y := r) hv
        rw [q3]
        exact drop_keeps h q1 (fun x hx => ⟨fun e => hb (List.any_eq_true.2 ⟨x, hx, by simp [e]⟩), fun e => hb (List.any_eq_true.2 ⟨x, hx, by simp [e]⟩)⟩) txg
  · rw [if_neg hc] at hz
    exact (bad_no (e := 2) hz (by decide)).elim
theorem renT_keeps {t : TC} {nm tn : List UInt8} (txg : Int) (h : OkP t) (hz : (renameT t nm tn).1 = 0) : Keeps t (renameT t nm tn).2 txg ∧ Froms t (renameT t nm tn).2 ∧ Tos t (renameT t nm tn).2 := by
  unfold renameT at hz ⊢
  by_cases hc : alikeB nm tn = true
  · rw [if_pos hc] at hz ⊢
    by_cases h1 : isAt nm t.recs = true
    · rw [if_pos h1] at hz ⊢
      by_cases h2 : isAt tn t.recs = true
      · rw [if_pos h2] at hz
        exact (bad_no (e := 7) hz (by decide)).elim
      · rw [if_neg h2]
        exact rename_keeps h hc (by simpa using h2) txg
    · rw [if_neg h1] at hz
      exact (bad_no (e := 6) hz (by decide)).elim
  · rw [if_neg hc] at hz
    exact (bad_no (e := 2) hz (by decide)).elim
/-- A volume is turned. -/
theorem change_keeps {t : TC} {nm : List UInt8} {fine : Bool} {f : RC → RC} (txg : Int) (h : OkP t) (hf : ∀ v : RC, (f v).id = v.id ∧ (f v).name = v.name ∧ (f v).kind = v.kind ∧ (f v).own = v.own ∧ (f v).origin = v.origin) (ha : fine = true → ∀ v : RC, v.aloneB = true → v.kind = 1 → (f v).aloneB = true) (hz : (changeT t nm fine f).1 = 0) :
    Keeps t (changeT t nm fine f).2 txg ∧ ((∀ v, Rt (f v) v) → Froms t (changeT t nm fine f).2 ∧ Tos t (changeT t nm fine f).2) := by
  unfold changeT at hz ⊢
  by_cases hc : (fine && namedB nm) = true
  · rw [if_pos hc] at hz ⊢
    cases hv : recAt nm t.recs with
    | none => rw [hv] at hz; exact (bad_no (e := 6) hz (by decide)).elim
    | some r =>
      rw [hv] at hz
      simp only at hz ⊢
      by_cases h2 : (r.kind == 2) = true
      · rw [if_pos h2] at hz
        exact (bad_no (e := 18) hz (by decide)).elim
      · rw [if_neg h2]
        simp only [Bool.and_eq_true] at hc
        obtain ⟨k, q1, q2, q3, q4⟩ := set_findN (y := f r) hv
        rw [q4]
        have hm := List.mem_of_getElem? q1
        have har := h.alone r hm
        have hk : r.kind = 1 := by
          rcases alone_kind har with q | q
          · exact q.1
          · rw [q.1] at h2; exact absurd rfl h2
        obtain ⟨f1, f2, f3, f4, f5⟩ := hf r
        have q := set_keeps (y := f r) h q1 f1 f2 f3 f4 f5 (ha hc.1 r har hk) txg
        exact ⟨q.1, fun hr => ⟨q.2.1 ⟨r, hm, by have e := hr r; exact ⟨e.1.symm, e.2.1.symm, e.2.2.1.symm, e.2.2.2.symm⟩⟩, q.2.2 (hr r)⟩⟩
  · rw [if_neg hc] at hz
    exact (bad_no (e := 2) hz (by decide)).elim
theorem kindB_turn {r : RC} {sz q s : Int} {l : List (Int × Int)} {b v : Int} {S : List UInt8} (h : r.kindB = true) (k : r.kind = 1) (hq : inB q 0 64 = true) (hs : inB s 0 64 = true) : RC.kindB { r with size := sz, quota := q, reserve := s, l := l, b := b, v := v, S := S } = true := by
  unfold RC.kindB at h ⊢
  rw [if_pos (by simp [k])] at h
  rw [if_pos (by show (r.kind == 1) = true; simp [k])]
  simp only [Bool.and_eq_true] at h ⊢
  exact ⟨⟨h.1.1, hq⟩, hs⟩
theorem quota_in {r : RC} (h : r.kindB = true) (k : r.kind = 1) : inB r.quota 0 64 = true ∧ inB r.reserve 0 64 = true := by
  unfold RC.kindB at h
  rw [if_pos (by simp [k])] at h
  simp only [Bool.and_eq_true] at h
  exact ⟨h.1.2, h.2⟩
theorem resize_keeps {t : TC} {nm : List UInt8} {size : Int} (txg : Int) (h : OkP t) (hz : (resizeT t nm size).1 = 0) : Keeps t (resizeT t nm size).2 txg ∧ Froms t (resizeT t nm size).2 ∧ Tos t (resizeT t nm size).2 := by
  have q := change_keeps (fine := inB size 1 64) (f := fun v => { v with size := size }) txg h (fun v => ⟨rfl, rfl, rfl, rfl, rfl⟩) (fun hc v hv hk => alone_mk (alone_in hv).1 hc (alone_in hv).2.2.1 (root_alone hv ⟨rfl, rfl, rfl, rfl⟩) (kindB_turn (alone_in hv).2.2.2 hk (quota_in (alone_in hv).2.2.2 hk).1 (quota_in (alone_in hv).2.2.2 hk).2)) hz
  exact ⟨q.1, q.2 fun v => Rt.refl v⟩
theorem limit_keeps {t : TC} {nm : List UInt8} {a b : Int} (txg : Int) (h : OkP t) (hz : (limitT t nm a b).1 = 0) : Keeps t (limitT t nm a b).2 txg ∧ Froms t (limitT t nm a b).2 ∧ Tos t (limitT t nm a b).2 := by
  have q := change_keeps (fine := limB a && limB b) (f := fun v => { v with quota := a, reserve := b }) txg h (fun v => ⟨rfl, rfl, rfl, rfl, rfl⟩) (fun hc v hv hk => by
    simp only [Bool.and_eq_true] at hc
    exact alone_mk (alone_in hv).1 (alone_in hv).2.1 (alone_in hv).2.2.1 (root_alone hv ⟨rfl, rfl, rfl, rfl⟩) (kindB_turn (alone_in hv).2.2.2 hk hc.1 hc.2)) hz
  exact ⟨q.1, q.2 fun v => Rt.refl v⟩
theorem root_any_sv {p : PV} {sv : Value} (h : rootB p = true) : rootB { p with sv := sv } = true := h
theorem rootT_keeps {t : TC} {nm : List UInt8} {p : PV} (txg : Int) (h : OkP t) (hz : (rootT t nm p).1 = 0) : Keeps t (rootT t nm p).2 txg := by
  have q := change_keeps (fine := rootB p) (f := fun v => { v with l := p.l, b := p.b, v := p.v, S := p.S }) txg h (fun v => ⟨rfl, rfl, rfl, rfl, rfl⟩) (fun hc v hv hk => alone_mk (alone_in hv).1 (alone_in hv).2.1 (alone_in hv).2.2.1 hc (kindB_turn (alone_in hv).2.2.2 hk (quota_in (alone_in hv).2.2.2 hk).1 (quota_in (alone_in hv).2.2.2 hk).2)) hz
  exact q.1
end Go.Proofs.Ytifajcblbedcoaa
namespace Go.Proofs.Ytifajcblbedcoaa
set_option linter.unusedVariables false
set_option linter.unusedSimpArgs false
open Go.RowKit Hp
attribute [local irreducible] Go.Calls Go.wpList
set_option maxRecDepth 100000
set_option maxHeartbeats 8000000
attribute [local go_sem ↓] heldInt heldInts heldRecs heldRec heldStr heldTab heldPtr heldFn
/-- A call on a table, as plain data. -/
structure AD where
  (kind n txg : Int)
  nm : List UInt8
  tn : List UInt8
  p : PV
def AD.cells (x : AD) : List Value := .int .i64 x.kind :: .string ⟨x.nm.toArray⟩ :: .string ⟨x.tn.toArray⟩ :: .int .i64 x.n :: .int .i64 x.txg :: x.p.cells
/-- No more than is gone through. -/
structure AD.Few (x : AD) (w : World) : Prop where
  nm : x.nm.length ≤ 1000000
  tn : x.tn.length ≤ 1000000
  p : x.p.In w
  l : x.p.l.length ≤ 100000
def doR (t : TC) (x : AD) : TR :=
  if x.kind = 0 then opR t (makeR t x.nm x.n x.txg) else if x.kind = 1 then opR t (snapT t x.nm x.txg) else if x.kind = 2 then opR t (cloneT t x.nm x.tn x.txg) else if x.kind = 3 then opR t (rollT t x.nm)
  else if x.kind = 4 then opR t (dropT t x.nm) else if x.kind = 5 then opR t (renameT t x.nm x.tn) else if x.kind = 6 then opR t (resizeT t x.nm x.n) else if x.kind = 7 then opR t (limitT t x.nm x.n x.txg) else if x.kind = 8 then opR t (rootT t x.nm x.p) else (0, t)
def AD.idle (x : AD) : Bool := decide (x.kind < 0) || decide (8 < x.kind)
end Go.Proofs.Ytifajcblbedcoaa
namespace Go.Proofs.Ytifajcblbedcoaa
set_option linter.unusedVariables false
set_option linter.unusedSimpArgs false
open Go.RowKit Hp
attribute [local irreducible] Go.Calls Go.wpList
set_option maxRecDepth 100000
set_option maxHeartbeats 8000000
def in64D (z : Int) : Prop := -9223372036854775808 ≤ z ∧ z ≤ 9223372036854775807
/-- What is known of an act that was handed in. -/
structure AD.Ok (y : AD) (w : World) : Prop where
  kind : in64D y.kind
  n : in64D y.n
  txg : in64D y.txg
  p : y.p.In w
theorem AD.len {y : AD} (h : L32 y.p.S) : y.cells.length = 40 := by
  show (y.p.cells).length + 5 = 40
  rw [PV.len h]
theorem ads_at : ∀ {xs : List AD} {k : Nat} {x : AD}, (∀ y ∈ xs, L32 y.p.S) → xs[k]? = some x → ∀ j v, x.cells[j]? = some v → (xs.flatMap AD.cells)[k * 40 + j]? = some v
  | y :: xs, 0, x, _, h, j, v, hj => by
    cases h
    rw [List.flatMap_cons, Nat.zero_mul, Nat.zero_add, List.getElem?_append_left (List.getElem?_eq_some_iff.1 hj).1]
    exact hj
  | y :: xs, k + 1, x, hl, h, j, v, hj => by
    have hl' : y.cells.length = 40 := AD.len (hl y (.head _))
    rw [List.flatMap_cons, List.getElem?_append_right (by rw [hl']; omega), hl', show (k + 1) * 40 + j - 40 = k * 40 + j by omega]
    exact ads_at (fun z hz => hl z (.tail _ hz)) (by simpa using h) j v hj
  | [], _, _, _, h, _, _, _ => by cases h
theorem ads_range {w : World} {b off n c k : Nat} {xs : List AD} {x : AD} (h : Rd w (.slice (some ⟨b, off, none⟩) n c) 40 n (xs.flatMap AD.cells)) (hl : ∀ y ∈ xs, L32 y.p.S) (hk : xs[k]? = some x) : w.rangeAt b (off + k * 40) x.cells := by
  intro j v hj
  have := h.range (k * 40 + j) v (ads_at hl hk j v hj)
  rwa [← Nat.add_assoc] at this
/-- Acts of names of at most 100 bytes and 20 addresses each, at most 60. -/
def shortD (xs : List AD) (N : Nat) : Prop := N ≤ 60 ∧ ∀ x ∈ xs, x.nm.length ≤ 100 ∧ x.tn.length ≤ 100 ∧ x.p.l.length ≤ 20
def longD (xs : List AD) (N : Nat) (e : Ending) : Prop := ∃ b, e = .returned (.bool b) ∧ (b = false ↔ shortD xs N)
end Go.Proofs.Ytifajcblbedcoaa
namespace Go.Proofs.Ytifajcblbedcoaa
set_option linter.unusedVariables false
set_option linter.unusedSimpArgs false
open Go.RowKit Hp
attribute [local irreducible] Go.Calls Go.wpList
set_option maxHeartbeats 1000000
theorem keeps_refl {t : TC} (h : OkP t) (txg : Int) : Keeps t t txg := ⟨h, .inl ⟨rfl, rfl⟩, fun e => by omega⟩
/-- What an act that is done keeps. -/
structure KeepsA (t u : TC) (x : AD) : Prop where
  k : Keeps t u x.txg
  froms : x.kind ≠ 8 → x.kind ≠ 0 → Froms t u
  tos : x.kind ≠ 8 → x.kind ≠ 3 → x.kind ≠ 4 → Tos t u
theorem do_keeps {t : TC} {x : AD} (h : OkP t) (hz : (doR t x).1 = 0) : KeepsA t (doR t x).2 x := by
  have hk := okP_iff.2 h
  obtain ⟨k, z, txg, nm, tn, p⟩ := x
  unfold doR at hz ⊢
  simp only at hz ⊢
  split at hz
  next e =>
    subst e
    rw [if_pos rfl]
    obtain ⟨h1, h2⟩ := op_zero hk hz
    rw [h2]
    have q := make_keeps h h1
    exact ⟨q.1, fun _ e => absurd rfl e, fun _ _ _ => q.2⟩
  next e0 =>
  rw [if_neg e0]
  split at hz
  next e =>
    rw [if_pos e]
    obtain ⟨h1, h2⟩ := op_zero hk hz
    rw [h2]
    have q := snap_keeps h h1
    exact ⟨q.1, fun _ _ => q.2.1, fun _ _ _ => q.2.2⟩
  next e1 =>
  rw [if_neg e1]
  split at hz
  next e =>
    rw [if_pos e]
    obtain ⟨h1, h2⟩ := op_zero hk hz
    rw [h2]
    have q := clone_keeps h h1
    exact ⟨q.1, fun _ _ => q.2.1, fun _ _ _ => q.2.2⟩
  next e2 =>
  rw [if_neg e2]
  split at hz
  next e =>
    rw [if_pos e]
    obtain ⟨h1, h2⟩ := op_zero hk hz
    rw [h2]
    have q := roll_keeps txg h h1
    exact ⟨q.1, fun _ _ => q.2, fun _ e' => absurd e e'⟩
  next e3 =>
  rw [if_neg e3]
  split at hz
  next e =>
    rw [if_pos e]
    obtain ⟨h1, h2⟩ := op_zero hk hz
    rw [h2]
    have q := dropT_keeps txg h h1
    exact ⟨q.1, fun _ _ => q.2, fun _ _ e' => absurd e e'⟩
  next e4 =>
  rw [if_neg e4]
  split at hz
  next e =>
    rw [if_pos e]
    obtain ⟨h1, h2⟩ := op_zero hk hz
    rw [h2]
    have q := renT_keeps txg h h1
    exact ⟨q.1, fun _ _ => q.2.1, fun _ _ _ => q.2.2⟩
  next e5 =>
  rw [if_neg e5]
  split at hz
  next e =>
    rw [if_pos e]
    obtain ⟨h1, h2⟩ := op_zero hk hz
    rw [h2]
    have q := resize_keeps txg h h1
    exact ⟨q.1, fun _ _ => q.2.1, fun _ _ _ => q.2.2⟩
  next e6 =>
  rw [if_neg e6]
  split at hz
  next e =>
    rw [if_pos e]
    obtain ⟨h1, h2⟩ := op_zero hk hz
    rw [h2]
    have q := limit_keeps txg h h1
    exact ⟨q.1, fun _ _ => q.2.1, fun _ _ _ => q.2.2⟩
  next e7 =>
  rw [if_neg e7]
  split at hz
  next e =>
    rw [if_pos e]
    obtain ⟨h1, h2⟩ := op_zero hk hz
    rw [h2]
    exact ⟨rootT_keeps txg h h1, fun e' => absurd e e', fun e' => absurd e e'⟩
  next e8 =>
  rw [if_neg e8]
  exact ⟨keeps_refl h txg, fun _ _ y hy => ⟨y, hy, Rt.refl y⟩, fun _ _ _ y hy => ⟨y, hy, Rt.refl y⟩⟩
theorem op_bad {t : TC} {r : TR} (h : (opR t r).1 ≠ 0) : (opR t r).2 = noTab := by
  unfold opR at h ⊢
  cases hk : t.ok with
  | false => rfl
  | true =>
    rw [hk] at h
    by_cases e : (r.1 == 0) = true
    · rw [if_pos rfl, if_pos e] at h
      exact absurd (by simpa using e) h
    · rw [if_pos rfl, if_neg e]
      rfl
theorem do_bad {t : TC} {x : AD} (h : (doR t x).1 ≠ 0) : (doR t x).2 = noTab := by
  unfold doR at h ⊢
  split at h
  next e => rw [if_pos e]; exact op_bad h
  next e0 =>
  rw [if_neg e0]
  split at h
  next e => rw [if_pos e]; exact op_bad h
  next e1 =>
  rw [if_neg e1]
  split at h
  next e => rw [if_pos e]; exact op_bad h
  next e2 =>
  rw [if_neg e2]
  split at h
  next e => rw [if_pos e]; exact op_bad h
  next e3 =>
  rw [if_neg e3]
  split at h
  next e => rw [if_pos e]; exact op_bad h
  next e4 =>
  rw [if_neg e4]
  split at h
  next e => rw [if_pos e]; exact op_bad h
  next e5 =>
  rw [if_neg e5]
  split at h
  next e => rw [if_pos e]; exact op_bad h
  next e6 =>
  rw [if_neg e6]
  split at h
  next e => rw [if_pos e]; exact op_bad h
  next e7 =>
  rw [if_neg e7]
  split at h
  next e => rw [if_pos e]; exact op_bad h
  next e8 => exact absurd rfl h
theorem idle_do {t : TC} {x : AD} (h : x.idle = true) : doR t x = (0, t) := by
  unfold AD.idle at h
  simp only [Bool.or_eq_true, decide_eq_true_eq] at h
  unfold doR
  rw [if_neg (by omega), if_neg (by omega), if_neg (by omega), if_neg (by omega), if_neg (by omega), if_neg (by omega), if_neg (by omega), if_neg (by omega), if_neg (by omega)]
end Go.Proofs.Ytifajcblbedcoaa
namespace Go.Proofs.Ytifajcblbedcoaa
set_option linter.unusedVariables false
set_option linter.unusedSimpArgs false
open Go.RowKit Hp
theorem rt_same {x y : RC} (h : Rt y x) (sv sv' : Value) : (y.pv sv).same (x.pv sv') = true := by
  unfold PV.same RC.pv
  simp only
  rw [h.1, h.2.1, h.2.2.1, h.2.2.2]
  exact sameB_refl _ _ _ _
theorem froms_has {t u : TC} (h : Froms t u) {x : RC} (hx : x ∈ u.recs) (sv : Value) : hasB t.recs (x.pv sv) = true := by
  obtain ⟨y, hy, q⟩ := h x hx
  unfold hasB
  rw [List.any_eq_true]
  exact ⟨y, hy, rt_same q _ _⟩
theorem tos_has {t u : TC} (h : Tos t u) {x : RC} (hx : x ∈ t.recs) (sv : Value) : hasB u.recs (x.pv sv) = true := by
  obtain ⟨y, hy, q⟩ := h x hx
  unfold hasB
  rw [List.any_eq_true]
  exact ⟨y, hy, rt_same q _ _⟩
/-- How many more. -/
def moreOf (t u : TC) : Int := (u.recs.length : Int) - (t.recs.length : Int)
theorem more_facts {t u : TC} {x : AD} (h : KeepsA t u x) : ¬ (u.next < t.next) ∧ u.next - t.next = max (moreOf t u) 0 ∧ ¬ (1 < moreOf t u) ∧ ¬ (moreOf t u < -1) := by
  unfold moreOf
  rcases h.k.grow with ⟨h1, h2⟩ | ⟨h1, h2⟩ | ⟨h1, h2⟩ <;> omega
theorem made_facts {t u : TC} {x : AD} (h : KeepsA t u x) (hm : moreOf t u = 1) {r : RC} (hr : r ∈ u.recs) (hi : r.id = t.next) : r.made = x.txg := by
  unfold moreOf at hm
  exact h.k.made (by omega) r hr hi
theorem new_ok {k : Nat} (hk : k < 7) : newR (2 + (k : Int)) = (0, ⟨1, [], 0, 0, 0, 0, List.replicate (2 + k) 0⟩) ∧ OkP ⟨1, [], 0, 0, 0, 0, List.replicate (2 + k) 0⟩ := by
  have h : ∀ k : Fin 7, TC.ok ⟨1, [], 0, 0, 0, 0, List.replicate (2 + k.val) 0⟩ = true := by decide +kernel
  refine ⟨?_, okP_iff.1 (h ⟨k, hk⟩)⟩
  unfold newR
  rw [if_pos (by unfold inB; simp; omega)]
  have e : (2 + (k : Int)).toNat = 2 + k := by omega
  rw [e]
end Go.Proofs.Ytifajcblbedcoaa
namespace Go.Proofs.Ytifajcblbedcoaa
set_option linter.unusedVariables false
set_option linter.unusedSimpArgs false
open Go.RowKit Hp
def sVol : List UInt8 := [118, 111, 108]
def sVolS : List UInt8 := [118, 111, 108, 64, 115]
def sCopy : List UInt8 := [99, 111, 112, 121]
def sAa : List UInt8 := [97]
def sAaS : List UInt8 := [97, 64, 115]
def hole0 : PV := ⟨undef, [], 0, 0, nones⟩
def bV (nm : List UInt8) (sz : Int) (r : PV) : RC := { id := 1, kind := 1, size := sz, made := 2147483648, own := 0, origin := 0, quota := 0, reserve := 0, name := nm, l := r.l, b := r.b, v := r.v, S := r.S }
def bS (nm : List UInt8) (sz : Int) (r : PV) : RC := { id := 2, kind := 2, size := sz, made := 2147483648, own := 1, origin := 0, quota := 0, reserve := 0, name := nm, l := r.l, b := r.b, v := r.v, S := r.S }
def bC (sz : Int) (r : PV) : RC := { id := 3, kind := 1, size := sz, made := 1, own := 0, origin := 2, quota := 0, reserve := 0, name := sCopy, l := r.l, b := r.b, v := r.v, S := r.S }
def bT (n : Int) (l : List RC) : TC := ⟨n, l, 0, 0, 0, 0, [0, 0, 0]⟩
def kB0 : TC := bT 1 []
def kB1 (sz : Int) : TC := bT 2 [bV sVol sz hole0]
def kB2 (sz : Int) (p : PV) : TC := bT 2 [bV sVol sz p]
def kB3 (sz : Int) (p : PV) : TC := bT 3 [bV sVol sz p, bS sVolS sz p]
def kB4 (sz : Int) (p q : PV) : TC := bT 3 [bV sVol sz q, bS sVolS sz p]
def kB5 (sz lt : Int) (p q : PV) : TC := bT 3 [bV sVol lt q, bS sVolS sz p]
def kB7 (sz lt : Int) (p q : PV) : TC := bT 4 [bC sz p, bV sVol lt q, bS sVolS sz p]
def kB8 (sz lt : Int) (p q : PV) : TC := bT 4 [bV sAa lt q, bS sAaS sz p, bC sz p]
theorem birth_max {p : PV} (h : rootB p = true) : ¬ (2147483648 < p.b) := by
  unfold rootB PV.hole PV.ok at h
  have key : holeB p.l.length p.b p.v p.S = true → p.b = 0 := fun h => by
    unfold holeB nothingB at h
    simp only [Bool.and_eq_true, decide_eq_true_eq] at h
    omega
  rcases Bool.or_eq_true_iff.1 h with h | h
  · have := key h; omega
  · have h1 := (Bool.and_eq_true_iff.1 h).1
    unfold checkB at h1
    rcases Bool.or_eq_true_iff.1 h1 with h2 | h2
    · have := key h2; omega
    · have := (Bool.and_eq_true_iff.1 h2).2
      simp only [decide_eq_true_eq] at this
      omega
theorem op_is {t u : TC} {r : TR} (h : OkP t) (e : r = (0, u)) : opR t r = (0, u) := by
  unfold opR
  rw [okP_iff.2 h, e]
  rfl
theorem op_not {t : TC} {r : TR} {z : Int} (h : OkP t) (hz : (z == 0) = false) (e : r = badR z) : opR t r = badR z := by
  unfold opR
  rw [okP_iff.2 h, e]
  rw [if_pos rfl, if_neg (by show ¬ (z == 0) = true; rw [hz]; decide)]
  rfl
theorem kB0_ok : OkP kB0 := (new_ok (k := 1) (by decide)).2
theorem kB0_new : newR 3 = (0, kB0) := (new_ok (k := 1) (by decide)).1
theorem mk_B1 {sz : Int} (h : inB sz 1 64 = true) : makeR kB0 sVol sz 2147483648 = (0, kB1 sz) := by
  unfold makeR
  rw [show partB sVol = true by decide +kernel, h, show txgB 2147483648 = true by decide +kernel, show (roomE kB0 sVol == 0) = true by decide +kernel]
  kernel_rfl
theorem mk_B2 {sz : Int} {p : PV} (h : rootB p = true) : rootT (kB1 sz) sVol p = (0, kB2 sz p) := by
  unfold rootT changeT
  rw [h, show namedB sVol = true by decide +kernel]
  kernel_rfl
theorem no_B2 {sz : Int} {p : PV} {t : TC} (h : rootB p = false) : rootT t sVol p = badR 2 := by
  unfold rootT changeT
  rw [h]
  rfl
theorem mk_B3 {sz : Int} {p : PV} (h : rootB p = true) : snapT (kB2 sz p) sVolS 2147483648 = (0, kB3 sz p) := by
  unfold snapT
  rw [show snapB sVolS = true by decide +kernel, show txgB 2147483648 = true by decide +kernel, show recAt (splitL sVolS).1 (kB2 sz p).recs = some (bV sVol sz p) by kernel_rfl, show roomE (kB2 sz p) sVolS = 0 by kernel_rfl]
  show (if decide (2147483648 < p.b) then badR 2 else _) = _
  rw [decide_eq_false (birth_max h)]
  kernel_rfl
theorem mk_B4 {sz : Int} {p q : PV} (h : rootB q = true) : rootT (kB3 sz p) sVol q = (0, kB4 sz p q) := by
  unfold rootT changeT
  rw [h, show namedB sVol = true by decide +kernel]
  kernel_rfl
theorem mk_B5 {sz lt : Int} {p q : PV} (h : inB lt 1 64 = true) : resizeT (kB4 sz p q) sVol lt = (0, kB5 sz lt p q) := by
  unfold resizeT changeT
  rw [h, show namedB sVol = true by decide +kernel]
  kernel_rfl
theorem mk_B6 {sz lt : Int} {p q : PV} : rollT (kB5 sz lt p q) sVolS = (0, kB3 sz p) := by kernel_rfl
theorem mk_B7 {sz lt : Int} {p q : PV} : cloneT (kB5 sz lt p q) sVolS sCopy 1 = (0, kB7 sz lt p q) := by kernel_rfl
theorem mk_B8 {sz lt : Int} {p q : PV} : renameT (kB7 sz lt p q) sVol sAa = (0, kB8 sz lt p q) := by kernel_rfl
theorem mk_B9 {sz lt : Int} {p q : PV} : renameT (kB8 sz lt p q) sAa sVol = (0, kB7 sz lt p q) := by kernel_rfl
theorem names_B7 {sz lt : Int} {p q : PV} : (namesOf (kB7 sz lt p q) == [sCopy, sVol, sVolS]) = true := by kernel_rfl
theorem names_B8 {sz lt : Int} {p q : PV} : (namesOf (kB8 sz lt p q) == [sAa, sAaS, sCopy]) = true := by kernel_rfl
theorem ok_B1 {sz : Int} (h : inB sz 1 64 = true) : OkP (kB1 sz) := by
  have := (make_keeps kB0_ok (by rw [mk_B1 h])).1.ok
  rwa [mk_B1 h] at this
theorem ok_B2 {sz : Int} {p : PV} (h : inB sz 1 64 = true) (hp : rootB p = true) : OkP (kB2 sz p) := by
  have := (rootT_keeps (nm := sVol) (p := p) 0 (ok_B1 h) (by rw [mk_B2 hp])).ok
  rwa [mk_B2 hp] at this
theorem ok_B3 {sz : Int} {p : PV} (h : inB sz 1 64 = true) (hp : rootB p = true) : OkP (kB3 sz p) := by
  have := (snap_keeps (ok_B2 h hp) (by rw [mk_B3 hp])).1.ok
  rwa [mk_B3 hp] at this
theorem ok_B4 {sz : Int} {p q : PV} (h : inB sz 1 64 = true) (hp : rootB p = true) (hq : rootB q = true) : OkP (kB4 sz p q) := by
  have := (rootT_keeps (nm := sVol) (p := q) 0 (ok_B3 h hp) (by rw [mk_B4 hq])).ok
  rwa [mk_B4 hq] at this
theorem ok_B5 {sz lt : Int} {p q : PV} (h : inB sz 1 64 = true) (hl : inB lt 1 64 = true) (hp : rootB p = true) (hq : rootB q = true) : OkP (kB5 sz lt p q) := by
  have := (resize_keeps (nm := sVol) (size := lt) 0 (ok_B4 h hp hq) (by rw [mk_B5 hl])).1.ok
  rwa [mk_B5 hl] at this
theorem ok_B7 {sz lt : Int} {p q : PV} (h : inB sz 1 64 = true) (hl : inB lt 1 64 = true) (hp : rootB p = true) (hq : rootB q = true) : OkP (kB7 sz lt p q) := by
  have := (clone_keeps (ok_B5 h hl hp hq) (by rw [mk_B7])).1.ok
  rwa [mk_B7] at this
theorem ok_B8 {sz lt : Int} {p q : PV} (h : inB sz 1 64 = true) (hl : inB lt 1 64 = true) (hp : rootB p = true) (hq : rootB q = true) : OkP (kB8 sz lt p q) := by
  have := (renT_keeps 0 (ok_B7 h hl hp hq) (by rw [mk_B8])).1.ok
  rwa [mk_B8] at this
end Go.Proofs.Ytifajcblbedcoaa
