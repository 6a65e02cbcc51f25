import Derived.Test.YtifajcblbedcoaaGreatJDirTellsf
import Derived.Test.YtifajcblbedcoaaGreatJDirTellsc
import Derived.Test.YtifajcblbedcoaaGreatJDirTellsd
namespace Go.Proofs.YtifajcblbedcoaaGreat
set_option linter.unusedVariables false
set_option linter.unusedSimpArgs false
open Go.RowKit Hp
attribute [local irreducible] Go.Calls Go.wpList
set_option maxRecDepth 100000
set_option maxHeartbeats 8000000
theorem heldFn (A : Addr) : loadVar 92 A = loadVarH 92 A := rfl
attribute [local go_sem ↓] heldInt heldInts heldRecs heldRec heldStr heldTab heldPtr heldFn
instance fnS : TyS Tryz.prog 92 := ⟨by kernel_rfl⟩
section
variable {w w1 : World} {g : Nat} {t : TC} {lv : Value} {xs : List (Value × RC)} {R : List HA}
theorem tp_loadK {g2 c j : Nat} {x : Value × RC} (hok : Okx xs t) (hst : St w [] w1 (TP g t (.slice (some ⟨g2, 0, none⟩) xs.length c) lv xs R)) (hx : xs[j]? = some x) : Loads Tryz.prog w1 3 ⟨g2, j * 44 + 2, none⟩ (.int .i64 x.2.kind) :=
 Loads.cell (inferInstance : TyS Tryz.prog 3).out (tp_range [] hok hst hx 2 _ rfl)
theorem tp_loadK0 {g2 c j : Nat} {x : Value × RC} (hok : Okx xs t) (hst : St w [] w1 (TP g t (.slice (some ⟨g2, 0, none⟩) xs.length c) lv xs R)) (hx : xs[j]? = some x) : Loads Tryz.prog w1 3 ⟨g2, 0 + j * 44 + 2, none⟩ (.int .i64 x.2.kind) := by
 rw [Nat.zero_add]
 exact tp_loadK hok hst hx
end
def DoesVPost (g2 c k : Nat) (xs : List (Value × RC)) (x : Value × RC) (R : List HA) (w : World) (f : RC → RC) (e : Ending) (w' : World) : Prop :=
 e = .returned (.tuple #[]) ∧ ∃ y : Value × RC, y.2 = f x.2 ∧ (L32 y.2.S ∧ y.2.name.length ≤ 1000000) ∧ ((rootH y = rootH x ∧ St w [] w' (.row (.slice (some ⟨g2, 0, none⟩) xs.length c) 53 44 xs.length (recsV (xs.set k y)) :: R)) ∨ St w [] w' (rootH y :: .row (.slice (some ⟨g2, 0, none⟩) xs.length c) 53 44 xs.length (recsV (xs.set k y)) :: R))
def DoesV (F : FuncId) (caps : Array Value) (w : World) (f : RC → RC) : Prop :=
 ∀ (g2 c k : Nat) (xs : List (Value × RC)) (x : Value × RC) (R : List HA) (w1 : World), LX xs → xs[k]? = some x → xs.length ≤ 1000 → x.2.name.length ≤ 1000000 → St w [] w1 (.row (.slice (some ⟨g2, 0, none⟩) xs.length c) 53 44 xs.length (recsV xs) :: R) →
  Calls Tryz.prog F (#[.pointer (some ⟨g2, k * 44, none⟩)] ++ caps) w1 (DoesVPost g2 c k xs x R w f)
theorem change_does {w : World} {gf gn gd : Nat} (nm : List UInt8) (fine : Bool) (F : FuncId) (caps : Array Value) (f : RC → RC) (hF : ∀ (a : Array Value) (w : World), (callFunc F a).run Tryz.prog w = .ok (.enter F a) w) (hdv : DoesV F caps w f) (h1 : w.cell? ⟨gf, 0, none⟩ = some (.bool fine)) (h2 : w.cell? ⟨gn, 0, none⟩ = some (.string ⟨nm.toArray⟩)) (h3 : w.cell? ⟨gd, 0, none⟩ = some (.func (.func F) #[] caps)) (hl : nm.length ≤ 1000000) (t : TC) (hk : t.ok = true) :
  Does 119 #[.pointer (some ⟨gf, 0, none⟩), .pointer (some ⟨gn, 0, none⟩), .pointer (some ⟨gd, 0, none⟩)] w t (changeT t nm fine f) := by
 intro g ao c al cl xs R w1 hok hst0
 show Calls _ _ #[.pointer (some ⟨g, 0, none⟩), .pointer (some ⟨gf, 0, none⟩), .pointer (some ⟨gn, 0, none⟩), .pointer (some ⟨gd, 0, none⟩)] _ _
 have hst := hst0
 have H1 := hid h1
 have H2 := hid h2
 have H3 := hid h3
 have HOK := hid hok
 have HK := hid hk
 have b2 : xs.length ≤ 16 := by rw [hok.len]; exact ok_many hk
 clear hst0 hok hk h1 h2 h3
 obtain ⟨r, hr⟩ : ∃ r, r = changeT t nm fine f := ⟨_, rfl⟩
 rw [← hr]
 have HDV := hid hdv
 clear hdv
 obtain ⟨e, hx⟩ : ∃ e, namedB nm = e := ⟨_, rfl⟩
 have HNB := hid hx
 have HV := hid (show r = if fine && e then (match recAt nm t.recs with
  | none => badR 6
  | some q => if q.kind == 2 then badR 18 else (0, { t with recs := setN nm t.recs (f q) })) else badR 2 by rw [hr]; unfold changeT; rw [hx]; rfl)
 clear hr hx
 cases hc : (fine && e)
 ·have HB := hid (show r = badR 2 by rw [HV.out, hc]; rfl)
  clear HV
  cases fine <;> cases e <;> first | (cases hc; done) | skip
  all_goals
   clear hc
   go_enter Tryz.func119, Tryz.ntmps119
   go_wp2_with (first | go_big_skip | go_big_guard | (refine wl_loadE rfl rfl rfl ?_; first | refine ⟨_, Loads.atA (tabC t (.slice ao xs.length c) (.slice al t.lives.length cl)) [] hst rfl rfl, ?_⟩ | refine ⟨_, Loads.old hst H1.out, ?_⟩ | refine ⟨_, Loads.old hst H2.out, ?_⟩ | refine ⟨_, Loads.old hst H3.out, ?_⟩) | (go_at_call 56; refine (named_any nm _ (by omega)).mono ?_; rw [HNB.out]; rintro _ w9 ⟨rfl, h4⟩; replace hst := St.call0 hst h4; clear h4))
   go_ret
   exact does_bad (L := []) HB.out (by decide) hst
 ·have h3 : fine = true ∧ e = true := by revert hc; cases fine <;> cases e <;> decide
  obtain ⟨rfl, rfl⟩ := h3
  rcases find_split (nm := nm) (l := t.recs) with ⟨hra, hf⟩ | ⟨j, y, hy, hra, hfn, hf, hnm⟩
  ·have HF := hid hf
   have HB := hid (show r = badR 6 by rw [HV.out, hra]; rfl)
   clear HV hf hra hc
   go_enter Tryz.func119, Tryz.ntmps119
   go_wp2_with (first | go_big_skip | go_big_guard | (refine wl_loadE rfl rfl rfl ?_; first | refine ⟨_, Loads.atA (tabC t (.slice ao xs.length c) (.slice al t.lives.length cl)) [] hst rfl rfl, ?_⟩ | refine ⟨_, Loads.old hst H1.out, ?_⟩ | refine ⟨_, Loads.old hst H2.out, ?_⟩ | refine ⟨_, Loads.old hst H3.out, ?_⟩) | (go_at_call 56; refine (named_any nm _ (by omega)).mono ?_; rw [HNB.out]; rintro _ w9 ⟨rfl, h4⟩; replace hst := St.call0 hst h4; clear h4))
   have hX := hst.drew
   clear hst
   refine wp_region_held_drew (S := (fun w' => (loadVarH 27 ⟨g, 0, none⟩).run Tryz.prog w' = .ok (.agg (List.toArray ((tabC t (.slice ao xs.length c) (.slice al t.lives.length cl))))) w' ∧ (loadVarH 9 ⟨gn, 0, none⟩).run Tryz.prog w' = .ok (.string ⟨nm.toArray⟩) w')) (by kernel_rfl) (by exact ⟨ldA ((tabC t (.slice ao xs.length c) (.slice al t.lives.length cl))) [] hX (rfl) (rfl), ldO hX (H2.out)⟩) (fun hHeld => ?_)
   refine tq 0 16 ?_
   refine tq 3 19 ?_
   refine tq 1 17 ?_
   refine tq 2 18 ?_
   refine wpAnyH_ready (rs := [4]) (by kernel_rfl) (by simp) ?_
   refine (AllReadyH.cons (o := ⟨some 20, _, _, _, _, _⟩) rfl (fun K hK => ?_) AllReadyH.nil)
   rw [if_pos (by rfl)]
   go_simp
   go_at_call 57
   refine (find_any t _ nm ao xs.length c xs _ (tp_recs [] HOK.out hX) (by omega)).mono ?_
   rw [HOK.out.eq, HF.out]
   rintro _ w5 ⟨rfl, h4⟩
   have hstF := St.call0 hX h4
   clear h4
   refine hK.out _ _ ?_ (fun hHeld => ?_)
   ·exact ⟨ldA ((tabC t (.slice ao xs.length c) (.slice al t.lives.length cl))) [] hstF (rfl) (rfl), ldO hstF (H2.out)⟩
   clear hK K
   (try simp only [Act.put, List.setIfInBounds_toArray, List.set_cons_zero, List.set_cons_succ])
   refine tq 5 15 ?_
   refine tq 6 21 ?_
   refine tq 7 22 ?_
   refine tq 8 6 ?_
   refine tq 9 7 ?_
   refine wpAnyH_done (by kernel_rfl) ?_ _
   clear hHeld
   have hst : St w [] _ (TP g t (.slice ao xs.length c) (.slice al t.lives.length cl) xs R) := hstF
   clear hstF
   go_wp2_with (first | go_big_skip | go_big_guard | fail)
   go_ret
   exact does_bad (L := []) HB.out (by decide) hst
  ·have HFN := hid hfn
   obtain ⟨x, hx, hxy⟩ := okx_at HOK.out hy
   subst hxy
   have hlt : j < xs.length := (List.getElem?_eq_some_iff.1 hx).1
   obtain ⟨g2, c2, he⟩ := tp_spot [] hst (by omega)
   cases he
   have HF := hid hf
   have HRA := hid hra
   have HXJ := hid hx
   have HLL := hid ((HOK.out.ok x (List.mem_of_getElem? hx)).1)
   have HLX := hid (cellsR_len (HOK.out.ok x (List.mem_of_getElem? hx)).1)
   have HON := hid (cellsR_ones (tp_in [] HOK.out hst hx))
   have H35 := hid (PV.len (p := x.2.pv x.1) (HOK.out.ok x (List.mem_of_getElem? hx)).1)
   have HB3 := hid (birth_le HK.out (List.mem_of_getElem? hy))
   clear hx hy hf hra hfn hnm
   cases hkk : (x.2.kind == 2)
   ·have HB := hid (show r = (0, { t with recs := t.recs.set j (f x.2) }) by rw [HV.out, HRA.out, hc]; show (if x.2.kind == 2 then badR 18 else ((0 : Int), { t with recs := setN nm t.recs (f x.2) })) = _; rw [hkk]; unfold setN; rw [HFN.out]; rfl)
    clear HV hc
    go_enter Tryz.func119, Tryz.ntmps119
    go_wp2_with (first | go_big_skip | go_big_guard | (refine wl_loadE rfl rfl rfl ?_; first | refine ⟨_, Loads.atA (tabC t (.slice (some ⟨g2, 0, none⟩) xs.length c) (.slice al t.lives.length cl)) [] hst rfl rfl, ?_⟩ | refine ⟨_, Loads.at [] hst rfl, ?_⟩ | refine ⟨_, tp_loadK HOK.out hst HXJ.out, ?_⟩ | refine ⟨_, tp_loadK0 HOK.out hst HXJ.out, ?_⟩ | refine ⟨_, Loads.old hst H1.out, ?_⟩ | refine ⟨_, Loads.old hst H2.out, ?_⟩ | refine ⟨_, Loads.old hst H3.out, ?_⟩) | (refine wl_index rfl rfl rfl rfl hlt ?_) | (go_at_call 56; refine (named_any nm _ (by omega)).mono ?_; rw [HNB.out]; rintro _ w9 ⟨rfl, h4⟩; replace hst := St.call0 hst h4; clear h4))
    have hX := hst.drew
    clear hst
    refine wp_region_held_drew (S := (fun w' => (loadVarH 27 ⟨g, 0, none⟩).run Tryz.prog w' = .ok (.agg (List.toArray ((tabC t (.slice (some ⟨g2, 0, none⟩) xs.length c) (.slice al t.lives.length cl))))) w' ∧ (loadVarH 9 ⟨gn, 0, none⟩).run Tryz.prog w' = .ok (.string ⟨nm.toArray⟩) w')) (by kernel_rfl) (by exact ⟨ldA ((tabC t (.slice (some ⟨g2, 0, none⟩) xs.length c) (.slice al t.lives.length cl))) [] hX (rfl) (rfl), ldO hX (H2.out)⟩) (fun hHeld => ?_)
    refine tq 0 16 ?_
    refine tq 3 19 ?_
    refine tq 1 17 ?_
    refine tq 2 18 ?_
    refine wpAnyH_ready (rs := [4]) (by kernel_rfl) (by simp) ?_
    refine (AllReadyH.cons (o := ⟨some 20, _, _, _, _, _⟩) rfl (fun K hK => ?_) AllReadyH.nil)
    rw [if_pos (by rfl)]
    go_simp
    go_at_call 57
    refine (find_any t _ nm (some ⟨g2, 0, none⟩) xs.length c xs _ (tp_recs [] HOK.out hX) (by omega)).mono ?_
    rw [HOK.out.eq, HF.out]
    rintro _ w5 ⟨rfl, h4⟩
    have hstF := St.call0 hX h4
    clear h4
    refine hK.out _ _ ?_ (fun hHeld => ?_)
    ·exact ⟨ldA ((tabC t (.slice (some ⟨g2, 0, none⟩) xs.length c) (.slice al t.lives.length cl))) [] hstF (rfl) (rfl), ldO hstF (H2.out)⟩
    clear hK K
    (try simp only [Act.put, List.setIfInBounds_toArray, List.set_cons_zero, List.set_cons_succ])
    refine tq 5 15 ?_
    refine tq 6 21 ?_
    refine tq 7 22 ?_
    refine tq 8 6 ?_
    refine tq 9 7 ?_
    refine wpAnyH_done (by kernel_rfl) ?_ _
    clear hHeld
    have hst : St w [] _ (TP g t (.slice (some ⟨g2, 0, none⟩) xs.length c) (.slice al t.lives.length cl) xs R) := hstF
    clear hstF
    go_wp2_with (first | go_big_skip | go_big_guard | (refine wl_loadE rfl rfl rfl ?_; first | refine ⟨_, Loads.atA (tabC t (.slice (some ⟨g2, 0, none⟩) xs.length c) (.slice al t.lives.length cl)) [] hst rfl rfl, ?_⟩ | refine ⟨_, Loads.at [] hst rfl, ?_⟩ | refine ⟨_, tp_loadK HOK.out hst HXJ.out, ?_⟩ | refine ⟨_, tp_loadK0 HOK.out hst HXJ.out, ?_⟩ | refine ⟨_, Loads.old hst H1.out, ?_⟩ | refine ⟨_, Loads.old hst H2.out, ?_⟩ | refine ⟨_, Loads.old hst H3.out, ?_⟩) | (refine wl_index rfl rfl rfl rfl hlt ?_))
    have hY := hst.drew
    clear hst
    refine wp_region_held_drew (S := (fun w' => (loadVarH 92 ⟨gd, 0, none⟩).run Tryz.prog w' = .ok (.func (.func F) #[] caps) w' ∧ (loadVarH 22 ⟨g, 1, none⟩).run Tryz.prog w' = .ok (.slice (some ⟨g2, 0, none⟩) xs.length c) w')) (by kernel_rfl) (by exact ⟨ldO hY (H3.out), ldS [] hY rfl⟩) (fun hHeld => ?_)
    refine tq 0 36 ?_
    refine tq 1 37 ?_
    refine tq 5 41 ?_
    refine tq 2 38 ?_
    refine tq 3 39 ?_
    refine tq 4 40 ?_
    refine tq 6 42 ?_
    refine wpAnyH_ready (rs := [7]) (by kernel_rfl) (by simp) ?_
    refine (AllReadyH.cons (o := ⟨some 43, _, _, _, _, _⟩) rfl (fun K hK => ?_) AllReadyH.nil)
    rw [if_pos (by rfl)]
    go_simp
    refine (HDV.out g2 c j xs x _ _ HOK.out.LX HXJ.out (by omega) (HOK.out.ok x (List.mem_of_getElem? HXJ.out)).2 (St.front (L1 := [_]) hY)).mono ?_
    rintro _ w5 ⟨rfl, y, hyf, hyl, hys⟩
    have hst5 : St w [] w5 [] := by
     rcases hys with ⟨_, h⟩ | h
     ·exact h.nil
     ·exact h.nil
    have hg9 : Loads Tryz.prog w5 22 ⟨g, 1, none⟩ (.slice (some ⟨g2, 0, none⟩) xs.length c) := by
     rcases hys with ⟨_, h⟩ | h
     ·exact Loads.at [_] h rfl
     ·exact Loads.at [_, _] h rfl
    have HYF := hid hyf
    have HYL := hid hyl
    have HYS := hid hys
    clear hyf hyl hys
    refine hK.out _ _ ?_ (fun hHeld => ?_)
    ·exact ⟨ldO hst5 (H3.out), hg9⟩
    clear hK K
    (try simp only [Act.put, List.setIfInBounds_toArray, List.set_cons_zero, List.set_cons_succ])
    refine wpAnyH_done (by kernel_rfl) ?_ _
    clear hHeld
    go_wp2_with (first | go_big_skip | go_big_guard | fail)
    go_ret
    have hB2 : r = (0, { t with recs := t.recs.set j y.2 }) := by rw [HB.out, HYF.out]
    rcases HYS.out with ⟨hv, h⟩ | h
    ·exact set_done0 (E := []) hB2 HOK.out HXJ.out HYL.out hv (St.perm h (.swap _ _ _))
    ·exact set_done (E := []) hB2 HOK.out HXJ.out HYL.out (St.perm h (.cons _ (.swap _ _ _)))
   ·have HB := hid (show r = badR 18 by rw [HV.out, HRA.out, hc]; show (if x.2.kind == 2 then badR 18 else ((0 : Int), { t with recs := setN nm t.recs (f x.2) })) = _; rw [hkk]; rfl)
    clear HV hc
    go_enter Tryz.func119, Tryz.ntmps119
    go_wp2_with (first | go_big_skip | go_big_guard | (refine wl_loadE rfl rfl rfl ?_; first | refine ⟨_, Loads.atA (tabC t (.slice (some ⟨g2, 0, none⟩) xs.length c) (.slice al t.lives.length cl)) [] hst rfl rfl, ?_⟩ | refine ⟨_, Loads.at [] hst rfl, ?_⟩ | refine ⟨_, tp_loadK HOK.out hst HXJ.out, ?_⟩ | refine ⟨_, tp_loadK0 HOK.out hst HXJ.out, ?_⟩ | refine ⟨_, Loads.old hst H1.out, ?_⟩ | refine ⟨_, Loads.old hst H2.out, ?_⟩ | refine ⟨_, Loads.old hst H3.out, ?_⟩) | (refine wl_index rfl rfl rfl rfl hlt ?_) | (go_at_call 56; refine (named_any nm _ (by omega)).mono ?_; rw [HNB.out]; rintro _ w9 ⟨rfl, h4⟩; replace hst := St.call0 hst h4; clear h4))
    have hX := hst.drew
    clear hst
    refine wp_region_held_drew (S := (fun w' => (loadVarH 27 ⟨g, 0, none⟩).run Tryz.prog w' = .ok (.agg (List.toArray ((tabC t (.slice (some ⟨g2, 0, none⟩) xs.length c) (.slice al t.lives.length cl))))) w' ∧ (loadVarH 9 ⟨gn, 0, none⟩).run Tryz.prog w' = .ok (.string ⟨nm.toArray⟩) w')) (by kernel_rfl) (by exact ⟨ldA ((tabC t (.slice (some ⟨g2, 0, none⟩) xs.length c) (.slice al t.lives.length cl))) [] hX (rfl) (rfl), ldO hX (H2.out)⟩) (fun hHeld => ?_)
    refine tq 0 16 ?_
    refine tq 3 19 ?_
    refine tq 1 17 ?_
    refine tq 2 18 ?_
    refine wpAnyH_ready (rs := [4]) (by kernel_rfl) (by simp) ?_
    refine (AllReadyH.cons (o := ⟨some 20, _, _, _, _, _⟩) rfl (fun K hK => ?_) AllReadyH.nil)
    rw [if_pos (by rfl)]
    go_simp
    go_at_call 57
    refine (find_any t _ nm (some ⟨g2, 0, none⟩) xs.length c xs _ (tp_recs [] HOK.out hX) (by omega)).mono ?_
    rw [HOK.out.eq, HF.out]
    rintro _ w5 ⟨rfl, h4⟩
    have hstF := St.call0 hX h4
    clear h4
    refine hK.out _ _ ?_ (fun hHeld => ?_)
    ·exact ⟨ldA ((tabC t (.slice (some ⟨g2, 0, none⟩) xs.length c) (.slice al t.lives.length cl))) [] hstF (rfl) (rfl), ldO hstF (H2.out)⟩
    clear hK K
    (try simp only [Act.put, List.setIfInBounds_toArray, List.set_cons_zero, List.set_cons_succ])
    refine tq 5 15 ?_
    refine tq 6 21 ?_
    refine tq 7 22 ?_
    refine tq 8 6 ?_
    refine tq 9 7 ?_
    refine wpAnyH_done (by kernel_rfl) ?_ _
    clear hHeld
    have hst : St w [] _ (TP g t (.slice (some ⟨g2, 0, none⟩) xs.length c) (.slice al t.lives.length cl) xs R) := hstF
    clear hstF
    go_wp2_with (first | go_big_skip | go_big_guard | (refine wl_loadE rfl rfl rfl ?_; first | refine ⟨_, Loads.atA (tabC t (.slice (some ⟨g2, 0, none⟩) xs.length c) (.slice al t.lives.length cl)) [] hst rfl rfl, ?_⟩ | refine ⟨_, Loads.at [] hst rfl, ?_⟩ | refine ⟨_, tp_loadK HOK.out hst HXJ.out, ?_⟩ | refine ⟨_, tp_loadK0 HOK.out hst HXJ.out, ?_⟩ | refine ⟨_, Loads.old hst H1.out, ?_⟩ | refine ⟨_, Loads.old hst H2.out, ?_⟩ | refine ⟨_, Loads.old hst H3.out, ?_⟩) | (refine wl_index rfl rfl rfl rfl hlt ?_))
    go_ret
    exact does_bad (L := []) HB.out (by decide) hst
end Go.Proofs.YtifajcblbedcoaaGreat
namespace Go.Proofs.YtifajcblbedcoaaGreat
set_option linter.unusedVariables false
set_option linter.unusedSimpArgs false
open Go.RowKit Hp
attribute [local irreducible] Go.Calls Go.wpList
set_option maxRecDepth 100000
set_option maxHeartbeats 8000000
attribute [local go_sem ↓] heldInt heldInts heldRecs heldRec heldStr heldTab heldPtr heldFn
theorem put_q (v : Value × RC) (z : Int) (h : L32 v.2.S) : putAt (cellsR v) 42 [.int .i64 z] = cellsR (v.1, { v.2 with quota := z }) := xC_put42 (p := v.2.pv v.1) h z
theorem put_r (v : Value × RC) (z : Int) (h : L32 v.2.S) : putAt (cellsR v) 43 [.int .i64 z] = cellsR (v.1, { v.2 with reserve := z }) := xC_put43 (p := v.2.pv v.1) h z
def rootOf (p : PV) (v : RC) : RC := { v with l := p.l, b := p.b, v := p.v, S := p.S }
theorem put_p (v : Value × RC) (p : PV) (sv : Value) (h : L32 v.2.S) (hp : L32 p.S) : putAt (cellsR v) 4 (PV.cells (p.re sv)) = cellsR (sv, rootOf p v.2) := xC_put4 (p := v.2.pv v.1) (q := p.re sv) h hp
theorem resizeV {w : World} {gs : Nat} (z : Int) (h1 : w.cell? ⟨gs, 0, none⟩ = some (.int .i64 z)) : DoesV 80 #[.pointer (some ⟨gs, 0, none⟩)] w (fun v => { v with size := z }) := by
 intro g2 c k xs x R w1 hlx hx hn hnm hst0
 show Calls _ _ #[.pointer (some ⟨g2, k * 44, none⟩), .pointer (some ⟨gs, 0, none⟩)] _ _
 have HLX := hid hlx
 have HX := hid hx
 have HNM := hid hnm
 have HS := hid (hlx x (List.mem_of_getElem? hx))
 have hk : k < xs.length := (List.getElem?_eq_some_iff.1 hx).1
 have H1 := hid h1
 clear hlx hx hnm h1
 go_enter Tryz.func80, Tryz.ntmps80
 go_wp2_with (first | go_big_skip | go_big_guard | (refine wl_loadE rfl rfl rfl ?_; refine ⟨_, Loads.old hst0 H1.out, ?_⟩) | (refine wl_storeRow1 [] hst0 rfl rfl rfl rfl (v := .int .i64 z) rfl rfl (by omega) (by omega) ?_; intro w6 hst6; clear hst0; rw [recsV_put HLX.out HX.out (d := 3) (by show 3 + 1 ≤ 44; decide) (put_size x z)] at hst6))
 go_end0
 exact ⟨rfl, (x.1, { x.2 with size := z }), rfl, ⟨HS.out, HNM.out⟩, .inl ⟨rfl, hst6⟩⟩
theorem limitV {w : World} {gq gr : Nat} (q z : Int) (h1 : w.cell? ⟨gq, 0, none⟩ = some (.int .i64 q)) (h2 : w.cell? ⟨gr, 0, none⟩ = some (.int .i64 z)) : DoesV 82 #[.pointer (some ⟨gq, 0, none⟩), .pointer (some ⟨gr, 0, none⟩)] w (fun v => { v with quota := q, reserve := z }) := by
 intro g2 c k xs x R w1 hlx hx hn hnm hst0
 show Calls _ _ #[.pointer (some ⟨g2, k * 44, none⟩), .pointer (some ⟨gq, 0, none⟩), .pointer (some ⟨gr, 0, none⟩)] _ _
 have HLX := hid hlx
 have HX := hid hx
 have HNM := hid hnm
 have HS := hid (hlx x (List.mem_of_getElem? hx))
 have hk : k < xs.length := (List.getElem?_eq_some_iff.1 hx).1
 have H1 := hid h1
 have H2 := hid h2
 clear hlx hx hnm h1 h2
 go_enter Tryz.func82, Tryz.ntmps82
 have hX := hst0.drew
 clear hst0
 refine wp_region_held_drew (S := (fun w' => (loadVarH 3 ⟨gq, 0, none⟩).run Tryz.prog w' = .ok (.int .i64 q) w' ∧ (loadVarH 3 ⟨gr, 0, none⟩).run Tryz.prog w' = .ok (.int .i64 z) w')) (by kernel_rfl) (by exact ⟨ldO hX (H1.out), ldO hX (H2.out)⟩) (fun hHeld => ?_)
 refine tq 0 4 ?_
 refine tq 1 5 ?_
 refine tq 2 6 ?_
 refine tq 3 7 ?_
 refine tq 4 8 ?_
 refine tq 5 9 ?_
 refine wpAnyH_ready (rs := [6]) (by kernel_rfl) (by simp) ?_
 refine (AllReadyH.cons (o := ⟨none, _, _, _, _, _⟩) rfl (fun K hK => ?_) AllReadyH.nil)
 rw [if_pos (by rfl)]
 refine ow_of_wl (ops := #[]) (by rfl) ?_
 refine wl_storeRow1 [] hX rfl rfl rfl rfl (v := .int .i64 q) rfl rfl (by omega) (by omega) ?_
 intro w6 hst6
 rw [recsV_put HLX.out HX.out (d := 42) (by show 42 + 1 ≤ 44; decide) (put_q x q HS.out)] at hst6
 refine q0_nil ?_
 refine hK.out _ _ ?_ (fun hHeld => ?_)
 ·exact ⟨ldO hst6 (H1.out), ldO hst6 (H2.out)⟩
 clear hK K
 (try simp only [Act.put, List.setIfInBounds_toArray, List.set_cons_zero, List.set_cons_succ])
 refine tq 7 10 ?_
 refine tq 8 11 ?_
 refine wpAnyH_ready (rs := [9]) (by kernel_rfl) (by simp) ?_
 refine (AllReadyH.cons (o := ⟨none, _, _, _, _, _⟩) rfl (fun K hK => ?_) AllReadyH.nil)
 rw [if_pos (by rfl)]
 refine ow_of_wl (ops := #[]) (by rfl) ?_
 refine wl_storeRow1 [] hst6 rfl rfl rfl rfl (v := .int .i64 z) rfl rfl (by omega) (by omega) ?_
 intro w7 hst7
 have hLX2 : LX (xs.set k (x.1, { x.2 with quota := q })) := fun u hu => by
  rcases List.mem_or_eq_of_mem_set hu with h | rfl
  ·exact HLX.out u h
  ·exact HS.out
 rw [recsV_put hLX2 (by rw [List.getElem?_set_self (by exact hk)]) (d := 43) (by show 43 + 1 ≤ 44; decide) (put_r (x.1, { x.2 with quota := q }) z HS.out), List.set_set] at hst7
 refine q0_nil ?_
 refine hK.out _ _ ?_ (fun hHeld => ?_)
 ·exact ⟨ldO hst7 (H1.out), ldO hst7 (H2.out)⟩
 clear hK K
 (try simp only [Act.put, List.setIfInBounds_toArray, List.set_cons_zero, List.set_cons_succ])
 refine wpAnyH_done (by kernel_rfl) ?_ _
 clear hHeld
 go_wp2_with (first | go_big_skip | go_big_guard | fail)
 go_end0
 exact ⟨rfl, (x.1, { x.2 with quota := q, reserve := z }), rfl, ⟨HS.out, HNM.out⟩, .inl ⟨rfl, hst7⟩⟩
theorem rootV {w : World} {gp : Nat} (p : PV) (h1 : w.rangeAt gp 0 p.cells) (h2 : p.In w) (h3 : p.l.length ≤ 100000) : DoesV 85 #[.pointer (some ⟨gp, 0, none⟩)] w (rootOf p) := by
 intro g2 c k xs x R w1 hlx hx hn hnm hst0
 show Calls _ _ #[.pointer (some ⟨g2, k * 44, none⟩), .pointer (some ⟨gp, 0, none⟩)] _ _
 have HLX := hid hlx
 have HX := hid hx
 have HNM := hid hnm
 have HS := hid (hlx x (List.mem_of_getElem? hx))
 have hk : k < xs.length := (List.getElem?_eq_some_iff.1 hx).1
 have H1 := hid h1
 have H2 := hid h2
 have H3 := hid h3
 clear hlx hx hnm h1 h2 h3
 go_enter Tryz.func85, Tryz.ntmps85
 go_wp2_with (first | go_big_skip | go_big_guard | (refine wl_loadE rfl rfl rfl ?_; refine ⟨_, Loads.oldA (cs := p.cells) hst0 (PV.len H2.out.1) H1.out, ?_⟩) | (go_at_call 69; refine (ownP_any p _ (PV.In.old hst0.nil H2.out) H3.out).mono ?_; rintro _ w5 ⟨a5, n5, c5, rfl, h4, hl5⟩; have hst5 := St.call hst0 h4; subst hl5; clear h4 hst0) | (refine wl_storeRow [_] hst5 rfl rfl rfl rfl (m := 35) (vs := PV.cells (p.re (.slice a5 p.l.length c5))) (PV.len (p := p.re (.slice a5 p.l.length c5)) H2.out.1) (PV.ones_of (p := p.re (.slice a5 p.l.length c5)) rfl) (by omega) (by omega) ?_; intro w6 hst6; clear hst5; rw [recsV_put HLX.out HX.out (d := 4) (by rw [PV.len (p := p.re (.slice a5 p.l.length c5)) H2.out.1]; decide) (put_p x p (.slice a5 p.l.length c5) HS.out H2.out.1)] at hst6))
 go_end0
 exact ⟨rfl, ((.slice a5 p.l.length c5 : Value), rootOf p x.2), rfl, ⟨H2.out.1, HNM.out⟩, .inr hst6⟩
end Go.Proofs.YtifajcblbedcoaaGreat
namespace Go.Proofs.YtifajcblbedcoaaGreat
set_option linter.unusedVariables false
set_option linter.unusedSimpArgs false
open Go.RowKit Hp
attribute [local irreducible] Go.Calls Go.wpList
set_option maxRecDepth 100000
set_option maxHeartbeats 8000000
attribute [local go_sem ↓] heldInt heldInts heldRecs heldRec heldStr heldTab heldPtr heldFn
theorem wl_mkFunc {P : Program} {ops : Array Oper} {rest : List Oper} {o : Oper} {a : Act} {w : World} {Q : Exit → Act → World → Prop} {f : Fn} {ts xs : Array Operand} (hop : o.op = .makeFunc f ts xs) (hw : Region.wanted o (yielded ops a.tmps) = true)
  (h : wpList P ops Q rest (a.put o.dst (.func f (ts.map a.eval) (xs.map a.eval))) w) : wpList P ops Q (o :: rest) a w := by
 refine wl_run hw ?_ h
 unfold execOp
 simp only [hop]
 rfl
theorem make13_any (t : TC) (ar al : Option Addr) (nr cr nl cl : Nat) (xs : List (Value × RC)) (w : World) (ht : TabIn w t ar nr cr al nl cl xs) (nm : List UInt8) (size : Int) (txg : Int) (hnm : nm.length ≤ 1000000) :
  Calls Tryz.prog 25 #[.agg (tabC t (.slice ar nr cr) (.slice al nl cl)).toArray, .string ⟨nm.toArray⟩, .int .i64 size, .int .i64 txg] w (TabRet (opR t (makeR t nm size txg)) w) := by
 have hst0 := St.refl w
 have HT := hid ht
 clear ht
 obtain ⟨r, hr⟩ : ∃ r, r = opR t (makeR t nm size txg) := ⟨_, rfl⟩
 rw [← hr]
 have HR := hid hr
 clear hr
 go_enter Tryz.func25, Tryz.ntmps25
 go_wp2_with (first | go_big_skip | go_big_guard | (refine wl_boxA hst0 rfl rfl rfl ?_; intro g4 w1 hA0; clear hst0) | (refine wl_box hA0 rfl rfl rfl ?_; intro g5 _ hA1; clear hA0) | (refine wl_box hA1 rfl rfl rfl ?_; intro g6 _ hA2; clear hA1) | (refine wl_box hA2 rfl rfl rfl ?_; intro g7 _ hA3; clear hA2) | (refine wl_alloc hA3 rfl rfl ?_; intro gz _ hst; clear hA3) | (refine wl_loadE rfl rfl rfl ?_; refine ⟨_, Loads.atA (tabC t (.slice ar nr cr) (.slice al nl cl)) [_, _, _, _] hst rfl rfl, ?_⟩) | (go_at_call 54; refine (owned_any 61 #[.pointer (some ⟨g5, 0, none⟩), .pointer (some ⟨g6, 0, none⟩), .pointer (some ⟨g7, 0, none⟩)] (fun _ _ => rfl) t ar al nr cr nl cl xs _ (HT.out.old hst.nil) (makeR t nm size txg) (fun hk => make_does nm size txg (hst.cell (g := g5) (off := 0) (.tail _ (.tail _ (.tail _ (.head _)))) rfl) (hst.cell (g := g6) (off := 0) (.tail _ (.tail _ (.head _))) rfl) (hst.cell (g := g7) (off := 0) (.tail _ (.head _)) rfl) hnm t hk)).mono ?_; rw [← HR.out]; rintro _ w9 ⟨rv9, lv9, xs9, rfl, hok9, h4⟩; have hst2 := St.call hst h4; clear h4 hst; obtain ⟨a9, c9, rfl, _, _⟩ := rowS [] hst2; obtain ⟨a8, c8, rfl, _, _⟩ := rowS [_] hst2; have HOK := hid hok9; clear hok9) | (refine wl_storeA (_ :: _ :: List.map rootH xs9) hst2 rfl rfl rfl rfl (vs := tabC r.2 (.slice a9 xs9.length c9) (.slice a8 r.2.lives.length c8)) rfl rfl rfl ?_; intro w7 hst3; clear hst2))
 have hl := Loads.atA (P := Tryz.prog) (off := 0) (T := 27) (tabC r.2 (.slice a9 xs9.length c9) (.slice a8 r.2.lives.length c8)) (_ :: _ :: List.map rootH xs9) hst3 rfl rfl
 refine bodyPost_ret (results_cellR rfl rfl rfl hl) rfl ?_
 exact ⟨_, _, xs9, rfl, HOK.out, St.sub hst3 (.cons_cons _ (.cons_cons _ (List.sublist_append_left _ _)))⟩
theorem snap13_any (t : TC) (ar al : Option Addr) (nr cr nl cl : Nat) (xs : List (Value × RC)) (w : World) (ht : TabIn w t ar nr cr al nl cl xs) (nm : List UInt8) (txg : Int) (hnm : nm.length ≤ 1000000) :
  Calls Tryz.prog 26 #[.agg (tabC t (.slice ar nr cr) (.slice al nl cl)).toArray, .string ⟨nm.toArray⟩, .int .i64 txg] w (TabRet (opR t (snapT t nm txg)) w) := by
 have hst0 := St.refl w
 have HT := hid ht
 clear ht
 obtain ⟨r, hr⟩ : ∃ r, r = opR t (snapT t nm txg) := ⟨_, rfl⟩
 rw [← hr]
 have HR := hid hr
 clear hr
 go_enter Tryz.func26, Tryz.ntmps26
 go_wp2_with (first | go_big_skip | go_big_guard | (refine wl_boxA hst0 rfl rfl rfl ?_; intro g4 w1 hA0; clear hst0) | (refine wl_box hA0 rfl rfl rfl ?_; intro g5 _ hA1; clear hA0) | (refine wl_box hA1 rfl rfl rfl ?_; intro g6 _ hA2; clear hA1) | (refine wl_alloc hA2 rfl rfl ?_; intro gz _ hst; clear hA2) | (refine wl_loadE rfl rfl rfl ?_; refine ⟨_, Loads.atA (tabC t (.slice ar nr cr) (.slice al nl cl)) [_, _, _] hst rfl rfl, ?_⟩) | (go_at_call 54; refine (owned_any 67 #[.pointer (some ⟨g5, 0, none⟩), .pointer (some ⟨g6, 0, none⟩)] (fun _ _ => rfl) t ar al nr cr nl cl xs _ (HT.out.old hst.nil) (snapT t nm txg) (fun hk => snap_does nm txg (hst.cell (g := g5) (off := 0) (.tail _ (.tail _ (.head _))) rfl) (hst.cell (g := g6) (off := 0) (.tail _ (.head _)) rfl) hnm t hk)).mono ?_; rw [← HR.out]; rintro _ w9 ⟨rv9, lv9, xs9, rfl, hok9, h4⟩; have hst2 := St.call hst h4; clear h4 hst; obtain ⟨a9, c9, rfl, _, _⟩ := rowS [] hst2; obtain ⟨a8, c8, rfl, _, _⟩ := rowS [_] hst2; have HOK := hid hok9; clear hok9) | (refine wl_storeA (_ :: _ :: List.map rootH xs9) hst2 rfl rfl rfl rfl (vs := tabC r.2 (.slice a9 xs9.length c9) (.slice a8 r.2.lives.length c8)) rfl rfl rfl ?_; intro w7 hst3; clear hst2))
 have hl := Loads.atA (P := Tryz.prog) (off := 0) (T := 27) (tabC r.2 (.slice a9 xs9.length c9) (.slice a8 r.2.lives.length c8)) (_ :: _ :: List.map rootH xs9) hst3 rfl rfl
 refine bodyPost_ret (results_cellR rfl rfl rfl hl) rfl ?_
 exact ⟨_, _, xs9, rfl, HOK.out, St.sub hst3 (.cons_cons _ (.cons_cons _ (List.sublist_append_left _ _)))⟩
theorem clone13_any (t : TC) (ar al : Option Addr) (nr cr nl cl : Nat) (xs : List (Value × RC)) (w : World) (ht : TabIn w t ar nr cr al nl cl xs) (sp : List UInt8) (nm : List UInt8) (txg : Int) (hsp : sp.length ≤ 1000000) (hnm : nm.length ≤ 1000000) :
  Calls Tryz.prog 27 #[.agg (tabC t (.slice ar nr cr) (.slice al nl cl)).toArray, .string ⟨sp.toArray⟩, .string ⟨nm.toArray⟩, .int .i64 txg] w (TabRet (opR t (cloneT t sp nm txg)) w) := by
 have hst0 := St.refl w
 have HT := hid ht
 clear ht
 obtain ⟨r, hr⟩ : ∃ r, r = opR t (cloneT t sp nm txg) := ⟨_, rfl⟩
 rw [← hr]
 have HR := hid hr
 clear hr
 go_enter Tryz.func27, Tryz.ntmps27
 go_wp2_with (first | go_big_skip | go_big_guard | (refine wl_boxA hst0 rfl rfl rfl ?_; intro g4 w1 hA0; clear hst0) | (refine wl_box hA0 rfl rfl rfl ?_; intro g5 _ hA1; clear hA0) | (refine wl_box hA1 rfl rfl rfl ?_; intro g6 _ hA2; clear hA1) | (refine wl_box hA2 rfl rfl rfl ?_; intro g7 _ hA3; clear hA2) | (refine wl_alloc hA3 rfl rfl ?_; intro gz _ hst; clear hA3) | (refine wl_loadE rfl rfl rfl ?_; refine ⟨_, Loads.atA (tabC t (.slice ar nr cr) (.slice al nl cl)) [_, _, _, _] hst rfl rfl, ?_⟩) | (go_at_call 54; refine (owned_any 70 #[.pointer (some ⟨g5, 0, none⟩), .pointer (some ⟨g6, 0, none⟩), .pointer (some ⟨g7, 0, none⟩)] (fun _ _ => rfl) t ar al nr cr nl cl xs _ (HT.out.old hst.nil) (cloneT t sp nm txg) (fun hk => clone_does sp nm txg (hst.cell (g := g5) (off := 0) (.tail _ (.tail _ (.tail _ (.head _)))) rfl) (hst.cell (g := g6) (off := 0) (.tail _ (.tail _ (.head _))) rfl) (hst.cell (g := g7) (off := 0) (.tail _ (.head _)) rfl) hsp hnm t hk)).mono ?_; rw [← HR.out]; rintro _ w9 ⟨rv9, lv9, xs9, rfl, hok9, h4⟩; have hst2 := St.call hst h4; clear h4 hst; obtain ⟨a9, c9, rfl, _, _⟩ := rowS [] hst2; obtain ⟨a8, c8, rfl, _, _⟩ := rowS [_] hst2; have HOK := hid hok9; clear hok9) | (refine wl_storeA (_ :: _ :: List.map rootH xs9) hst2 rfl rfl rfl rfl (vs := tabC r.2 (.slice a9 xs9.length c9) (.slice a8 r.2.lives.length c8)) rfl rfl rfl ?_; intro w7 hst3; clear hst2))
 have hl := Loads.atA (P := Tryz.prog) (off := 0) (T := 27) (tabC r.2 (.slice a9 xs9.length c9) (.slice a8 r.2.lives.length c8)) (_ :: _ :: List.map rootH xs9) hst3 rfl rfl
 refine bodyPost_ret (results_cellR rfl rfl rfl hl) rfl ?_
 exact ⟨_, _, xs9, rfl, HOK.out, St.sub hst3 (.cons_cons _ (.cons_cons _ (List.sublist_append_left _ _)))⟩
theorem roll13_any (t : TC) (ar al : Option Addr) (nr cr nl cl : Nat) (xs : List (Value × RC)) (w : World) (ht : TabIn w t ar nr cr al nl cl xs) (sp : List UInt8) (hsp : sp.length ≤ 1000000) :
  Calls Tryz.prog 28 #[.agg (tabC t (.slice ar nr cr) (.slice al nl cl)).toArray, .string ⟨sp.toArray⟩] w (TabRet (opR t (rollT t sp)) w) := by
 have hst0 := St.refl w
 have HT := hid ht
 clear ht
 obtain ⟨r, hr⟩ : ∃ r, r = opR t (rollT t sp) := ⟨_, rfl⟩
 rw [← hr]
 have HR := hid hr
 clear hr
 go_enter Tryz.func28, Tryz.ntmps28
 go_wp2_with (first | go_big_skip | go_big_guard | (refine wl_boxA hst0 rfl rfl rfl ?_; intro g4 w1 hA0; clear hst0) | (refine wl_box hA0 rfl rfl rfl ?_; intro g5 _ hA1; clear hA0) | (refine wl_alloc hA1 rfl rfl ?_; intro gz _ hst; clear hA1) | (refine wl_loadE rfl rfl rfl ?_; refine ⟨_, Loads.atA (tabC t (.slice ar nr cr) (.slice al nl cl)) [_, _] hst rfl rfl, ?_⟩) | (go_at_call 54; refine (owned_any 72 #[.pointer (some ⟨g5, 0, none⟩)] (fun _ _ => rfl) t ar al nr cr nl cl xs _ (HT.out.old hst.nil) (rollT t sp) (fun hk => roll_does sp (hst.cell (g := g5) (off := 0) (.tail _ (.head _)) rfl) hsp t hk)).mono ?_; rw [← HR.out]; rintro _ w9 ⟨rv9, lv9, xs9, rfl, hok9, h4⟩; have hst2 := St.call hst h4; clear h4 hst; obtain ⟨a9, c9, rfl, _, _⟩ := rowS [] hst2; obtain ⟨a8, c8, rfl, _, _⟩ := rowS [_] hst2; have HOK := hid hok9; clear hok9) | (refine wl_storeA (_ :: _ :: List.map rootH xs9) hst2 rfl rfl rfl rfl (vs := tabC r.2 (.slice a9 xs9.length c9) (.slice a8 r.2.lives.length c8)) rfl rfl rfl ?_; intro w7 hst3; clear hst2))
 have hl := Loads.atA (P := Tryz.prog) (off := 0) (T := 27) (tabC r.2 (.slice a9 xs9.length c9) (.slice a8 r.2.lives.length c8)) (_ :: _ :: List.map rootH xs9) hst3 rfl rfl
 refine bodyPost_ret (results_cellR rfl rfl rfl hl) rfl ?_
 exact ⟨_, _, xs9, rfl, HOK.out, St.sub hst3 (.cons_cons _ (.cons_cons _ (List.sublist_append_left _ _)))⟩
theorem drop13_any (t : TC) (ar al : Option Addr) (nr cr nl cl : Nat) (xs : List (Value × RC)) (w : World) (ht : TabIn w t ar nr cr al nl cl xs) (nm : List UInt8) (hnm : nm.length ≤ 1000000) :
  Calls Tryz.prog 23 #[.agg (tabC t (.slice ar nr cr) (.slice al nl cl)).toArray, .string ⟨nm.toArray⟩] w (TabRet (opR t (dropT t nm)) w) := by
 have hst0 := St.refl w
 have HT := hid ht
 clear ht
 obtain ⟨r, hr⟩ : ∃ r, r = opR t (dropT t nm) := ⟨_, rfl⟩
 rw [← hr]
 have HR := hid hr
 clear hr
 go_enter Tryz.func23, Tryz.ntmps23
 go_wp2_with (first | go_big_skip | go_big_guard | (refine wl_boxA hst0 rfl rfl rfl ?_; intro g4 w1 hA0; clear hst0) | (refine wl_box hA0 rfl rfl rfl ?_; intro g5 _ hA1; clear hA0) | (refine wl_alloc hA1 rfl rfl ?_; intro gz _ hst; clear hA1) | (refine wl_loadE rfl rfl rfl ?_; refine ⟨_, Loads.atA (tabC t (.slice ar nr cr) (.slice al nl cl)) [_, _] hst rfl rfl, ?_⟩) | (go_at_call 54; refine (owned_any 55 #[.pointer (some ⟨g5, 0, none⟩)] (fun _ _ => rfl) t ar al nr cr nl cl xs _ (HT.out.old hst.nil) (dropT t nm) (fun hk => drop_does nm (hst.cell (g := g5) (off := 0) (.tail _ (.head _)) rfl) hnm t hk)).mono ?_; rw [← HR.out]; rintro _ w9 ⟨rv9, lv9, xs9, rfl, hok9, h4⟩; have hst2 := St.call hst h4; clear h4 hst; obtain ⟨a9, c9, rfl, _, _⟩ := rowS [] hst2; obtain ⟨a8, c8, rfl, _, _⟩ := rowS [_] hst2; have HOK := hid hok9; clear hok9) | (refine wl_storeA (_ :: _ :: List.map rootH xs9) hst2 rfl rfl rfl rfl (vs := tabC r.2 (.slice a9 xs9.length c9) (.slice a8 r.2.lives.length c8)) rfl rfl rfl ?_; intro w7 hst3; clear hst2))
 have hl := Loads.atA (P := Tryz.prog) (off := 0) (T := 27) (tabC r.2 (.slice a9 xs9.length c9) (.slice a8 r.2.lives.length c8)) (_ :: _ :: List.map rootH xs9) hst3 rfl rfl
 refine bodyPost_ret (results_cellR rfl rfl rfl hl) rfl ?_
 exact ⟨_, _, xs9, rfl, HOK.out, St.sub hst3 (.cons_cons _ (.cons_cons _ (List.sublist_append_left _ _)))⟩
theorem DoesV.old {w w1 : World} {L : List HA} {F : FuncId} {caps : Array Value} {f : RC → RC} (hst : St w [] w1 L) (h : ∀ (w2 : World), St w [] w2 [] → DoesV F caps w2 f) : DoesV F caps w1 f := h w1 hst.nil
theorem change13_any (t : TC) (ar al : Option Addr) (nr cr nl cl : Nat) (xs : List (Value × RC)) (w : World) (ht : TabIn w t ar nr cr al nl cl xs) (nm : List UInt8) (fine : Bool) (F : FuncId) (caps : Array Value) (f : RC → RC) (hF : ∀ (a : Array Value) (w : World), (callFunc F a).run Tryz.prog w = .ok (.enter F a) w) (hdv : ∀ (w2 : World), St w [] w2 [] → DoesV F caps w2 f) (hnm : nm.length ≤ 1000000) :
  Calls Tryz.prog 79 #[.agg (tabC t (.slice ar nr cr) (.slice al nl cl)).toArray, .string ⟨nm.toArray⟩, .bool fine, .func (.func F) #[] caps] w (TabRet (opR t (changeT t nm fine f)) w) := by
 have hst0 := St.refl w
 have HT := hid ht
 have HDV := hid hdv
 clear ht hdv
 obtain ⟨r, hr⟩ : ∃ r, r = opR t (changeT t nm fine f) := ⟨_, rfl⟩
 rw [← hr]
 have HR := hid hr
 clear hr
 go_enter Tryz.func79, Tryz.ntmps79
 go_wp2_with (first | go_big_skip | go_big_guard | (refine wl_boxA hst0 rfl rfl rfl ?_; intro g4 w1 hA0; clear hst0) | (refine wl_box hA0 rfl rfl rfl ?_; intro g5 _ hA1; clear hA0) | (refine wl_box hA1 rfl rfl rfl ?_; intro g6 _ hA2; clear hA1) | (refine wl_box hA2 rfl rfl rfl ?_; intro g7 _ hA3; clear hA2) | (refine wl_alloc hA3 rfl rfl ?_; intro gz _ hst; clear hA3) | (refine wl_loadE rfl rfl rfl ?_; refine ⟨_, Loads.atA (tabC t (.slice ar nr cr) (.slice al nl cl)) [_, _, _, _] hst rfl rfl, ?_⟩) | (go_at_call 54; refine (owned_any 119 #[.pointer (some ⟨g6, 0, none⟩), .pointer (some ⟨g5, 0, none⟩), .pointer (some ⟨g7, 0, none⟩)] (fun _ _ => rfl) t ar al nr cr nl cl xs _ (HT.out.old hst.nil) (changeT t nm fine f) (fun hk => change_does nm fine F caps f hF (DoesV.old hst.nil HDV.out) (hst.cell (g := g6) (off := 0) (.tail _ (.tail _ (.head _))) rfl) (hst.cell (g := g5) (off := 0) (.tail _ (.tail _ (.tail _ (.head _)))) rfl) (hst.cell (g := g7) (off := 0) (.tail _ (.head _)) rfl) hnm t hk)).mono ?_; rw [← HR.out]; rintro _ w9 ⟨rv9, lv9, xs9, rfl, hok9, h4⟩; have hst2 := St.call hst h4; clear h4 hst; obtain ⟨a9, c9, rfl, _, _⟩ := rowS [] hst2; obtain ⟨a8, c8, rfl, _, _⟩ := rowS [_] hst2; have HOK := hid hok9; clear hok9) | (refine wl_storeA (_ :: _ :: List.map rootH xs9) hst2 rfl rfl rfl rfl (vs := tabC r.2 (.slice a9 xs9.length c9) (.slice a8 r.2.lives.length c8)) rfl rfl rfl ?_; intro w7 hst3; clear hst2))
 have hl := Loads.atA (P := Tryz.prog) (off := 0) (T := 27) (tabC r.2 (.slice a9 xs9.length c9) (.slice a8 r.2.lives.length c8)) (_ :: _ :: List.map rootH xs9) hst3 rfl rfl
 refine bodyPost_ret (results_cellR rfl rfl rfl hl) rfl ?_
 exact ⟨_, _, xs9, rfl, HOK.out, St.sub hst3 (.cons_cons _ (.cons_cons _ (List.sublist_append_left _ _)))⟩
end Go.Proofs.YtifajcblbedcoaaGreat
namespace Go.Proofs.YtifajcblbedcoaaGreat
set_option linter.unusedVariables false
set_option linter.unusedSimpArgs false
open Go.RowKit Hp
attribute [local irreducible] Go.Calls Go.wpList
set_option maxRecDepth 100000
set_option maxHeartbeats 8000000
attribute [local go_sem ↓] heldInt heldInts heldRecs heldRec heldStr heldTab heldPtr heldFn
theorem bldNew (ao : Option Addr) (n c : Nat) : Tryz.prog.built 27 [(0, .int .i64 1), (3, .slice ao n c)] = some #[.int .i64 1, .slice none 0 0, .int .i64 0, .int .i64 0, .int .i64 0, .int .i64 0, .slice ao n c] := by kernel_rfl
theorem resize13_any (t : TC) (ar al : Option Addr) (nr cr nl cl : Nat) (xs : List (Value × RC)) (w : World) (ht : TabIn w t ar nr cr al nl cl xs) (nm : List UInt8) (size : Int) (hnm : nm.length ≤ 1000000) : Calls Tryz.prog 30 #[.agg (tabC t (.slice ar nr cr) (.slice al nl cl)).toArray, .string ⟨nm.toArray⟩, .int .i64 size] w (TabRet (opR t (resizeT t nm size)) w) := by
 have hst0 := St.refl w
 have HT := hid ht
 clear ht
 obtain ⟨r, hr⟩ : ∃ r, r = opR t (resizeT t nm size) := ⟨_, rfl⟩
 rw [← hr]
 have HR := hid (show r = opR t (changeT t nm (inB size 1 64) fun v => { v with size := size }) from hr)
 clear hr
 go_enter Tryz.func30, Tryz.ntmps30
 go_wp2_with (first | go_big_skip | go_big_guard | (refine wl_boxA hst0 rfl rfl rfl ?_; intro g3 w1 hA0; clear hst0) | (refine wl_box hA0 rfl rfl rfl ?_; intro g5 _ hA1; clear hA0) | (refine wl_alloc hA1 rfl rfl ?_; intro g6 _ hst; clear hA1))
 have hX := hst.drew
 clear hst
 refine wp_region_held_drew (S := (fun w' => (loadVarH 27 ⟨g3, 0, none⟩).run Tryz.prog w' = .ok (.agg (List.toArray ((tabC t (.slice ar nr cr) (.slice al nl cl))))) w' ∧ (loadVarH 3 ⟨g5, 0, none⟩).run Tryz.prog w' = .ok (.int .i64 size) w')) (by kernel_rfl) (by exact ⟨ldA ((tabC t (.slice ar nr cr) (.slice al nl cl))) [_, _] hX (rfl) (rfl), ldS [_] hX rfl⟩) (fun hHeld => ?_)
 refine tq 0 8 ?_
 refine tq 1 9 ?_
 refine tq 2 10 ?_
 refine wpAnyH_ready (rs := [3, 4]) (by kernel_rfl) (by simp) ?_
 refine (AllReadyH.cons (o := ⟨some 11, _, _, _, _, _⟩) rfl (fun K hK => ?_) (AllReadyH.cons (o := ⟨some 12, _, _, _, _, _⟩) rfl (fun K hK => ?_) AllReadyH.nil))
 ·rw [if_pos (by rfl)]
  go_simp
  go_at_call 63
  refine (sized_any size _).mono ?_
  rintro _ w5 ⟨rfl, h4⟩
  have hC1 := St.call0 hX h4
  clear h4
  refine hK.out _ _ ?_ (fun hHeld => ?_)
  ·exact ⟨ldA ((tabC t (.slice ar nr cr) (.slice al nl cl))) [_, _] hC1 (rfl) (rfl), ldS [_] hC1 rfl⟩
  clear hK K
  (try simp only [Act.put, List.setIfInBounds_toArray, List.set_cons_zero, List.set_cons_succ])
  refine wpAnyH_ready (rs := [4]) (by kernel_rfl) (by simp) ?_
  refine (AllReadyH.cons (o := ⟨some 12, _, _, _, _, _⟩) rfl (fun K hK => ?_) AllReadyH.nil)
  rw [if_pos (by rfl)]
  refine ow_of_wl (ops := #[]) (by rfl) ?_
  refine wl_mkFunc rfl rfl ?_
  refine q0_nil ?_
  refine hK.out _ _ ?_ (fun hHeld => ?_)
  ·exact ⟨ldA ((tabC t (.slice ar nr cr) (.slice al nl cl))) [_, _] hC1 (rfl) (rfl), ldS [_] hC1 rfl⟩
  clear hK K
  (try simp only [Act.put, List.setIfInBounds_toArray, List.set_cons_zero, List.set_cons_succ])
  refine wpAnyH_ready (rs := [5]) (by kernel_rfl) (by simp) ?_
  refine (AllReadyH.cons (o := ⟨some 13, _, _, _, _, _⟩) rfl (fun K hK => ?_) AllReadyH.nil)
  rw [if_pos (by rfl)]
  go_simp
  go_at_call 79
  refine (change13_any t ar al nr cr nl cl xs _ (HT.out.old hC1.nil) nm (inB size 1 64) 80 #[.pointer (some ⟨g5, 0, none⟩)] (fun v => { v with size := size }) (fun _ _ => rfl) (fun w2 h => resizeV size (St.old_cell h (hC1.cell (g := g5) (off := 0) (.tail _ (.head _)) rfl) (by simp))) hnm).mono ?_
  rw [← HR.out]
  rintro _ w9 ⟨rv9, lv9, xs9, rfl, hok9, h4⟩
  have h5 := St.call hC1 h4
  obtain ⟨a9, c9, rfl, _, _⟩ := rowS [] h5
  obtain ⟨a8, c8, rfl, _, _⟩ := rowS [_] h5
  have hD2 := St.perm h5 List.perm_append_comm
  have HOK := hid hok9
  clear hok9 h4 h5
  refine hK.out _ _ ?_ (fun hHeld => ?_)
  ·exact ⟨ldA ((tabC t (.slice ar nr cr) (.slice al nl cl))) [_, _] hD2 (rfl) (rfl), ldS [_] hD2 rfl⟩
  clear hK K
  (try simp only [Act.put, List.setIfInBounds_toArray, List.set_cons_zero, List.set_cons_succ])
  refine tq 6 14 ?_
  refine tq 7 15 ?_
  refine wpAnyH_ready (rs := [8]) (by kernel_rfl) (by simp) ?_
  refine (AllReadyH.cons (o := ⟨none, _, _, _, _, _⟩) rfl (fun K hK => ?_) AllReadyH.nil)
  rw [if_pos (by rfl)]
  refine ow_of_wl (ops := #[]) (by rfl) ?_
  refine wl_storeA [] hD2 rfl rfl rfl rfl (vs := tabC r.2 (.slice a9 xs9.length c9) (.slice a8 r.2.lives.length c8)) rfl rfl rfl ?_
  intro w7 hst3
  refine q0_nil ?_
  refine hK.out _ _ ?_ (fun hHeld => ?_)
  ·exact ⟨ldA ((tabC t (.slice ar nr cr) (.slice al nl cl))) [_, _] hst3 (rfl) (rfl), ldS [_] hst3 rfl⟩
  clear hK K
  (try simp only [Act.put, List.setIfInBounds_toArray, List.set_cons_zero, List.set_cons_succ])
  refine tq 9 7 ?_
  refine wpAnyH_done (by kernel_rfl) ?_ _
  clear hHeld
  go_wp2_with (first | go_big_skip | go_big_guard | fail)
  have hl := Loads.atA (P := Tryz.prog) (off := 0) (T := 27) (tabC r.2 (.slice a9 xs9.length c9) (.slice a8 r.2.lives.length c8)) [] hst3 rfl rfl
  refine bodyPost_ret (results_cellR rfl rfl rfl hl) rfl ?_
  exact ⟨_, _, xs9, rfl, HOK.out, St.sub hst3 (List.sublist_append_right [_, _, _] _)⟩
 ·rw [if_pos (by rfl)]
  refine ow_of_wl (ops := #[]) (by rfl) ?_
  refine wl_mkFunc rfl rfl ?_
  refine q0_nil ?_
  refine hK.out _ _ ?_ (fun hHeld => ?_)
  ·exact ⟨ldA ((tabC t (.slice ar nr cr) (.slice al nl cl))) [_, _] hX (rfl) (rfl), ldS [_] hX rfl⟩
  clear hK K
  (try simp only [Act.put, List.setIfInBounds_toArray, List.set_cons_zero, List.set_cons_succ])
  refine wpAnyH_ready (rs := [3]) (by kernel_rfl) (by simp) ?_
  refine (AllReadyH.cons (o := ⟨some 11, _, _, _, _, _⟩) rfl (fun K hK => ?_) AllReadyH.nil)
  rw [if_pos (by rfl)]
  go_simp
  go_at_call 63
  refine (sized_any size _).mono ?_
  rintro _ w5 ⟨rfl, h4⟩
  have hC3 := St.call0 hX h4
  clear h4
  refine hK.out _ _ ?_ (fun hHeld => ?_)
  ·exact ⟨ldA ((tabC t (.slice ar nr cr) (.slice al nl cl))) [_, _] hC3 (rfl) (rfl), ldS [_] hC3 rfl⟩
  clear hK K
  (try simp only [Act.put, List.setIfInBounds_toArray, List.set_cons_zero, List.set_cons_succ])
  refine wpAnyH_ready (rs := [5]) (by kernel_rfl) (by simp) ?_
  refine (AllReadyH.cons (o := ⟨some 13, _, _, _, _, _⟩) rfl (fun K hK => ?_) AllReadyH.nil)
  rw [if_pos (by rfl)]
  go_simp
  go_at_call 79
  refine (change13_any t ar al nr cr nl cl xs _ (HT.out.old hC3.nil) nm (inB size 1 64) 80 #[.pointer (some ⟨g5, 0, none⟩)] (fun v => { v with size := size }) (fun _ _ => rfl) (fun w2 h => resizeV size (St.old_cell h (hC3.cell (g := g5) (off := 0) (.tail _ (.head _)) rfl) (by simp))) hnm).mono ?_
  rw [← HR.out]
  rintro _ w9 ⟨rv9, lv9, xs9, rfl, hok9, h4⟩
  have h5 := St.call hC3 h4
  obtain ⟨a9, c9, rfl, _, _⟩ := rowS [] h5
  obtain ⟨a8, c8, rfl, _, _⟩ := rowS [_] h5
  have hD4 := St.perm h5 List.perm_append_comm
  have HOK := hid hok9
  clear hok9 h4 h5
  refine hK.out _ _ ?_ (fun hHeld => ?_)
  ·exact ⟨ldA ((tabC t (.slice ar nr cr) (.slice al nl cl))) [_, _] hD4 (rfl) (rfl), ldS [_] hD4 rfl⟩
  clear hK K
  (try simp only [Act.put, List.setIfInBounds_toArray, List.set_cons_zero, List.set_cons_succ])
  refine tq 6 14 ?_
  refine tq 7 15 ?_
  refine wpAnyH_ready (rs := [8]) (by kernel_rfl) (by simp) ?_
  refine (AllReadyH.cons (o := ⟨none, _, _, _, _, _⟩) rfl (fun K hK => ?_) AllReadyH.nil)
  rw [if_pos (by rfl)]
  refine ow_of_wl (ops := #[]) (by rfl) ?_
  refine wl_storeA [] hD4 rfl rfl rfl rfl (vs := tabC r.2 (.slice a9 xs9.length c9) (.slice a8 r.2.lives.length c8)) rfl rfl rfl ?_
  intro w7 hst3
  refine q0_nil ?_
  refine hK.out _ _ ?_ (fun hHeld => ?_)
  ·exact ⟨ldA ((tabC t (.slice ar nr cr) (.slice al nl cl))) [_, _] hst3 (rfl) (rfl), ldS [_] hst3 rfl⟩
  clear hK K
  (try simp only [Act.put, List.setIfInBounds_toArray, List.set_cons_zero, List.set_cons_succ])
  refine tq 9 7 ?_
  refine wpAnyH_done (by kernel_rfl) ?_ _
  clear hHeld
  go_wp2_with (first | go_big_skip | go_big_guard | fail)
  have hl := Loads.atA (P := Tryz.prog) (off := 0) (T := 27) (tabC r.2 (.slice a9 xs9.length c9) (.slice a8 r.2.lives.length c8)) [] hst3 rfl rfl
  refine bodyPost_ret (results_cellR rfl rfl rfl hl) rfl ?_
  exact ⟨_, _, xs9, rfl, HOK.out, St.sub hst3 (List.sublist_append_right [_, _, _] _)⟩
theorem limits13_any (t : TC) (ar al : Option Addr) (nr cr nl cl : Nat) (xs : List (Value × RC)) (w : World) (ht : TabIn w t ar nr cr al nl cl xs) (nm : List UInt8) (q z : Int) (hnm : nm.length ≤ 1000000) : Calls Tryz.prog 31 #[.agg (tabC t (.slice ar nr cr) (.slice al nl cl)).toArray, .string ⟨nm.toArray⟩, .int .i64 q, .int .i64 z] w (TabRet (opR t (limitT t nm q z)) w) := by
 have hst0 := St.refl w
 have HT := hid ht
 clear ht
 obtain ⟨r, hr⟩ : ∃ r, r = opR t (limitT t nm q z) := ⟨_, rfl⟩
 rw [← hr]
 cases hq : limB q
 ·have HL := hid hq
  have HR := hid (show r = opR t (changeT t nm false fun v => { v with quota := q, reserve := z }) by rw [hr]; unfold limitT; rw [hq]; rfl)
  clear hr hq
  go_enter Tryz.func31, Tryz.ntmps31
  go_wp2_with (first | go_big_skip | go_big_guard | (refine wl_boxA hst0 rfl rfl rfl ?_; intro g4 w1 hA0; clear hst0) | (refine wl_box hA0 rfl rfl rfl ?_; intro g6 _ hA1; clear hA0) | (refine wl_box hA1 rfl rfl rfl ?_; intro g7 _ hA2; clear hA1) | (refine wl_alloc hA2 rfl rfl ?_; intro g8 _ hst; clear hA2))
  have hX := hst.drew
  clear hst
  refine wp_region_held_drew (S := (fun w' => (loadVarH 27 ⟨g4, 0, none⟩).run Tryz.prog w' = .ok (.agg (List.toArray ((tabC t (.slice ar nr cr) (.slice al nl cl))))) w' ∧ (loadVarH 3 ⟨g6, 0, none⟩).run Tryz.prog w' = .ok (.int .i64 q) w' ∧ (loadVarH 3 ⟨g7, 0, none⟩).run Tryz.prog w' = .ok (.int .i64 z) w')) (by kernel_rfl) (by exact ⟨ldA ((tabC t (.slice ar nr cr) (.slice al nl cl))) [_, _, _] hX (rfl) (rfl), ldS [_, _] hX rfl, ldS [_] hX rfl⟩) (fun hHeld => ?_)
  refine tq 0 10 ?_
  refine tq 1 11 ?_
  refine tq 2 12 ?_
  refine wpAnyH_ready (rs := [3, 8]) (by kernel_rfl) (by simp) ?_
  refine (AllReadyH.cons (o := ⟨some 13, _, _, _, _, _⟩) rfl (fun K hK => ?_) (AllReadyH.cons (o := ⟨some 18, _, _, _, _, _⟩) rfl (fun K hK => ?_) AllReadyH.nil))
  ·rw [if_pos (by rfl)]
   go_simp
   go_at_call 81
   refine (limit13_any q _).mono ?_
   rw [HL.out]
   rintro _ w5 ⟨rfl, h4⟩
   have hC5 := St.call0 hX h4
   clear h4
   refine hK.out _ _ ?_ (fun hHeld => ?_)
   ·exact ⟨ldA ((tabC t (.slice ar nr cr) (.slice al nl cl))) [_, _, _] hC5 (rfl) (rfl), ldS [_, _] hC5 rfl, ldS [_] hC5 rfl⟩
   clear hK K
   (try simp only [Act.put, List.setIfInBounds_toArray, List.set_cons_zero, List.set_cons_succ])
   refine tq 4 14 ?_
   refine tu 5 15 ?_
   refine wpAnyH_ready (rs := [6, 8]) (by kernel_rfl) (by simp) ?_
   refine (AllReadyH.cons (o := ⟨some 16, _, _, _, _, _⟩) rfl (fun K hK => ?_) (AllReadyH.cons (o := ⟨some 18, _, _, _, _, _⟩) rfl (fun K hK => ?_) AllReadyH.nil))
   ·rw [if_neg (by rw [show Region.wanted _ _ = false from rfl]; exact Bool.false_ne_true)]
    refine hK.out _ _ ?_ (fun hHeld => ?_)
    ·exact ⟨ldA ((tabC t (.slice ar nr cr) (.slice al nl cl))) [_, _, _] hC5 (rfl) (rfl), ldS [_, _] hC5 rfl, ldS [_] hC5 rfl⟩
    clear hK K
    (try simp only [Act.put, List.setIfInBounds_toArray, List.set_cons_zero, List.set_cons_succ])
    refine tq 7 17 ?_
    refine wpAnyH_ready (rs := [8]) (by kernel_rfl) (by simp) ?_
    refine (AllReadyH.cons (o := ⟨some 18, _, _, _, _, _⟩) rfl (fun K hK => ?_) AllReadyH.nil)
    rw [if_pos (by rfl)]
    refine ow_of_wl (ops := #[]) (by rfl) ?_
    refine wl_mkFunc rfl rfl ?_
    refine q0_nil ?_
    refine hK.out _ _ ?_ (fun hHeld => ?_)
    ·exact ⟨ldA ((tabC t (.slice ar nr cr) (.slice al nl cl))) [_, _, _] hC5 (rfl) (rfl), ldS [_, _] hC5 rfl, ldS [_] hC5 rfl⟩
    clear hK K
    (try simp only [Act.put, List.setIfInBounds_toArray, List.set_cons_zero, List.set_cons_succ])
    refine wpAnyH_ready (rs := [9]) (by kernel_rfl) (by simp) ?_
    refine (AllReadyH.cons (o := ⟨some 19, _, _, _, _, _⟩) rfl (fun K hK => ?_) AllReadyH.nil)
    rw [if_pos (by rfl)]
    go_simp
    go_at_call 79
    refine (change13_any t ar al nr cr nl cl xs _ (HT.out.old hC5.nil) nm (false) 82 #[.pointer (some ⟨g6, 0, none⟩), .pointer (some ⟨g7, 0, none⟩)] (fun v => { v with quota := q, reserve := z }) (fun _ _ => rfl) (fun w2 h => limitV q z (St.old_cell h (hC5.cell (g := g6) (off := 0) (.tail _ (.tail _ (.head _))) rfl) (by simp)) (St.old_cell h (hC5.cell (g := g7) (off := 0) (.tail _ (.head _)) rfl) (by simp))) hnm).mono ?_
    rw [← HR.out]
    rintro _ w9 ⟨rv9, lv9, xs9, rfl, hok9, h4⟩
    have h5 := St.call hC5 h4
    obtain ⟨a9, c9, rfl, _, _⟩ := rowS [] h5
    obtain ⟨a8, c8, rfl, _, _⟩ := rowS [_] h5
    have hD6 := St.perm h5 List.perm_append_comm
    have HOK := hid hok9
    clear hok9 h4 h5
    refine hK.out _ _ ?_ (fun hHeld => ?_)
    ·exact ⟨ldA ((tabC t (.slice ar nr cr) (.slice al nl cl))) [_, _, _] hD6 (rfl) (rfl), ldS [_, _] hD6 rfl, ldS [_] hD6 rfl⟩
    clear hK K
    (try simp only [Act.put, List.setIfInBounds_toArray, List.set_cons_zero, List.set_cons_succ])
    refine tq 10 20 ?_
    refine tq 11 21 ?_
    refine wpAnyH_ready (rs := [12]) (by kernel_rfl) (by simp) ?_
    refine (AllReadyH.cons (o := ⟨none, _, _, _, _, _⟩) rfl (fun K hK => ?_) AllReadyH.nil)
    rw [if_pos (by rfl)]
    refine ow_of_wl (ops := #[]) (by rfl) ?_
    refine wl_storeA [] hD6 rfl rfl rfl rfl (vs := tabC r.2 (.slice a9 xs9.length c9) (.slice a8 r.2.lives.length c8)) rfl rfl rfl ?_
    intro w7 hst3
    refine q0_nil ?_
    refine hK.out _ _ ?_ (fun hHeld => ?_)
    ·exact ⟨ldA ((tabC t (.slice ar nr cr) (.slice al nl cl))) [_, _, _] hst3 (rfl) (rfl), ldS [_, _] hst3 rfl, ldS [_] hst3 rfl⟩
    clear hK K
    (try simp only [Act.put, List.setIfInBounds_toArray, List.set_cons_zero, List.set_cons_succ])
    refine tq 13 9 ?_
    refine wpAnyH_done (by kernel_rfl) ?_ _
    clear hHeld
    go_wp2_with (first | go_big_skip | go_big_guard | fail)
    have hl := Loads.atA (P := Tryz.prog) (off := 0) (T := 27) (tabC r.2 (.slice a9 xs9.length c9) (.slice a8 r.2.lives.length c8)) [] hst3 rfl rfl
    refine bodyPost_ret (results_cellR rfl rfl rfl hl) rfl ?_
    exact ⟨_, _, xs9, rfl, HOK.out, St.sub hst3 (List.sublist_append_right [_, _, _, _] _)⟩
   ·rw [if_pos (by rfl)]
    refine ow_of_wl (ops := #[]) (by rfl) ?_
    refine wl_mkFunc rfl rfl ?_
    refine q0_nil ?_
    refine hK.out _ _ ?_ (fun hHeld => ?_)
    ·exact ⟨ldA ((tabC t (.slice ar nr cr) (.slice al nl cl))) [_, _, _] hC5 (rfl) (rfl), ldS [_, _] hC5 rfl, ldS [_] hC5 rfl⟩
    clear hK K
    (try simp only [Act.put, List.setIfInBounds_toArray, List.set_cons_zero, List.set_cons_succ])
    refine wpAnyH_ready (rs := [6]) (by kernel_rfl) (by simp) ?_
    refine (AllReadyH.cons (o := ⟨some 16, _, _, _, _, _⟩) rfl (fun K hK => ?_) AllReadyH.nil)
    rw [if_neg (by rw [show Region.wanted _ _ = false from rfl]; exact Bool.false_ne_true)]
    refine hK.out _ _ ?_ (fun hHeld => ?_)
    ·exact ⟨ldA ((tabC t (.slice ar nr cr) (.slice al nl cl))) [_, _, _] hC5 (rfl) (rfl), ldS [_, _] hC5 rfl, ldS [_] hC5 rfl⟩
    clear hK K
    (try simp only [Act.put, List.setIfInBounds_toArray, List.set_cons_zero, List.set_cons_succ])
    refine tq 7 17 ?_
    refine wpAnyH_ready (rs := [9]) (by kernel_rfl) (by simp) ?_
    refine (AllReadyH.cons (o := ⟨some 19, _, _, _, _, _⟩) rfl (fun K hK => ?_) AllReadyH.nil)
    rw [if_pos (by rfl)]
    go_simp
    go_at_call 79
    refine (change13_any t ar al nr cr nl cl xs _ (HT.out.old hC5.nil) nm (false) 82 #[.pointer (some ⟨g6, 0, none⟩), .pointer (some ⟨g7, 0, none⟩)] (fun v => { v with quota := q, reserve := z }) (fun _ _ => rfl) (fun w2 h => limitV q z (St.old_cell h (hC5.cell (g := g6) (off := 0) (.tail _ (.tail _ (.head _))) rfl) (by simp)) (St.old_cell h (hC5.cell (g := g7) (off := 0) (.tail _ (.head _)) rfl) (by simp))) hnm).mono ?_
    rw [← HR.out]
    rintro _ w9 ⟨rv9, lv9, xs9, rfl, hok9, h4⟩
    have h5 := St.call hC5 h4
    obtain ⟨a9, c9, rfl, _, _⟩ := rowS [] h5
    obtain ⟨a8, c8, rfl, _, _⟩ := rowS [_] h5
    have hD7 := St.perm h5 List.perm_append_comm
    have HOK := hid hok9
    clear hok9 h4 h5
    refine hK.out _ _ ?_ (fun hHeld => ?_)
    ·exact ⟨ldA ((tabC t (.slice ar nr cr) (.slice al nl cl))) [_, _, _] hD7 (rfl) (rfl), ldS [_, _] hD7 rfl, ldS [_] hD7 rfl⟩
    clear hK K
    (try simp only [Act.put, List.setIfInBounds_toArray, List.set_cons_zero, List.set_cons_succ])
    refine tq 10 20 ?_
    refine tq 11 21 ?_
    refine wpAnyH_ready (rs := [12]) (by kernel_rfl) (by simp) ?_
    refine (AllReadyH.cons (o := ⟨none, _, _, _, _, _⟩) rfl (fun K hK => ?_) AllReadyH.nil)
    rw [if_pos (by rfl)]
    refine ow_of_wl (ops := #[]) (by rfl) ?_
    refine wl_storeA [] hD7 rfl rfl rfl rfl (vs := tabC r.2 (.slice a9 xs9.length c9) (.slice a8 r.2.lives.length c8)) rfl rfl rfl ?_
    intro w7 hst3
    refine q0_nil ?_
    refine hK.out _ _ ?_ (fun hHeld => ?_)
    ·exact ⟨ldA ((tabC t (.slice ar nr cr) (.slice al nl cl))) [_, _, _] hst3 (rfl) (rfl), ldS [_, _] hst3 rfl, ldS [_] hst3 rfl⟩
    clear hK K
    (try simp only [Act.put, List.setIfInBounds_toArray, List.set_cons_zero, List.set_cons_succ])
    refine tq 13 9 ?_
    refine wpAnyH_done (by kernel_rfl) ?_ _
    clear hHeld
    go_wp2_with (first | go_big_skip | go_big_guard | fail)
    have hl := Loads.atA (P := Tryz.prog) (off := 0) (T := 27) (tabC r.2 (.slice a9 xs9.length c9) (.slice a8 r.2.lives.length c8)) [] hst3 rfl rfl
    refine bodyPost_ret (results_cellR rfl rfl rfl hl) rfl ?_
    exact ⟨_, _, xs9, rfl, HOK.out, St.sub hst3 (List.sublist_append_right [_, _, _, _] _)⟩
  ·rw [if_pos (by rfl)]
   refine ow_of_wl (ops := #[]) (by rfl) ?_
   refine wl_mkFunc rfl rfl ?_
   refine q0_nil ?_
   refine hK.out _ _ ?_ (fun hHeld => ?_)
   ·exact ⟨ldA ((tabC t (.slice ar nr cr) (.slice al nl cl))) [_, _, _] hX (rfl) (rfl), ldS [_, _] hX rfl, ldS [_] hX rfl⟩
   clear hK K
   (try simp only [Act.put, List.setIfInBounds_toArray, List.set_cons_zero, List.set_cons_succ])
   refine wpAnyH_ready (rs := [3]) (by kernel_rfl) (by simp) ?_
   refine (AllReadyH.cons (o := ⟨some 13, _, _, _, _, _⟩) rfl (fun K hK => ?_) AllReadyH.nil)
   rw [if_pos (by rfl)]
   go_simp
   go_at_call 81
   refine (limit13_any q _).mono ?_
   rw [HL.out]
   rintro _ w5 ⟨rfl, h4⟩
   have hC8 := St.call0 hX h4
   clear h4
   refine hK.out _ _ ?_ (fun hHeld => ?_)
   ·exact ⟨ldA ((tabC t (.slice ar nr cr) (.slice al nl cl))) [_, _, _] hC8 (rfl) (rfl), ldS [_, _] hC8 rfl, ldS [_] hC8 rfl⟩
   clear hK K
   (try simp only [Act.put, List.setIfInBounds_toArray, List.set_cons_zero, List.set_cons_succ])
   refine tq 4 14 ?_
   refine tu 5 15 ?_
   refine wpAnyH_ready (rs := [6]) (by kernel_rfl) (by simp) ?_
   refine (AllReadyH.cons (o := ⟨some 16, _, _, _, _, _⟩) rfl (fun K hK => ?_) AllReadyH.nil)
   rw [if_neg (by rw [show Region.wanted _ _ = false from rfl]; exact Bool.false_ne_true)]
   refine hK.out _ _ ?_ (fun hHeld => ?_)
   ·exact ⟨ldA ((tabC t (.slice ar nr cr) (.slice al nl cl))) [_, _, _] hC8 (rfl) (rfl), ldS [_, _] hC8 rfl, ldS [_] hC8 rfl⟩
   clear hK K
   (try simp only [Act.put, List.setIfInBounds_toArray, List.set_cons_zero, List.set_cons_succ])
   refine tq 7 17 ?_
   refine wpAnyH_ready (rs := [9]) (by kernel_rfl) (by simp) ?_
   refine (AllReadyH.cons (o := ⟨some 19, _, _, _, _, _⟩) rfl (fun K hK => ?_) AllReadyH.nil)
   rw [if_pos (by rfl)]
   go_simp
   go_at_call 79
   refine (change13_any t ar al nr cr nl cl xs _ (HT.out.old hC8.nil) nm (false) 82 #[.pointer (some ⟨g6, 0, none⟩), .pointer (some ⟨g7, 0, none⟩)] (fun v => { v with quota := q, reserve := z }) (fun _ _ => rfl) (fun w2 h => limitV q z (St.old_cell h (hC8.cell (g := g6) (off := 0) (.tail _ (.tail _ (.head _))) rfl) (by simp)) (St.old_cell h (hC8.cell (g := g7) (off := 0) (.tail _ (.head _)) rfl) (by simp))) hnm).mono ?_
   rw [← HR.out]
   rintro _ w9 ⟨rv9, lv9, xs9, rfl, hok9, h4⟩
   have h5 := St.call hC8 h4
   obtain ⟨a9, c9, rfl, _, _⟩ := rowS [] h5
   obtain ⟨a8, c8, rfl, _, _⟩ := rowS [_] h5
   have hD9 := St.perm h5 List.perm_append_comm
   have HOK := hid hok9
   clear hok9 h4 h5
   refine hK.out _ _ ?_ (fun hHeld => ?_)
   ·exact ⟨ldA ((tabC t (.slice ar nr cr) (.slice al nl cl))) [_, _, _] hD9 (rfl) (rfl), ldS [_, _] hD9 rfl, ldS [_] hD9 rfl⟩
   clear hK K
   (try simp only [Act.put, List.setIfInBounds_toArray, List.set_cons_zero, List.set_cons_succ])
   refine tq 10 20 ?_
   refine tq 11 21 ?_
   refine wpAnyH_ready (rs := [12]) (by kernel_rfl) (by simp) ?_
   refine (AllReadyH.cons (o := ⟨none, _, _, _, _, _⟩) rfl (fun K hK => ?_) AllReadyH.nil)
   rw [if_pos (by rfl)]
   refine ow_of_wl (ops := #[]) (by rfl) ?_
   refine wl_storeA [] hD9 rfl rfl rfl rfl (vs := tabC r.2 (.slice a9 xs9.length c9) (.slice a8 r.2.lives.length c8)) rfl rfl rfl ?_
   intro w7 hst3
   refine q0_nil ?_
   refine hK.out _ _ ?_ (fun hHeld => ?_)
   ·exact ⟨ldA ((tabC t (.slice ar nr cr) (.slice al nl cl))) [_, _, _] hst3 (rfl) (rfl), ldS [_, _] hst3 rfl, ldS [_] hst3 rfl⟩
   clear hK K
   (try simp only [Act.put, List.setIfInBounds_toArray, List.set_cons_zero, List.set_cons_succ])
   refine tq 13 9 ?_
   refine wpAnyH_done (by kernel_rfl) ?_ _
   clear hHeld
   go_wp2_with (first | go_big_skip | go_big_guard | fail)
   have hl := Loads.atA (P := Tryz.prog) (off := 0) (T := 27) (tabC r.2 (.slice a9 xs9.length c9) (.slice a8 r.2.lives.length c8)) [] hst3 rfl rfl
   refine bodyPost_ret (results_cellR rfl rfl rfl hl) rfl ?_
   exact ⟨_, _, xs9, rfl, HOK.out, St.sub hst3 (List.sublist_append_right [_, _, _, _] _)⟩
 ·have HL := hid hq
  have HR := hid (show r = opR t (changeT t nm (limB z) fun v => { v with quota := q, reserve := z }) by rw [hr]; unfold limitT; rw [hq]; rfl)
  clear hr hq
  go_enter Tryz.func31, Tryz.ntmps31
  go_wp2_with (first | go_big_skip | go_big_guard | (refine wl_boxA hst0 rfl rfl rfl ?_; intro g4 w1 hA0; clear hst0) | (refine wl_box hA0 rfl rfl rfl ?_; intro g6 _ hA1; clear hA0) | (refine wl_box hA1 rfl rfl rfl ?_; intro g7 _ hA2; clear hA1) | (refine wl_alloc hA2 rfl rfl ?_; intro g8 _ hst; clear hA2))
  have hX := hst.drew
  clear hst
  refine wp_region_held_drew (S := (fun w' => (loadVarH 27 ⟨g4, 0, none⟩).run Tryz.prog w' = .ok (.agg (List.toArray ((tabC t (.slice ar nr cr) (.slice al nl cl))))) w' ∧ (loadVarH 3 ⟨g6, 0, none⟩).run Tryz.prog w' = .ok (.int .i64 q) w' ∧ (loadVarH 3 ⟨g7, 0, none⟩).run Tryz.prog w' = .ok (.int .i64 z) w')) (by kernel_rfl) (by exact ⟨ldA ((tabC t (.slice ar nr cr) (.slice al nl cl))) [_, _, _] hX (rfl) (rfl), ldS [_, _] hX rfl, ldS [_] hX rfl⟩) (fun hHeld => ?_)
  refine tq 0 10 ?_
  refine tq 1 11 ?_
  refine tq 2 12 ?_
  refine wpAnyH_ready (rs := [3, 8]) (by kernel_rfl) (by simp) ?_
  refine (AllReadyH.cons (o := ⟨some 13, _, _, _, _, _⟩) rfl (fun K hK => ?_) (AllReadyH.cons (o := ⟨some 18, _, _, _, _, _⟩) rfl (fun K hK => ?_) AllReadyH.nil))
  ·rw [if_pos (by rfl)]
   go_simp
   go_at_call 81
   refine (limit13_any q _).mono ?_
   rw [HL.out]
   rintro _ w5 ⟨rfl, h4⟩
   have hC10 := St.call0 hX h4
   clear h4
   refine hK.out _ _ ?_ (fun hHeld => ?_)
   ·exact ⟨ldA ((tabC t (.slice ar nr cr) (.slice al nl cl))) [_, _, _] hC10 (rfl) (rfl), ldS [_, _] hC10 rfl, ldS [_] hC10 rfl⟩
   clear hK K
   (try simp only [Act.put, List.setIfInBounds_toArray, List.set_cons_zero, List.set_cons_succ])
   refine tq 4 14 ?_
   refine tq 5 15 ?_
   refine wpAnyH_ready (rs := [6, 8]) (by kernel_rfl) (by simp) ?_
   refine (AllReadyH.cons (o := ⟨some 16, _, _, _, _, _⟩) rfl (fun K hK => ?_) (AllReadyH.cons (o := ⟨some 18, _, _, _, _, _⟩) rfl (fun K hK => ?_) AllReadyH.nil))
   ·rw [if_pos (by rfl)]
    go_simp
    go_at_call 81
    refine (limit13_any z _).mono ?_
    rintro _ w5 ⟨rfl, h4⟩
    have hC11 := St.call0 hC10 h4
    clear h4
    refine hK.out _ _ ?_ (fun hHeld => ?_)
    ·exact ⟨ldA ((tabC t (.slice ar nr cr) (.slice al nl cl))) [_, _, _] hC11 (rfl) (rfl), ldS [_, _] hC11 rfl, ldS [_] hC11 rfl⟩
    clear hK K
    (try simp only [Act.put, List.setIfInBounds_toArray, List.set_cons_zero, List.set_cons_succ])
    refine tq 7 17 ?_
    refine wpAnyH_ready (rs := [8]) (by kernel_rfl) (by simp) ?_
    refine (AllReadyH.cons (o := ⟨some 18, _, _, _, _, _⟩) rfl (fun K hK => ?_) AllReadyH.nil)
    rw [if_pos (by rfl)]
    refine ow_of_wl (ops := #[]) (by rfl) ?_
    refine wl_mkFunc rfl rfl ?_
    refine q0_nil ?_
    refine hK.out _ _ ?_ (fun hHeld => ?_)
    ·exact ⟨ldA ((tabC t (.slice ar nr cr) (.slice al nl cl))) [_, _, _] hC11 (rfl) (rfl), ldS [_, _] hC11 rfl, ldS [_] hC11 rfl⟩
    clear hK K
    (try simp only [Act.put, List.setIfInBounds_toArray, List.set_cons_zero, List.set_cons_succ])
    refine wpAnyH_ready (rs := [9]) (by kernel_rfl) (by simp) ?_
    refine (AllReadyH.cons (o := ⟨some 19, _, _, _, _, _⟩) rfl (fun K hK => ?_) AllReadyH.nil)
    rw [if_pos (by rfl)]
    go_simp
    go_at_call 79
    refine (change13_any t ar al nr cr nl cl xs _ (HT.out.old hC11.nil) nm (limB z) 82 #[.pointer (some ⟨g6, 0, none⟩), .pointer (some ⟨g7, 0, none⟩)] (fun v => { v with quota := q, reserve := z }) (fun _ _ => rfl) (fun w2 h => limitV q z (St.old_cell h (hC11.cell (g := g6) (off := 0) (.tail _ (.tail _ (.head _))) rfl) (by simp)) (St.old_cell h (hC11.cell (g := g7) (off := 0) (.tail _ (.head _)) rfl) (by simp))) hnm).mono ?_
    rw [← HR.out]
    rintro _ w9 ⟨rv9, lv9, xs9, rfl, hok9, h4⟩
    have h5 := St.call hC11 h4
    obtain ⟨a9, c9, rfl, _, _⟩ := rowS [] h5
    obtain ⟨a8, c8, rfl, _, _⟩ := rowS [_] h5
    have hD12 := St.perm h5 List.perm_append_comm
    have HOK := hid hok9
    clear hok9 h4 h5
    refine hK.out _ _ ?_ (fun hHeld => ?_)
    ·exact ⟨ldA ((tabC t (.slice ar nr cr) (.slice al nl cl))) [_, _, _] hD12 (rfl) (rfl), ldS [_, _] hD12 rfl, ldS [_] hD12 rfl⟩
    clear hK K
    (try simp only [Act.put, List.setIfInBounds_toArray, List.set_cons_zero, List.set_cons_succ])
    refine tq 10 20 ?_
    refine tq 11 21 ?_
    refine wpAnyH_ready (rs := [12]) (by kernel_rfl) (by simp) ?_
    refine (AllReadyH.cons (o := ⟨none, _, _, _, _, _⟩) rfl (fun K hK => ?_) AllReadyH.nil)
    rw [if_pos (by rfl)]
    refine ow_of_wl (ops := #[]) (by rfl) ?_
    refine wl_storeA [] hD12 rfl rfl rfl rfl (vs := tabC r.2 (.slice a9 xs9.length c9) (.slice a8 r.2.lives.length c8)) rfl rfl rfl ?_
    intro w7 hst3
    refine q0_nil ?_
    refine hK.out _ _ ?_ (fun hHeld => ?_)
    ·exact ⟨ldA ((tabC t (.slice ar nr cr) (.slice al nl cl))) [_, _, _] hst3 (rfl) (rfl), ldS [_, _] hst3 rfl, ldS [_] hst3 rfl⟩
    clear hK K
    (try simp only [Act.put, List.setIfInBounds_toArray, List.set_cons_zero, List.set_cons_succ])
    refine tq 13 9 ?_
    refine wpAnyH_done (by kernel_rfl) ?_ _
    clear hHeld
    go_wp2_with (first | go_big_skip | go_big_guard | fail)
    have hl := Loads.atA (P := Tryz.prog) (off := 0) (T := 27) (tabC r.2 (.slice a9 xs9.length c9) (.slice a8 r.2.lives.length c8)) [] hst3 rfl rfl
    refine bodyPost_ret (results_cellR rfl rfl rfl hl) rfl ?_
    exact ⟨_, _, xs9, rfl, HOK.out, St.sub hst3 (List.sublist_append_right [_, _, _, _] _)⟩
   ·rw [if_pos (by rfl)]
    refine ow_of_wl (ops := #[]) (by rfl) ?_
    refine wl_mkFunc rfl rfl ?_
    refine q0_nil ?_
    refine hK.out _ _ ?_ (fun hHeld => ?_)
    ·exact ⟨ldA ((tabC t (.slice ar nr cr) (.slice al nl cl))) [_, _, _] hC10 (rfl) (rfl), ldS [_, _] hC10 rfl, ldS [_] hC10 rfl⟩
    clear hK K
    (try simp only [Act.put, List.setIfInBounds_toArray, List.set_cons_zero, List.set_cons_succ])
    refine wpAnyH_ready (rs := [6]) (by kernel_rfl) (by simp) ?_
    refine (AllReadyH.cons (o := ⟨some 16, _, _, _, _, _⟩) rfl (fun K hK => ?_) AllReadyH.nil)
    rw [if_pos (by rfl)]
    go_simp
    go_at_call 81
    refine (limit13_any z _).mono ?_
    rintro _ w5 ⟨rfl, h4⟩
    have hC13 := St.call0 hC10 h4
    clear h4
    refine hK.out _ _ ?_ (fun hHeld => ?_)
    ·exact ⟨ldA ((tabC t (.slice ar nr cr) (.slice al nl cl))) [_, _, _] hC13 (rfl) (rfl), ldS [_, _] hC13 rfl, ldS [_] hC13 rfl⟩
    clear hK K
    (try simp only [Act.put, List.setIfInBounds_toArray, List.set_cons_zero, List.set_cons_succ])
    refine tq 7 17 ?_
    refine wpAnyH_ready (rs := [9]) (by kernel_rfl) (by simp) ?_
    refine (AllReadyH.cons (o := ⟨some 19, _, _, _, _, _⟩) rfl (fun K hK => ?_) AllReadyH.nil)
    rw [if_pos (by rfl)]
    go_simp
    go_at_call 79
    refine (change13_any t ar al nr cr nl cl xs _ (HT.out.old hC13.nil) nm (limB z) 82 #[.pointer (some ⟨g6, 0, none⟩), .pointer (some ⟨g7, 0, none⟩)] (fun v => { v with quota := q, reserve := z }) (fun _ _ => rfl) (fun w2 h => limitV q z (St.old_cell h (hC13.cell (g := g6) (off := 0) (.tail _ (.tail _ (.head _))) rfl) (by simp)) (St.old_cell h (hC13.cell (g := g7) (off := 0) (.tail _ (.head _)) rfl) (by simp))) hnm).mono ?_
    rw [← HR.out]
    rintro _ w9 ⟨rv9, lv9, xs9, rfl, hok9, h4⟩
    have h5 := St.call hC13 h4
    obtain ⟨a9, c9, rfl, _, _⟩ := rowS [] h5
    obtain ⟨a8, c8, rfl, _, _⟩ := rowS [_] h5
    have hD14 := St.perm h5 List.perm_append_comm
    have HOK := hid hok9
    clear hok9 h4 h5
    refine hK.out _ _ ?_ (fun hHeld => ?_)
    ·exact ⟨ldA ((tabC t (.slice ar nr cr) (.slice al nl cl))) [_, _, _] hD14 (rfl) (rfl), ldS [_, _] hD14 rfl, ldS [_] hD14 rfl⟩
    clear hK K
    (try simp only [Act.put, List.setIfInBounds_toArray, List.set_cons_zero, List.set_cons_succ])
    refine tq 10 20 ?_
    refine tq 11 21 ?_
    refine wpAnyH_ready (rs := [12]) (by kernel_rfl) (by simp) ?_
    refine (AllReadyH.cons (o := ⟨none, _, _, _, _, _⟩) rfl (fun K hK => ?_) AllReadyH.nil)
    rw [if_pos (by rfl)]
    refine ow_of_wl (ops := #[]) (by rfl) ?_
    refine wl_storeA [] hD14 rfl rfl rfl rfl (vs := tabC r.2 (.slice a9 xs9.length c9) (.slice a8 r.2.lives.length c8)) rfl rfl rfl ?_
    intro w7 hst3
    refine q0_nil ?_
    refine hK.out _ _ ?_ (fun hHeld => ?_)
    ·exact ⟨ldA ((tabC t (.slice ar nr cr) (.slice al nl cl))) [_, _, _] hst3 (rfl) (rfl), ldS [_, _] hst3 rfl, ldS [_] hst3 rfl⟩
    clear hK K
    (try simp only [Act.put, List.setIfInBounds_toArray, List.set_cons_zero, List.set_cons_succ])
    refine tq 13 9 ?_
    refine wpAnyH_done (by kernel_rfl) ?_ _
    clear hHeld
    go_wp2_with (first | go_big_skip | go_big_guard | fail)
    have hl := Loads.atA (P := Tryz.prog) (off := 0) (T := 27) (tabC r.2 (.slice a9 xs9.length c9) (.slice a8 r.2.lives.length c8)) [] hst3 rfl rfl
    refine bodyPost_ret (results_cellR rfl rfl rfl hl) rfl ?_
    exact ⟨_, _, xs9, rfl, HOK.out, St.sub hst3 (List.sublist_append_right [_, _, _, _] _)⟩
  ·rw [if_pos (by rfl)]
   refine ow_of_wl (ops := #[]) (by rfl) ?_
   refine wl_mkFunc rfl rfl ?_
   refine q0_nil ?_
   refine hK.out _ _ ?_ (fun hHeld => ?_)
   ·exact ⟨ldA ((tabC t (.slice ar nr cr) (.slice al nl cl))) [_, _, _] hX (rfl) (rfl), ldS [_, _] hX rfl, ldS [_] hX rfl⟩
   clear hK K
   (try simp only [Act.put, List.setIfInBounds_toArray, List.set_cons_zero, List.set_cons_succ])
   refine wpAnyH_ready (rs := [3]) (by kernel_rfl) (by simp) ?_
   refine (AllReadyH.cons (o := ⟨some 13, _, _, _, _, _⟩) rfl (fun K hK => ?_) AllReadyH.nil)
   rw [if_pos (by rfl)]
   go_simp
   go_at_call 81
   refine (limit13_any q _).mono ?_
   rw [HL.out]
   rintro _ w5 ⟨rfl, h4⟩
   have hC15 := St.call0 hX h4
   clear h4
   refine hK.out _ _ ?_ (fun hHeld => ?_)
   ·exact ⟨ldA ((tabC t (.slice ar nr cr) (.slice al nl cl))) [_, _, _] hC15 (rfl) (rfl), ldS [_, _] hC15 rfl, ldS [_] hC15 rfl⟩
   clear hK K
   (try simp only [Act.put, List.setIfInBounds_toArray, List.set_cons_zero, List.set_cons_succ])
   refine tq 4 14 ?_
   refine tq 5 15 ?_
   refine wpAnyH_ready (rs := [6]) (by kernel_rfl) (by simp) ?_
   refine (AllReadyH.cons (o := ⟨some 16, _, _, _, _, _⟩) rfl (fun K hK => ?_) AllReadyH.nil)
   rw [if_pos (by rfl)]
   go_simp
   go_at_call 81
   refine (limit13_any z _).mono ?_
   rintro _ w5 ⟨rfl, h4⟩
   have hC16 := St.call0 hC15 h4
   clear h4
   refine hK.out _ _ ?_ (fun hHeld => ?_)
   ·exact ⟨ldA ((tabC t (.slice ar nr cr) (.slice al nl cl))) [_, _, _] hC16 (rfl) (rfl), ldS [_, _] hC16 rfl, ldS [_] hC16 rfl⟩
   clear hK K
   (try simp only [Act.put, List.setIfInBounds_toArray, List.set_cons_zero, List.set_cons_succ])
   refine tq 7 17 ?_
   refine wpAnyH_ready (rs := [9]) (by kernel_rfl) (by simp) ?_
   refine (AllReadyH.cons (o := ⟨some 19, _, _, _, _, _⟩) rfl (fun K hK => ?_) AllReadyH.nil)
   rw [if_pos (by rfl)]
   go_simp
   go_at_call 79
   refine (change13_any t ar al nr cr nl cl xs _ (HT.out.old hC16.nil) nm (limB z) 82 #[.pointer (some ⟨g6, 0, none⟩), .pointer (some ⟨g7, 0, none⟩)] (fun v => { v with quota := q, reserve := z }) (fun _ _ => rfl) (fun w2 h => limitV q z (St.old_cell h (hC16.cell (g := g6) (off := 0) (.tail _ (.tail _ (.head _))) rfl) (by simp)) (St.old_cell h (hC16.cell (g := g7) (off := 0) (.tail _ (.head _)) rfl) (by simp))) hnm).mono ?_
   rw [← HR.out]
   rintro _ w9 ⟨rv9, lv9, xs9, rfl, hok9, h4⟩
   have h5 := St.call hC16 h4
   obtain ⟨a9, c9, rfl, _, _⟩ := rowS [] h5
   obtain ⟨a8, c8, rfl, _, _⟩ := rowS [_] h5
   have hD17 := St.perm h5 List.perm_append_comm
   have HOK := hid hok9
   clear hok9 h4 h5
   refine hK.out _ _ ?_ (fun hHeld => ?_)
   ·exact ⟨ldA ((tabC t (.slice ar nr cr) (.slice al nl cl))) [_, _, _] hD17 (rfl) (rfl), ldS [_, _] hD17 rfl, ldS [_] hD17 rfl⟩
   clear hK K
   (try simp only [Act.put, List.setIfInBounds_toArray, List.set_cons_zero, List.set_cons_succ])
   refine tq 10 20 ?_
   refine tq 11 21 ?_
   refine wpAnyH_ready (rs := [12]) (by kernel_rfl) (by simp) ?_
   refine (AllReadyH.cons (o := ⟨none, _, _, _, _, _⟩) rfl (fun K hK => ?_) AllReadyH.nil)
   rw [if_pos (by rfl)]
   refine ow_of_wl (ops := #[]) (by rfl) ?_
   refine wl_storeA [] hD17 rfl rfl rfl rfl (vs := tabC r.2 (.slice a9 xs9.length c9) (.slice a8 r.2.lives.length c8)) rfl rfl rfl ?_
   intro w7 hst3
   refine q0_nil ?_
   refine hK.out _ _ ?_ (fun hHeld => ?_)
   ·exact ⟨ldA ((tabC t (.slice ar nr cr) (.slice al nl cl))) [_, _, _] hst3 (rfl) (rfl), ldS [_, _] hst3 rfl, ldS [_] hst3 rfl⟩
   clear hK K
   (try simp only [Act.put, List.setIfInBounds_toArray, List.set_cons_zero, List.set_cons_succ])
   refine tq 13 9 ?_
   refine wpAnyH_done (by kernel_rfl) ?_ _
   clear hHeld
   go_wp2_with (first | go_big_skip | go_big_guard | fail)
   have hl := Loads.atA (P := Tryz.prog) (off := 0) (T := 27) (tabC r.2 (.slice a9 xs9.length c9) (.slice a8 r.2.lives.length c8)) [] hst3 rfl rfl
   refine bodyPost_ret (results_cellR rfl rfl rfl hl) rfl ?_
   exact ⟨_, _, xs9, rfl, HOK.out, St.sub hst3 (List.sublist_append_right [_, _, _, _] _)⟩
theorem root13_any (t : TC) (ar al : Option Addr) (nr cr nl cl : Nat) (xs : List (Value × RC)) (w : World) (ht : TabIn w t ar nr cr al nl cl xs) (nm : List UInt8) (p : PV) (hp : p.In w) (hpl : p.l.length ≤ 100000) (hnm : nm.length ≤ 1000000) : Calls Tryz.prog 32 #[.agg (tabC t (.slice ar nr cr) (.slice al nl cl)).toArray, .string ⟨nm.toArray⟩, .agg p.cells.toArray] w (TabRet (opR t (rootT t nm p)) w) := by
 have HP := hid hp
 have H35 := hid (PV.len hp.1)
 clear hp
 have hst0 := St.refl w
 have HT := hid ht
 clear ht
 obtain ⟨r, hr⟩ : ∃ r, r = opR t (rootT t nm p) := ⟨_, rfl⟩
 rw [← hr]
 cases hh : p.hole <;> cases hk : p.ok
 ·have H1 := hid hh
  have H2 := hid hk
  have HR := hid (show r = opR t (changeT t nm false (rootOf p)) by rw [hr]; unfold rootT rootB; rw [hh, hk]; rfl)
  clear hr hh hk
  go_enter Tryz.func32, Tryz.ntmps32
  go_wp2_with (first | go_big_skip | go_big_guard | (refine wl_boxA hst0 rfl rfl rfl ?_; intro g3 w1 hA0; clear hst0) | (refine wl_boxA hA0 rfl rfl rfl ?_; intro g5 _ hA1; clear hA0) | (refine wl_alloc hA1 rfl rfl ?_; intro g6 _ hst; clear hA1) | (refine wl_loadE rfl rfl rfl ?_; first | refine ⟨_, Loads.atA p.cells [_] hst H35.out (by simp), ?_⟩ | refine ⟨_, Loads.atA (tabC t (.slice ar nr cr) (.slice al nl cl)) [_, _] hst rfl rfl, ?_⟩ | refine ⟨_, Loads.at [_] hst rfl, ?_⟩) | (go_at_call 83; refine (hole_pv p _ (PV.In.old hst.nil HP.out)).mono ?_; rw [H1.out]; rintro _ w9 ⟨rfl, h4⟩; replace hst := St.call0 hst h4; clear h4) | (go_at_call 84; refine (check_pv p _ (PV.In.old hst.nil HP.out)).mono ?_; rw [H2.out]; rintro _ w9 ⟨rfl, h4⟩; replace hst := St.call0 hst h4; clear h4) | (go_at_call 79; refine (change13_any t ar al nr cr nl cl xs _ (HT.out.old hst.nil) nm (false) 85 #[.pointer (some ⟨g5, 0, none⟩)] (rootOf p) (fun _ _ => rfl) (fun w2 h => rootV p (fun j v hv => St.old_cell h (by have := hst.range (g := g5) (.tail _ (.head _)) j v (by rw [List.drop_zero]; exact hv); rwa [Nat.zero_add] at this ⊢) (by simp)) (PV.In.old h (PV.In.old hst.nil HP.out)) hpl) hnm).mono ?_; rw [← HR.out]; rintro _ w9 ⟨rv9, lv9, xs9, rfl, hok9, h4⟩; have h5 := St.call hst h4; obtain ⟨a9, c9, rfl, _, _⟩ := rowS [] h5; obtain ⟨a8, c8, rfl, _, _⟩ := rowS [_] h5; have hD2 := St.perm h5 List.perm_append_comm; have HOK := hid hok9; clear hok9 h4 h5 hst) | (refine wl_storeA [] hD2 rfl rfl rfl rfl (vs := tabC r.2 (.slice a9 xs9.length c9) (.slice a8 r.2.lives.length c8)) rfl rfl rfl ?_; intro w7 hst3; clear hD2))
  have hl := Loads.atA (P := Tryz.prog) (off := 0) (T := 27) (tabC r.2 (.slice a9 xs9.length c9) (.slice a8 r.2.lives.length c8)) [] hst3 rfl rfl
  refine bodyPost_ret (results_cellR rfl rfl rfl hl) rfl ?_
  exact ⟨_, _, xs9, rfl, HOK.out, St.sub hst3 (List.sublist_append_right [_, _, _] _)⟩
 ·have H1 := hid hh
  have H2 := hid hk
  have HR := hid (show r = opR t (changeT t nm (p.v == 3) (rootOf p)) by rw [hr]; unfold rootT rootB; rw [hh, hk]; rfl)
  clear hr hh hk
  go_enter Tryz.func32, Tryz.ntmps32
  go_wp2_with (first | go_big_skip | go_big_guard | (refine wl_boxA hst0 rfl rfl rfl ?_; intro g3 w1 hA0; clear hst0) | (refine wl_boxA hA0 rfl rfl rfl ?_; intro g5 _ hA1; clear hA0) | (refine wl_alloc hA1 rfl rfl ?_; intro g6 _ hst; clear hA1) | (refine wl_loadE rfl rfl rfl ?_; first | refine ⟨_, Loads.atA p.cells [_] hst H35.out (by simp), ?_⟩ | refine ⟨_, Loads.atA (tabC t (.slice ar nr cr) (.slice al nl cl)) [_, _] hst rfl rfl, ?_⟩ | refine ⟨_, Loads.at [_] hst rfl, ?_⟩) | (go_at_call 83; refine (hole_pv p _ (PV.In.old hst.nil HP.out)).mono ?_; rw [H1.out]; rintro _ w9 ⟨rfl, h4⟩; replace hst := St.call0 hst h4; clear h4) | (go_at_call 84; refine (check_pv p _ (PV.In.old hst.nil HP.out)).mono ?_; rw [H2.out]; rintro _ w9 ⟨rfl, h4⟩; replace hst := St.call0 hst h4; clear h4) | (go_at_call 79; refine (change13_any t ar al nr cr nl cl xs _ (HT.out.old hst.nil) nm ((p.v == 3)) 85 #[.pointer (some ⟨g5, 0, none⟩)] (rootOf p) (fun _ _ => rfl) (fun w2 h => rootV p (fun j v hv => St.old_cell h (by have := hst.range (g := g5) (.tail _ (.head _)) j v (by rw [List.drop_zero]; exact hv); rwa [Nat.zero_add] at this ⊢) (by simp)) (PV.In.old h (PV.In.old hst.nil HP.out)) hpl) hnm).mono ?_; rw [← HR.out]; rintro _ w9 ⟨rv9, lv9, xs9, rfl, hok9, h4⟩; have h5 := St.call hst h4; obtain ⟨a9, c9, rfl, _, _⟩ := rowS [] h5; obtain ⟨a8, c8, rfl, _, _⟩ := rowS [_] h5; have hD2 := St.perm h5 List.perm_append_comm; have HOK := hid hok9; clear hok9 h4 h5 hst) | (refine wl_storeA [] hD2 rfl rfl rfl rfl (vs := tabC r.2 (.slice a9 xs9.length c9) (.slice a8 r.2.lives.length c8)) rfl rfl rfl ?_; intro w7 hst3; clear hD2))
  have hl := Loads.atA (P := Tryz.prog) (off := 0) (T := 27) (tabC r.2 (.slice a9 xs9.length c9) (.slice a8 r.2.lives.length c8)) [] hst3 rfl rfl
  refine bodyPost_ret (results_cellR rfl rfl rfl hl) rfl ?_
  exact ⟨_, _, xs9, rfl, HOK.out, St.sub hst3 (List.sublist_append_right [_, _, _] _)⟩
 ·have H1 := hid hh
  have H2 := hid hk
  have HR := hid (show r = opR t (changeT t nm true (rootOf p)) by rw [hr]; unfold rootT rootB; rw [hh, hk]; rfl)
  clear hr hh hk
  go_enter Tryz.func32, Tryz.ntmps32
  go_wp2_with (first | go_big_skip | go_big_guard | (refine wl_boxA hst0 rfl rfl rfl ?_; intro g3 w1 hA0; clear hst0) | (refine wl_boxA hA0 rfl rfl rfl ?_; intro g5 _ hA1; clear hA0) | (refine wl_alloc hA1 rfl rfl ?_; intro g6 _ hst; clear hA1) | (refine wl_loadE rfl rfl rfl ?_; first | refine ⟨_, Loads.atA p.cells [_] hst H35.out (by simp), ?_⟩ | refine ⟨_, Loads.atA (tabC t (.slice ar nr cr) (.slice al nl cl)) [_, _] hst rfl rfl, ?_⟩ | refine ⟨_, Loads.at [_] hst rfl, ?_⟩) | (go_at_call 83; refine (hole_pv p _ (PV.In.old hst.nil HP.out)).mono ?_; rw [H1.out]; rintro _ w9 ⟨rfl, h4⟩; replace hst := St.call0 hst h4; clear h4) | (go_at_call 84; refine (check_pv p _ (PV.In.old hst.nil HP.out)).mono ?_; rw [H2.out]; rintro _ w9 ⟨rfl, h4⟩; replace hst := St.call0 hst h4; clear h4) | (go_at_call 79; refine (change13_any t ar al nr cr nl cl xs _ (HT.out.old hst.nil) nm (true) 85 #[.pointer (some ⟨g5, 0, none⟩)] (rootOf p) (fun _ _ => rfl) (fun w2 h => rootV p (fun j v hv => St.old_cell h (by have := hst.range (g := g5) (.tail _ (.head _)) j v (by rw [List.drop_zero]; exact hv); rwa [Nat.zero_add] at this ⊢) (by simp)) (PV.In.old h (PV.In.old hst.nil HP.out)) hpl) hnm).mono ?_; rw [← HR.out]; rintro _ w9 ⟨rv9, lv9, xs9, rfl, hok9, h4⟩; have h5 := St.call hst h4; obtain ⟨a9, c9, rfl, _, _⟩ := rowS [] h5; obtain ⟨a8, c8, rfl, _, _⟩ := rowS [_] h5; have hD2 := St.perm h5 List.perm_append_comm; have HOK := hid hok9; clear hok9 h4 h5 hst) | (refine wl_storeA [] hD2 rfl rfl rfl rfl (vs := tabC r.2 (.slice a9 xs9.length c9) (.slice a8 r.2.lives.length c8)) rfl rfl rfl ?_; intro w7 hst3; clear hD2))
  have hl := Loads.atA (P := Tryz.prog) (off := 0) (T := 27) (tabC r.2 (.slice a9 xs9.length c9) (.slice a8 r.2.lives.length c8)) [] hst3 rfl rfl
  refine bodyPost_ret (results_cellR rfl rfl rfl hl) rfl ?_
  exact ⟨_, _, xs9, rfl, HOK.out, St.sub hst3 (List.sublist_append_right [_, _, _] _)⟩
 ·have H1 := hid hh
  have H2 := hid hk
  have HR := hid (show r = opR t (changeT t nm true (rootOf p)) by rw [hr]; unfold rootT rootB; rw [hh, hk]; rfl)
  clear hr hh hk
  go_enter Tryz.func32, Tryz.ntmps32
  go_wp2_with (first | go_big_skip | go_big_guard | (refine wl_boxA hst0 rfl rfl rfl ?_; intro g3 w1 hA0; clear hst0) | (refine wl_boxA hA0 rfl rfl rfl ?_; intro g5 _ hA1; clear hA0) | (refine wl_alloc hA1 rfl rfl ?_; intro g6 _ hst; clear hA1) | (refine wl_loadE rfl rfl rfl ?_; first | refine ⟨_, Loads.atA p.cells [_] hst H35.out (by simp), ?_⟩ | refine ⟨_, Loads.atA (tabC t (.slice ar nr cr) (.slice al nl cl)) [_, _] hst rfl rfl, ?_⟩ | refine ⟨_, Loads.at [_] hst rfl, ?_⟩) | (go_at_call 83; refine (hole_pv p _ (PV.In.old hst.nil HP.out)).mono ?_; rw [H1.out]; rintro _ w9 ⟨rfl, h4⟩; replace hst := St.call0 hst h4; clear h4) | (go_at_call 84; refine (check_pv p _ (PV.In.old hst.nil HP.out)).mono ?_; rw [H2.out]; rintro _ w9 ⟨rfl, h4⟩; replace hst := St.call0 hst h4; clear h4) | (go_at_call 79; refine (change13_any t ar al nr cr nl cl xs _ (HT.out.old hst.nil) nm (true) 85 #[.pointer (some ⟨g5, 0, none⟩)] (rootOf p) (fun _ _ => rfl) (fun w2 h => rootV p (fun j v hv => St.old_cell h (by have := hst.range (g := g5) (.tail _ (.head _)) j v (by rw [List.drop_zero]; exact hv); rwa [Nat.zero_add] at this ⊢) (by simp)) (PV.In.old h (PV.In.old hst.nil HP.out)) hpl) hnm).mono ?_; rw [← HR.out]; rintro _ w9 ⟨rv9, lv9, xs9, rfl, hok9, h4⟩; have h5 := St.call hst h4; obtain ⟨a9, c9, rfl, _, _⟩ := rowS [] h5; obtain ⟨a8, c8, rfl, _, _⟩ := rowS [_] h5; have hD2 := St.perm h5 List.perm_append_comm; have HOK := hid hok9; clear hok9 h4 h5 hst) | (refine wl_storeA [] hD2 rfl rfl rfl rfl (vs := tabC r.2 (.slice a9 xs9.length c9) (.slice a8 r.2.lives.length c8)) rfl rfl rfl ?_; intro w7 hst3; clear hD2))
  have hl := Loads.atA (P := Tryz.prog) (off := 0) (T := 27) (tabC r.2 (.slice a9 xs9.length c9) (.slice a8 r.2.lives.length c8)) [] hst3 rfl rfl
  refine bodyPost_ret (results_cellR rfl rfl rfl hl) rfl ?_
  exact ⟨_, _, xs9, rfl, HOK.out, St.sub hst3 (List.sublist_append_right [_, _, _] _)⟩
theorem new13_any (devs : Int) (w : World) : Calls Tryz.prog 13 #[.int .i64 devs] w (TabRet (newR devs) w) := by
 have hst0 := St.refl w
 obtain ⟨r, hr⟩ : ∃ r, r = newR devs := ⟨_, rfl⟩
 rw [← hr]
 by_cases h1 : devs < 2
 ·have d1 : decide (devs < 2) = true := decide_eq_true h1
  have HB := hid (show r = badR 2 by rw [hr]; unfold newR inB; rw [decide_eq_false (by omega : ¬ (2 ≤ devs))]; rfl)
  clear h1 hr
  go_enter Tryz.func13, Tryz.ntmps13
  go_wp2_with (first | go_big_skip | go_big_guard | (refine wl_alloc hst0 rfl rfl ?_; intro g2 w1 hst; clear hst0) | (refine wl_build0 rfl rfl ?_) | (refine wl_storeA [] hst rfl rfl rfl rfl rfl rfl rfl ?_; intro w7 hst2; clear hst))
  have hl := Loads.atA (P := Tryz.prog) (off := 0) (T := 27) tab0 [] hst2 rfl rfl
  refine bodyPost_ret (results_cellR rfl rfl rfl hl) rfl ?_
  rw [HB.out]
  exact tabRet_bad hst2 2
 ·have d1 : decide (devs < 2) = false := decide_eq_false h1
  by_cases h2 : devs > 8
  ·have d2 : decide (devs > 8) = true := decide_eq_true h2
   have d3 : decide (8 < devs) = true := d2
   have HB := hid (show r = badR 2 by rw [hr]; unfold newR inB; rw [decide_eq_false (by omega : ¬ (devs ≤ 8)), Bool.and_false]; rfl)
   clear h1 h2 hr
   go_enter Tryz.func13, Tryz.ntmps13
   go_wp2_with (first | go_big_skip | go_big_guard | (refine wl_alloc hst0 rfl rfl ?_; intro g2 w1 hst; clear hst0) | (refine wl_build0 rfl rfl ?_) | (refine wl_storeA [] hst rfl rfl rfl rfl rfl rfl rfl ?_; intro w7 hst2; clear hst))
   have hl := Loads.atA (P := Tryz.prog) (off := 0) (T := 27) tab0 [] hst2 rfl rfl
   refine bodyPost_ret (results_cellR rfl rfl rfl hl) rfl ?_
   rw [HB.out]
   exact tabRet_bad hst2 2
  ·have d2 : decide (devs > 8) = false := decide_eq_false h2
   have d3 : decide (8 < devs) = false := d2
   obtain ⟨n, rfl⟩ : ∃ n : Nat, devs = (n : Int) := ⟨devs.toNat, by omega⟩
   have HB := hid (show r = (0, ⟨1, [], 0, 0, 0, 0, List.replicate n 0⟩) by rw [hr]; unfold newR inB; rw [decide_eq_true (by omega : (2 : Int) ≤ (n : Int)), decide_eq_true (by omega : (n : Int) ≤ 8)]; rfl)
   have hn8 : n ≤ 8 := by omega
   clear h1 h2 hr
   go_enter Tryz.func13, Tryz.ntmps13
   go_wp2_with (first | go_big_skip | go_big_guard | (refine wl_alloc hst0 rfl rfl ?_; intro g2 w1 hst; clear hst0) | (apply wl_make n n hst; rfl; rfl; exact rfl; exact rfl; infer_instance; infer_instance; infer_instance; rfl; rfl; exact Nat.le_refl _; exact ⟨by omega, by omega⟩; intro g3 w2 hst2; clear hst) | (refine wl_buildX (cs := [.int .i64 1, .slice none 0 0, .int .i64 0, .int .i64 0, .int .i64 0, .int .i64 0, .slice (some ⟨g3, 0, none⟩) n n]) [(0, .int .i64 1), (3, .slice (some ⟨g3, 0, none⟩) n n)] rfl rfl (by exact rfl) (bldNew _ _ _) ?_) | (refine wl_storeA [_] hst2 rfl rfl rfl rfl rfl rfl rfl ?_; intro w7 hst3; clear hst2))
   have hl := Loads.atA (P := Tryz.prog) (off := 0) (T := 27) [.int .i64 1, .slice none 0 0, .int .i64 0, .int .i64 0, .int .i64 0, .int .i64 0, .slice (some ⟨g3, 0, none⟩) n n] [_] hst3 rfl rfl
   refine bodyPost_ret (results_cellR rfl rfl rfl hl) rfl ?_
   rw [HB.out]
   refine ⟨.slice none 0 0, .slice (some ⟨g3, 0, none⟩) n n, [], rfl, ⟨rfl, fun _ h => by cases h⟩, ?_⟩
   have h5 := St.toRow (n := n) (cap := n) (sz := 1) hst3 (by rw [List.length_replicate, Nat.mul_one]) (Nat.le_refl _) (by omega)
   rw [Nat.mul_one, List.take_of_length_le (by rw [List.length_replicate]; exact Nat.le_refl _)] at h5
   have e1 : numsV (List.replicate n 0) = List.replicate n (.int .i64 0) := by unfold numsV; rw [List.map_replicate]
   have h6 := St.nilR 53 44 (St.sub h5 (.cons_cons _ (List.nil_sublist _)))
   show St w [] _ [.row _ _ 44 0 _, .row _ _ 1 (List.replicate n (0 : Int)).length (numsV (List.replicate n 0))]
   rw [List.length_replicate, e1]
   exact h6
end Go.Proofs.YtifajcblbedcoaaGreat
namespace Go.Proofs.YtifajcblbedcoaaGreat
set_option linter.unusedVariables false
set_option linter.unusedSimpArgs false
open Go.RowKit Hp
def NameLt (x y : RC) : Prop := lessL x.name y.name = true
theorem sorted_iff {l : List RC} : Sorted l ↔ l.Pairwise NameLt := by
 rw [List.pairwise_iff_getElem]
 constructor
 ·intro h i j hi hj hij
  exact h i j _ _ hij (List.getElem?_eq_getElem hi) (List.getElem?_eq_getElem hj)
 ·intro h i j x y hij hx hy
  obtain ⟨hi, hx⟩ := List.getElem?_eq_some_iff.1 hx
  obtain ⟨hj, hy⟩ := List.getElem?_eq_some_iff.1 hy
  subst hx hy
  exact h i j hi hj hij
theorem NameLt.trans {x y z : RC} (h : NameLt x y) (h' : NameLt y z) : NameLt x z := less_trans h h'
theorem NameLt.ne {x y : RC} (h : NameLt x y) : x.name ≠ y.name := by
 intro e
 unfold NameLt at h
 rw [e, less_self] at h
 cases h
theorem name_other {x y : RC} (h : lessL y.name x.name = false) (hn : y.name ≠ x.name) : NameLt x y := by
 rcases less_tri y.name x.name with ⟨h1, _, _⟩ | ⟨_, h2, _⟩ | ⟨h3, _, _⟩
 ·rw [h1] at h; cases h
 ·exact h2
 ·exact absurd h3 hn
theorem layL_perm (x : RC) (l : List RC) : (layL x l).Perm (x :: l) := by
 unfold layL
 have := List.perm_middle (a := x) (l₁ := l.takeWhile fun y => lessL y.name x.name) (l₂ := l.dropWhile fun y => lessL y.name x.name)
 rwa [List.takeWhile_append_dropWhile] at this
theorem dropWhile_all {x : RC} : ∀ {l : List RC}, l.Pairwise NameLt → ∀ y ∈ l.dropWhile (fun y => lessL y.name x.name), lessL y.name x.name = false
 | [], _, y, hy => by simp at hy
 | z :: l, h, y, hy => by
  rw [List.pairwise_cons] at h
  rw [List.dropWhile_cons] at hy
  split at hy
  ·exact dropWhile_all h.2 y hy
  ·rename_i hz
   have hz' : lessL z.name x.name = false := by simpa using hz
   rcases List.mem_cons.1 hy with rfl | hy
   ·exact hz'
   ·cases hq : lessL y.name x.name with
    | false => rfl
    | true =>
     have := less_trans (h.1 y hy) hq
     rw [hz'] at this
     cases this
theorem layL_sorted {x : RC} {l : List RC} (h : l.Pairwise NameLt) (hx : ∀ y ∈ l, y.name ≠ x.name) : (layL x l).Pairwise NameLt := by
 unfold layL
 have hs := h
 rw [← List.takeWhile_append_dropWhile (p := fun y : RC => lessL y.name x.name) (l := l), List.pairwise_append] at hs
 obtain ⟨h1, h2, h3⟩ := hs
 have hA : ∀ y ∈ l.takeWhile (fun y : RC => lessL y.name x.name), NameLt y x := fun y hy => List.all_eq_true.1 (List.all_takeWhile (p := fun y : RC => lessL y.name x.name) (l := l)) y hy
 have hB : ∀ y ∈ l.dropWhile (fun y : RC => lessL y.name x.name), NameLt x y := fun y hy => name_other (dropWhile_all h y hy) (hx y ((List.dropWhile_sublist _).subset hy))
 rw [List.pairwise_append, List.pairwise_cons]
 refine ⟨h1, ⟨hB, h2⟩, fun a ha b hb => ?_⟩
 rcases List.mem_cons.1 hb with rfl | hb
 ·exact hA a ha
 ·exact h3 a ha b hb
theorem sortL_snoc (l : List RC) (x : RC) : sortL (l ++ [x]) = layL x (sortL l) := by
 unfold sortL
 rw [List.foldl_append]
 rfl
theorem snoc_ind {p : List RC → Prop} (h0 : p []) (h1 : ∀ l x, p l → p (l ++ [x])) (l : List RC) : p l := by
 have : ∀ k : List RC, p k.reverse := by
  intro k
  induction k with
  | nil => exact h0
  | cons x k ih => rw [List.reverse_cons]; exact h1 _ _ ih
 have h := this l.reverse
 rwa [List.reverse_reverse] at h
theorem sortL_perm (l : List RC) : (sortL l).Perm l := by
 refine snoc_ind (p := fun l => (sortL l).Perm l) (List.Perm.refl _) (fun l x ih => ?_) l
 rw [sortL_snoc]
 exact (layL_perm x _).trans ((List.Perm.cons x ih).trans (List.perm_append_singleton x l).symm)
def Distinct (l : List RC) : Prop := l.Pairwise fun x y => x.name ≠ y.name
theorem sortL_sorted {l : List RC} (h : Distinct l) : (sortL l).Pairwise NameLt := by
 revert h
 refine snoc_ind (p := fun l => Distinct l → (sortL l).Pairwise NameLt) (fun _ => List.Pairwise.nil) (fun l x ih h => ?_) l
 unfold Distinct at h
 rw [List.pairwise_append] at h
 rw [sortL_snoc]
 exact layL_sorted (ih h.1) fun y hy => h.2.2 y ((sortL_perm l).subset hy) x (by simp)
theorem layL_last {x : RC} {l : List RC} (h : ∀ y ∈ l, NameLt y x) : layL x l = l ++ [x] := by
 have e : nLess x l = l.length := nLess_of (Nat.le_refl _) (fun i y _ hy => h y (List.mem_of_getElem? hy)) (fun y hy => by
  have := (List.getElem?_eq_some_iff.1 hy).1
  omega)
 rw [layL_at, e, List.take_length, List.drop_length]
theorem sortL_id {l : List RC} (h : l.Pairwise NameLt) : sortL l = l := by
 revert h
 refine snoc_ind (p := fun l => l.Pairwise NameLt → sortL l = l) (fun _ => rfl) (fun l x ih h => ?_) l
 rw [List.pairwise_append] at h
 rw [sortL_snoc, ih h.1, layL_last fun y hy => h.2.2 y hy x (by simp)]
theorem ok_lt {t : TC} (h : t.ok = true) : t.recs.Pairwise NameLt := sorted_iff.1 (ok_sorted h)
theorem ok_distinct {t : TC} (h : t.ok = true) : Distinct t.recs := (ok_lt h).imp NameLt.ne
theorem isAt_no {nm : List UInt8} {l : List RC} (h : isAt nm l = false) : ∀ x ∈ l, x.name ≠ nm := fun x hx e => by
 unfold isAt recAt at h
 have h2 : l.find? (fun x => x.name == nm) = none := by
  cases hf : l.find? (fun x => x.name == nm) with
  | none => rfl
  | some y => rw [hf] at h; cases h
 rw [List.find?_eq_none] at h2
 have := h2 x hx
 simp [e] at this
theorem isAt_yes {nm : List UInt8} {l : List RC} {x : RC} (hx : x ∈ l) (h : x.name = nm) : isAt nm l = true := by
 cases hq : isAt nm l with
 | true => rfl
 | false => exact absurd h (isAt_no hq x hx)
theorem alone_kind {r : RC} (h : r.aloneB = true) : (r.kind = 1 ∧ partB r.name = true) ∨ (r.kind = 2 ∧ snapB r.name = true) := by
 unfold RC.aloneB at h
 have h4 : r.kindB = true := (Bool.and_eq_true_iff.1 h).2
 unfold RC.kindB at h4
 by_cases k1 : (r.kind == 1) = true
 ·rw [if_pos k1] at h4
  simp only [Bool.and_eq_true] at h4
  exact .inl ⟨by simpa using k1, h4.1.1.1.1⟩
 ·rw [if_neg k1] at h4
  by_cases k2 : (r.kind == 2) = true
  ·rw [if_pos k2] at h4
   simp only [Bool.and_eq_true] at h4
   exact .inr ⟨by simpa using k2, h4.1.1.1.1.1⟩
  ·rw [if_neg k2] at h4; cases h4
theorem snap_form {s : List UInt8} (h : snapB s = true) : ∃ a b, splitL s = (a, b, true) ∧ s = a ++ 64 :: b ∧ partB a = true ∧ partB b = true := by
 unfold snapB at h
 obtain ⟨⟨a, b, f⟩, hs⟩ : ∃ p, splitL s = p := ⟨_, rfl⟩
 rw [hs] at h
 have hf : f = true := h
 subst hf
 exact ⟨a, b, hs, split_true hs⟩
theorem part_split {s : List UInt8} (h : partB s = true) : splitL s = ([], [], false) := by
 have hc : cutL s = (s, [], false) := cutL_none (part_no h)
 unfold splitL
 rw [hc]
 rfl
theorem ok_alone {t : TC} (h : t.ok = true) {x : RC} (hx : x ∈ t.recs) : x.aloneB = true := by
 obtain ⟨i, hi⟩ := List.getElem?_of_mem hx
 unfold TC.ok at h
 simp only [Bool.and_eq_true] at h
 have a1 := allAt_at h.1.2 hi
 unfold eachB at a1
 exact (Bool.and_eq_true_iff.1 a1).1
theorem snap_has {t : TC} (h : t.ok = true) {x : RC} (hx : x ∈ t.recs) {a b : List UInt8} (hn : x.name = a ++ 64 :: b) (ha : partB a = true) (hb : partB b = true) : isAt a t.recs = true := by
 have hsp := split_joined ha hb
 have hk : snapB x.name = true := by unfold snapB; rw [hn, hsp]
 have hra : recAt x.name t.recs = some x ∨ ∃ y, recAt x.name t.recs = some y := by
  have := isAt_yes hx rfl
  unfold isAt at this
  cases hq : recAt x.name t.recs with
  | none => rw [hq] at this; cases this
  | some y => exact .inr ⟨y, rfl⟩
 obtain ⟨y, hy⟩ : ∃ y, recAt x.name t.recs = some y := by
  rcases hra with h | h
  ·exact ⟨x, h⟩
  ·exact h
 obtain ⟨k, v, hv, hr, _⟩ := snap_vol h hk hy
 rw [hn, hsp] at hr
 unfold isAt
 rw [hr]
 rfl
theorem join_len (a b : List UInt8) : (joinL a b).1.length ≤ 41 := by
 unfold joinL
 split
 ·rename_i h
  obtain ⟨h1, h2⟩ := Bool.and_eq_true_iff.1 h
  have := (part_bd h1).2
  have := (part_bd h2).2
  simp
  omega
 ·simp
theorem ren_ways {t : TC} (h : t.ok = true) {nm tn : List UInt8} (ha : alikeB nm tn = true) {x : RC} (hx : x ∈ t.recs) :
  (x.name = nm ∧ renR nm tn x = { x with name := tn }) ∨ (x.name ≠ nm ∧ ∃ p, partB nm = true ∧ partB tn = true ∧ partB p = true ∧ x.name = nm ++ 64 :: p ∧ renR nm tn x = { x with name := tn ++ 64 :: p }) ∨ (x.name ≠ nm ∧ renR nm tn x = x ∧ ¬ ((splitL x.name).2.2 = true ∧ (splitL x.name).1 = nm)) := by
 by_cases h1 : x.name = nm
 ·left
  refine ⟨h1, ?_⟩
  unfold renR
  rw [if_pos (by simpa using h1)]
 right
 have h1' : ¬ ((x.name == nm) = true) := by simpa using h1
 by_cases h2 : (splitL x.name).2.2 = true ∧ (splitL x.name).1 = nm
 ·left
  refine ⟨h1, ?_⟩
  obtain ⟨a, b, hs, he, hpa, hpb⟩ := snap_form (s := x.name) h2.1
  rw [hs] at h2
  obtain rfl : a = nm := h2.2
  have hto : partB tn = true := by
   unfold alikeB at ha
   rcases Bool.or_eq_true_iff.1 ha with h3 | h3
   ·exact (Bool.and_eq_true_iff.1 h3).2
   ·rw [part_split hpa] at h3
    simp at h3
  refine ⟨b, hpa, hto, hpb, he, ?_⟩
  unfold renR
  rw [if_neg h1', hs, if_pos (by simp), join_of hto hpb]
 ·right
  refine ⟨h1, ?_, h2⟩
  unfold renR
  rw [if_neg h1', if_neg (by simpa using h2)]
theorem at_no {a b p : List UInt8} (h : partB a = true) : a ≠ b ++ 64 :: p := by
 intro e
 have := part_no h
 rw [e] at this
 simp at this
theorem ren_distinct {t : TC} (h : t.ok = true) {nm tn : List UInt8} (ha : alikeB nm tn = true) (hto : isAt tn t.recs = false) : Distinct (t.recs.map (renR nm tn)) := by
 unfold Distinct
 rw [List.pairwise_map]
 have hd := ok_distinct h
 refine List.Pairwise.imp_of_mem (fun {x y} hx hy hxy => ?_) hd
 have nt := isAt_no hto
 have key : ∀ u ∈ t.recs, ∀ p, partB tn = true → partB p = true → u.name ≠ tn ++ 64 :: p := fun u hu p h1 h2 e => by
  have := snap_has h hu e h1 h2
  rw [hto] at this
  cases this
 rcases ren_ways h ha hx with ⟨e1, r1⟩ | ⟨e1, p, a1, a2, a3, a4, r1⟩ | ⟨e1, r1, _⟩ <;> rcases ren_ways h ha hy with ⟨e2, r2⟩ | ⟨e2, q, b1, b2, b3, b4, r2⟩ | ⟨e2, r2, _⟩ <;> rw [r1, r2]
 ·exact absurd (e1.trans e2.symm) hxy
 ·exact at_no b2
 ·exact fun e => nt y hy e.symm
 ·exact fun e => at_no a2 e.symm
 ·intro e
  have e' : tn ++ 64 :: p = tn ++ 64 :: q := e
  have : p = q := by simpa using e'
  subst this
  exact hxy (a4.trans b4.symm)
 ·exact fun e => key y hy p a2 a3 e.symm
 ·exact fun e => nt x hx e
 ·exact fun e => key x hx q b2 b3 e
 ·exact hxy
end Go.Proofs.YtifajcblbedcoaaGreat
namespace Go.Proofs.YtifajcblbedcoaaGreat
set_option linter.unusedVariables false
set_option linter.unusedSimpArgs false
open Go.RowKit Hp
attribute [local irreducible] Go.Calls Go.wpList
set_option maxRecDepth 100000
set_option maxHeartbeats 8000000
attribute [local go_sem ↓] heldInt heldInts heldRecs heldRec heldStr heldTab heldPtr heldFn
def nameX (x : Value × RC) (z : List UInt8) : Value × RC := (x.1, { x.2 with name := z })
def renX (nm tn : List UInt8) (x : Value × RC) : Value × RC := (x.1, renR nm tn x.2)
theorem renR_root (nm tn : List UInt8) (x : RC) : (renR nm tn x).S = x.S ∧ (renR nm tn x).l = x.l := by
 unfold renR
 split
 ·exact ⟨rfl, rfl⟩
 ·split <;> exact ⟨rfl, rfl⟩
theorem renX_root (nm tn : List UInt8) (x : Value × RC) : rootH (renX nm tn x) = rootH x := by
 unfold rootH renX
 rw [(renR_root nm tn x.2).2]
theorem renR_len {nm tn : List UInt8} (h : tn.length ≤ 1000000) {x : RC} (hx : x.name.length ≤ 1000000) : (renR nm tn x).name.length ≤ 1000000 := by
 unfold renR
 split
 ·exact h
 ·split
  ·have := join_len tn (splitL x.name).2.1
   show (joinL tn (splitL x.name).2.1).1.length ≤ 1000000
   omega
  ·exact hx
theorem rowLoad {w0 w : World} {M : List Nat} {L : List HA} {g2 n c j : Nat} {xs : List (Value × RC)} {x : Value × RC} (hst : St w0 M w L) (hm : HA.row (.slice (some ⟨g2, 0, none⟩) n c) 53 44 n (recsV xs) ∈ L) (hn : xs.length = n) (hl : LX xs) (hx : xs[j]? = some x) : Loads Tryz.prog w 53 ⟨g2, 0 + j * 44, none⟩ (.agg (cellsR x).toArray) := by
 have hr := (Rd.row hst hm).range
 have h2 := range_flat (f := cellsR) (sz := 44) (fun d hd => cellsR_len (hl d hd)) hx hr
 exact Loads.range (by rw [cellsR_len (hl x (List.mem_of_getElem? hx))]; exact (inferInstance : TyA Tryz.prog 53 44).out) h2
structure RenS (w w1 : World) (g : Nat) (t : TC) (rv lv : Value) (g2 c : Nat) (xs ys : List (Value × RC)) (j : Nat) (nm tn : List UInt8) (R : List HA) : Prop where
 st : St w [] w1 (.blk g 27 (tabC t rv lv) :: .row rv 53 44 j (recsV ys) :: .row (.slice (some ⟨g2, 0, none⟩) xs.length c) 53 44 xs.length (recsV xs) :: .row lv 3 1 t.lives.length (numsV t.lives) :: (xs.map rootH ++ R))
 len : ys.length = j
 eq : ys.map (·.2) = sortL ((t.recs.take j).map (renR nm tn))
 roots : (ys.map rootH).Perm ((xs.take j).map rootH)
 ok : ∀ y ∈ ys, L32 y.2.S ∧ y.2.name.length ≤ 1000000
theorem RenS.own {w w1 : World} {g : Nat} {t : TC} {rv lv : Value} {g2 c : Nat} {xs ys : List (Value × RC)} {j : Nat} {nm tn : List UInt8} {R : List HA} (h : RenS w w1 g t rv lv g2 c xs ys j nm tn R) (a b : HA) : OwnX (a :: b :: (xs.map rootH ++ R)) ys := fun y hy => by
 refine ⟨.tail _ (.tail _ (List.mem_append_left _ ?_)), h.ok y hy⟩
 have h1 : rootH y ∈ ys.map rootH := List.mem_map_of_mem hy
 have h2 := h.roots.subset h1
 rw [List.map_take] at h2
 exact List.mem_of_mem_take h2
theorem RenS.sorted {w w1 : World} {g : Nat} {t : TC} {rv lv : Value} {g2 c : Nat} {xs ys : List (Value × RC)} {j : Nat} {nm tn : List UInt8} {R : List HA} (h : RenS w w1 g t rv lv g2 c xs ys j nm tn R) (hk : t.ok = true) (ha : alikeB nm tn = true) (ht : isAt tn t.recs = false) : Sorted (ys.map (·.2)) := by
 rw [h.eq, sorted_iff]
 refine sortL_sorted ?_
 have := ren_distinct hk ha ht
 unfold Distinct at this ⊢
 rw [List.map_take]
 exact this.sublist (List.take_sublist _ _)
theorem RenS.next {w w1 : World} {g : Nat} {t : TC} {rv lv : Value} {g2 c : Nat} {xs ys : List (Value × RC)} {j : Nat} {nm tn : List UInt8} {R : List HA} {x : Value × RC} (h : RenS w w1 g t rv lv g2 c xs ys j nm tn R) (hok : Okx xs t) (hx : xs[j]? = some x) (htn : tn.length ≤ 1000000) {w2 : World} {rv' : Value}
  (hst : St w [] w2 (.blk g 27 (tabC t rv' lv) :: .row rv' 53 44 (j + 1) (recsV (ys.take (nLess (renX nm tn x).2 (ys.map (·.2))) ++ renX nm tn x :: ys.drop (nLess (renX nm tn x).2 (ys.map (·.2))))) :: .row (.slice (some ⟨g2, 0, none⟩) xs.length c) 53 44 xs.length (recsV xs) :: .row lv 3 1 t.lives.length (numsV t.lives) :: (xs.map rootH ++ R))) :
  RenS w w2 g t rv' lv g2 c xs (ys.take (nLess (renX nm tn x).2 (ys.map (·.2))) ++ renX nm tn x :: ys.drop (nLess (renX nm tn x).2 (ys.map (·.2)))) (j + 1) nm tn R := by
 have hxr : t.recs[j]? = some x.2 := by rw [← hok.eq, List.getElem?_map, hx]; rfl
 refine ⟨hst, ?_, ?_, ?_, ?_⟩
 ·have hle := nLess_le (renX nm tn x).2 (ys.map (·.2))
  rw [List.length_map] at hle
  rw [List.length_append, List.length_cons, List.length_take, List.length_drop, ← h.len]
  omega
 ·rw [lay_map, h.eq, List.take_add_one, hxr, List.map_append]
  exact (sortL_snoc _ _).symm
 ·refine (lay_roots rootH (renX nm tn x) ys _).trans ?_
  rw [renX_root, List.take_add_one, hx, List.map_append]
  exact (List.Perm.cons _ h.roots).trans (List.perm_append_singleton _ _).symm
 ·intro y hy
  rcases List.mem_append.1 hy with hy | hy
  ·exact h.ok y (List.mem_of_mem_take hy)
  ·rcases List.mem_cons.1 hy with rfl | hy
   ·have := hok.ok x (List.mem_of_getElem? hx)
    exact ⟨by show L32 (renR nm tn x.2).S; rw [(renR_root nm tn x.2).1]; exact this.1, renR_len htn this.2⟩
   ·exact h.ok y (List.mem_of_mem_drop hy)
theorem ren_done {w w1 : World} {g : Nat} {al : Option Addr} {cl : Nat} {t : TC} {rv : Value} {g2 c : Nat} {xs ys : List (Value × RC)} {nm tn : List UInt8} {R : List HA} {r : TR} (h : RenS w w1 g t rv (.slice al t.lives.length cl) g2 c xs ys xs.length nm tn R) (hok : Okx xs t) (hr : r = (0, { t with recs := sortL (t.recs.map (renR nm tn)) })) : DoesPost g al cl w t r R (.returned (.int .i64 0)) w1 := by
 subst hr
 have e : t.recs.take xs.length = t.recs := List.take_of_length_le (by rw [hok.len]; exact Nat.le_refl _)
 refine ⟨rfl, fun _ => ⟨rv, ys, ⟨?_, h.ok⟩, ?_, rfl⟩, fun h0 => by cases h0⟩
 ·have := h.eq
  rwa [e] at this
 ·have hp := h.roots
  rw [List.take_length] at hp
  unfold TP
  rw [h.len]
  exact St.perm (St.sub h.st (.cons_cons _ (.cons_cons _ (.cons _ (.cons_cons _ (List.Sublist.refl _)))))) (.cons _ (.cons _ (.cons _ (hp.symm.append_right R))))
theorem rename_does {w : World} {g1 gt : Nat} (nm tn : List UInt8) (h1 : w.cell? ⟨g1, 0, none⟩ = some (.string ⟨nm.toArray⟩)) (h2 : w.cell? ⟨gt, 0, none⟩ = some (.string ⟨tn.toArray⟩)) (hl : nm.length ≤ 1000000) (hln : tn.length ≤ 1000000) (t : TC) (hk : t.ok = true) :
  Does 75 #[.pointer (some ⟨g1, 0, none⟩), .pointer (some ⟨gt, 0, none⟩)] w t (renameT t nm tn) := by
 intro g ao c al cl xs R w1 hok hst0
 show Calls _ _ #[.pointer (some ⟨g, 0, none⟩), .pointer (some ⟨g1, 0, none⟩), .pointer (some ⟨gt, 0, none⟩)] _ _
 have hst := hst0
 have H1 := hid h1
 have H2 := hid h2
 have HOK := hid hok
 have HK := hid hk
 have b2 : xs.length ≤ 16 := by rw [hok.len]; exact ok_many hk
 clear hst0 hok hk h1 h2
 obtain ⟨r, hr⟩ : ∃ r, r = renameT t nm tn := ⟨_, rfl⟩
 rw [← hr]
 obtain ⟨e, hal⟩ : ∃ e, alikeB nm tn = e := ⟨_, rfl⟩
 have HAL := hid hal
 have HV := hid (show r = if e then (if isAt nm t.recs then (if isAt tn t.recs then badR 7 else (0, { t with recs := sortL (t.recs.map (renR nm tn)) })) else badR 6) else badR 2 by rw [hr]; unfold renameT; rw [hal])
 clear hr hal
 cases e
 ·have HB := hid (show r = badR 2 from HV.out)
  clear HV
  go_enter Tryz.func75, Tryz.ntmps75
  go_wp2_with (first | go_big_skip | go_big_guard | (refine wl_loadE rfl rfl rfl ?_; first | refine ⟨_, Loads.old hst H1.out, ?_⟩ | refine ⟨_, Loads.old hst H2.out, ?_⟩) | (go_at_call 76; refine (alike13_any nm tn _ (by omega) (by omega)).mono ?_; rw [HAL.out]; rintro _ w9 ⟨rfl, h4⟩; replace hst := St.call0 hst h4; clear h4))
  go_ret
  exact does_bad (L := []) HB.out (by decide) hst
 ·have HALB : Hid (alikeB nm tn = true) := HAL
  rcases find_split (nm := nm) (l := t.recs) with ⟨hra, hf⟩ | ⟨j, y, hy, hra, hfn, hf, hnm⟩
  ·have HF := hid hf
   have hi : isAt nm t.recs = false := by unfold isAt; rw [hra]; rfl
   have HB := hid (show r = badR 6 by rw [HV.out, hi]; rfl)
   clear HV hf hra hi
   go_enter Tryz.func75, Tryz.ntmps75
   go_wp2_with (first | go_big_skip | go_big_guard | (refine wl_loadE rfl rfl rfl ?_; first | refine ⟨_, Loads.old hst H1.out, ?_⟩ | refine ⟨_, Loads.old hst H2.out, ?_⟩) | (go_at_call 76; refine (alike13_any nm tn _ (by omega) (by omega)).mono ?_; rw [HAL.out]; rintro _ w9 ⟨rfl, h4⟩; replace hst := St.call0 hst h4; clear h4))
   have hX := hst.drew
   clear hst
   refine wp_region_held_drew (S := (fun w' => (loadVarH 27 ⟨g, 0, none⟩).run Tryz.prog w' = .ok (.agg (List.toArray ((tabC t (.slice ao xs.length c) (.slice al t.lives.length cl))))) w' ∧ (loadVarH 9 ⟨g1, 0, none⟩).run Tryz.prog w' = .ok (.string ⟨nm.toArray⟩) w')) (by kernel_rfl) (by exact ⟨ldA ((tabC t (.slice ao xs.length c) (.slice al t.lives.length cl))) [] hX (rfl) (rfl), ldO hX (H1.out)⟩) (fun hHeld => ?_)
   refine tq 0 20 ?_
   refine tq 3 23 ?_
   refine tq 1 21 ?_
   refine tq 2 22 ?_
   refine wpAnyH_ready (rs := [4]) (by kernel_rfl) (by simp) ?_
   refine (AllReadyH.cons (o := ⟨some 24, _, _, _, _, _⟩) rfl (fun K hK => ?_) AllReadyH.nil)
   rw [if_pos (by rfl)]
   go_simp
   go_at_call 57
   refine (find_any t _ nm ao xs.length c xs _ (tp_recs [] HOK.out hX) (by omega)).mono ?_
   rw [HOK.out.eq, HF.out]
   rintro _ w5 ⟨rfl, h4⟩
   have hstF := St.call0 hX h4
   clear h4
   refine hK.out _ _ ?_ (fun hHeld => ?_)
   ·exact ⟨ldA ((tabC t (.slice ao xs.length c) (.slice al t.lives.length cl))) [] hstF (rfl) (rfl), ldO hstF (H1.out)⟩
   clear hK K
   (try simp only [Act.put, List.setIfInBounds_toArray, List.set_cons_zero, List.set_cons_succ])
   refine tq 5 19 ?_
   refine tq 6 25 ?_
   refine tq 7 26 ?_
   refine tq 8 5 ?_
   refine tq 9 6 ?_
   refine wpAnyH_done (by kernel_rfl) ?_ _
   clear hHeld
   have hst : St w [] _ (TP g t (.slice ao xs.length c) (.slice al t.lives.length cl) xs R) := hstF
   clear hstF
   go_wp2_with (first | go_big_skip | go_big_guard | fail)
   go_ret
   exact does_bad (L := []) HB.out (by decide) hst
  ·have HF := hid hf
   have hi : isAt nm t.recs = true := by unfold isAt; rw [hra]; rfl
   have hn0 : 0 < xs.length := by rw [HOK.out.len]; have := (List.getElem?_eq_some_iff.1 hy).1; omega
   obtain ⟨g2, c2, he⟩ := tp_spot [] hst hn0
   cases he
   rcases find_split (nm := tn) (l := t.recs) with ⟨hra2, hf2⟩ | ⟨j2, y2, hy2, hra2, hfn2, hf2, hnm2⟩
   ·have HF2 := hid hf2
    have hi2 : isAt tn t.recs = false := by unfold isAt; rw [hra2]; rfl
    have HTN := hid hi2
    have HB := hid (show r = (0, { t with recs := sortL (t.recs.map (renR nm tn)) }) by rw [HV.out, hi, hi2]; rfl)
    clear HV hf hra hi hy hfn hnm hf2 hra2 hi2
    go_enter Tryz.func75, Tryz.ntmps75
    go_wp2_with (first | go_big_skip | go_big_guard | (refine wl_loadE rfl rfl rfl ?_; first | refine ⟨_, Loads.old hst H1.out, ?_⟩ | refine ⟨_, Loads.old hst H2.out, ?_⟩) | (go_at_call 76; refine (alike13_any nm tn _ (by omega) (by omega)).mono ?_; rw [HAL.out]; rintro _ w9 ⟨rfl, h4⟩; replace hst := St.call0 hst h4; clear h4))
    have hX := hst.drew
    clear hst
    refine wp_region_held_drew (S := (fun w' => (loadVarH 27 ⟨g, 0, none⟩).run Tryz.prog w' = .ok (.agg (List.toArray ((tabC t (.slice (some ⟨g2, 0, none⟩) xs.length c) (.slice al t.lives.length cl))))) w' ∧ (loadVarH 9 ⟨g1, 0, none⟩).run Tryz.prog w' = .ok (.string ⟨nm.toArray⟩) w')) (by kernel_rfl) (by exact ⟨ldA ((tabC t (.slice (some ⟨g2, 0, none⟩) xs.length c) (.slice al t.lives.length cl))) [] hX (rfl) (rfl), ldO hX (H1.out)⟩) (fun hHeld => ?_)
    refine tq 0 20 ?_
    refine tq 3 23 ?_
    refine tq 1 21 ?_
    refine tq 2 22 ?_
    refine wpAnyH_ready (rs := [4]) (by kernel_rfl) (by simp) ?_
    refine (AllReadyH.cons (o := ⟨some 24, _, _, _, _, _⟩) rfl (fun K hK => ?_) AllReadyH.nil)
    rw [if_pos (by rfl)]
    go_simp
    go_at_call 57
    refine (find_any t _ nm (some ⟨g2, 0, none⟩) xs.length c xs _ (tp_recs [] HOK.out hX) (by omega)).mono ?_
    rw [HOK.out.eq, HF.out]
    rintro _ w5 ⟨rfl, h4⟩
    have hstF := St.call0 hX h4
    clear h4
    refine hK.out _ _ ?_ (fun hHeld => ?_)
    ·exact ⟨ldA ((tabC t (.slice (some ⟨g2, 0, none⟩) xs.length c) (.slice al t.lives.length cl))) [] hstF (rfl) (rfl), ldO hstF (H1.out)⟩
    clear hK K
    (try simp only [Act.put, List.setIfInBounds_toArray, List.set_cons_zero, List.set_cons_succ])
    refine tq 5 19 ?_
    refine tq 6 25 ?_
    refine tq 7 26 ?_
    refine tq 8 5 ?_
    refine tq 9 6 ?_
    refine wpAnyH_done (by kernel_rfl) ?_ _
    clear hHeld
    have hst : St w [] _ (TP g t (.slice (some ⟨g2, 0, none⟩) xs.length c) (.slice al t.lives.length cl) xs R) := hstF
    clear hstF
    go_wp2_with (first | go_big_skip | go_big_guard | fail)
    have hZ := hst.drew
    clear hst
    refine wp_region_held_drew (S := (fun w' => (loadVarH 27 ⟨g, 0, none⟩).run Tryz.prog w' = .ok (.agg (List.toArray ((tabC t (.slice (some ⟨g2, 0, none⟩) xs.length c) (.slice al t.lives.length cl))))) w' ∧ (loadVarH 9 ⟨gt, 0, none⟩).run Tryz.prog w' = .ok (.string ⟨tn.toArray⟩) w')) (by kernel_rfl) (by exact ⟨ldA ((tabC t (.slice (some ⟨g2, 0, none⟩) xs.length c) (.slice al t.lives.length cl))) [] hZ (rfl) (rfl), ldO hZ (H2.out)⟩) (fun hHeld => ?_)
    refine tq 0 30 ?_
    refine tq 3 33 ?_
    refine tq 1 31 ?_
    refine tq 2 32 ?_
    refine wpAnyH_ready (rs := [4]) (by kernel_rfl) (by simp) ?_
    refine (AllReadyH.cons (o := ⟨some 34, _, _, _, _, _⟩) rfl (fun K hK => ?_) AllReadyH.nil)
    rw [if_pos (by rfl)]
    go_simp
    go_at_call 57
    refine (find_any t _ tn (some ⟨g2, 0, none⟩) xs.length c xs _ (tp_recs [] HOK.out hZ) (by omega)).mono ?_
    rw [HOK.out.eq, HF2.out]
    rintro _ w5 ⟨rfl, h4⟩
    have hstG := St.call0 hZ h4
    clear h4
    refine hK.out _ _ ?_ (fun hHeld => ?_)
    ·exact ⟨ldA ((tabC t (.slice (some ⟨g2, 0, none⟩) xs.length c) (.slice al t.lives.length cl))) [] hstG (rfl) (rfl), ldO hstG (H2.out)⟩
    clear hK K
    (try simp only [Act.put, List.setIfInBounds_toArray, List.set_cons_zero, List.set_cons_succ])
    refine tq 5 29 ?_
    refine tq 6 35 ?_
    refine tq 7 36 ?_
    refine tq 8 7 ?_
    refine tq 9 8 ?_
    refine wpAnyH_done (by kernel_rfl) ?_ _
    clear hHeld
    have hst : St w [] _ (TP g t (.slice (some ⟨g2, 0, none⟩) xs.length c) (.slice al t.lives.length cl) xs R) := hstG
    clear hstG
    go_wp2_with (first | go_big_skip | go_big_guard | (refine wl_loadE rfl rfl rfl ?_; first | refine ⟨_, Loads.at [] hst rfl, ?_⟩) | (refine wl_store [] hst rfl rfl rfl (off := 1) (v := .slice none 0 0) rfl rfl rfl (by show (1 : Nat) + 1 ≤ 7; decide) ?_; intro w7 h4; have h5 := St.nilR 53 44 h4; have hstS : St w [] w7 (.blk g 27 (tabC t (.slice none 0 0) (.slice al t.lives.length cl)) :: .row (.slice none 0 0) 53 44 0 (recsV []) :: .row (.slice (some ⟨g2, 0, none⟩) xs.length c) 53 44 xs.length (recsV xs) :: .row (.slice al t.lives.length cl) 3 1 t.lives.length (numsV t.lives) :: (xs.map rootH ++ R)) := St.perm h5 (.swap _ _ _); clear h4 h5 hst))
    go_loopw [47] (fun i wr => ∃ (j : Nat) (rv : Value) (ys : List (Value × RC)), j ≤ xs.length ∧ i = .int .i64 (j : Int) ∧ RenS w wr g t rv (.slice al t.lives.length cl) g2 c xs ys j nm tn R) (fun i _ => xs.length - (intOf i).toNat)
    case atStart =>
     refine ⟨0, .slice none 0 0, [], Nat.zero_le _, rfl, ⟨?_, rfl, rfl, List.Perm.refl _, fun _ h => by cases h⟩⟩
     exact hstS
    case round =>
     clear hstS
     obtain ⟨j, rv, ys, hj, rfl, hS⟩ := hrel
     obtain ⟨ar, cr, rfl, _, _⟩ := rowS [_] hS.st
     have HS := hid hS
     clear hS
     by_cases hlt : j < xs.length
     ·have e1 : decide ((j : Int) < (xs.length : Int)) = true := decide_eq_true (by omega)
      have z1 : IntKind.i64.wrap ((j : Int) + 1) = (j : Int) + 1 := IntWalk.i64_in _ (by omega)
      obtain ⟨x, hx⟩ : ∃ x, xs[j]? = some x := ⟨_, List.getElem?_eq_getElem hlt⟩
      have hxm := List.mem_of_getElem? hx
      have hxt : x.2 ∈ t.recs := by rw [← HOK.out.eq]; exact List.mem_map_of_mem hxm
      have HX := hid hx
      have HLX := hid (cellsR_len (HOK.out.ok x hxm).1)
      have HON := hid (cellsR_ones (OwnR.In (L := xs.map rootH ++ R) ⟨List.mem_append_left _ (List.mem_map_of_mem hxm), HOK.out.ok x hxm⟩ (St.sub HS.out.st (.cons _ (.cons _ (.cons _ (.cons _ (List.Sublist.refl _))))))))
      have hnl : x.2.name.length ≤ 1000000 := (HOK.out.ok x hxm).2
      have HNL := hid (show x.2.name.length ≤ 9223372036854775807 by omega)
      have HOR : Hid (OwnR (.row (.slice (some ⟨g2, 0, none⟩) xs.length c) 53 44 xs.length (recsV xs) :: .row (.slice al t.lives.length cl) 3 1 t.lives.length (numsV t.lives) :: (xs.map rootH ++ R)) (renX nm tn x)) := hid ⟨.tail _ (.tail _ (List.mem_append_left _ (by rw [renX_root]; exact List.mem_map_of_mem hxm))), by show L32 (renR nm tn x.2).S; rw [(renR_root nm tn x.2).1]; exact (HOK.out.ok x hxm).1, renR_len hln hnl⟩
      have HLY := hid (HOR.out.L)
      obtain ⟨⟨v, u, f⟩, hsp⟩ : ∃ p, splitL x.2.name = p := ⟨_, rfl⟩
      have HSP := hid hsp
      have HUL := hid (show u.length ≤ 9223372036854775807 by have := (split_in x.2.name hnl).2; rw [hsp] at this; have h2 : u.length ≤ 1000000 := this; omega)
      cases d1 : (x.2.name == nm)
      ·cases d2 : (f && (v == nm))
       ·have HRN := hid (show renX nm tn x = x by unfold renX renR; rw [if_neg (by rw [d1]; decide), hsp, if_neg (by rw [d2]; decide)])
        cases f
        ·clear hx hxm hxt hsp d2 hnl
         go_wp2_with (first | go_big_skip | go_big_guard | (refine wl_index rfl rfl rfl rfl hlt ?_) | (refine wl_loadE rfl rfl rfl ?_; first | refine ⟨_, rowLoad HS.out.st (.tail _ (.tail _ (.head _))) rfl HOK.out.LX HX.out, ?_⟩ | refine ⟨.string ⟨x.2.name.toArray⟩, Loads.at [] hst3 rfl, ?_⟩ | refine ⟨_, Loads.old hst3 H1.out, ?_⟩ | refine ⟨_, Loads.old hst3 H2.out, ?_⟩ | refine ⟨_, (show Loads _ _ _ _ (.agg (cellsR (renX nm tn x)).toArray) from by rw [HRN.out]; exact Loads.atA (cellsR x) [] hst3 HLX.out (cellsR_all x)), ?_⟩) | (refine wl_alloc HS.out.st rfl rfl ?_; intro g9 w3 hst2) | (refine wl_storeA [] hst2 rfl rfl rfl rfl (by exact HLX.out) HON.out rfl ?_; intro w4 hst3; clear hst2) | (go_at_call 68; refine (split_any x.2.name _ HNL.out).mono ?_; rw [HSP.out]; rintro _ w9 ⟨rfl, h4⟩; replace hst3 := St.call0 hst3 h4; clear h4) | (go_at_call 77; refine (join_any tn u _ (by omega) HUL.out).mono ?_; rintro _ w9 ⟨rfl, h4⟩; replace hst3 := St.call0 hst3 h4; clear h4) | (go_at_call 78; refine (lay_any g t ar j cr (.slice al t.lives.length cl) ys (renX nm tn x) (St.sub hst3 (.cons _ (List.Sublist.refl _))) (HS.out.own _ _) HOR.out HS.out.len (HS.out.sorted HK.out HALB.out HTN.out) (by omega)).mono ?_; rintro _ w9 ⟨rv9, rfl, h4⟩; have hst5 := HS.out.next HOK.out HX.out hln h4; clear h4 hst3))
         go_roundw
         case rel => exact ⟨j + 1, rv9, _, by omega, rfl, hst5⟩
         case measure => simp [intOf]; omega
        ·have d3 : (v == nm) = false := by simpa using d2
         clear hx hxm hxt hsp d2 hnl
         go_wp2_with (first | go_big_skip | go_big_guard | (refine wl_index rfl rfl rfl rfl hlt ?_) | (refine wl_loadE rfl rfl rfl ?_; first | refine ⟨_, rowLoad HS.out.st (.tail _ (.tail _ (.head _))) rfl HOK.out.LX HX.out, ?_⟩ | refine ⟨.string ⟨x.2.name.toArray⟩, Loads.at [] hst3 rfl, ?_⟩ | refine ⟨_, Loads.old hst3 H1.out, ?_⟩ | refine ⟨_, Loads.old hst3 H2.out, ?_⟩ | refine ⟨_, (show Loads _ _ _ _ (.agg (cellsR (renX nm tn x)).toArray) from by rw [HRN.out]; exact Loads.atA (cellsR x) [] hst3 HLX.out (cellsR_all x)), ?_⟩) | (refine wl_alloc HS.out.st rfl rfl ?_; intro g9 w3 hst2) | (refine wl_storeA [] hst2 rfl rfl rfl rfl (by exact HLX.out) HON.out rfl ?_; intro w4 hst3; clear hst2) | (go_at_call 68; refine (split_any x.2.name _ HNL.out).mono ?_; rw [HSP.out]; rintro _ w9 ⟨rfl, h4⟩; replace hst3 := St.call0 hst3 h4; clear h4) | (go_at_call 77; refine (join_any tn u _ (by omega) HUL.out).mono ?_; rintro _ w9 ⟨rfl, h4⟩; replace hst3 := St.call0 hst3 h4; clear h4) | (go_at_call 78; refine (lay_any g t ar j cr (.slice al t.lives.length cl) ys (renX nm tn x) (St.sub hst3 (.cons _ (List.Sublist.refl _))) (HS.out.own _ _) HOR.out HS.out.len (HS.out.sorted HK.out HALB.out HTN.out) (by omega)).mono ?_; rintro _ w9 ⟨rv9, rfl, h4⟩; have hst5 := HS.out.next HOK.out HX.out hln h4; clear h4 hst3))
         go_roundw
         case rel => exact ⟨j + 1, rv9, _, by omega, rfl, hst5⟩
         case measure => simp [intOf]; omega
       ·have h3 : f = true ∧ (v == nm) = true := by revert d2; cases f <;> cases (v == nm) <;> decide
        obtain ⟨rfl, d3⟩ := h3
        have HRN := hid (show renX nm tn x = nameX x (joinL tn u).1 by unfold renX renR; rw [if_neg (by rw [d1]; decide), hsp, if_pos (by rw [d3]; rfl)]; rfl)
        clear hx hxm hxt hsp d2 hnl
        go_wp2_with (first | go_big_skip | go_big_guard | (refine wl_index rfl rfl rfl rfl hlt ?_) | (refine wl_loadE rfl rfl rfl ?_; first | refine ⟨_, rowLoad HS.out.st (.tail _ (.tail _ (.head _))) rfl HOK.out.LX HX.out, ?_⟩ | refine ⟨.string ⟨x.2.name.toArray⟩, Loads.at [] hst3 rfl, ?_⟩ | refine ⟨_, Loads.old hst3 H1.out, ?_⟩ | refine ⟨_, Loads.old hst3 H2.out, ?_⟩ | refine ⟨_, Loads.atA (cellsR (renX nm tn x)) [] hst4 HLY.out (cellsR_all _), ?_⟩) | (refine wl_alloc HS.out.st rfl rfl ?_; intro g9 w3 hst2) | (refine wl_storeA [] hst2 rfl rfl rfl rfl (by exact HLX.out) HON.out rfl ?_; intro w4 hst3; clear hst2) | (go_at_call 68; refine (split_any x.2.name _ HNL.out).mono ?_; rw [HSP.out]; rintro _ w9 ⟨rfl, h4⟩; replace hst3 := St.call0 hst3 h4; clear h4) | (go_at_call 77; refine (join_any tn u _ (by omega) HUL.out).mono ?_; rintro _ w9 ⟨rfl, h4⟩; replace hst3 := St.call0 hst3 h4; clear h4) | (refine wl_store [] hst3 rfl rfl rfl (off := 1) (v := .string ⟨(joinL tn u).1.toArray⟩) rfl rfl rfl (by rw [HLX.out]; show (1 : Nat) + 1 ≤ 44; decide) ?_; intro w7 h4; have hst4 : St w [] w7 (.blk g9 53 (cellsR (renX nm tn x)) :: .blk g 27 (tabC t (.slice ar j cr) (.slice al t.lives.length cl)) :: .row (.slice ar j cr) 53 44 j (recsV ys) :: .row (.slice (some ⟨g2, 0, none⟩) xs.length c) 53 44 xs.length (recsV xs) :: .row (.slice al t.lives.length cl) 3 1 t.lives.length (numsV t.lives) :: (xs.map rootH ++ R)) := (by have e : cellsR (renX nm tn x) = cellsR (nameX x (joinL tn u).1) := (by rw [HRN.out]); rw [e]; exact h4); clear h4 hst3) | (go_at_call 78; refine (lay_any g t ar j cr (.slice al t.lives.length cl) ys (renX nm tn x) (St.sub hst4 (.cons _ (List.Sublist.refl _))) (HS.out.own _ _) HOR.out HS.out.len (HS.out.sorted HK.out HALB.out HTN.out) (by omega)).mono ?_; rintro _ w9 ⟨rv9, rfl, h4⟩; have hst5 := HS.out.next HOK.out HX.out hln h4; clear h4 hst4))
        go_roundw
        case rel => exact ⟨j + 1, rv9, _, by omega, rfl, hst5⟩
        case measure => simp [intOf]; omega
      ·have HRN := hid (show renX nm tn x = nameX x tn by unfold renX renR; rw [if_pos d1]; rfl)
       clear hx hxm hxt hsp hnl
       go_wp2_with (first | go_big_skip | go_big_guard | (refine wl_index rfl rfl rfl rfl hlt ?_) | (refine wl_loadE rfl rfl rfl ?_; first | refine ⟨_, rowLoad HS.out.st (.tail _ (.tail _ (.head _))) rfl HOK.out.LX HX.out, ?_⟩ | refine ⟨.string ⟨x.2.name.toArray⟩, Loads.at [] hst3 rfl, ?_⟩ | refine ⟨_, Loads.old hst3 H1.out, ?_⟩ | refine ⟨_, Loads.old hst3 H2.out, ?_⟩ | refine ⟨_, Loads.atA (cellsR (renX nm tn x)) [] hst4 HLY.out (cellsR_all _), ?_⟩) | (refine wl_alloc HS.out.st rfl rfl ?_; intro g9 w3 hst2) | (refine wl_storeA [] hst2 rfl rfl rfl rfl (by exact HLX.out) HON.out rfl ?_; intro w4 hst3; clear hst2) | (go_at_call 68; refine (split_any x.2.name _ HNL.out).mono ?_; rw [HSP.out]; rintro _ w9 ⟨rfl, h4⟩; replace hst3 := St.call0 hst3 h4; clear h4) | (go_at_call 77; refine (join_any tn u _ (by omega) HUL.out).mono ?_; rintro _ w9 ⟨rfl, h4⟩; replace hst3 := St.call0 hst3 h4; clear h4) | (refine wl_store [] hst3 rfl rfl rfl (off := 1) (v := .string ⟨tn.toArray⟩) rfl rfl rfl (by rw [HLX.out]; show (1 : Nat) + 1 ≤ 44; decide) ?_; intro w7 h4; have hst4 : St w [] w7 (.blk g9 53 (cellsR (renX nm tn x)) :: .blk g 27 (tabC t (.slice ar j cr) (.slice al t.lives.length cl)) :: .row (.slice ar j cr) 53 44 j (recsV ys) :: .row (.slice (some ⟨g2, 0, none⟩) xs.length c) 53 44 xs.length (recsV xs) :: .row (.slice al t.lives.length cl) 3 1 t.lives.length (numsV t.lives) :: (xs.map rootH ++ R)) := (by have e : cellsR (renX nm tn x) = cellsR (nameX x tn) := (by rw [HRN.out]); rw [e]; exact h4); clear h4 hst3) | (go_at_call 78; refine (lay_any g t ar j cr (.slice al t.lives.length cl) ys (renX nm tn x) (St.sub hst4 (.cons _ (List.Sublist.refl _))) (HS.out.own _ _) HOR.out HS.out.len (HS.out.sorted HK.out HALB.out HTN.out) (by omega)).mono ?_; rintro _ w9 ⟨rv9, rfl, h4⟩; have hst5 := HS.out.next HOK.out HX.out hln h4; clear h4 hst4))
       go_roundw
       case rel => exact ⟨j + 1, rv9, _, by omega, rfl, hst5⟩
       case measure => simp [intOf]; omega
     ·have e1 : decide ((j : Int) < (xs.length : Int)) = false := decide_eq_false (by omega)
      obtain rfl : j = xs.length := by omega
      go_wp2_with (first | go_big_skip | go_big_guard | fail)
      go_ret
      exact ren_done HS.out HOK.out HB.out
   ·have HF2 := hid hf2
    have hi2 : isAt tn t.recs = true := by unfold isAt; rw [hra2]; rfl
    have HB := hid (show r = badR 7 by rw [HV.out, hi, hi2]; rfl)
    clear HV hf hra hi hy hfn hnm hf2 hra2 hi2 hy2 hfn2 hnm2
    go_enter Tryz.func75, Tryz.ntmps75
    go_wp2_with (first | go_big_skip | go_big_guard | (refine wl_loadE rfl rfl rfl ?_; first | refine ⟨_, Loads.old hst H1.out, ?_⟩ | refine ⟨_, Loads.old hst H2.out, ?_⟩) | (go_at_call 76; refine (alike13_any nm tn _ (by omega) (by omega)).mono ?_; rw [HAL.out]; rintro _ w9 ⟨rfl, h4⟩; replace hst := St.call0 hst h4; clear h4))
    have hX := hst.drew
    clear hst
    refine wp_region_held_drew (S := (fun w' => (loadVarH 27 ⟨g, 0, none⟩).run Tryz.prog w' = .ok (.agg (List.toArray ((tabC t (.slice (some ⟨g2, 0, none⟩) xs.length c) (.slice al t.lives.length cl))))) w' ∧ (loadVarH 9 ⟨g1, 0, none⟩).run Tryz.prog w' = .ok (.string ⟨nm.toArray⟩) w')) (by kernel_rfl) (by exact ⟨ldA ((tabC t (.slice (some ⟨g2, 0, none⟩) xs.length c) (.slice al t.lives.length cl))) [] hX (rfl) (rfl), ldO hX (H1.out)⟩) (fun hHeld => ?_)
    refine tq 0 20 ?_
    refine tq 3 23 ?_
    refine tq 1 21 ?_
    refine tq 2 22 ?_
    refine wpAnyH_ready (rs := [4]) (by kernel_rfl) (by simp) ?_
    refine (AllReadyH.cons (o := ⟨some 24, _, _, _, _, _⟩) rfl (fun K hK => ?_) AllReadyH.nil)
    rw [if_pos (by rfl)]
    go_simp
    go_at_call 57
    refine (find_any t _ nm (some ⟨g2, 0, none⟩) xs.length c xs _ (tp_recs [] HOK.out hX) (by omega)).mono ?_
    rw [HOK.out.eq, HF.out]
    rintro _ w5 ⟨rfl, h4⟩
    have hstF := St.call0 hX h4
    clear h4
    refine hK.out _ _ ?_ (fun hHeld => ?_)
    ·exact ⟨ldA ((tabC t (.slice (some ⟨g2, 0, none⟩) xs.length c) (.slice al t.lives.length cl))) [] hstF (rfl) (rfl), ldO hstF (H1.out)⟩
    clear hK K
    (try simp only [Act.put, List.setIfInBounds_toArray, List.set_cons_zero, List.set_cons_succ])
    refine tq 5 19 ?_
    refine tq 6 25 ?_
    refine tq 7 26 ?_
    refine tq 8 5 ?_
    refine tq 9 6 ?_
    refine wpAnyH_done (by kernel_rfl) ?_ _
    clear hHeld
    have hst : St w [] _ (TP g t (.slice (some ⟨g2, 0, none⟩) xs.length c) (.slice al t.lives.length cl) xs R) := hstF
    clear hstF
    go_wp2_with (first | go_big_skip | go_big_guard | fail)
    have hZ := hst.drew
    clear hst
    refine wp_region_held_drew (S := (fun w' => (loadVarH 27 ⟨g, 0, none⟩).run Tryz.prog w' = .ok (.agg (List.toArray ((tabC t (.slice (some ⟨g2, 0, none⟩) xs.length c) (.slice al t.lives.length cl))))) w' ∧ (loadVarH 9 ⟨gt, 0, none⟩).run Tryz.prog w' = .ok (.string ⟨tn.toArray⟩) w')) (by kernel_rfl) (by exact ⟨ldA ((tabC t (.slice (some ⟨g2, 0, none⟩) xs.length c) (.slice al t.lives.length cl))) [] hZ (rfl) (rfl), ldO hZ (H2.out)⟩) (fun hHeld => ?_)
    refine tq 0 30 ?_
    refine tq 3 33 ?_
    refine tq 1 31 ?_
    refine tq 2 32 ?_
    refine wpAnyH_ready (rs := [4]) (by kernel_rfl) (by simp) ?_
    refine (AllReadyH.cons (o := ⟨some 34, _, _, _, _, _⟩) rfl (fun K hK => ?_) AllReadyH.nil)
    rw [if_pos (by rfl)]
    go_simp
    go_at_call 57
    refine (find_any t _ tn (some ⟨g2, 0, none⟩) xs.length c xs _ (tp_recs [] HOK.out hZ) (by omega)).mono ?_
    rw [HOK.out.eq, HF2.out]
    rintro _ w5 ⟨rfl, h4⟩
    have hstG := St.call0 hZ h4
    clear h4
    refine hK.out _ _ ?_ (fun hHeld => ?_)
    ·exact ⟨ldA ((tabC t (.slice (some ⟨g2, 0, none⟩) xs.length c) (.slice al t.lives.length cl))) [] hstG (rfl) (rfl), ldO hstG (H2.out)⟩
    clear hK K
    (try simp only [Act.put, List.setIfInBounds_toArray, List.set_cons_zero, List.set_cons_succ])
    refine tq 5 29 ?_
    refine tq 6 35 ?_
    refine tq 7 36 ?_
    refine tq 8 7 ?_
    refine tq 9 8 ?_
    refine wpAnyH_done (by kernel_rfl) ?_ _
    clear hHeld
    have hst : St w [] _ (TP g t (.slice (some ⟨g2, 0, none⟩) xs.length c) (.slice al t.lives.length cl) xs R) := hstG
    clear hstG
    go_wp2_with (first | go_big_skip | go_big_guard | fail)
    go_ret
    exact does_bad (L := []) HB.out (by decide) hst
end Go.Proofs.YtifajcblbedcoaaGreat
namespace Go.Proofs.YtifajcblbedcoaaGreat
set_option linter.unusedVariables false
set_option linter.unusedSimpArgs false
open Go.RowKit Hp
attribute [local irreducible] Go.Calls Go.wpList
set_option maxRecDepth 100000
set_option maxHeartbeats 8000000
attribute [local go_sem ↓] heldInt heldInts heldRecs heldRec heldStr heldTab heldPtr heldFn
theorem rename13_any (t : TC) (ar al : Option Addr) (nr cr nl cl : Nat) (xs : List (Value × RC)) (w : World) (ht : TabIn w t ar nr cr al nl cl xs) (nm : List UInt8) (tn : List UInt8) (hnm : nm.length ≤ 1000000) (htn : tn.length ≤ 1000000) :
  Calls Tryz.prog 29 #[.agg (tabC t (.slice ar nr cr) (.slice al nl cl)).toArray, .string ⟨nm.toArray⟩, .string ⟨tn.toArray⟩] w (TabRet (opR t (renameT t nm tn)) w) := by
 have hst0 := St.refl w
 have HT := hid ht
 clear ht
 obtain ⟨r, hr⟩ : ∃ r, r = opR t (renameT t nm tn) := ⟨_, rfl⟩
 rw [← hr]
 have HR := hid hr
 clear hr
 go_enter Tryz.func29, Tryz.ntmps29
 go_wp2_with (first | go_big_skip | go_big_guard | (refine wl_boxA hst0 rfl rfl rfl ?_; intro g4 w1 hA0; clear hst0) | (refine wl_box hA0 rfl rfl rfl ?_; intro g5 _ hA1; clear hA0) | (refine wl_box hA1 rfl rfl rfl ?_; intro g6 _ hA2; clear hA1) | (refine wl_alloc hA2 rfl rfl ?_; intro gz _ hst; clear hA2) | (refine wl_loadE rfl rfl rfl ?_; refine ⟨_, Loads.atA (tabC t (.slice ar nr cr) (.slice al nl cl)) [_, _, _] hst rfl rfl, ?_⟩) | (go_at_call 54; refine (owned_any 75 #[.pointer (some ⟨g5, 0, none⟩), .pointer (some ⟨g6, 0, none⟩)] (fun _ _ => rfl) t ar al nr cr nl cl xs _ (HT.out.old hst.nil) (renameT t nm tn) (fun hk => rename_does nm tn (hst.cell (g := g5) (off := 0) (.tail _ (.tail _ (.head _))) rfl) (hst.cell (g := g6) (off := 0) (.tail _ (.head _)) rfl) hnm htn t hk)).mono ?_; rw [← HR.out]; rintro _ w9 ⟨rv9, lv9, xs9, rfl, hok9, h4⟩; have hst2 := St.call hst h4; clear h4 hst; obtain ⟨a9, c9, rfl, _, _⟩ := rowS [] hst2; obtain ⟨a8, c8, rfl, _, _⟩ := rowS [_] hst2; have HOK := hid hok9; clear hok9) | (refine wl_storeA (_ :: _ :: List.map rootH xs9) hst2 rfl rfl rfl rfl (vs := tabC r.2 (.slice a9 xs9.length c9) (.slice a8 r.2.lives.length c8)) rfl rfl rfl ?_; intro w7 hst3; clear hst2))
 have hl := Loads.atA (P := Tryz.prog) (off := 0) (T := 27) (tabC r.2 (.slice a9 xs9.length c9) (.slice a8 r.2.lives.length c8)) (_ :: _ :: List.map rootH xs9) hst3 rfl rfl
 refine bodyPost_ret (results_cellR rfl rfl rfl hl) rfl ?_
 exact ⟨_, _, xs9, rfl, HOK.out, St.sub hst3 (.cons_cons _ (.cons_cons _ (List.sublist_append_left _ _)))⟩
end Go.Proofs.YtifajcblbedcoaaGreat
namespace Go.Proofs.YtifajcblbedcoaaGreat
set_option linter.unusedVariables false
set_option linter.unusedSimpArgs false
open Go.RowKit Hp
attribute [local irreducible] Go.Calls Go.wpList
set_option maxRecDepth 100000
set_option maxHeartbeats 8000000
attribute [local go_sem ↓] heldInt heldInts heldRecs heldRec heldStr heldTab heldPtr heldFn
structure AD where
 (kind n txg : Int)
 nm : List UInt8
 tn : List UInt8
 p : PV
def AD.cells (x : AD) : List Value := .int .i64 x.kind :: .string ⟨x.nm.toArray⟩ :: .string ⟨x.tn.toArray⟩ :: .int .i64 x.n :: .int .i64 x.txg :: x.p.cells
structure AD.Few (x : AD) (w : World) : Prop where
 nm : x.nm.length ≤ 1000000
 tn : x.tn.length ≤ 1000000
 p : x.p.In w
 l : x.p.l.length ≤ 100000
def doR (t : TC) (x : AD) : TR :=
 if x.kind = 0 then opR t (makeR t x.nm x.n x.txg) else if x.kind = 1 then opR t (snapT t x.nm x.txg) else if x.kind = 2 then opR t (cloneT t x.nm x.tn x.txg) else if x.kind = 3 then opR t (rollT t x.nm)
 else if x.kind = 4 then opR t (dropT t x.nm) else if x.kind = 5 then opR t (renameT t x.nm x.tn) else if x.kind = 6 then opR t (resizeT t x.nm x.n) else if x.kind = 7 then opR t (limitT t x.nm x.n x.txg) else if x.kind = 8 then opR t (rootT t x.nm x.p) else (0, t)
def AD.idle (x : AD) : Bool := decide (x.kind < 0) || decide (8 < x.kind)
theorem does_all (t : TC) (ar al : Option Addr) (nr cr nl cl : Nat) (xs : List (Value × RC)) (w : World) (ht : TabIn w t ar nr cr al nl cl xs) (x : AD) (hx : x.Few w) (hk : x.kind = 0 ∨ x.kind = 1 ∨ x.kind = 2 ∨ x.kind = 3 ∨ x.kind = 4 ∨ x.kind = 5 ∨ x.kind = 6 ∨ x.kind = 7 ∨ x.kind = 8) :
  Calls Tryz.prog 11 #[.agg (tabC t (.slice ar nr cr) (.slice al nl cl)).toArray, .agg x.cells.toArray] w (TabRet (doR t x) w) := by
 have hst0 := St.refl w
 have HT := hid ht
 have HX := hid hx
 have H35 := hid (PV.len hx.p.1)
 clear ht hx
 obtain ⟨r, hr⟩ : ∃ r, r = doR t x := ⟨_, rfl⟩
 rw [← hr]
 obtain ⟨k, z, txg, nm, tn, p⟩ := x
 simp only at hk
 rcases hk with rfl | rfl | rfl | rfl | rfl | rfl | rfl | rfl | rfl
 all_goals
  have HR := hid hr
  clear hr
  go_enter Tryz.func11, Tryz.ntmps11
  go_wp2_with (first | go_big_skip | go_big_guard | (refine wl_boxA hst0 rfl rfl rfl ?_; intro g2 w1 hA0; clear hst0) | (refine wl_boxA hA0 rfl rfl rfl ?_; intro g3 w2 hA1; clear hA0) | (refine wl_alloc hA1 rfl rfl ?_; intro g4 w3 hst; clear hA1) | (refine wl_loadE rfl rfl rfl ?_; first | refine ⟨_, Loads.atA p.cells [_] hst H35.out (by show List.take p.cells.length p.cells = p.cells; exact List.take_length), ?_⟩ | refine ⟨_, Loads.atA (tabC t (.slice ar nr cr) (.slice al nl cl)) [_, _] hst rfl rfl, ?_⟩ | refine ⟨_, Loads.at [_] hst rfl, ?_⟩) | (go_at_call 25; refine (make13_any t ar al nr cr nl cl xs _ (HT.out.old hst.nil) nm z txg HX.out.nm).mono ?_; rw [show opR t (makeR t nm z txg) = r from HR.out.symm]; rintro _ w9 ⟨rv9, lv9, xs9, rfl, hok9, h4⟩; have hst2 := St.call hst h4; clear h4 hst; obtain ⟨a9, c9, rfl, _, _⟩ := rowS [] hst2; obtain ⟨a8, c8, rfl, _, _⟩ := rowS [_] hst2; have HOK := hid hok9; clear hok9) | (go_at_call 26; refine (snap13_any t ar al nr cr nl cl xs _ (HT.out.old hst.nil) nm txg HX.out.nm).mono ?_; rw [show opR t (snapT t nm txg) = r from HR.out.symm]; rintro _ w9 ⟨rv9, lv9, xs9, rfl, hok9, h4⟩; have hst2 := St.call hst h4; clear h4 hst; obtain ⟨a9, c9, rfl, _, _⟩ := rowS [] hst2; obtain ⟨a8, c8, rfl, _, _⟩ := rowS [_] hst2; have HOK := hid hok9; clear hok9) | (go_at_call 27; refine (clone13_any t ar al nr cr nl cl xs _ (HT.out.old hst.nil) nm tn txg HX.out.nm HX.out.tn).mono ?_; rw [show opR t (cloneT t nm tn txg) = r from HR.out.symm]; rintro _ w9 ⟨rv9, lv9, xs9, rfl, hok9, h4⟩; have hst2 := St.call hst h4; clear h4 hst; obtain ⟨a9, c9, rfl, _, _⟩ := rowS [] hst2; obtain ⟨a8, c8, rfl, _, _⟩ := rowS [_] hst2; have HOK := hid hok9; clear hok9) | (go_at_call 28; refine (roll13_any t ar al nr cr nl cl xs _ (HT.out.old hst.nil) nm HX.out.nm).mono ?_; rw [show opR t (rollT t nm) = r from HR.out.symm]; rintro _ w9 ⟨rv9, lv9, xs9, rfl, hok9, h4⟩; have hst2 := St.call hst h4; clear h4 hst; obtain ⟨a9, c9, rfl, _, _⟩ := rowS [] hst2; obtain ⟨a8, c8, rfl, _, _⟩ := rowS [_] hst2; have HOK := hid hok9; clear hok9) | (go_at_call 23; refine (drop13_any t ar al nr cr nl cl xs _ (HT.out.old hst.nil) nm HX.out.nm).mono ?_; rw [show opR t (dropT t nm) = r from HR.out.symm]; rintro _ w9 ⟨rv9, lv9, xs9, rfl, hok9, h4⟩; have hst2 := St.call hst h4; clear h4 hst; obtain ⟨a9, c9, rfl, _, _⟩ := rowS [] hst2; obtain ⟨a8, c8, rfl, _, _⟩ := rowS [_] hst2; have HOK := hid hok9; clear hok9) | (go_at_call 29; refine (rename13_any t ar al nr cr nl cl xs _ (HT.out.old hst.nil) nm tn HX.out.nm HX.out.tn).mono ?_; rw [show opR t (renameT t nm tn) = r from HR.out.symm]; rintro _ w9 ⟨rv9, lv9, xs9, rfl, hok9, h4⟩; have hst2 := St.call hst h4; clear h4 hst; obtain ⟨a9, c9, rfl, _, _⟩ := rowS [] hst2; obtain ⟨a8, c8, rfl, _, _⟩ := rowS [_] hst2; have HOK := hid hok9; clear hok9) | (go_at_call 30; refine (resize13_any t ar al nr cr nl cl xs _ (HT.out.old hst.nil) nm z HX.out.nm).mono ?_; rw [show opR t (resizeT t nm z) = r from HR.out.symm]; rintro _ w9 ⟨rv9, lv9, xs9, rfl, hok9, h4⟩; have hst2 := St.call hst h4; clear h4 hst; obtain ⟨a9, c9, rfl, _, _⟩ := rowS [] hst2; obtain ⟨a8, c8, rfl, _, _⟩ := rowS [_] hst2; have HOK := hid hok9; clear hok9) | (go_at_call 31; refine (limits13_any t ar al nr cr nl cl xs _ (HT.out.old hst.nil) nm z txg HX.out.nm).mono ?_; rw [show opR t (limitT t nm z txg) = r from HR.out.symm]; rintro _ w9 ⟨rv9, lv9, xs9, rfl, hok9, h4⟩; have hst2 := St.call hst h4; clear h4 hst; obtain ⟨a9, c9, rfl, _, _⟩ := rowS [] hst2; obtain ⟨a8, c8, rfl, _, _⟩ := rowS [_] hst2; have HOK := hid hok9; clear hok9) | (go_at_call 32; refine (root13_any t ar al nr cr nl cl xs _ (HT.out.old hst.nil) nm p (HX.out.p.old hst.nil) HX.out.l HX.out.nm).mono ?_; rw [show opR t (rootT t nm p) = r from HR.out.symm]; rintro _ w9 ⟨rv9, lv9, xs9, rfl, hok9, h4⟩; have hst2 := St.call hst h4; clear h4 hst; obtain ⟨a9, c9, rfl, _, _⟩ := rowS [] hst2; obtain ⟨a8, c8, rfl, _, _⟩ := rowS [_] hst2; have HOK := hid hok9; clear hok9) | (refine wl_storeA (_ :: _ :: List.map rootH xs9) hst2 rfl rfl rfl rfl (vs := tabC r.2 (.slice a9 xs9.length c9) (.slice a8 r.2.lives.length c8)) rfl rfl rfl ?_; intro w7 hst3; clear hst2))
  have hl := Loads.atA (P := Tryz.prog) (off := 0) (T := 27) (tabC r.2 (.slice a9 xs9.length c9) (.slice a8 r.2.lives.length c8)) (_ :: _ :: List.map rootH xs9) hst3 rfl rfl
  refine bodyPost_ret (results_cellR rfl rfl rfl hl) rfl ?_
  exact ⟨_, _, xs9, rfl, HOK.out, St.sub hst3 (.cons_cons _ (.cons_cons _ (List.sublist_append_left _ _)))⟩
theorem does_none (t : TC) (ar al : Option Addr) (nr cr nl cl : Nat) (xs : List (Value × RC)) (w : World) (ht : TabIn w t ar nr cr al nl cl xs) (x : AD) (hx : x.Few w) (hk : x.idle = true) :
  Calls Tryz.prog 11 #[.agg (tabC t (.slice ar nr cr) (.slice al nl cl)).toArray, .agg x.cells.toArray] w fun e w' => e = .returned (.tuple #[.agg (tabC t (.slice ar nr cr) (.slice al nl cl)).toArray, .int .i64 0]) ∧ St w [] w' [] := by
 have hst0 := St.refl w
 have H35 := hid (PV.len hx.p.1)
 obtain ⟨k, z, txg, nm, tn, p⟩ := x
 unfold AD.idle at hk
 simp only [Bool.or_eq_true, decide_eq_true_eq] at hk
 have d0 : (k == 0) = false := by rw [beq_eq_false_iff_ne]; omega
 have d1 : (k == 1) = false := by rw [beq_eq_false_iff_ne]; omega
 have d2 : (k == 2) = false := by rw [beq_eq_false_iff_ne]; omega
 have d3 : (k == 3) = false := by rw [beq_eq_false_iff_ne]; omega
 have d4 : (k == 4) = false := by rw [beq_eq_false_iff_ne]; omega
 have d5 : (k == 5) = false := by rw [beq_eq_false_iff_ne]; omega
 have d6 : (k == 6) = false := by rw [beq_eq_false_iff_ne]; omega
 have d7 : (k == 7) = false := by rw [beq_eq_false_iff_ne]; omega
 have d8 : (k == 8) = false := by rw [beq_eq_false_iff_ne]; omega
 clear hk hx
 go_enter Tryz.func11, Tryz.ntmps11
 go_wp2_with (first | go_big_skip | go_big_guard | (refine wl_boxA hst0 rfl rfl rfl ?_; intro g2 w1 hA0; clear hst0) | (refine wl_boxA hA0 rfl rfl rfl ?_; intro g3 w2 hA1; clear hA0) | (refine wl_alloc hA1 rfl rfl ?_; intro g4 w3 hst; clear hA1) | (refine wl_loadE rfl rfl rfl ?_; first | refine ⟨_, Loads.atA p.cells [_] hst H35.out (by show List.take p.cells.length p.cells = p.cells; exact List.take_length), ?_⟩ | refine ⟨_, Loads.atA (tabC t (.slice ar nr cr) (.slice al nl cl)) [_, _] hst rfl rfl, ?_⟩ | refine ⟨_, Loads.at [_] hst rfl, ?_⟩) | (refine wl_storeA [] hst rfl rfl rfl rfl (vs := (tabC t (.slice ar nr cr) (.slice al nl cl))) rfl rfl rfl ?_; intro w7 hst3; clear hst))
 have hl := Loads.atA (P := Tryz.prog) (off := 0) (T := 27) (tabC t (.slice ar nr cr) (.slice al nl cl)) [] hst3 rfl rfl
 refine bodyPost_ret (results_cellR rfl rfl rfl hl) rfl ?_
 exact ⟨rfl, hst3.nil⟩
theorem does13_any (t : TC) (ar al : Option Addr) (nr cr nl cl : Nat) (xs : List (Value × RC)) (w : World) (ht : TabIn w t ar nr cr al nl cl xs) (x : AD) (hx : x.Few w) (hk : x.idle = false) :
  Calls Tryz.prog 11 #[.agg (tabC t (.slice ar nr cr) (.slice al nl cl)).toArray, .agg x.cells.toArray] w (TabRet (doR t x) w) := by
 unfold AD.idle at hk
 simp only [Bool.or_eq_false_iff, decide_eq_false_iff_not] at hk
 exact does_all t ar al nr cr nl cl xs w ht x hx (by omega)
end Go.Proofs.YtifajcblbedcoaaGreat
namespace Go.Proofs.YtifajcblbedcoaaGreat
set_option linter.unusedVariables false
set_option linter.unusedSimpArgs false
open Go.RowKit Hp
attribute [local irreducible] Go.Calls Go.wpList
set_option maxRecDepth 100000
set_option maxHeartbeats 8000000
def in64D (z : Int) : Prop := -9223372036854775808 ≤ z ∧ z ≤ 9223372036854775807
structure AD.Ok (y : AD) (w : World) : Prop where
 kind : in64D y.kind
 n : in64D y.n
 txg : in64D y.txg
 p : y.p.In w
instance adA : TyA Tryz.prog 34 40 := ⟨by kernel_rfl⟩
instance adN : TyN Tryz.prog 34 40 := ⟨by kernel_rfl⟩
instance adSl : TySl Tryz.prog 37 34 := ⟨by kernel_rfl⟩
theorem AD.len {y : AD} (h : L32 y.p.S) : y.cells.length = 40 := by
 show (y.p.cells).length + 5 = 40
 rw [PV.len h]
theorem ads_at : ∀ {xs : List AD} {k : Nat} {x : AD}, (∀ y ∈ xs, L32 y.p.S) → xs[k]? = some x → ∀ j v, x.cells[j]? = some v → (xs.flatMap AD.cells)[k * 40 + j]? = some v
 | y :: xs, 0, x, _, h, j, v, hj => by
  cases h
  rw [List.flatMap_cons, Nat.zero_mul, Nat.zero_add, List.getElem?_append_left (List.getElem?_eq_some_iff.1 hj).1]
  exact hj
 | y :: xs, k + 1, x, hl, h, j, v, hj => by
  have hl' : y.cells.length = 40 := AD.len (hl y (.head _))
  rw [List.flatMap_cons, List.getElem?_append_right (by rw [hl']; omega), hl', show (k + 1) * 40 + j - 40 = k * 40 + j by omega]
  exact ads_at (fun z hz => hl z (.tail _ hz)) (by simpa using h) j v hj
 | [], _, _, _, h, _, _, _ => by cases h
theorem ads_range {w : World} {b off n c k : Nat} {xs : List AD} {x : AD} (h : Rd w (.slice (some ⟨b, off, none⟩) n c) 40 n (xs.flatMap AD.cells)) (hl : ∀ y ∈ xs, L32 y.p.S) (hk : xs[k]? = some x) : w.rangeAt b (off + k * 40) x.cells := by
 intro j v hj
 have := h.range (k * 40 + j) v (ads_at hl hk j v hj)
 rwa [← Nat.add_assoc] at this
def shortD (xs : List AD) (N : Nat) : Prop := N ≤ 60 ∧ ∀ x ∈ xs, x.nm.length ≤ 100 ∧ x.tn.length ≤ 100 ∧ x.p.l.length ≤ 20
def longD (xs : List AD) (N : Nat) (e : Ending) : Prop := ∃ b, e = .returned (.bool b) ∧ (b = false ↔ shortD xs N)
theorem longD_any (ao : Option Addr) (N c : Nat) (xs : List AD) (w : World) (hv : Rd w (.slice ao N c) 40 N (xs.flatMap AD.cells)) (hN : xs.length = N) (hx : ∀ x ∈ xs, x.Ok w) (hnb : ∀ x ∈ xs, x.nm.length ≤ 9223372036854775807 ∧ x.tn.length ≤ 9223372036854775807) :
  Calls Tryz.prog 7 #[.slice ao N c] w fun e w' => longD xs N e ∧ St w [] w' [] := by
 have hst := St.refl w
 have HN := hid hN
 have HXX := hid hx
 have HNB := hid hnb
 have hb1 := hv.bd.1
 have hb2 := hv.bd.2.1
 clear hN hx hnb
 go_enter Tryz.func7, Tryz.ntmps7
 go_wp2_with (first | go_big_skip | go_big_guard | fail)
 go_loop [3] (fun q => ∃ k : Nat, k ≤ N ∧ k ≤ 61 ∧ q = .int .i64 k ∧ Hid (∀ j x, j < k → xs[j]? = some x → x.nm.length ≤ 100 ∧ x.tn.length ≤ 100 ∧ x.p.l.length ≤ 20)) (fun q => 61 - (intOf q).toNat)
 case atStart => exact ⟨0, by omega, by omega, rfl, hid (fun j x hj => absurd hj (Nat.not_lt_zero _))⟩
 case round =>
  obtain ⟨k, hk, hk1, rfl, hall⟩ := hrel
  by_cases hkN : k < N
  ·by_cases hk2 : k < 61
   ·obtain ⟨x, hxk⟩ : ∃ x, xs[k]? = some x := ⟨_, List.getElem?_eq_getElem (by rw [HN.out]; exact hkN)⟩
    obtain ⟨b, off, rfl, _⟩ := hv.at hkN
    have hok := HXX.out x (List.mem_of_getElem? hxk)
    have hra := ads_range hv (fun y hy => (HXX.out y hy).p.1) hxk
    obtain ⟨hm1, hm2⟩ := HNB.out x (List.mem_of_getElem? hxk)
    obtain ⟨_, po, pn, pc, hps, hpr, hpl⟩ := hok.p
    have hpb1 := hpr.bd.1
    have hpb2 := hpr.bd.2.1
    have h3 := hid (show w.cell? ⟨b, off + k * 40 + 1, none⟩ = some (.string ⟨x.nm.toArray⟩) from hra 1 _ rfl)
    have h4 := hid (show w.cell? ⟨b, off + k * 40 + 2, none⟩ = some (.string ⟨x.tn.toArray⟩) from hra 2 _ rfl)
    have h5 := hid (show w.cell? ⟨b, off + k * 40 + 5, none⟩ = some (.slice po pn pc) from hra 5 _ (by show some x.p.sv = _; rw [hps]))
    have HXK := hid hxk
    have d1 : decide ((k : Int) < (N : Int)) = true := decide_eq_true (by omega)
    have d0 : decide ((k : Int) < 61) = true := decide_eq_true (by omega)
    clear hra hxk hok hps hpr
    by_cases g1 : 100 < x.nm.length
    ·have d2 : decide (100 < (x.nm.length : Int)) = true := decide_eq_true (by omega)
     go_wp2_with (first | go_big_skip | go_big_guard | (refine wl_loadE rfl rfl rfl ?_; first | refine ⟨_, Loads.old hst (h3.out), ?_⟩ | refine ⟨_, Loads.old hst (h4.out), ?_⟩ | refine ⟨_, Loads.old hst (h5.out), ?_⟩))
     go_ret
     exact ⟨⟨true, rfl, ⟨fun h => (by cases h), fun h => by have := (h.2 x (List.mem_of_getElem? HXK.out)); omega⟩⟩, hst⟩
    ·have d2 : decide (100 < (x.nm.length : Int)) = false := decide_eq_false (by omega)
     by_cases g2 : 100 < x.tn.length
     ·have d3 : decide (100 < (x.tn.length : Int)) = true := decide_eq_true (by omega)
      go_wp2_with (first | go_big_skip | go_big_guard | (refine wl_loadE rfl rfl rfl ?_; first | refine ⟨_, Loads.old hst (h3.out), ?_⟩ | refine ⟨_, Loads.old hst (h4.out), ?_⟩ | refine ⟨_, Loads.old hst (h5.out), ?_⟩))
      go_ret
      exact ⟨⟨true, rfl, ⟨fun h => (by cases h), fun h => by have := (h.2 x (List.mem_of_getElem? HXK.out)); omega⟩⟩, hst⟩
     ·have d3 : decide (100 < (x.tn.length : Int)) = false := decide_eq_false (by omega)
      by_cases g3 : 20 < pn
      ·have d4 : decide (20 < (pn : Int)) = true := decide_eq_true (by omega)
       go_wp2_with (first | go_big_skip | go_big_guard | (refine wl_loadE rfl rfl rfl ?_; first | refine ⟨_, Loads.old hst (h3.out), ?_⟩ | refine ⟨_, Loads.old hst (h4.out), ?_⟩ | refine ⟨_, Loads.old hst (h5.out), ?_⟩))
       go_ret
       exact ⟨⟨true, rfl, ⟨fun h => (by cases h), fun h => by have := (h.2 x (List.mem_of_getElem? HXK.out)); omega⟩⟩, hst⟩
      ·have d4 : decide (20 < (pn : Int)) = false := decide_eq_false (by omega)
       have z1 : IntKind.i64.wrap ((k : Int) + 1) = (k : Int) + 1 := IntWalk.i64_in _ (by omega)
       go_wp2_with (first | go_big_skip | go_big_guard | (refine wl_loadE rfl rfl rfl ?_; first | refine ⟨_, Loads.old hst (h3.out), ?_⟩ | refine ⟨_, Loads.old hst (h4.out), ?_⟩ | refine ⟨_, Loads.old hst (h5.out), ?_⟩))
       go_round
       case rel =>
        refine ⟨k + 1, by omega, by omega, rfl, hid (fun j y hj hy => ?_)⟩
        rcases Nat.lt_or_ge j k with h9 | h9
        ·exact hall.out j y h9 hy
        ·obtain rfl : j = k := by omega
         rw [HXK.out] at hy
         cases hy
         omega
       case measure => simp [intOf]; omega
   ·have d1 : decide ((k : Int) < (N : Int)) = true := decide_eq_true (by omega)
    have d0 : decide ((k : Int) < 61) = false := decide_eq_false (by omega)
    have d2 : decide (60 < (N : Int)) = true := decide_eq_true (by omega)
    go_wp2_with (first | go_big_skip | go_big_guard | fail)
    go_ret
    exact ⟨⟨true, rfl, ⟨fun h => (by cases h), fun h => by have := h.1; omega⟩⟩, hst⟩
  ·have e : k = N := by omega
   subst e
   have d1 : decide ((k : Int) < (k : Int)) = false := by simp
   have hs : ∀ x ∈ xs, x.nm.length ≤ 100 ∧ x.tn.length ≤ 100 ∧ x.p.l.length ≤ 20 := fun x hx => by
    obtain ⟨j, hj⟩ := List.getElem?_of_mem hx
    have hjl := (List.getElem?_eq_some_iff.1 hj).1
    have := HN.out
    exact hall.out j x (by omega) hj
   have HS := hid hs
   clear hs
   by_cases h60 : 60 < k
   ·have d2 : decide (60 < (k : Int)) = true := decide_eq_true (by omega)
    go_wp2_with (first | go_big_skip | go_big_guard | fail)
    go_ret
    exact ⟨⟨true, rfl, ⟨fun h => (by cases h), fun h => by have := h.1; omega⟩⟩, hst⟩
   ·have d2 : decide (60 < (k : Int)) = false := decide_eq_false (by omega)
    go_wp2_with (first | go_big_skip | go_big_guard | fail)
    go_ret
    exact ⟨⟨false, rfl, ⟨fun _ => ⟨by omega, HS.out⟩, fun _ => rfl⟩⟩, hst⟩
end Go.Proofs.YtifajcblbedcoaaGreat
namespace Go.Proofs.YtifajcblbedcoaaGreat
set_option linter.unusedVariables false
set_option linter.unusedSimpArgs false
open Go.ChangeShapes Go.WideShapes Go.ChangeAt Go.RowKit Go.Deep Go.Lib Go.Joins Hp
set_option maxRecDepth 100000
theorem i64_wfQ {z : Int} (hw : (Lit.int .i64 z).wf = true) : in64D z := by
 simp only [Lit.wf, Bool.and_eq_true, decide_eq_true_eq] at hw
 have h3 : IntKind.i64.min = -9223372036854775808 := rfl
 have h4 : IntKind.i64.max = 9223372036854775807 := rfl
 unfold in64D
 omega
theorem cellsAd : Tryz.prog.cellsOf 34 = 40 := by kernel_rfl
def ADL : Type := { x : AD // L32 x.p.S }
instance inhADL : Inhabited ADL := ⟨⟨⟨0, 0, 0, [], [], ⟨.slice none 0 0, [], 0, 0, nones⟩⟩, L32.nones⟩⟩
def OkNm (k : AD) (W : World) : Prop := k.Ok W ∧ k.nm.length ≤ 9223372036854775807 ∧ k.tn.length ≤ 9223372036854775807
theorem open_actD {H : Type} {enc : TypeId × Value → H} {W : World} (fuel : Nat) (cs : List Value) (x : DataW H × List MemPlace) (hl : cs.length = 40)
  (h : DataW.trod enc Tryz.prog W 0 (fun _ => true) true fuel 34 cs = some x) : ∃ k : ADL, cs = k.1.cells ∧ OkNm k.1 W := by
 obtain ⟨xs, n, _, _, _, hlen, hf⟩ := DataW.trod_struct Tryz.underlying34 h
 have hlen' : xs.length = 6 := hlen
 have g0 := hf 0 _ rfl
 have g1 := hf 1 _ rfl
 have g2 := hf 2 _ rfl
 have g3 := hf 3 _ rfl
 have g4 := hf 4 _ rfl
 have g5 := hf 5 _ rfl
 clear hf h
 match xs, hlen' with
 | [y0, y1, y2, y3, y4, y5], _ =>
  match cs, hl with
  | a :: b :: c :: d :: e :: P, hl =>
   have hPl : P.length = 35 := by simpa using hl
   have f0 : DataW.trod enc Tryz.prog W 0 (fun _ => true) true n 3 (List.take (Tryz.prog.cellsOf 3) (List.drop 0 (a :: b :: c :: d :: e :: P))) = some y0 := g0
   have f1 : DataW.trod enc Tryz.prog W 0 (fun _ => true) true n 9 (List.take (Tryz.prog.cellsOf 9) (List.drop 1 (a :: b :: c :: d :: e :: P))) = some y1 := g1
   have f2 : DataW.trod enc Tryz.prog W 0 (fun _ => true) true n 9 (List.take (Tryz.prog.cellsOf 9) (List.drop 2 (a :: b :: c :: d :: e :: P))) = some y2 := g2
   have f3 : DataW.trod enc Tryz.prog W 0 (fun _ => true) true n 3 (List.take (Tryz.prog.cellsOf 3) (List.drop 3 (a :: b :: c :: d :: e :: P))) = some y3 := g3
   have f4 : DataW.trod enc Tryz.prog W 0 (fun _ => true) true n 3 (List.take (Tryz.prog.cellsOf 3) (List.drop 4 (a :: b :: c :: d :: e :: P))) = some y4 := g4
   have f5 : DataW.trod enc Tryz.prog W 0 (fun _ => true) true n 32 (List.take (Tryz.prog.cellsOf 32) (List.drop 5 (a :: b :: c :: d :: e :: P))) = some y5 := g5
   obtain ⟨z0, w0, _, u0⟩ := DataW.trod_int Tryz.underlying3 (show DataW.trod enc Tryz.prog W 0 (fun _ => true) true n 3 [a] = some y0 from by rw [cellsI] at f0; exact f0)
   obtain ⟨s1, w1, _, hs1⟩ := DataW.trod_string Tryz.underlying9 (show DataW.trod enc Tryz.prog W 0 (fun _ => true) true n 9 [b] = some y1 from by rw [cellsSd] at f1; exact f1)
   obtain ⟨s2, w2, _, hs2⟩ := DataW.trod_string Tryz.underlying9 (show DataW.trod enc Tryz.prog W 0 (fun _ => true) true n 9 [c] = some y2 from by rw [cellsSd] at f2; exact f2)
   obtain ⟨z3, w3, _, u3⟩ := DataW.trod_int Tryz.underlying3 (show DataW.trod enc Tryz.prog W 0 (fun _ => true) true n 3 [d] = some y3 from by rw [cellsI] at f3; exact f3)
   obtain ⟨z4, w4, _, u4⟩ := DataW.trod_int Tryz.underlying3 (show DataW.trod enc Tryz.prog W 0 (fun _ => true) true n 3 [e] = some y4 from by rw [cellsI] at f4; exact f4)
   obtain ⟨p, w5, hp⟩ := open_ptrD (W := W) (x := y5) (L := P) hPl (by
    rw [cellsP] at f5
    simp only [List.drop_succ_cons, List.drop_zero] at f5
    rwa [List.take_of_length_le (by omega)] at f5)
   cases w0; cases w1; cases w2; cases w3; cases w4
   subst w5
   refine ⟨⟨⟨z0, z3, z4, s1.data.toList, s2.data.toList, p⟩, hp.1⟩, ?_, ⟨i64_wfQ u0, i64_wfQ u3, i64_wfQ u4, hp⟩, ?_, ?_⟩
   ·show _ = Value.int IntKind.i64 z0 :: Value.string ⟨s1.data.toList.toArray⟩ :: Value.string ⟨s2.data.toList.toArray⟩ :: Value.int IntKind.i64 z3 :: Value.int IntKind.i64 z4 :: p.cells
    rfl
   ·show s1.data.toList.length ≤ _
    rw [Array.length_toList]
    exact hs1
   ·show s2.data.toList.length ≤ _
    rw [Array.length_toList]
    exact hs2
end Go.Proofs.YtifajcblbedcoaaGreat
namespace Go.Proofs.YtifajcblbedcoaaGreat
set_option linter.unusedVariables false
set_option linter.unusedSimpArgs false
open Go.ChangeShapes Go.WideShapes Go.ChangeAt Go.RowKit Go.Deep Go.Lib Go.Joins Hp
set_option maxRecDepth 100000
theorem open_ad {H : Type} {enc : TypeId × Value → H} {W : World} {base fuel : Nat} {v : Value} {x : DataW H × List MemPlace} (hv : Value.okWide Tryz.prog W .any base 34 v)
  (h : DataW.trod enc Tryz.prog W 0 (fun _ => true) true fuel 34 v.cells.toList = some x) : ∃ y : AD, v = .agg y.cells.toArray ∧ y.Ok W ∧ y.nm.length ≤ 9223372036854775807 ∧ y.tn.length ≤ 9223372036854775807 := by
 unfold Value.okWide at hv
 rw [Tryz.underlying34] at hv
 obtain ⟨cs, rfl, hsz, _⟩ := hv
 rw [cellsAd] at hsz
 obtain ⟨k, e, hk⟩ := open_actD fuel cs.toList x (by simpa using hsz) h
 exact ⟨k.1, by rw [← e], hk.1, hk.2.1, hk.2.2⟩
end Go.Proofs.YtifajcblbedcoaaGreat
namespace Go.Proofs.YtifajcblbedcoaaGreat
set_option linter.unusedVariables false
set_option linter.unusedSimpArgs false
open Go.RowKit
namespace Hp
variable {P : Program}
theorem Rd.three {w : World} {v : Value} {sz n : Nat} {xs : List Value} (hrd : Rd w v sz n xs) : (v = .slice none 0 0 ∧ n = 0 ∧ xs = []) ∨ ∃ A c, v = .slice (some A) n c ∧ xs.length = n * sz ∧ ∀ j u, xs[j]? = some u → w.cell? (A.add j) = some u := by
 rcases hrd.cases with h | ⟨A, rfl, rfl, rfl⟩ | ⟨b, off, c, rfl, hmc, hcm, hyl, hr⟩
 ·exact .inl h
 ·exact .inr ⟨A, 0, rfl, by simp, fun j u hu => by cases hu⟩
 ·exact .inr ⟨_, c, rfl, hyl, fun j u hu => by rw [Addr.add_mid]; exact hr j u hu⟩
theorem run_appFull {w0 w : World} {M : List Nat} {L : List HA} {ao : Option Addr} {u : Value} {n m sz bytes : Nat} {xs ys : List Value} {t ty e : TypeId} (hst : St w0 M w L) (ht : P.underlying t = some (.slice e)) (he : tyE P e sz bytes = true)
  (hv : Rd w (.slice ao n n) sz n xs) (hu : Rd w u sz m ys) (hm : 0 < m) (h63 : n + m ≤ maxLen) (hbytes : (n + m) * bytes ≤ 140737488355328) :
  ∃ v' w', (Builtin.append_ #[t, t] ty #[.slice ao n n, u]).run P w = .ok v' w' ∧ St w0 M w' (.row v' e sz (n + m) (xs ++ ys) :: L) := by
 obtain ⟨i, z, hi, hz, hs, hb, hzs⟩ := tyE_spec he
 subst hs hb
 rcases hu.three with ⟨_, h, _⟩ | ⟨AA, c, rfl, hyl, hnews⟩
 ·omega
 have hxl : xs.length = n * i.size := hv.1
 have key : ∀ old, St w0 M (w.drew.alloc (.cells (xs.toArray ++ ys.toArray ++ Builtin.zeroCells z.cells (grownCap w (n + m) old e - (n + m))) e)) (.row (.slice (some ⟨w.heap.size, 0, none⟩) (n + m) (grownCap w (n + m) old e)) e i.size (n + m) (xs ++ ys) :: L) := by
  intro old
  have hge := grownCap_ge w (n + m) old e
  have hcm := grownCap_le_maxLen w (n + m) old e h63
  have h2 := St.alloc hst.drew e ((xs ++ ys) ++ (Builtin.zeroCells z.cells (grownCap w (n + m) old e - (n + m))).toList)
  have e2 : ((xs ++ ys) ++ (Builtin.zeroCells z.cells (grownCap w (n + m) old e - (n + m))).toList).toArray = xs.toArray ++ ys.toArray ++ Builtin.zeroCells z.cells (grownCap w (n + m) old e - (n + m)) := by
   apply Array.ext'
   simp
  rw [e2] at h2
  have hlen : ((xs ++ ys) ++ (Builtin.zeroCells z.cells (grownCap w (n + m) old e - (n + m))).toList).length = grownCap w (n + m) old e * i.size := by
   rw [List.length_append, List.length_append, hxl, hyl, Array.length_toList, size_zeroCells, hzs, ← Nat.add_mul, ← Nat.add_mul]
   congr 1
   omega
  have h3 := St.toRow (n := n + m) (cap := grownCap w (n + m) old e) (sz := i.size) h2 hlen hge (by unfold maxLen at hcm; omega)
  rw [List.take_append_of_le_length (by rw [List.length_append, hxl, hyl, ← Nat.add_mul]; exact Nat.le_refl _), List.take_of_length_le (by rw [List.length_append, hxl, hyl, ← Nat.add_mul]; exact Nat.le_refl _)] at h3
  exact h3
 rcases hv.three with ⟨hn, h0, rfl⟩ | ⟨A, c', hn, hl, holds⟩
 ·cases hn
  have hrun := run_append_nil (P := P) w t ty e i z ht hi hz AA m c ys hyl hnews (by omega) (by simp only [maxLen] at h63; omega) (by simp only [Nat.zero_add] at hbytes; omega)
  have hk := key 0
  simp only [Nat.zero_add, List.nil_append, Array.empty_append] at hk ⊢
  exact ⟨_, _, hrun, hk⟩
 ·cases hn
  have hrun := run_append_grow (P := P) w t ty e i z ht hi hz A n n xs hl holds AA m c ys hyl hnews (by omega) (by simp only [maxLen] at h63; omega) (growslice_fits (by omega) hbytes)
  exact ⟨_, _, hrun, key n⟩
theorem wl_appFull {ops : Array Oper} {rest : List Oper} {o : Oper} {a : Act} {w0 w : World} {M : List Nat} {L : List HA} {Q : Exit → Act → World → Prop} {s x : Operand} {t t' e : TypeId} {ao : Option Addr} {u : Value} {sz bytes n m : Nat} {xs ys : List Value} (hst : St w0 M w L)
  (hop : o.op = .call { callee := .builtin .append, args := #[s, x], argTypes := #[t, t'] }) (hw : Region.wanted o (yielded ops a.tmps) = true) (hs : a.eval s = .slice ao n n) (hx : a.eval x = u)
  (ht : TySl P t e) (ht' : TySl P t' e) (he : TyE P e sz bytes) (hv : Rd w (.slice ao n n) sz n xs) (hrd : Rd w u sz m ys) (hm : 0 < m) (hb : n + m ≤ maxLen ∧ (n + m) * bytes ≤ 140737488355328)
  (h : ∀ v' w', St w0 M w' (.row v' e sz (n + m) (xs ++ ys) :: L) → wpList P ops Q rest (a.put o.dst v') w') : wpList P ops Q (o :: rest) a w := by
 obtain ⟨v', w', hr, h2⟩ := run_appFull (P := P) (t := t) (ty := o.type) hst ht.out he.out hv hrd hm hb.1 hb.2
 refine wl_run hw ?_ (h v' w' h2)
 unfold execOp
 simp only [hop, resolve, invoke, builtin, Sem.run_bind, Sem.run_pure, Result.andThen_ok, List.map_toArray, List.map_cons, List.map_nil, hs, hx]
 rw [run_append_types ht.out ht'.out, hr]
 rfl
def tailS (ao : Option Addr) (n c k sz : Nat) : Value := .slice (if c = k then ao else ao.map (·.add (k * sz))) (n - k) (c - k)
theorem Rd.tailA {w : World} {ao : Option Addr} {n c k sz : Nat} {xs : List Value} (h : Rd w (.slice ao n c) sz n xs) (hk : k ≤ n) : Rd w (tailS ao n c k sz) sz (n - k) (xs.drop (k * sz)) := by
 obtain ⟨hl, ao', c', he, hn, hc, hnone, hsome⟩ := h
 simp only [Value.slice.injEq, true_and] at he
 obtain ⟨rfl, rfl⟩ := he
 unfold tailS
 refine ⟨by rw [List.length_drop, hl, Nat.sub_mul], _, _, rfl, by omega, by omega, fun hh => ?_, fun A hA h0 => ?_⟩
 ·by_cases e : c = k
  ·exact ⟨by omega, by omega⟩
  ·rw [if_neg e] at hh
   have : ao = none := by cases ao <;> simp_all
   have := hnone this
   omega
 ·have e : ¬ c = k := by omega
  rw [if_neg e] at hA
  cases ao with
  | none => simp at hA
  | some B =>
   obtain ⟨b, off, rfl, hr⟩ := hsome B rfl (by omega)
   simp only [Option.map_some, Option.some.injEq] at hA
   subst hA
   refine ⟨b, off + k * sz, Addr.add_mid .., fun j v hv => ?_⟩
   rw [List.getElem?_drop] at hv
   have := hr _ _ hv
   rwa [← Nat.add_assoc] at this
theorem Rd.frontA {w : World} {ao : Option Addr} {n c k sz : Nat} {xs : List Value} (h : Rd w (.slice ao n c) sz n xs) (hk : k ≤ n) : Rd w (.slice ao k k) sz k (xs.take (k * sz)) := by
 obtain ⟨hl, ao', c', he, hn, hc, hnone, hsome⟩ := h
 simp only [Value.slice.injEq, true_and] at he
 obtain ⟨rfl, rfl⟩ := he
 refine ⟨?_, _, _, rfl, Nat.le_refl _, by omega, fun hh => ?_, fun A hA h0 => ?_⟩
 ·rw [List.length_take, hl, Nat.min_eq_left (Nat.mul_le_mul_right _ hk)]
 ·have := hnone hh
  omega
 ·obtain ⟨b, off, rfl, hr⟩ := hsome A hA (by omega)
  exact ⟨b, off, rfl, fun j v hv => by
   have hj := (List.getElem?_eq_some_iff.1 hv).1
   rw [List.length_take] at hj
   rw [List.getElem?_take_of_lt (by omega)] at hv
   exact hr j v hv⟩
end Hp
end Go.Proofs.YtifajcblbedcoaaGreat
