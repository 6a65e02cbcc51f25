/- PROVED: the law DirTells returns true at any input, and nothing that was there has turned. No condition. -/
import Derived.Test.YtifajcblbedcoaaGreatJDirTellsi
import Derived.Test.YtifajcblbedcoaaGreatJDirTellsc
import Derived.Test.YtifajcblbedcoaaGreatJDirTellsf
import Derived.Test.YtifajcblbedcoaaGreatJDirTellse
import Derived.Test.YtifajcblbedcoaaGreatJDirTellsd
import Derived.Deep.DeepCutAuto
import Derived.Test.YtifajcblbedcoaaGreatJDirTellsh
import Derived.Test.YtifajcblbedcoaaGreatPost
import Derived.Test.YtifajcblbedcoaaGreatJDirTellsg
namespace Go.Proofs.YtifajcblbedcoaaGreat
set_option linter.unusedVariables false
set_option linter.unusedSimpArgs false
open Go.RowKit Hp
attribute [local irreducible] Go.Calls Go.wpList
set_option maxRecDepth 100000
set_option maxHeartbeats 3000000
attribute [local go_sem ↓] heldInt heldInts heldRecs heldRec heldStr heldTab heldPtr heldFn
def nameR (r : RC) (n : List UInt8) : RC := { r with name := n }
theorem put_nameR (v : Value × RC) (n : List UInt8) : putAt (cellsR v) 1 [.string ⟨n.toArray⟩] = cellsR (v.1, nameR v.2 n) := rfl
theorem loadNm {w0 w : World} {M : List Nat} {L : List HA} {g n c k : Nat} {y : Value × RC} {ys : List (Value × RC)} {T : TypeId} (h : St w0 M w L) (hm : HA.row (.slice (some ⟨g, 0, none⟩) n c) T 44 n (recsV ys) ∈ L) (hl : LX ys) (hy : ys[k]? = some y) : Loads Tryz.prog w 9 ⟨g, k * 44 + 1, none⟩ (.string ⟨y.2.name.toArray⟩) :=
 Loads.cell (inferInstance : TyS Tryz.prog 9).out (rowCell h hm hl hy (d := 1) rfl)
theorem loadOw {w0 w : World} {M : List Nat} {L : List HA} {g n c k : Nat} {y : Value × RC} {ys : List (Value × RC)} {T : TypeId} (h : St w0 M w L) (hm : HA.row (.slice (some ⟨g, 0, none⟩) n c) T 44 n (recsV ys) ∈ L) (hl : LX ys) (hy : ys[k]? = some y) : Loads Tryz.prog w 3 ⟨g, k * 44 + 40, none⟩ (.int .i64 y.2.own) :=
 Loads.cell (inferInstance : TyS Tryz.prog 3).out (rowCell h hm hl hy (d := 40) (cellsR_40 (hl _ (List.mem_of_getElem? hy))))
attribute [local irreducible] Hp.Loads
def fixB (vol : Bool) (id : Int) (x : RC) : Bool := vol && ((splitL x.name).2.2 && (x.own == id))
def fixR (vol : Bool) (id : Int) (tn : List UInt8) (x : RC) : RC := if fixB vol id x then nameR x ((tn ++ [64]) ++ (splitL x.name).2.1) else x
theorem name_one {l : List RC} (h : l.Pairwise NameLt) {x y : RC} (hx : x ∈ l) (hy : y ∈ l) (e : x.name = y.name) : x = y := by
 obtain ⟨k, h1, h2⟩ := find_name h hx e
 obtain ⟨k', h3, h4⟩ := find_name h hy rfl
 rw [h1] at h3
 have : k = k' := by omega
 subst this
 rw [h2] at h4
 exact Option.some.inj h4
theorem id_one {l : List RC} (h : l.Pairwise fun x y => x.id ≠ y.id) {x y : RC} (hx : x ∈ l) (hy : y ∈ l) (e : x.id = y.id) : x = y := by
 obtain ⟨i, hi, rfl⟩ := List.getElem_of_mem hx
 obtain ⟨k, hk, rfl⟩ := List.getElem_of_mem hy
 rw [List.pairwise_iff_getElem] at h
 rcases Nat.lt_trichotomy i k with h1 | h1 | h1
 ·exact absurd e (h i k hi hk h1)
 ·subst h1; rfl
 ·exact absurd e.symm (h k i hk hi h1)
theorem snap_kin {t : TC} (h : OkP t) {x : RC} (hx : x ∈ t.recs) (hs : (splitL x.name).2.2 = true) : ∃ v ∈ t.recs, v.name = (splitL x.name).1 ∧ v.id = x.own := by
 have hk : x.kind = 2 := by
  rcases alone_kind (h.alone x hx) with ⟨_, n⟩ | ⟨k, _⟩
  ·have := part_not_snap n
   unfold snapB at this
   rw [hs] at this
   cases this
  ·exact k
 have := h.kin x hx
 unfold kinP at this
 rw [if_pos hk] at this
 exact this
theorem ren_eq {t : TC} (h : OkP t) {nm tn : List UInt8} (ha : alikeB nm tn = true) {v : RC} {j : Nat} (hv : recAt nm t.recs = some v) (hj : t.recs[j]? = some v) : (t.recs.set j (nameR v tn)).map (fixR (partB nm && partB tn) v.id tn) = t.recs.map (renR nm tn) := by
 obtain ⟨hvm, hvn⟩ := rec_mem hv
 have hjl := (List.getElem?_eq_some_iff.1 hj).1
 apply List.ext_getElem?
 intro i
 rw [List.getElem?_map, List.getElem?_map]
 by_cases e : i = j
 ·subst e
  rw [List.getElem?_set_self hjl, hj]
  simp only [Option.map_some, Option.some.injEq]
  have h1 : renR nm tn v = nameR v tn := by
   unfold renR
   rw [if_pos (by simpa using hvn)]
   rfl
  rw [h1]
  unfold fixR
  have h2 : fixB (partB nm && partB tn) v.id (nameR v tn) = false := by
   unfold fixB
   cases hp : (partB nm && partB tn) with
   | false => rfl
   | true =>
    have := (Bool.and_eq_true_iff.1 hp).2
    show (true && ((splitL tn).2.2 && _)) = false
    rw [part_split this]
    rfl
  rw [h2]
  rfl
 ·rw [List.getElem?_set_ne (Ne.symm e)]
  cases hx : t.recs[i]? with
  | none => rfl
  | some x =>
   simp only [Option.map_some, Option.some.injEq]
   have hxm := List.mem_of_getElem? hx
   have hne : x.name ≠ nm := fun e2 => by
    have h3 := name_one h.lt hxm hvm (e2.trans hvn.symm)
    subst h3
    have hd := h.ids
    rw [List.pairwise_iff_getElem] at hd
    obtain ⟨hi, hi2⟩ := List.getElem?_eq_some_iff.1 hx
    obtain ⟨_, hj2⟩ := List.getElem?_eq_some_iff.1 hj
    rcases Nat.lt_or_gt_of_ne e with h4 | h4
    ·exact hd i j hi hjl h4 (by rw [hi2, hj2])
    ·exact hd j i hjl hi h4 (by rw [hi2, hj2])
   rcases ren_ways (okP_iff.2 h) ha hxm with ⟨h1, _⟩ | ⟨_, p, hp1, hp2, hp3, hxn, hr⟩ | ⟨_, hr, hno⟩
   ·exact absurd h1 hne
   ·have hs : splitL x.name = (nm, p, true) := by rw [hxn]; exact split_joined hp1 hp3
    obtain ⟨v', hv1, hv2, hv3⟩ := snap_kin h hxm (by rw [hs])
    rw [hs] at hv2
    have h5 := name_one h.lt hv1 hvm (hv2.trans hvn.symm)
    subst h5
    rw [hr]
    unfold fixR fixB
    rw [hp1, hp2, hs, hv3]
    have h6 : (tn ++ [64]) ++ p = tn ++ 64 :: p := by simp
    show (if (true && (true && (x.own == x.own))) = true then nameR x ((tn ++ [64]) ++ p) else x) = _
    rw [beq_self_eq_true, h6]
    rfl
   ·rw [hr]
    unfold fixR
    have h2 : fixB (partB nm && partB tn) v.id x = false := by
     unfold fixB
     cases hp : (partB nm && partB tn) with
     | false => rfl
     | true =>
      cases hs : (splitL x.name).2.2 with
      | false => rfl
      | true =>
       have : (x.own == v.id) = false := by
        rw [beq_eq_false_iff_ne]
        intro e3
        obtain ⟨v', hv1, hv2, hv3⟩ := snap_kin h hxm hs
        have h5 := id_one h.ids hv1 hvm (hv3.trans e3)
        subst h5
        exact hno ⟨hs, hv2.symm.trans hvn⟩
       rw [this]
       rfl
    rw [h2]
    rfl
theorem wl_neqW {ops : Array Oper} {rest : List Oper} {o : Oper} {a : Act} {w : World} {Q : Exit → Act → World → Prop} {T T' : TypeId} {x y : Operand} {l k : List UInt8} {b : Bool} (hop : o.op = .binOp .neq T x y T') (hw : Region.wanted o (yielded ops a.tmps) = true) (hx : evL a x = .string ⟨l.toArray⟩) (hy : evL a y = .string ⟨k.toArray⟩) (hb : (l == k) = b)
  (h : wpList Tryz.prog ops Q rest (a.put o.dst (.bool (!b))) w) : wpList Tryz.prog ops Q (o :: rest) a w := by
 subst hb
 exact wl_gneqS (g := true) hop hw (fun _ => hx) (fun _ => hy) h
theorem fix_len {vol : Bool} {id : Int} {tn : List UInt8} {x : RC} (hn : tn.length ≤ 1000) (hx : x.name.length ≤ 1000000) : (fixR vol id tn x).name.length ≤ 1000000 := by
 unfold fixR
 split
 ·rename_i h
  unfold fixB at h
  simp only [Bool.and_eq_true] at h
  obtain ⟨a, b, hs, _, _, hb⟩ := snap_form (s := x.name) h.2.1
  have := (part_bd hb).2
  show (((tn ++ [64]) ++ (splitL x.name).2.1)).length ≤ _
  rw [hs]
  simp
  omega
 ·exact hx
theorem alike_len {nm tn : List UInt8} (h : alikeB nm tn = true) : tn.length ≤ 1000 := by
 unfold alikeB at h
 rcases Bool.or_eq_true_iff.1 h with h | h
 ·have := (part_bd (Bool.and_eq_true_iff.1 h).2).2
  omega
 ·have h1 := (Bool.and_eq_true_iff.1 (Bool.and_eq_true_iff.1 h).1).2
  obtain ⟨a, b, _, e, ha, hb⟩ := snap_form (s := tn) h1
  have := (part_bd ha).2
  have := (part_bd hb).2
  rw [e]
  simp
  omega
theorem fix_step {l : List RC} {k : Nat} {x y : RC} {f : RC → RC} (hk : l[k]? = some x) (hy : y = f x) : (((l.take k).map f ++ l.drop k).set k y) = (l.take (k + 1)).map f ++ l.drop (k + 1) := by
 obtain ⟨hlt, rfl⟩ := List.getElem?_eq_some_iff.1 hk
 subst hy
 have hl : ((l.take k).map f).length = k := by rw [List.length_map, List.length_take]; omega
 rw [List.drop_eq_getElem_cons hlt, List.set_append_right _ _ (by omega), hl, Nat.sub_self, List.set_cons_zero, List.take_succ_eq_append_getElem hlt, List.map_append, List.append_assoc]
 rfl
theorem fix_same {l : List RC} {k : Nat} {x : RC} {f : RC → RC} (hk : l[k]? = some x) (hy : f x = x) : (l.take k).map f ++ l.drop k = (l.take (k + 1)).map f ++ l.drop (k + 1) := by
 rw [← fix_step hk hy.symm]
 obtain ⟨hlt, hx⟩ := List.getElem?_eq_some_iff.1 hk
 have hl : ((l.take k).map f).length = k := by rw [List.length_map, List.length_take]; omega
 have hg : ((l.take k).map f ++ l.drop k)[k]? = some x := by
  rw [List.getElem?_append_right (by omega), hl, Nat.sub_self, List.getElem?_drop, Nat.add_zero, hk]
 obtain ⟨h1, h2⟩ := List.getElem?_eq_some_iff.1 hg
 conv => rhs; rw [← h2]
 rw [List.set_getElem_self]
theorem fix_get {l : List RC} {k : Nat} {f : RC → RC} {zs : List (Value × RC)} (he : zs.map (·.2) = (l.take k).map f ++ l.drop k) {x : RC} (hk : l[k]? = some x) : ∃ u : Value, zs[k]? = some (u, x) := by
 refine map_get2 he ?_
 have hlt := (List.getElem?_eq_some_iff.1 hk).1
 have hl : ((l.take k).map f).length = k := by rw [List.length_map, List.length_take]; omega
 rw [List.getElem?_append_right (by omega), hl, Nat.sub_self, List.getElem?_drop, Nat.add_zero, hk]
theorem refRename13 (t : TC) (ar al : Option Addr) (nr cr nl cl : Nat) (xs : List (Value × RC)) (w : World) (ht : TabIn w t ar nr cr al nl cl xs) (nm tn : List UInt8) (hnm : nm.length ≤ 1000000) (htn : tn.length ≤ 1000000) :
  Calls Tryz.prog 38 #[.agg (tabC t (.slice ar nr cr) (.slice al nl cl)).toArray, .string ⟨nm.toArray⟩, .string ⟨tn.toArray⟩] w (RefRet (opR t (renameT t nm tn)) w) := by
 have hst0 := St.refl w
 have HT := hid ht
 have b1 := ht.br
 have b2 := ht.bl
 obtain ⟨r, hr⟩ : ∃ r, r = opR t (renameT t nm tn) := ⟨_, rfl⟩
 rw [← hr]
 obtain ⟨⟨a, ap, fa⟩, hx⟩ : ∃ p, splitL nm = p := ⟨_, rfl⟩
 obtain ⟨⟨b, bp, fb⟩, hy⟩ : ∃ p, splitL tn = p := ⟨_, rfl⟩
 obtain ⟨va, hva⟩ : ∃ p, partB nm = p := ⟨_, rfl⟩
 obtain ⟨vb, hvb⟩ : ∃ p, partB tn = p := ⟨_, rfl⟩
 obtain ⟨s, hs⟩ : ∃ p, (a == b) = p := ⟨_, rfl⟩
 have HX := hid hx
 have HY := hid hy
 have HVA := hid hva
 have HVB := hid hvb
 have HS := hid hs
 have hal : alikeB nm tn = ((va && vb) || ((fa && fb) && s)) := by unfold alikeB; rw [hva, hvb, hx, hy, ← hs]
 cases hok : t.ok
 ·have HE := hid (err_no hok)
  have HB := hid (show r = badR 2 by rw [hr]; exact opR_no hok)
  clear ht hr hok hx hy hva hvb hs hal
  cases va
  all_goals
   go_enter Tryz.func38, Tryz.ntmps38
   go_wp2_with (first | go_big_skip | go_big_guard | (refine wl_boxA hst0 rfl rfl rfl ?_; intro gb w1 hA0; clear hst0) | (refine wl_alloc hA0 rfl rfl ?_; intro gz w2 hst; clear hA0) | (go_at_call 90; first | (refine (refSplit_any nm _ (by omega)).mono ?_; rw [HX.out]; rintro _ w9 ⟨rfl, h4⟩; replace hst := St.call0 hst h4; clear h4) | (refine (refSplit_any tn _ (by omega)).mono ?_; rw [HY.out]; rintro _ w9 ⟨rfl, h4⟩; replace hst := St.call0 hst h4; clear h4)) | (go_at_call 87; first | (refine (refVolume_any nm _ (by omega)).mono ?_; rw [HVA.out]; rintro _ w9 ⟨rfl, h4⟩; replace hst := St.call0 hst h4; clear h4) | (refine (refVolume_any tn _ (by omega)).mono ?_; rw [HVB.out]; rintro _ w9 ⟨rfl, h4⟩; replace hst := St.call0 hst h4; clear h4)) | (refine wl_loadE rfl rfl rfl ?_; first | refine ⟨_, Loads.atA (tabC t (.slice ar nr cr) (.slice al nl cl)) [_] hst rfl rfl, ?_⟩ | refine ⟨_, Loads.at [_] hst rfl, ?_⟩) | (go_at_call 86; refine (refCheck12_any t ar al nr cr nl cl xs _ (HT.out.R.old hst.nil) HT.out.eq (by omega) (Rd.old hst.nil HT.out.L) HT.out.ln (by omega)).mono ?_; rw [HE.out]; rintro _ w9 ⟨rfl, h4⟩; replace hst := St.call0 hst h4; clear h4) | (refine wl_build0 rfl rfl ?_) | (refine wl_storeA [] hst rfl rfl rfl rfl rfl rfl rfl ?_; intro w7 hZ; clear hst))
   have hl := Loads.atA (P := Tryz.prog) (off := 0) (T := 27) tab0 [] hZ rfl rfl
   refine bodyPost_ret (results_cellR rfl rfl rfl hl) rfl ?_
   rw [HB.out]
   exact refRet_bad hZ _
 ·have HE := hid (err_yes hok)
  have HOK := hid (okP_iff.1 hok)
  clear ht
  have HRL := hid HT.out.len
  have HLV := hid HT.out.ln
  have HBD := hid (show nr ≤ 1000000 ∧ nl ≤ 1000000 from ⟨b1, b2⟩)
  have hno : va = true → fa = true → False := fun h1 h2 => by
   have h3 := part_not_snap (hva.trans h1)
   unfold snapB at h3
   rw [hx] at h3
   rw [h2] at h3
   cases h3
  clear hx hy hs
  cases hq : alikeB nm tn
  ·have HB := hid (show r = badR 2 by rw [hr]; unfold renameT; rw [hq]; exact opR_z hok)
   rw [hal] at hq
   clear hr hok hal hva hvb
   have hw : (va = false ∧ fa = false) ∨ (va = false ∧ fa = true ∧ fb = false) ∨ (va = false ∧ fa = true ∧ fb = true ∧ s = false) ∨ (va = true ∧ vb = false ∧ fa = false) := by
    cases va <;> cases vb <;> cases fa <;> cases fb <;> cases s <;> simp_all
   clear hno hq
   rcases hw with ⟨rfl, rfl⟩ | ⟨rfl, rfl, rfl⟩ | ⟨rfl, rfl, rfl, rfl⟩ | ⟨rfl, rfl, rfl⟩
   all_goals
    go_enter Tryz.func38, Tryz.ntmps38
    go_wp2_with (first | go_big_skip | go_big_guard | (refine wl_boxA hst0 rfl rfl rfl ?_; intro gb w1 hA0; clear hst0) | (refine wl_alloc hA0 rfl rfl ?_; intro gz w2 hst; clear hA0) | (go_at_call 90; first | (refine (refSplit_any nm _ (by omega)).mono ?_; rw [HX.out]; rintro _ w9 ⟨rfl, h4⟩; replace hst := St.call0 hst h4; clear h4) | (refine (refSplit_any tn _ (by omega)).mono ?_; rw [HY.out]; rintro _ w9 ⟨rfl, h4⟩; replace hst := St.call0 hst h4; clear h4)) | (go_at_call 87; first | (refine (refVolume_any nm _ (by omega)).mono ?_; rw [HVA.out]; rintro _ w9 ⟨rfl, h4⟩; replace hst := St.call0 hst h4; clear h4) | (refine (refVolume_any tn _ (by omega)).mono ?_; rw [HVB.out]; rintro _ w9 ⟨rfl, h4⟩; replace hst := St.call0 hst h4; clear h4)) | (refine wl_neqW rfl rfl rfl rfl HS.out ?_) | (refine wl_loadE rfl rfl rfl ?_; first | refine ⟨_, Loads.atA (tabC t (.slice ar nr cr) (.slice al nl cl)) [_] hst rfl rfl, ?_⟩ | refine ⟨_, Loads.at [_] hst rfl, ?_⟩) | (go_at_call 86; refine (refCheck12_any t ar al nr cr nl cl xs _ (HT.out.R.old hst.nil) HT.out.eq (by omega) (Rd.old hst.nil HT.out.L) HT.out.ln (by omega)).mono ?_; rw [HE.out]; rintro _ w9 ⟨rfl, h4⟩; replace hst := St.call0 hst h4; clear h4) | (refine wl_build0 rfl rfl ?_) | (refine wl_storeA [] hst rfl rfl rfl rfl rfl rfl rfl ?_; intro w7 hZ; clear hst))
    have hl := Loads.atA (P := Tryz.prog) (off := 0) (T := 27) tab0 [] hZ rfl rfl
    refine bodyPost_ret (results_cellR rfl rfl rfl hl) rfl ?_
    rw [HB.out]
    exact refRet_bad hZ _
  ·have HAL := hid hq
   have HTL := hid (alike_len hq)
   cases hv : recAt nm t.recs with
   | none =>
    have HB := hid (show r = badR 6 by rw [hr]; unfold renameT isAt; rw [hq, hv]; exact opR_z hok)
    have HF := hid (found_no hv)
    rw [hal] at hq
    clear hr hok hal hv hva hvb
    have hw : (va = true ∧ vb = true) ∨ (va = false ∧ fa = true ∧ fb = true ∧ s = true) := by
     cases va <;> cases vb <;> cases fa <;> cases fb <;> cases s <;> simp_all
    clear hno hq
    rcases hw with ⟨rfl, rfl⟩ | ⟨rfl, rfl, rfl, rfl⟩
    all_goals
     go_enter Tryz.func38, Tryz.ntmps38
     go_wp2_with (first | go_big_skip | go_big_guard | (refine wl_boxA hst0 rfl rfl rfl ?_; intro gb w1 hA0; clear hst0) | (refine wl_alloc hA0 rfl rfl ?_; intro gz w2 hst; clear hA0) | (go_at_call 90; first | (refine (refSplit_any nm _ (by omega)).mono ?_; rw [HX.out]; rintro _ w9 ⟨rfl, h4⟩; replace hst := St.call0 hst h4; clear h4) | (refine (refSplit_any tn _ (by omega)).mono ?_; rw [HY.out]; rintro _ w9 ⟨rfl, h4⟩; replace hst := St.call0 hst h4; clear h4)) | (go_at_call 87; first | (refine (refVolume_any nm _ (by omega)).mono ?_; rw [HVA.out]; rintro _ w9 ⟨rfl, h4⟩; replace hst := St.call0 hst h4; clear h4) | (refine (refVolume_any tn _ (by omega)).mono ?_; rw [HVB.out]; rintro _ w9 ⟨rfl, h4⟩; replace hst := St.call0 hst h4; clear h4)) | (refine wl_neqW rfl rfl rfl rfl HS.out ?_) | (refine wl_loadE rfl rfl rfl ?_; first | refine ⟨_, Loads.atA (tabC t (.slice ar nr cr) (.slice al nl cl)) [_] hst rfl rfl, ?_⟩ | refine ⟨_, Loads.at [_] hst rfl, ?_⟩) | (go_at_call 86; refine (refCheck12_any t ar al nr cr nl cl xs _ (HT.out.R.old hst.nil) HT.out.eq (by omega) (Rd.old hst.nil HT.out.L) HT.out.ln (by omega)).mono ?_; rw [HE.out]; rintro _ w9 ⟨rfl, h4⟩; replace hst := St.call0 hst h4; clear h4) | (go_at_call 91; refine (refFind_any t (.slice al nl cl) nm ar nr cr xs _ (HT.out.R.old hst) (by omega)).mono ?_; rw [HT.out.eq, HF.out]; rintro _ w9 ⟨rfl, h4⟩; replace hst := St.call0 hst h4; clear h4) | (refine wl_build0 rfl rfl ?_) | (refine wl_storeA [] hst rfl rfl rfl rfl rfl rfl rfl ?_; intro w7 hZ; clear hst))
     have hl := Loads.atA (P := Tryz.prog) (off := 0) (T := 27) tab0 [] hZ rfl rfl
     refine bodyPost_ret (results_cellR rfl rfl rfl hl) rfl ?_
     rw [HB.out]
     exact refRet_bad hZ _
   | some v =>
    cases ht2 : isAt tn t.recs
    ·have hre : renameT t nm tn = (0, (recsT t (sortL (t.recs.map (renR nm tn))))) := by
      unfold renameT
      rw [hq]
      show (if isAt nm t.recs then _ else _) = _
      unfold isAt at ht2 ⊢
      rw [hv, ht2]
      rfl
     have HB := hid (show r = (0, (recsT t (sortL (t.recs.map (renR nm tn))))) by rw [hr, hre]; exact opR_0 hok)
     have hf2 : findP tn t.recs = (0, false) := by
      unfold isAt at ht2
      refine found_no ?_
      cases h9 : recAt tn t.recs with
      | none => rfl
      | some q => rw [h9] at ht2; cases ht2
     have HF2 := hid hf2
     obtain ⟨j, sv, lb, lo, hf, hx9, hlt, har, hin, hrx⟩ := found_at HT.out hv
     subst har
     have HF := hid hf
     have HX9 := hid hx9
     have HRX := hid hrx
     have HIX := hid hin
     have HLL := hid hin.L
     have HL44 := hid (cellsR_len hin.L)
     have H35 := hid (PV.len (p := v.pv sv) hin.L)
     have HVL := hid (birth_le hok (List.mem_of_find?_eq_some hv)).1
     clear hf hx9 hrx hin
     have HRJ := hid (recs_at HT.out HX9.out)
     have hrq := ren_eq HOK.out hq hv HRJ.out
     rw [hva, hvb] at hrq
     rw [hal] at hq
     clear hr hok hal hv hva hvb ht2 hre hf2
     by_cases hvv : (va && vb) = true
     ·obtain ⟨rfl, rfl⟩ : va = true ∧ vb = true := by simpa using hvv
      have HRE := hid (show (t.recs.set j (nameR v tn)).map (fixR true v.id tn) = t.recs.map (renR nm tn) from hrq)
      clear hrq
      clear hq hvv hno
      go_enter Tryz.func38, Tryz.ntmps38
      go_wp2_with (first | go_big_skip | go_big_guard | (refine wl_boxA hst0 rfl rfl rfl ?_; intro gb w1 hA0; clear hst0) | (refine wl_alloc hA0 rfl rfl ?_; intro gz w2 hst; clear hA0) | (go_at_call 90; first | (refine (refSplit_any nm _ (by omega)).mono ?_; rw [HX.out]; rintro _ w9 ⟨rfl, h4⟩; replace hst := St.call0 hst h4; clear h4) | (refine (refSplit_any tn _ (by omega)).mono ?_; rw [HY.out]; rintro _ w9 ⟨rfl, h4⟩; replace hst := St.call0 hst h4; clear h4)) | (go_at_call 87; first | (refine (refVolume_any nm _ (by omega)).mono ?_; rw [HVA.out]; rintro _ w9 ⟨rfl, h4⟩; replace hst := St.call0 hst h4; clear h4) | (refine (refVolume_any tn _ (by omega)).mono ?_; rw [HVB.out]; rintro _ w9 ⟨rfl, h4⟩; replace hst := St.call0 hst h4; clear h4)) | (refine wl_neqW rfl rfl rfl rfl HS.out ?_) | (refine wl_loadE rfl rfl rfl ?_; first | refine ⟨_, Loads.atA (tabC t (.slice (some ⟨lb, lo, none⟩) nr cr) (.slice al nl cl)) [_] hst rfl rfl, ?_⟩ | refine ⟨_, Loads.at [_] hst rfl, ?_⟩) | (go_at_call 86; refine (refCheck12_any t (some ⟨lb, lo, none⟩) al nr cr nl cl xs _ (HT.out.R.old hst.nil) HT.out.eq (by omega) (Rd.old hst.nil HT.out.L) HT.out.ln (by omega)).mono ?_; rw [HE.out]; rintro _ w9 ⟨rfl, h4⟩; replace hst := St.call0 hst h4; clear h4) | (go_at_call 91; refine (refFind_any t (.slice al nl cl) nm (some ⟨lb, lo, none⟩) nr cr xs _ (HT.out.R.old hst) (by omega)).mono ?_; rw [HT.out.eq, HF.out]; rintro _ w9 ⟨rfl, h4⟩; replace hst := St.call0 hst h4; clear h4) | (go_at_call 91; refine (refFind_any t (.slice al nl cl) tn (some ⟨lb, lo, none⟩) nr cr xs _ (HT.out.R.old hst) (by omega)).mono ?_; rw [HT.out.eq, HF2.out]; rintro _ w9 ⟨rfl, h4⟩; replace hst := St.call0 hst h4; clear h4) | (go_at_call 94; refine (refOwn_ok t (some ⟨lb, lo, none⟩) al nr cr nl cl xs _ (HT.out.old hst.nil) HOK.out).mono ?_; rintro _ w9 ⟨ra, rc, la, lc, ys, KK, rfl, hye, hyn, hyo, h4⟩; have hO0 := St.perm (St.call hst h4) List.perm_append_comm; obtain ⟨gr, rfl⟩ := row_spotA hO0 (.tail _ (.tail _ (.head _))) (by omega); have hO1 : St w [] w9 (.blk gz 27 tab0 :: .blk gb 27 (tabC t (.slice (some ⟨lb, lo, none⟩) nr cr) (.slice al nl cl)) :: .row (.slice (some ⟨gr, 0, none⟩) nr rc) 53 44 nr (recsV ys) :: .row (.slice la nl lc) 3 1 nl (numsV t.lives) :: KK) := hO0; have HYE := hid hye; have HYN := hid hyn; have HYO := hid hyo; clear h4 hO0 hst hye hyn hyo) | (refine wl_alloc hO1 rfl rfl ?_; intro g13 w1 hO2; clear hO1) | (refine wl_storeA [] hO2 rfl rfl rfl rfl (vs := (tabC t (.slice (some ⟨gr, 0, none⟩) nr rc) (.slice la nl lc))) rfl rfl rfl ?_; intro w1 h4; have hU1 : St w [] w1 (.blk g13 27 (tabC t (.slice (some ⟨gr, 0, none⟩) nr rc) (.slice la nl lc)) :: .blk gz 27 tab0 :: .blk gb 27 (tabC t (.slice (some ⟨lb, lo, none⟩) nr cr) (.slice al nl cl)) :: .row (.slice (some ⟨gr, 0, none⟩) nr rc) 53 44 nr (recsV ys) :: .row (.slice la nl lc) 3 1 nl (numsV t.lives) :: KK) := h4; clear h4 hO2; obtain ⟨u, hyj⟩ := map_get2 HYE.out HRJ.out; have HYJ := hid hyj; have HLY := hid (show LX ys from (fun q hq => (HYO.out q hq).2.1)); clear hyj) | (refine wl_loadE rfl rfl rfl ?_; first | refine ⟨_, Loads.at [] hU1 rfl, ?_⟩ | refine ⟨_, Loads.inRow hU1 (.tail _ (.tail _ (.tail _ (.head _)))) (recsV_at HLY.out HYJ.out (d := 0) rfl), ?_⟩ | refine ⟨.int .i64 v.id, Loads.cell (inferInstance : TyS Tryz.prog 3).out (rowCell hU1 (.tail _ (.tail _ (.tail _ (.head _)))) HLY.out HYJ.out (d := 0) rfl), ?_⟩) | (refine wl_index rfl rfl rfl rfl hlt ?_) | (refine wl_storeRow1 [_, _, _] hU1 rfl rfl rfl rfl (v := .string ⟨tn.toArray⟩) rfl rfl (by omega) (by omega) ?_; intro w6 h6; rw [recsV_put HLY.out HYJ.out (d := 1) (by show 1 + 1 ≤ 44; decide) (put_nameR (u, v) tn)] at h6; have hU2 : St w [] w6 (.blk g13 27 (tabC t (.slice (some ⟨gr, 0, none⟩) nr rc) (.slice la nl lc)) :: .blk gz 27 tab0 :: .blk gb 27 (tabC t (.slice (some ⟨lb, lo, none⟩) nr cr) (.slice al nl cl)) :: .row (.slice (some ⟨gr, 0, none⟩) nr rc) 53 44 nr (recsV (ys.set j (u, nameR v tn))) :: .row (.slice la nl lc) 3 1 nl (numsV t.lives) :: KK) := h6; clear h6 hU1))
      have hL : St w [] _ (.blk g13 27 (tabC t (.slice (some ⟨gr, 0, none⟩) nr rc) (.slice la nl lc)) :: .blk gz 27 tab0 :: .blk gb 27 (tabC t (.slice (some ⟨lb, lo, none⟩) nr cr) (.slice al nl cl)) :: .row (.slice (some ⟨gr, 0, none⟩) nr rc) 53 44 nr (recsV (ys.set j (u, nameR v tn))) :: .row (.slice la nl lc) 3 1 nl (numsV t.lives) :: KK) := hU2
      clear hU2
      go_loopw [21] (fun i wr => ∃ (k : Nat) (zs : List (Value × RC)), k ≤ nr ∧ i = .int .i64 (k : Int) ∧ zs.map (·.2) = ((t.recs.set j (nameR v tn)).take k).map (fixR true v.id tn) ++ (t.recs.set j (nameR v tn)).drop k ∧ OwnX KK zs ∧ zs.length = nr ∧ St w [] wr (.blk g13 27 (tabC t (.slice (some ⟨gr, 0, none⟩) nr rc) (.slice la nl lc)) :: .blk gz 27 tab0 :: .blk gb 27 (tabC t (.slice (some ⟨lb, lo, none⟩) nr cr) (.slice al nl cl)) :: .row (.slice (some ⟨gr, 0, none⟩) nr rc) 53 44 nr (recsV zs) :: .row (.slice la nl lc) 3 1 nl (numsV t.lives) :: KK)) (fun i _ => nr - (intOf i).toNat)
      case atStart => exact ⟨0, (ys.set j (u, nameR v tn)), Nat.zero_le _, rfl, by rw [List.map_set, HYE.out]; rfl, (fun q hq => by
       rcases List.mem_or_eq_of_mem_set hq with h | rfl
       ·exact HYO.out q h
       ·have h9 := HYO.out _ (List.mem_of_getElem? HYJ.out)
        exact ⟨h9.1, h9.2.1, by have := HTL.out; show tn.length ≤ _; omega⟩), by rw [List.length_set]; exact HYN.out, hL⟩
      case round =>
       clear hL
       obtain ⟨k, zs, hk, rfl, hze, hzo, hzn, hL⟩ := hrel
       have HZE := hid hze
       have HZO := hid hzo
       have HZN := hid hzn
       have HLZ := hid (show LX zs from fun q hq => (hzo q hq).2.1)
       clear hze hzo hzn
       by_cases hlk : k < nr
       ·have ek : decide ((k : Int) < (nr : Int)) = true := decide_eq_true (by omega)
        have z2 : IntKind.i64.wrap ((k : Int) + 1) = (k : Int) + 1 := IntWalk.i64_in _ (by omega)
        obtain ⟨x, hx⟩ : ∃ x, (t.recs.set j (nameR v tn))[k]? = some x := ⟨_, List.getElem?_eq_getElem (by rw [List.length_set, HRL.out]; exact hlk)⟩
        obtain ⟨ux, hzk⟩ := fix_get HZE.out hx
        have HLK := hid hx
        have HZK := hid hzk
        have HXN := hid (HZO.out _ (List.mem_of_getElem? hzk)).2.2
        have HLX := hid (HZO.out _ (List.mem_of_getElem? hzk)).2.1
        obtain ⟨⟨xa, xp, xf⟩, hsx⟩ : ∃ q, splitL x.name = q := ⟨_, rfl⟩
        have HSX := hid hsx
        have hcat : ¬ 9223372036854775807 < tn.length + 1 + xp.length := by
         have h8 := (split_in x.name HXN.out).2
         rw [hsx] at h8
         have h9 := HTL.out
         simp only at h8
         omega
        clear hx hzk hsx
        cases xf
        ·skip
         have HFB := hid (show fixB true v.id x = false by unfold fixB; rw [HSX.out]; try rfl)
         go_wp2_with (first | go_big_skip | go_big_guard | (refine wl_loadE rfl rfl rfl ?_; first | refine ⟨_, Loads.at [] hL rfl, ?_⟩ | refine ⟨_, loadNm hL (.tail _ (.tail _ (.tail _ (.head _)))) HLZ.out HZK.out, ?_⟩ | refine ⟨_, loadOw hL (.tail _ (.tail _ (.tail _ (.head _)))) HLZ.out HZK.out, ?_⟩) | (refine wl_index rfl rfl rfl rfl hlk ?_) | (go_at_call 90; refine (refSplit_any x.name _ (by have := HXN.out; omega)).mono ?_; rw [HSX.out]; rintro _ w9 ⟨rfl, h4⟩; replace hL := St.call0 hL h4; clear h4) | (refine wl_storeRow1 [_, _, _] hL rfl rfl rfl (by show Value.string _ = _; rw [append_l tn [64], append_l]) (v := .string ⟨((tn ++ [64]) ++ xp).toArray⟩) rfl rfl (by omega) (by omega) ?_; intro w6 h6; rw [recsV_put HLZ.out HZK.out (d := 1) (by show 1 + 1 ≤ 44; decide) (put_nameR (ux, x) ((tn ++ [64]) ++ xp))] at h6; have hM : St w [] w6 (.blk g13 27 (tabC t (.slice (some ⟨gr, 0, none⟩) nr rc) (.slice la nl lc)) :: .blk gz 27 tab0 :: .blk gb 27 (tabC t (.slice (some ⟨lb, lo, none⟩) nr cr) (.slice al nl cl)) :: .row (.slice (some ⟨gr, 0, none⟩) nr rc) 53 44 nr (recsV (zs.set k (ux, nameR x ((tn ++ [64]) ++ xp)))) :: .row (.slice la nl lc) 3 1 nl (numsV t.lives) :: KK) := h6; clear h6 hL))
         go_roundw
         case rel =>
          have hfx : fixR true v.id tn x = x := by unfold fixR; rw [HFB.out]; rfl
          refine ⟨k + 1, zs, by omega, rfl, ?_, HZO.out, HZN.out, hL⟩
          rw [HZE.out]
          exact fix_same HLK.out hfx
         case measure => simp [intOf]; omega
        ·cases qo : (x.own == v.id)
         ·skip
          have HFB := hid (show fixB true v.id x = false by unfold fixB; rw [HSX.out, qo]; try rfl)
          go_wp2_with (first | go_big_skip | go_big_guard | (refine wl_loadE rfl rfl rfl ?_; first | refine ⟨_, Loads.at [] hL rfl, ?_⟩ | refine ⟨_, loadNm hL (.tail _ (.tail _ (.tail _ (.head _)))) HLZ.out HZK.out, ?_⟩ | refine ⟨_, loadOw hL (.tail _ (.tail _ (.tail _ (.head _)))) HLZ.out HZK.out, ?_⟩) | (refine wl_index rfl rfl rfl rfl hlk ?_) | (go_at_call 90; refine (refSplit_any x.name _ (by have := HXN.out; omega)).mono ?_; rw [HSX.out]; rintro _ w9 ⟨rfl, h4⟩; replace hL := St.call0 hL h4; clear h4) | (refine wl_storeRow1 [_, _, _] hL rfl rfl rfl (by show Value.string _ = _; rw [append_l tn [64], append_l]) (v := .string ⟨((tn ++ [64]) ++ xp).toArray⟩) rfl rfl (by omega) (by omega) ?_; intro w6 h6; rw [recsV_put HLZ.out HZK.out (d := 1) (by show 1 + 1 ≤ 44; decide) (put_nameR (ux, x) ((tn ++ [64]) ++ xp))] at h6; have hM : St w [] w6 (.blk g13 27 (tabC t (.slice (some ⟨gr, 0, none⟩) nr rc) (.slice la nl lc)) :: .blk gz 27 tab0 :: .blk gb 27 (tabC t (.slice (some ⟨lb, lo, none⟩) nr cr) (.slice al nl cl)) :: .row (.slice (some ⟨gr, 0, none⟩) nr rc) 53 44 nr (recsV (zs.set k (ux, nameR x ((tn ++ [64]) ++ xp)))) :: .row (.slice la nl lc) 3 1 nl (numsV t.lives) :: KK) := h6; clear h6 hL))
          go_roundw
          case rel =>
           have hfx : fixR true v.id tn x = x := by unfold fixR; rw [HFB.out]; rfl
           refine ⟨k + 1, zs, by omega, rfl, ?_, HZO.out, HZN.out, hL⟩
           rw [HZE.out]
           exact fix_same HLK.out hfx
          case measure => simp [intOf]; omega
         ·skip
          have HFB := hid (show fixB true v.id x = true by unfold fixB; rw [HSX.out, qo]; try rfl)
          go_wp2_with (first | go_big_skip | go_big_guard | (refine wl_loadE rfl rfl rfl ?_; first | refine ⟨_, Loads.at [] hL rfl, ?_⟩ | refine ⟨_, loadNm hL (.tail _ (.tail _ (.tail _ (.head _)))) HLZ.out HZK.out, ?_⟩ | refine ⟨_, loadOw hL (.tail _ (.tail _ (.tail _ (.head _)))) HLZ.out HZK.out, ?_⟩) | (refine wl_index rfl rfl rfl rfl hlk ?_) | (go_at_call 90; refine (refSplit_any x.name _ (by have := HXN.out; omega)).mono ?_; rw [HSX.out]; rintro _ w9 ⟨rfl, h4⟩; replace hL := St.call0 hL h4; clear h4) | (refine wl_storeRow1 [_, _, _] hL rfl rfl rfl (by show Value.string _ = _; rw [append_l tn [64], append_l]) (v := .string ⟨((tn ++ [64]) ++ xp).toArray⟩) rfl rfl (by omega) (by omega) ?_; intro w6 h6; rw [recsV_put HLZ.out HZK.out (d := 1) (by show 1 + 1 ≤ 44; decide) (put_nameR (ux, x) ((tn ++ [64]) ++ xp))] at h6; have hM : St w [] w6 (.blk g13 27 (tabC t (.slice (some ⟨gr, 0, none⟩) nr rc) (.slice la nl lc)) :: .blk gz 27 tab0 :: .blk gb 27 (tabC t (.slice (some ⟨lb, lo, none⟩) nr cr) (.slice al nl cl)) :: .row (.slice (some ⟨gr, 0, none⟩) nr rc) 53 44 nr (recsV (zs.set k (ux, nameR x ((tn ++ [64]) ++ xp)))) :: .row (.slice la nl lc) 3 1 nl (numsV t.lives) :: KK) := h6; clear h6 hL))
          go_roundw
          case rel =>
           have hfx : fixR true v.id tn x = nameR x ((tn ++ [64]) ++ xp) := by unfold fixR; rw [HFB.out, HSX.out]; rfl
           refine ⟨k + 1, zs.set k (ux, nameR x ((tn ++ [64]) ++ xp)), by omega, rfl, ?_, ?_, by rw [List.length_set]; exact HZN.out, hM⟩
           ·rw [List.map_set, HZE.out]
            exact fix_step HLK.out hfx.symm
           ·intro q hq
            rcases List.mem_or_eq_of_mem_set hq with h | rfl
            ·exact HZO.out q h
            ·have h9 := HZO.out _ (List.mem_of_getElem? HZK.out)
             refine ⟨h9.1, h9.2.1, ?_⟩
             have h8 := fix_len (vol := true) (id := v.id) HTL.out (show x.name.length ≤ 1000000 from h9.2.2)
             rw [hfx] at h8
             exact h8
          case measure => simp [intOf]; omega
       ·have ek : decide ((k : Int) < (nr : Int)) = false := decide_eq_false (by omega)
        obtain rfl : nr = k := by omega
        go_wp2_with (first | go_big_skip | go_big_guard | (refine wl_loadE rfl rfl rfl ?_; first | refine ⟨_, Loads.at [] hL rfl, ?_⟩ | refine ⟨_, Loads.atA (tabC t (.slice r2 nr c2) (.slice la nl lc)) [_] hF rfl rfl, ?_⟩) | (go_at_call 97; refine (refSorted_any (some ⟨gr, 0, none⟩) nr rc zs _ (Rd.row hL (.tail _ (.tail _ (.tail _ (.head _))))) HZN.out HLZ.out (fun q hq => cellsR_ones ((HZO.out q hq).sub (fun z hz => .tail _ (.tail _ (.tail _ (.tail _ (.tail _ hz))))) |>.In hL)) (fun q hq => (HZO.out q hq).2.2) (by have := HOK.out.many; have := HRL.out; omega)).mono ?_; rintro _ w9 ⟨rv9, ws, rfl, hwe, hwp, h4⟩; have h5 := St.call hL h4; obtain ⟨r2, c2, rfl, _, _⟩ := row_sliceC [] h5; have hP : St w [] w9 (.row (.slice r2 nr c2) 53 44 nr (recsV ws) :: .blk g13 27 (tabC t (.slice (some ⟨gr, 0, none⟩) nr rc) (.slice la nl lc)) :: .blk gz 27 tab0 :: .blk gb 27 (tabC t (.slice (some ⟨lb, lo, none⟩) nr cr) (.slice al nl cl)) :: .row (.slice (some ⟨gr, 0, none⟩) nr rc) 53 44 nr (recsV zs) :: .row (.slice la nl lc) 3 1 nl (numsV t.lives) :: KK) := h5; have HWE := hid hwe; have HWP := hid hwp; clear h4 h5 hL hwe hwp) | (refine wl_store [_] hP rfl rfl rfl (off := 1) (v := .slice r2 nr c2) rfl rfl rfl (by show (1 : Nat) + 1 ≤ 7; decide) ?_; intro w7 h4; have hF : St w [] w7 (.row (.slice r2 nr c2) 53 44 nr (recsV ws) :: .blk g13 27 (tabC t (.slice r2 nr c2) (.slice la nl lc)) :: .blk gz 27 tab0 :: .blk gb 27 (tabC t (.slice (some ⟨lb, lo, none⟩) nr cr) (.slice al nl cl)) :: .row (.slice (some ⟨gr, 0, none⟩) nr rc) 53 44 nr (recsV zs) :: .row (.slice la nl lc) 3 1 nl (numsV t.lives) :: KK) := h4; clear h4 hP) | (refine wl_storeA [_, _] hF rfl rfl rfl rfl (vs := (tabC t (.slice r2 nr c2) (.slice la nl lc))) rfl rfl rfl ?_; intro w7 h4; have hZ : St w [] w7 (.row (.slice r2 nr c2) 53 44 nr (recsV ws) :: .blk g13 27 (tabC t (.slice r2 nr c2) (.slice la nl lc)) :: .blk gz 27 (tabC t (.slice r2 nr c2) (.slice la nl lc)) :: .blk gb 27 (tabC t (.slice (some ⟨lb, lo, none⟩) nr cr) (.slice al nl cl)) :: .row (.slice (some ⟨gr, 0, none⟩) nr rc) 53 44 nr (recsV zs) :: .row (.slice la nl lc) 3 1 nl (numsV t.lives) :: KK) := h4; clear h4 hF))
        have hl := Loads.atA (P := Tryz.prog) (off := 0) (T := 27) (tabC t (.slice r2 nr c2) (.slice la nl lc)) [_, _] hZ rfl rfl
        refine bodyPost_ret (results_cellR rfl rfl rfl hl) rfl ?_
        rw [HB.out]
        refine ref_fin (u := (recsT t (sortL (t.recs.map (renR nm tn))))) (K := KK) (ys := ws) hZ (.head _) (.tail _ (.tail _ (.tail _ (.tail _ (.tail _ (.head _)))))) (fun y hy => .tail _ (.tail _ (.tail _ (.tail _ (.tail _ (.tail _ (hy))))))) (fun q hq => HZO.out q (HWP.out.subset hq)) (by rw [HWP.out.length_eq]; exact HZN.out) HLV.out ?_ HBD.out
        show ws.map (·.2) = sortL (t.recs.map (renR nm tn))
        rw [HWE.out, HZE.out, ← HRE.out, List.take_of_length_le (by rw [List.length_set, HRL.out]; exact Nat.le_refl _), List.drop_of_length_le (by rw [List.length_set, HRL.out]; exact Nat.le_refl _), List.append_nil]
     ·obtain ⟨rfl, rfl, rfl⟩ : fa = true ∧ fb = true ∧ s = true := by
       revert hq hvv
       cases va <;> cases vb <;> cases fa <;> cases fb <;> cases s <;> decide
      cases va
      ·skip
       have HRE := hid (show (t.recs.set j (nameR v tn)).map (fixR false v.id tn) = t.recs.map (renR nm tn) from hrq)
       clear hrq
       clear hq hvv hno
       go_enter Tryz.func38, Tryz.ntmps38
       go_wp2_with (first | go_big_skip | go_big_guard | (refine wl_boxA hst0 rfl rfl rfl ?_; intro gb w1 hA0; clear hst0) | (refine wl_alloc hA0 rfl rfl ?_; intro gz w2 hst; clear hA0) | (go_at_call 90; first | (refine (refSplit_any nm _ (by omega)).mono ?_; rw [HX.out]; rintro _ w9 ⟨rfl, h4⟩; replace hst := St.call0 hst h4; clear h4) | (refine (refSplit_any tn _ (by omega)).mono ?_; rw [HY.out]; rintro _ w9 ⟨rfl, h4⟩; replace hst := St.call0 hst h4; clear h4)) | (go_at_call 87; first | (refine (refVolume_any nm _ (by omega)).mono ?_; rw [HVA.out]; rintro _ w9 ⟨rfl, h4⟩; replace hst := St.call0 hst h4; clear h4) | (refine (refVolume_any tn _ (by omega)).mono ?_; rw [HVB.out]; rintro _ w9 ⟨rfl, h4⟩; replace hst := St.call0 hst h4; clear h4)) | (refine wl_neqW rfl rfl rfl rfl HS.out ?_) | (refine wl_loadE rfl rfl rfl ?_; first | refine ⟨_, Loads.atA (tabC t (.slice (some ⟨lb, lo, none⟩) nr cr) (.slice al nl cl)) [_] hst rfl rfl, ?_⟩ | refine ⟨_, Loads.at [_] hst rfl, ?_⟩) | (go_at_call 86; refine (refCheck12_any t (some ⟨lb, lo, none⟩) al nr cr nl cl xs _ (HT.out.R.old hst.nil) HT.out.eq (by omega) (Rd.old hst.nil HT.out.L) HT.out.ln (by omega)).mono ?_; rw [HE.out]; rintro _ w9 ⟨rfl, h4⟩; replace hst := St.call0 hst h4; clear h4) | (go_at_call 91; refine (refFind_any t (.slice al nl cl) nm (some ⟨lb, lo, none⟩) nr cr xs _ (HT.out.R.old hst) (by omega)).mono ?_; rw [HT.out.eq, HF.out]; rintro _ w9 ⟨rfl, h4⟩; replace hst := St.call0 hst h4; clear h4) | (go_at_call 91; refine (refFind_any t (.slice al nl cl) tn (some ⟨lb, lo, none⟩) nr cr xs _ (HT.out.R.old hst) (by omega)).mono ?_; rw [HT.out.eq, HF2.out]; rintro _ w9 ⟨rfl, h4⟩; replace hst := St.call0 hst h4; clear h4) | (go_at_call 94; refine (refOwn_ok t (some ⟨lb, lo, none⟩) al nr cr nl cl xs _ (HT.out.old hst.nil) HOK.out).mono ?_; rintro _ w9 ⟨ra, rc, la, lc, ys, KK, rfl, hye, hyn, hyo, h4⟩; have hO0 := St.perm (St.call hst h4) List.perm_append_comm; obtain ⟨gr, rfl⟩ := row_spotA hO0 (.tail _ (.tail _ (.head _))) (by omega); have hO1 : St w [] w9 (.blk gz 27 tab0 :: .blk gb 27 (tabC t (.slice (some ⟨lb, lo, none⟩) nr cr) (.slice al nl cl)) :: .row (.slice (some ⟨gr, 0, none⟩) nr rc) 53 44 nr (recsV ys) :: .row (.slice la nl lc) 3 1 nl (numsV t.lives) :: KK) := hO0; have HYE := hid hye; have HYN := hid hyn; have HYO := hid hyo; clear h4 hO0 hst hye hyn hyo) | (refine wl_alloc hO1 rfl rfl ?_; intro g13 w1 hO2; clear hO1) | (refine wl_storeA [] hO2 rfl rfl rfl rfl (vs := (tabC t (.slice (some ⟨gr, 0, none⟩) nr rc) (.slice la nl lc))) rfl rfl rfl ?_; intro w1 h4; have hU1 : St w [] w1 (.blk g13 27 (tabC t (.slice (some ⟨gr, 0, none⟩) nr rc) (.slice la nl lc)) :: .blk gz 27 tab0 :: .blk gb 27 (tabC t (.slice (some ⟨lb, lo, none⟩) nr cr) (.slice al nl cl)) :: .row (.slice (some ⟨gr, 0, none⟩) nr rc) 53 44 nr (recsV ys) :: .row (.slice la nl lc) 3 1 nl (numsV t.lives) :: KK) := h4; clear h4 hO2; obtain ⟨u, hyj⟩ := map_get2 HYE.out HRJ.out; have HYJ := hid hyj; have HLY := hid (show LX ys from (fun q hq => (HYO.out q hq).2.1)); clear hyj) | (refine wl_loadE rfl rfl rfl ?_; first | refine ⟨_, Loads.at [] hU1 rfl, ?_⟩ | refine ⟨_, Loads.inRow hU1 (.tail _ (.tail _ (.tail _ (.head _)))) (recsV_at HLY.out HYJ.out (d := 0) rfl), ?_⟩ | refine ⟨.int .i64 v.id, Loads.cell (inferInstance : TyS Tryz.prog 3).out (rowCell hU1 (.tail _ (.tail _ (.tail _ (.head _)))) HLY.out HYJ.out (d := 0) rfl), ?_⟩) | (refine wl_index rfl rfl rfl rfl hlt ?_) | (refine wl_storeRow1 [_, _, _] hU1 rfl rfl rfl rfl (v := .string ⟨tn.toArray⟩) rfl rfl (by omega) (by omega) ?_; intro w6 h6; rw [recsV_put HLY.out HYJ.out (d := 1) (by show 1 + 1 ≤ 44; decide) (put_nameR (u, v) tn)] at h6; have hU2 : St w [] w6 (.blk g13 27 (tabC t (.slice (some ⟨gr, 0, none⟩) nr rc) (.slice la nl lc)) :: .blk gz 27 tab0 :: .blk gb 27 (tabC t (.slice (some ⟨lb, lo, none⟩) nr cr) (.slice al nl cl)) :: .row (.slice (some ⟨gr, 0, none⟩) nr rc) 53 44 nr (recsV (ys.set j (u, nameR v tn))) :: .row (.slice la nl lc) 3 1 nl (numsV t.lives) :: KK) := h6; clear h6 hU1))
       have hL : St w [] _ (.blk g13 27 (tabC t (.slice (some ⟨gr, 0, none⟩) nr rc) (.slice la nl lc)) :: .blk gz 27 tab0 :: .blk gb 27 (tabC t (.slice (some ⟨lb, lo, none⟩) nr cr) (.slice al nl cl)) :: .row (.slice (some ⟨gr, 0, none⟩) nr rc) 53 44 nr (recsV (ys.set j (u, nameR v tn))) :: .row (.slice la nl lc) 3 1 nl (numsV t.lives) :: KK) := hU2
       clear hU2
       go_loopw [21] (fun i wr => ∃ (k : Nat) (zs : List (Value × RC)), k ≤ nr ∧ i = .int .i64 (k : Int) ∧ zs.map (·.2) = ((t.recs.set j (nameR v tn)).take k).map (fixR false v.id tn) ++ (t.recs.set j (nameR v tn)).drop k ∧ OwnX KK zs ∧ zs.length = nr ∧ St w [] wr (.blk g13 27 (tabC t (.slice (some ⟨gr, 0, none⟩) nr rc) (.slice la nl lc)) :: .blk gz 27 tab0 :: .blk gb 27 (tabC t (.slice (some ⟨lb, lo, none⟩) nr cr) (.slice al nl cl)) :: .row (.slice (some ⟨gr, 0, none⟩) nr rc) 53 44 nr (recsV zs) :: .row (.slice la nl lc) 3 1 nl (numsV t.lives) :: KK)) (fun i _ => nr - (intOf i).toNat)
       case atStart => exact ⟨0, (ys.set j (u, nameR v tn)), Nat.zero_le _, rfl, by rw [List.map_set, HYE.out]; rfl, (fun q hq => by
        rcases List.mem_or_eq_of_mem_set hq with h | rfl
        ·exact HYO.out q h
        ·have h9 := HYO.out _ (List.mem_of_getElem? HYJ.out)
         exact ⟨h9.1, h9.2.1, by have := HTL.out; show tn.length ≤ _; omega⟩), by rw [List.length_set]; exact HYN.out, hL⟩
       case round =>
        clear hL
        obtain ⟨k, zs, hk, rfl, hze, hzo, hzn, hL⟩ := hrel
        have HZE := hid hze
        have HZO := hid hzo
        have HZN := hid hzn
        have HLZ := hid (show LX zs from fun q hq => (hzo q hq).2.1)
        clear hze hzo hzn
        by_cases hlk : k < nr
        ·have ek : decide ((k : Int) < (nr : Int)) = true := decide_eq_true (by omega)
         have z2 : IntKind.i64.wrap ((k : Int) + 1) = (k : Int) + 1 := IntWalk.i64_in _ (by omega)
         obtain ⟨x, hx⟩ : ∃ x, (t.recs.set j (nameR v tn))[k]? = some x := ⟨_, List.getElem?_eq_getElem (by rw [List.length_set, HRL.out]; exact hlk)⟩
         obtain ⟨ux, hzk⟩ := fix_get HZE.out hx
         have HLK := hid hx
         have HZK := hid hzk
         have HXN := hid (HZO.out _ (List.mem_of_getElem? hzk)).2.2
         have HLX := hid (HZO.out _ (List.mem_of_getElem? hzk)).2.1
         obtain ⟨⟨xa, xp, xf⟩, hsx⟩ : ∃ q, splitL x.name = q := ⟨_, rfl⟩
         have HSX := hid hsx
         have hcat : ¬ 9223372036854775807 < tn.length + 1 + xp.length := by
          have h8 := (split_in x.name HXN.out).2
          rw [hsx] at h8
          have h9 := HTL.out
          simp only at h8
          omega
         clear hx hzk hsx
         have HFB := hid (show fixB false v.id x = false from rfl)
         go_wp2_with (first | go_big_skip | go_big_guard | (refine wl_loadE rfl rfl rfl ?_; first | refine ⟨_, Loads.at [] hL rfl, ?_⟩ | refine ⟨_, loadNm hL (.tail _ (.tail _ (.tail _ (.head _)))) HLZ.out HZK.out, ?_⟩ | refine ⟨_, loadOw hL (.tail _ (.tail _ (.tail _ (.head _)))) HLZ.out HZK.out, ?_⟩) | (refine wl_index rfl rfl rfl rfl hlk ?_) | (go_at_call 90; refine (refSplit_any x.name _ (by have := HXN.out; omega)).mono ?_; rw [HSX.out]; rintro _ w9 ⟨rfl, h4⟩; replace hL := St.call0 hL h4; clear h4) | (refine wl_storeRow1 [_, _, _] hL rfl rfl rfl (by show Value.string _ = _; rw [append_l tn [64], append_l]) (v := .string ⟨((tn ++ [64]) ++ xp).toArray⟩) rfl rfl (by omega) (by omega) ?_; intro w6 h6; rw [recsV_put HLZ.out HZK.out (d := 1) (by show 1 + 1 ≤ 44; decide) (put_nameR (ux, x) ((tn ++ [64]) ++ xp))] at h6; have hM : St w [] w6 (.blk g13 27 (tabC t (.slice (some ⟨gr, 0, none⟩) nr rc) (.slice la nl lc)) :: .blk gz 27 tab0 :: .blk gb 27 (tabC t (.slice (some ⟨lb, lo, none⟩) nr cr) (.slice al nl cl)) :: .row (.slice (some ⟨gr, 0, none⟩) nr rc) 53 44 nr (recsV (zs.set k (ux, nameR x ((tn ++ [64]) ++ xp)))) :: .row (.slice la nl lc) 3 1 nl (numsV t.lives) :: KK) := h6; clear h6 hL))
         go_roundw
         case rel =>
          have hfx : fixR false v.id tn x = x := by unfold fixR; rw [HFB.out]; rfl
          refine ⟨k + 1, zs, by omega, rfl, ?_, HZO.out, HZN.out, hL⟩
          rw [HZE.out]
          exact fix_same HLK.out hfx
         case measure => simp [intOf]; omega
        ·have ek : decide ((k : Int) < (nr : Int)) = false := decide_eq_false (by omega)
         obtain rfl : nr = k := by omega
         go_wp2_with (first | go_big_skip | go_big_guard | (refine wl_loadE rfl rfl rfl ?_; first | refine ⟨_, Loads.at [] hL rfl, ?_⟩ | refine ⟨_, Loads.atA (tabC t (.slice r2 nr c2) (.slice la nl lc)) [_] hF rfl rfl, ?_⟩) | (go_at_call 97; refine (refSorted_any (some ⟨gr, 0, none⟩) nr rc zs _ (Rd.row hL (.tail _ (.tail _ (.tail _ (.head _))))) HZN.out HLZ.out (fun q hq => cellsR_ones ((HZO.out q hq).sub (fun z hz => .tail _ (.tail _ (.tail _ (.tail _ (.tail _ hz))))) |>.In hL)) (fun q hq => (HZO.out q hq).2.2) (by have := HOK.out.many; have := HRL.out; omega)).mono ?_; rintro _ w9 ⟨rv9, ws, rfl, hwe, hwp, h4⟩; have h5 := St.call hL h4; obtain ⟨r2, c2, rfl, _, _⟩ := row_sliceC [] h5; have hP : St w [] w9 (.row (.slice r2 nr c2) 53 44 nr (recsV ws) :: .blk g13 27 (tabC t (.slice (some ⟨gr, 0, none⟩) nr rc) (.slice la nl lc)) :: .blk gz 27 tab0 :: .blk gb 27 (tabC t (.slice (some ⟨lb, lo, none⟩) nr cr) (.slice al nl cl)) :: .row (.slice (some ⟨gr, 0, none⟩) nr rc) 53 44 nr (recsV zs) :: .row (.slice la nl lc) 3 1 nl (numsV t.lives) :: KK) := h5; have HWE := hid hwe; have HWP := hid hwp; clear h4 h5 hL hwe hwp) | (refine wl_store [_] hP rfl rfl rfl (off := 1) (v := .slice r2 nr c2) rfl rfl rfl (by show (1 : Nat) + 1 ≤ 7; decide) ?_; intro w7 h4; have hF : St w [] w7 (.row (.slice r2 nr c2) 53 44 nr (recsV ws) :: .blk g13 27 (tabC t (.slice r2 nr c2) (.slice la nl lc)) :: .blk gz 27 tab0 :: .blk gb 27 (tabC t (.slice (some ⟨lb, lo, none⟩) nr cr) (.slice al nl cl)) :: .row (.slice (some ⟨gr, 0, none⟩) nr rc) 53 44 nr (recsV zs) :: .row (.slice la nl lc) 3 1 nl (numsV t.lives) :: KK) := h4; clear h4 hP) | (refine wl_storeA [_, _] hF rfl rfl rfl rfl (vs := (tabC t (.slice r2 nr c2) (.slice la nl lc))) rfl rfl rfl ?_; intro w7 h4; have hZ : St w [] w7 (.row (.slice r2 nr c2) 53 44 nr (recsV ws) :: .blk g13 27 (tabC t (.slice r2 nr c2) (.slice la nl lc)) :: .blk gz 27 (tabC t (.slice r2 nr c2) (.slice la nl lc)) :: .blk gb 27 (tabC t (.slice (some ⟨lb, lo, none⟩) nr cr) (.slice al nl cl)) :: .row (.slice (some ⟨gr, 0, none⟩) nr rc) 53 44 nr (recsV zs) :: .row (.slice la nl lc) 3 1 nl (numsV t.lives) :: KK) := h4; clear h4 hF))
         have hl := Loads.atA (P := Tryz.prog) (off := 0) (T := 27) (tabC t (.slice r2 nr c2) (.slice la nl lc)) [_, _] hZ rfl rfl
         refine bodyPost_ret (results_cellR rfl rfl rfl hl) rfl ?_
         rw [HB.out]
         refine ref_fin (u := (recsT t (sortL (t.recs.map (renR nm tn))))) (K := KK) (ys := ws) hZ (.head _) (.tail _ (.tail _ (.tail _ (.tail _ (.tail _ (.head _)))))) (fun y hy => .tail _ (.tail _ (.tail _ (.tail _ (.tail _ (.tail _ (hy))))))) (fun q hq => HZO.out q (HWP.out.subset hq)) (by rw [HWP.out.length_eq]; exact HZN.out) HLV.out ?_ HBD.out
         show ws.map (·.2) = sortL (t.recs.map (renR nm tn))
         rw [HWE.out, HZE.out, ← HRE.out, List.take_of_length_le (by rw [List.length_set, HRL.out]; exact Nat.le_refl _), List.drop_of_length_le (by rw [List.length_set, HRL.out]; exact Nat.le_refl _), List.append_nil]
      ·exact (hno rfl rfl).elim
    ·have HB := hid (show r = badR 7 by
      rw [hr]
      unfold renameT
      rw [hq, ht2]
      show opR t (if isAt nm t.recs then badR 7 else badR 6) = _
      unfold isAt
      rw [hv]
      exact opR_z hok)
     obtain ⟨k2, hf2⟩ : ∃ k2 : Nat, findP tn t.recs = ((k2 : Int), true) := by
      unfold isAt at ht2
      cases h9 : recAt tn t.recs with
      | none => rw [h9] at ht2; cases ht2
      | some q =>
       obtain ⟨j9, _, _, _, h8, _⟩ := found_at HT.out h9
       exact ⟨j9, h8⟩
     have HF2 := hid hf2
     obtain ⟨j, sv, lb, lo, hf, hx9, hlt, har, hin, hrx⟩ := found_at HT.out hv
     subst har
     have HF := hid hf
     have HX9 := hid hx9
     have HRX := hid hrx
     have HIX := hid hin
     have HLL := hid hin.L
     have HL44 := hid (cellsR_len hin.L)
     have H35 := hid (PV.len (p := v.pv sv) hin.L)
     have HVL := hid (birth_le hok (List.mem_of_find?_eq_some hv)).1
     clear hf hx9 hrx hin
     rw [hal] at hq
     clear hr hok hal hv hva hvb ht2 hf2
     have hw : (va = true ∧ vb = true) ∨ (va = false ∧ fa = true ∧ fb = true ∧ s = true) := by
      cases va <;> cases vb <;> cases fa <;> cases fb <;> cases s <;> simp_all
     clear hno hq
     rcases hw with ⟨rfl, rfl⟩ | ⟨rfl, rfl, rfl, rfl⟩
     all_goals
      go_enter Tryz.func38, Tryz.ntmps38
      go_wp2_with (first | go_big_skip | go_big_guard | (refine wl_boxA hst0 rfl rfl rfl ?_; intro gb w1 hA0; clear hst0) | (refine wl_alloc hA0 rfl rfl ?_; intro gz w2 hst; clear hA0) | (go_at_call 90; first | (refine (refSplit_any nm _ (by omega)).mono ?_; rw [HX.out]; rintro _ w9 ⟨rfl, h4⟩; replace hst := St.call0 hst h4; clear h4) | (refine (refSplit_any tn _ (by omega)).mono ?_; rw [HY.out]; rintro _ w9 ⟨rfl, h4⟩; replace hst := St.call0 hst h4; clear h4)) | (go_at_call 87; first | (refine (refVolume_any nm _ (by omega)).mono ?_; rw [HVA.out]; rintro _ w9 ⟨rfl, h4⟩; replace hst := St.call0 hst h4; clear h4) | (refine (refVolume_any tn _ (by omega)).mono ?_; rw [HVB.out]; rintro _ w9 ⟨rfl, h4⟩; replace hst := St.call0 hst h4; clear h4)) | (refine wl_neqW rfl rfl rfl rfl HS.out ?_) | (refine wl_loadE rfl rfl rfl ?_; first | refine ⟨_, Loads.atA (tabC t (.slice (some ⟨lb, lo, none⟩) nr cr) (.slice al nl cl)) [_] hst rfl rfl, ?_⟩ | refine ⟨_, Loads.at [_] hst rfl, ?_⟩) | (go_at_call 86; refine (refCheck12_any t (some ⟨lb, lo, none⟩) al nr cr nl cl xs _ (HT.out.R.old hst.nil) HT.out.eq (by omega) (Rd.old hst.nil HT.out.L) HT.out.ln (by omega)).mono ?_; rw [HE.out]; rintro _ w9 ⟨rfl, h4⟩; replace hst := St.call0 hst h4; clear h4) | (go_at_call 91; refine (refFind_any t (.slice al nl cl) nm (some ⟨lb, lo, none⟩) nr cr xs _ (HT.out.R.old hst) (by omega)).mono ?_; rw [HT.out.eq, HF.out]; rintro _ w9 ⟨rfl, h4⟩; replace hst := St.call0 hst h4; clear h4) | (go_at_call 91; refine (refFind_any t (.slice al nl cl) tn (some ⟨lb, lo, none⟩) nr cr xs _ (HT.out.R.old hst) (by omega)).mono ?_; rw [HT.out.eq, HF2.out]; rintro _ w9 ⟨rfl, h4⟩; replace hst := St.call0 hst h4; clear h4) | (refine wl_build0 rfl rfl ?_) | (refine wl_storeA [] hst rfl rfl rfl rfl rfl rfl rfl ?_; intro w7 hZ; clear hst))
      have hl := Loads.atA (P := Tryz.prog) (off := 0) (T := 27) tab0 [] hZ rfl rfl
      refine bodyPost_ret (results_cellR rfl rfl rfl hl) rfl ?_
      rw [HB.out]
      exact refRet_bad hZ _
end Go.Proofs.YtifajcblbedcoaaGreat
namespace Go.Proofs.YtifajcblbedcoaaGreat
set_option linter.unusedVariables false
set_option linter.unusedSimpArgs false
open Go.RowKit Hp
attribute [local irreducible] Go.Calls Go.wpList
set_option maxRecDepth 100000
set_option maxHeartbeats 8000000
attribute [local go_sem ↓] heldInt heldInts heldRecs heldRec heldStr heldTab heldPtr heldFn
theorem ref_pool {w w1 w2 : World} {B P : List HA} {z : Int} {u : TC} {e : Ending} (hst : St w [] w1 (B ++ P)) (h : RefRet (z, u) w1 e w2) :
  ∃ (ar al : Option Addr) (nr cr nl cl : Nat) (xs : List (Value × RC)) (P' : List HA), e = .returned (.tuple #[.agg (tabC u (.slice ar nr cr) (.slice al nl cl)).toArray, .int .i64 z]) ∧ Held P' u ar al nr cr nl cl xs ∧ (∀ y ∈ P, y ∈ P') ∧ St w [] w2 (B ++ P') := by
 obtain ⟨ar, al, nr, cr, nl, cl, xs, L, rfl, hh, h4⟩ := h
 have h5 := St.call hst h4
 refine ⟨ar, al, nr, cr, nl, cl, xs, L ++ P, rfl, fun _ _ _ _ hs hsub => hh _ _ _ _ hs fun y hy => hsub y (List.mem_append_left _ hy), fun y hy => List.mem_append_right _ hy, St.perm h5 ?_⟩
 rw [← List.append_assoc, ← List.append_assoc]
 exact List.perm_append_comm.append_right P
theorem wants_all (t : TC) (ar al : Option Addr) (nr cr nl cl : Nat) (xs : List (Value × RC)) (w : World) (ht : TabIn w t ar nr cr al nl cl xs) (x : AD) (hx : x.Few w) (hk : x.kind = 0 ∨ x.kind = 1 ∨ x.kind = 2 ∨ x.kind = 3 ∨ x.kind = 4 ∨ x.kind = 5 ∨ x.kind = 6 ∨ x.kind = 7 ∨ x.kind = 8) :
  Calls Tryz.prog 12 #[.agg (tabC t (.slice ar nr cr) (.slice al nl cl)).toArray, .agg x.cells.toArray] w (RefRet (doR t x) w) := by
 have hst0 := St.refl w
 have HT := hid ht
 have HX := hid hx
 have H35 := hid (PV.len hx.p.1)
 clear ht hx
 obtain ⟨r, hr⟩ : ∃ r, r = doR t x := ⟨_, rfl⟩
 rw [← hr]
 obtain ⟨k, z, txg, nm, tn, p⟩ := x
 simp only at hk
 rcases hk with rfl | rfl | rfl | rfl | rfl | rfl | rfl | rfl | rfl
 all_goals
  have HR := hid hr
  clear hr
  go_enter Tryz.func12, Tryz.ntmps12
  go_wp2_with (first | go_big_skip | go_big_guard | (refine wl_boxA hst0 rfl rfl rfl ?_; intro g2 w1 hA0; clear hst0) | (refine wl_boxA hA0 rfl rfl rfl ?_; intro g3 w2 hA1; clear hA0) | (refine wl_alloc hA1 rfl rfl ?_; intro g4 w3 hst; clear hA1) | (refine wl_loadE rfl rfl rfl ?_; first | refine ⟨_, Loads.atA p.cells [_] hst H35.out (by show List.take p.cells.length p.cells = p.cells; exact List.take_length), ?_⟩ | refine ⟨_, Loads.atA (tabC t (.slice ar nr cr) (.slice al nl cl)) [_, _] hst rfl rfl, ?_⟩ | refine ⟨_, Loads.at [_] hst rfl, ?_⟩) | (go_at_call 33; refine (refMake13 t ar al nr cr nl cl xs _ (HT.out.old hst.nil) nm z txg HX.out.nm).mono ?_; rw [show opR t (makeR t nm z txg) = r from HR.out.symm]; rintro _ w9 ⟨a9, l9, n9, c9, m9, d9, xs9, L9, rfl, hin9, h4⟩; have hst2 := St.call hst h4; have HIN := hid hin9; clear h4 hst hin9) | (go_at_call 34; refine (refSnap13 t ar al nr cr nl cl xs _ (HT.out.old hst.nil) nm txg HX.out.nm).mono ?_; rw [show opR t (snapT t nm txg) = r from HR.out.symm]; rintro _ w9 ⟨a9, l9, n9, c9, m9, d9, xs9, L9, rfl, hin9, h4⟩; have hst2 := St.call hst h4; have HIN := hid hin9; clear h4 hst hin9) | (go_at_call 35; refine (refClone13 t ar al nr cr nl cl xs _ (HT.out.old hst.nil) nm tn txg HX.out.nm HX.out.tn).mono ?_; rw [show opR t (cloneT t nm tn txg) = r from HR.out.symm]; rintro _ w9 ⟨a9, l9, n9, c9, m9, d9, xs9, L9, rfl, hin9, h4⟩; have hst2 := St.call hst h4; have HIN := hid hin9; clear h4 hst hin9) | (go_at_call 36; refine (refRoll13 t ar al nr cr nl cl xs _ (HT.out.old hst.nil) nm HX.out.nm).mono ?_; rw [show opR t (rollT t nm) = r from HR.out.symm]; rintro _ w9 ⟨a9, l9, n9, c9, m9, d9, xs9, L9, rfl, hin9, h4⟩; have hst2 := St.call hst h4; have HIN := hid hin9; clear h4 hst hin9) | (go_at_call 37; refine (refDrop13 t ar al nr cr nl cl xs _ (HT.out.old hst.nil) nm HX.out.nm).mono ?_; rw [show opR t (dropT t nm) = r from HR.out.symm]; rintro _ w9 ⟨a9, l9, n9, c9, m9, d9, xs9, L9, rfl, hin9, h4⟩; have hst2 := St.call hst h4; have HIN := hid hin9; clear h4 hst hin9) | (go_at_call 38; refine (refRename13 t ar al nr cr nl cl xs _ (HT.out.old hst.nil) nm tn HX.out.nm HX.out.tn).mono ?_; rw [show opR t (renameT t nm tn) = r from HR.out.symm]; rintro _ w9 ⟨a9, l9, n9, c9, m9, d9, xs9, L9, rfl, hin9, h4⟩; have hst2 := St.call hst h4; have HIN := hid hin9; clear h4 hst hin9) | (go_at_call 39; refine (refResize13 t ar al nr cr nl cl xs _ (HT.out.old hst.nil) nm z HX.out.nm).mono ?_; rw [show opR t (resizeT t nm z) = r from HR.out.symm]; rintro _ w9 ⟨a9, l9, n9, c9, m9, d9, xs9, L9, rfl, hin9, h4⟩; have hst2 := St.call hst h4; have HIN := hid hin9; clear h4 hst hin9) | (go_at_call 40; refine (refLimit13 t ar al nr cr nl cl xs _ (HT.out.old hst.nil) nm z txg HX.out.nm).mono ?_; rw [show opR t (limitT t nm z txg) = r from HR.out.symm]; rintro _ w9 ⟨a9, l9, n9, c9, m9, d9, xs9, L9, rfl, hin9, h4⟩; have hst2 := St.call hst h4; have HIN := hid hin9; clear h4 hst hin9) | (go_at_call 41; refine (refRoot13 t ar al nr cr nl cl xs _ (HT.out.old hst.nil) nm p (HX.out.p.old hst.nil) HX.out.nm).mono ?_; rw [show opR t (rootT t nm p) = r from HR.out.symm]; rintro _ w9 ⟨a9, l9, n9, c9, m9, d9, xs9, L9, rfl, hin9, h4⟩; have hst2 := St.call hst h4; have HIN := hid hin9; clear h4 hst hin9) | (refine wl_storeA L9 hst2 rfl rfl rfl rfl (vs := (tabC r.2 (.slice a9 n9 c9) (.slice l9 m9 d9))) rfl rfl rfl ?_; intro w7 hst3; clear hst2))
  have hl := Loads.atA (P := Tryz.prog) (off := 0) (T := 27) (tabC r.2 (.slice a9 n9 c9) (.slice l9 m9 d9)) L9 hst3 rfl rfl
  refine bodyPost_ret (results_cellR rfl rfl rfl hl) rfl ?_
  exact ⟨a9, l9, n9, c9, m9, d9, xs9, _, rfl, fun w0 w8 M L' hs hsub => HIN.out w0 w8 M L' hs (fun y hy => hsub y (List.mem_append_left _ hy)), hst3⟩
theorem wants_none (t : TC) (ar al : Option Addr) (nr cr nl cl : Nat) (xs : List (Value × RC)) (w : World) (ht : TabIn w t ar nr cr al nl cl xs) (x : AD) (hx : x.Few w) (hk : x.idle = true) :
  Calls Tryz.prog 12 #[.agg (tabC t (.slice ar nr cr) (.slice al nl cl)).toArray, .agg x.cells.toArray] w fun e w' => e = .returned (.tuple #[.agg (tabC t (.slice ar nr cr) (.slice al nl cl)).toArray, .int .i64 0]) ∧ St w [] w' [] := by
 have hst0 := St.refl w
 have H35 := hid (PV.len hx.p.1)
 obtain ⟨k, z, txg, nm, tn, p⟩ := x
 unfold AD.idle at hk
 simp only [Bool.or_eq_true, decide_eq_true_eq] at hk
 have d0 : (k == 0) = false := by rw [beq_eq_false_iff_ne]; omega
 have d1 : (k == 1) = false := by rw [beq_eq_false_iff_ne]; omega
 have d2 : (k == 2) = false := by rw [beq_eq_false_iff_ne]; omega
 have d3 : (k == 3) = false := by rw [beq_eq_false_iff_ne]; omega
 have d4 : (k == 4) = false := by rw [beq_eq_false_iff_ne]; omega
 have d5 : (k == 5) = false := by rw [beq_eq_false_iff_ne]; omega
 have d6 : (k == 6) = false := by rw [beq_eq_false_iff_ne]; omega
 have d7 : (k == 7) = false := by rw [beq_eq_false_iff_ne]; omega
 have d8 : (k == 8) = false := by rw [beq_eq_false_iff_ne]; omega
 clear hk hx
 go_enter Tryz.func12, Tryz.ntmps12
 go_wp2_with (first | go_big_skip | go_big_guard | (refine wl_boxA hst0 rfl rfl rfl ?_; intro g2 w1 hA0; clear hst0) | (refine wl_boxA hA0 rfl rfl rfl ?_; intro g3 w2 hA1; clear hA0) | (refine wl_alloc hA1 rfl rfl ?_; intro g4 w3 hst; clear hA1) | (refine wl_loadE rfl rfl rfl ?_; first | refine ⟨_, Loads.atA p.cells [_] hst H35.out (by show List.take p.cells.length p.cells = p.cells; exact List.take_length), ?_⟩ | refine ⟨_, Loads.atA (tabC t (.slice ar nr cr) (.slice al nl cl)) [_, _] hst rfl rfl, ?_⟩ | refine ⟨_, Loads.at [_] hst rfl, ?_⟩) | (refine wl_storeA [] hst rfl rfl rfl rfl (vs := (tabC t (.slice ar nr cr) (.slice al nl cl))) rfl rfl rfl ?_; intro w7 hst3; clear hst))
 have hl := Loads.atA (P := Tryz.prog) (off := 0) (T := 27) (tabC t (.slice ar nr cr) (.slice al nl cl)) [] hst3 rfl rfl
 refine bodyPost_ret (results_cellR rfl rfl rfl hl) rfl ?_
 exact ⟨rfl, hst3.nil⟩
theorem wants13_any (t : TC) (ar al : Option Addr) (nr cr nl cl : Nat) (xs : List (Value × RC)) (w : World) (ht : TabIn w t ar nr cr al nl cl xs) (x : AD) (hx : x.Few w) (hk : x.idle = false) :
  Calls Tryz.prog 12 #[.agg (tabC t (.slice ar nr cr) (.slice al nl cl)).toArray, .agg x.cells.toArray] w (RefRet (doR t x) w) := by
 unfold AD.idle at hk
 simp only [Bool.or_eq_false_iff, decide_eq_false_iff_not] at hk
 exact wants_all t ar al nr cr nl cl xs w ht x hx (by omega)
end Go.Proofs.YtifajcblbedcoaaGreat
namespace Go.Proofs.YtifajcblbedcoaaGreat
set_option linter.unusedVariables false
set_option linter.unusedSimpArgs false
open Go.RowKit Hp
attribute [local irreducible] Go.Calls Go.wpList
set_option maxRecDepth 100000
set_option maxHeartbeats 8000000
attribute [local go_sem ↓] heldInt heldInts heldCur
theorem put_root (x : Value × RC) (hL : L32 x.2.S) (v : Value) : putAt (cellsR x) 4 (PV.cells ((x.2.pv x.1).re v)) = cellsR (v, x.2) :=
 xC_put4 (p := x.2.pv x.1) (q := (x.2.pv x.1).re v) hL hL
theorem copyTable_any (t : TC) (ar al : Option Addr) (nr cr nl cl : Nat) (xs : List (Value × RC)) (w : World) (ht : TabIn w t ar nr cr al nl cl xs) (hn : nr ≤ 100) (hl : nl ≤ 100) (ha : ∀ r ∈ t.recs, r.l.length ≤ 100000) :
  Calls Tryz.prog 9 #[.agg (tabC t (.slice ar nr cr) (.slice al nl cl)).toArray] w fun e w' => ∃ ro rc lo lc ys, e = .returned (.agg (tabC t (.slice ro nr rc) (.slice lo nl lc)).toArray) ∧ ys.map (·.2) = t.recs ∧ St w [] w' (.row (.slice ro nr rc) 53 44 nr (recsV ys) :: .row (.slice lo nl lc) 3 1 nl (numsV t.lives) :: rootRows 102 ys) := by
 have hst0 := St.refl w
 have HT := hid ht
 clear ht
 go_enter Tryz.func9, Tryz.ntmps9
 go_upto_region 1 with (first | go_big_skip | go_big_guard | (refine wl_boxA hst0 rfl rfl rfl ?_; intro g1 w1 hst1; clear hst0) | (refine wl_alloc hst1 rfl rfl ?_; intro g2 w2 hst; clear hst1))
 (try simp only [Act.put, List.setIfInBounds_toArray, List.set_cons_zero, List.set_cons_succ])
 go_cut [3, 10, 13, 14] (fun a b c d wx => ∃ g3 lo lc, a = .pointer (some ⟨g3, 0, none⟩) ∧ St w [] wx (.blk g3 27 [.int .i64 t.next, .slice none 0 0, .int .i64 t.kind, .int .i64 t.dev, .int .i64 t.at_, .int .i64 t.txg, .slice lo nl lc] :: .row (.slice none 0 0) 53 44 0 (recsV []) :: .row (.slice lo nl lc) 3 1 nl (numsV t.lives) :: .blk g1 27 (tabC t (.slice ar nr cr) (.slice al nl cl)) :: .blk g2 27 tab0 :: rootRows 102 []))
 case first =>
  have hX := hst.drew
  clear hst
  refine wp_region_held_drew (S := (fun w' => (loadVarH 3 ⟨g1, 0, none⟩).run Tryz.prog w' = .ok (.int .i64 t.next) w' ∧ (loadVarH 24 ⟨g1, 2, none⟩).run Tryz.prog w' = .ok (.agg (List.toArray ([.int .i64 t.kind, .int .i64 t.dev, .int .i64 t.at_, .int .i64 t.txg]))) w' ∧ (loadVarH 25 ⟨g1, 6, none⟩).run Tryz.prog w' = .ok (.slice al nl cl) w')) (by kernel_rfl) (by exact ⟨ldS [_] hX rfl, ldA ([.int .i64 t.kind, .int .i64 t.dev, .int .i64 t.at_, .int .i64 t.txg]) [_] hX (rfl) (rfl), ldS [_] hX rfl⟩) (fun hHeld => ?_)
  refine tq 0 6 ?_
  refine tq 2 8 ?_
  refine tq 5 11 ?_
  refine tq 1 7 ?_
  refine tq 3 9 ?_
  refine tq 6 12 ?_
  refine wpAnyH_ready (rs := [4, 9]) (by kernel_rfl) (by simp) ?_
  refine (AllReadyH.cons (o := ⟨some 10, _, _, _, _, _⟩) rfl (fun K hK => ?_) (AllReadyH.cons (o := ⟨some 3, _, _, _, _, _⟩) rfl (fun K hK => ?_) AllReadyH.nil))
  ·rw [if_pos (by rfl)]
   refine ow_of_wl (ops := #[]) (by rfl) ?_
   apply wl_bsX [] [] hX
   ·rfl
   ·rfl
   ·exact rfl
   ·exact rfl
   ·infer_instance
   ·infer_instance
   ·rfl
   ·rfl
   ·rfl
   intro g7 w8 h8
   have hP1 := St.toRow (n := 0) (cap := 0) (sz := 1) h8 rfl (by decide) (by decide)
   clear h8
   refine q0_nil ?_
   refine hK.out _ _ ?_ (fun hHeld => ?_)
   ·exact ⟨ldS [_, _] hP1 rfl, ldA ([.int .i64 t.kind, .int .i64 t.dev, .int .i64 t.at_, .int .i64 t.txg]) [_, _] hP1 (rfl) (rfl), ldS [_, _] hP1 rfl⟩
   clear hK K
   (try simp only [Act.put, List.setIfInBounds_toArray, List.set_cons_zero, List.set_cons_succ])
   refine wpAnyH_ready (rs := [7, 9]) (by kernel_rfl) (by simp) ?_
   refine (AllReadyH.cons (o := ⟨some 13, _, _, _, _, _⟩) rfl (fun K hK => ?_) (AllReadyH.cons (o := ⟨some 3, _, _, _, _, _⟩) rfl (fun K hK => ?_) AllReadyH.nil))
   ·rw [if_pos (by rfl)]
    refine ow_of_wl (ops := #[]) (by rfl) ?_
    apply wl_appX (m := nl) (ys := numsV t.lives) [] hP1
    ·rfl
    ·rfl
    ·exact rfl
    ·exact rfl
    ·infer_instance
    ·infer_instance
    ·infer_instance
    ·exact Rd.old hP1 HT.out.L
    ·exact ones_numsV _
    ·exact ⟨by decide, by unfold maxLen; omega, by omega⟩
    intro lv2 w6 hP2 _
    obtain ⟨lo, lc, rfl, _, _⟩ := row_sliceC [] hP2
    refine q0_nil ?_
    refine hK.out _ _ ?_ (fun hHeld => ?_)
    ·exact ⟨ldS [_, _] hP2 rfl, ldA ([.int .i64 t.kind, .int .i64 t.dev, .int .i64 t.at_, .int .i64 t.txg]) [_, _] hP2 (rfl) (rfl), ldS [_, _] hP2 rfl⟩
    clear hK K
    (try simp only [Act.put, List.setIfInBounds_toArray, List.set_cons_zero, List.set_cons_succ])
    refine wpAnyH_ready (rs := [8, 9]) (by kernel_rfl) (by simp) ?_
    refine (AllReadyH.cons (o := ⟨some 14, _, _, _, _, _⟩) rfl (fun K hK => ?_) (AllReadyH.cons (o := ⟨some 3, _, _, _, _, _⟩) rfl (fun K hK => ?_) AllReadyH.nil))
    ·rw [if_pos (by rfl)]
     refine ow_of_wl (ops := #[]) (by rfl) ?_
     refine wl_buildX (cs := [.int .i64 t.next, .slice none 0 0, .int .i64 t.kind, .int .i64 t.dev, .int .i64 t.at_, .int .i64 t.txg, .slice lo (0 + nl) lc]) [(0, .int .i64 t.next), (2, .agg #[.int .i64 t.kind, .int .i64 t.dev, .int .i64 t.at_, .int .i64 t.txg]), (3, .slice lo (0 + nl) lc)] rfl rfl (by exact rfl) (bldT3 _ _ _ _ _ _ _ _) ?_
     refine q0_nil ?_
     refine hK.out _ _ ?_ (fun hHeld => ?_)
     ·exact ⟨ldS [_, _] hP2 rfl, ldA ([.int .i64 t.kind, .int .i64 t.dev, .int .i64 t.at_, .int .i64 t.txg]) [_, _] hP2 (rfl) (rfl), ldS [_, _] hP2 rfl⟩
     clear hK K
     (try simp only [Act.put, List.setIfInBounds_toArray, List.set_cons_zero, List.set_cons_succ])
     refine wpAnyH_ready (rs := [9]) (by kernel_rfl) (by simp) ?_
     refine (AllReadyH.cons (o := ⟨some 3, _, _, _, _, _⟩) rfl (fun K hK => ?_) AllReadyH.nil)
     rw [if_pos (by rfl)]
     refine ow_of_wl (ops := #[]) (by rfl) ?_
     refine wl_alloc hP2 rfl rfl ?_
     intro g3 w7 hP3
     refine q0_nil ?_
     refine hK.out _ _ ?_ (fun hHeld => ?_)
     ·exact ⟨ldS [_, _, _] hP3 rfl, ldA ([.int .i64 t.kind, .int .i64 t.dev, .int .i64 t.at_, .int .i64 t.txg]) [_, _, _] hP3 (rfl) (rfl), ldS [_, _, _] hP3 rfl⟩
     clear hK K
     (try simp only [Act.put, List.setIfInBounds_toArray, List.set_cons_zero, List.set_cons_succ])
     refine wpAnyH_ready (rs := [10]) (by kernel_rfl) (by simp) ?_
     refine (AllReadyH.cons (o := ⟨none, _, _, _, _, _⟩) rfl (fun K hK => ?_) AllReadyH.nil)
     rw [if_pos (by rfl)]
     refine ow_of_wl (ops := #[]) (by rfl) ?_
     refine wl_storeA [] hP3 rfl rfl rfl rfl rfl rfl rfl ?_
     intro w7 hP4
     refine q0_nil ?_
     refine hK.out _ _ ?_ (fun hHeld => ?_)
     ·exact ⟨ldS [_, _, _] hP4 rfl, ldA ([.int .i64 t.kind, .int .i64 t.dev, .int .i64 t.at_, .int .i64 t.txg]) [_, _, _] hP4 (rfl) (rfl), ldS [_, _, _] hP4 rfl⟩
     clear hK K
     (try simp only [Act.put, List.setIfInBounds_toArray, List.set_cons_zero, List.set_cons_succ])
     refine wpAnyH_done (by kernel_rfl) ?_ _
     clear hHeld
     have hQ0 := St.nilRow 53 44 hP4
     have hQ1 : St w [] w7 (.blk g3 27 [.int .i64 t.next, .slice none 0 0, .int .i64 t.kind, .int .i64 t.dev, .int .i64 t.at_, .int .i64 t.txg, .slice lo nl lc] :: .row (.slice none 0 0) 53 44 0 (recsV []) :: .row (.slice lo nl lc) 3 1 nl (numsV t.lives) :: .blk g1 27 (tabC t (.slice ar nr cr) (.slice al nl cl)) :: .blk g2 27 tab0 :: rootRows 102 []) := by
      have h := (St.front (L1 := [_, _, _, _]) (St.front (L1 := [_, _, _]) (St.front (L1 := [_, _, _, _]) (St.front (L1 := [_, _, _, _]) (St.front (L1 := [_, _, _]) hQ0)))))
      rw [Nat.zero_add, List.take_zero, List.nil_append] at h
      exact h
     clear hQ0 hP4
     rw [Nat.zero_add]
     go_wp2_with (first | go_big_skip | go_big_guard | fail)
     go_meet
     exact ⟨g3, lo, lc, rfl, hQ1⟩
    ·rw [if_pos (by rfl)]
     refine ow_of_wl (ops := #[]) (by rfl) ?_
     refine wl_alloc hP2 rfl rfl ?_
     intro g3 w7 hP5
     refine q0_nil ?_
     refine hK.out _ _ ?_ (fun hHeld => ?_)
     ·exact ⟨ldS [_, _, _] hP5 rfl, ldA ([.int .i64 t.kind, .int .i64 t.dev, .int .i64 t.at_, .int .i64 t.txg]) [_, _, _] hP5 (rfl) (rfl), ldS [_, _, _] hP5 rfl⟩
     clear hK K
     (try simp only [Act.put, List.setIfInBounds_toArray, List.set_cons_zero, List.set_cons_succ])
     refine wpAnyH_ready (rs := [8]) (by kernel_rfl) (by simp) ?_
     refine (AllReadyH.cons (o := ⟨some 14, _, _, _, _, _⟩) rfl (fun K hK => ?_) AllReadyH.nil)
     rw [if_pos (by rfl)]
     refine ow_of_wl (ops := #[]) (by rfl) ?_
     refine wl_buildX (cs := [.int .i64 t.next, .slice none 0 0, .int .i64 t.kind, .int .i64 t.dev, .int .i64 t.at_, .int .i64 t.txg, .slice lo (0 + nl) lc]) [(0, .int .i64 t.next), (2, .agg #[.int .i64 t.kind, .int .i64 t.dev, .int .i64 t.at_, .int .i64 t.txg]), (3, .slice lo (0 + nl) lc)] rfl rfl (by exact rfl) (bldT3 _ _ _ _ _ _ _ _) ?_
     refine q0_nil ?_
     refine hK.out _ _ ?_ (fun hHeld => ?_)
     ·exact ⟨ldS [_, _, _] hP5 rfl, ldA ([.int .i64 t.kind, .int .i64 t.dev, .int .i64 t.at_, .int .i64 t.txg]) [_, _, _] hP5 (rfl) (rfl), ldS [_, _, _] hP5 rfl⟩
     clear hK K
     (try simp only [Act.put, List.setIfInBounds_toArray, List.set_cons_zero, List.set_cons_succ])
     refine wpAnyH_ready (rs := [10]) (by kernel_rfl) (by simp) ?_
     refine (AllReadyH.cons (o := ⟨none, _, _, _, _, _⟩) rfl (fun K hK => ?_) AllReadyH.nil)
     rw [if_pos (by rfl)]
     refine ow_of_wl (ops := #[]) (by rfl) ?_
     refine wl_storeA [] hP5 rfl rfl rfl rfl rfl rfl rfl ?_
     intro w7 hP6
     refine q0_nil ?_
     refine hK.out _ _ ?_ (fun hHeld => ?_)
     ·exact ⟨ldS [_, _, _] hP6 rfl, ldA ([.int .i64 t.kind, .int .i64 t.dev, .int .i64 t.at_, .int .i64 t.txg]) [_, _, _] hP6 (rfl) (rfl), ldS [_, _, _] hP6 rfl⟩
     clear hK K
     (try simp only [Act.put, List.setIfInBounds_toArray, List.set_cons_zero, List.set_cons_succ])
     refine wpAnyH_done (by kernel_rfl) ?_ _
     clear hHeld
     have hQ0 := St.nilRow 53 44 hP6
     have hQ1 : St w [] w7 (.blk g3 27 [.int .i64 t.next, .slice none 0 0, .int .i64 t.kind, .int .i64 t.dev, .int .i64 t.at_, .int .i64 t.txg, .slice lo nl lc] :: .row (.slice none 0 0) 53 44 0 (recsV []) :: .row (.slice lo nl lc) 3 1 nl (numsV t.lives) :: .blk g1 27 (tabC t (.slice ar nr cr) (.slice al nl cl)) :: .blk g2 27 tab0 :: rootRows 102 []) := by
      have h := (St.front (L1 := [_, _, _, _]) (St.front (L1 := [_, _, _]) (St.front (L1 := [_, _, _, _]) (St.front (L1 := [_, _, _, _]) (St.front (L1 := [_, _, _]) hQ0)))))
      rw [Nat.zero_add, List.take_zero, List.nil_append] at h
      exact h
     clear hQ0 hP6
     rw [Nat.zero_add]
     go_wp2_with (first | go_big_skip | go_big_guard | fail)
     go_meet
     exact ⟨g3, lo, lc, rfl, hQ1⟩
   ·rw [if_pos (by rfl)]
    refine ow_of_wl (ops := #[]) (by rfl) ?_
    refine wl_alloc hP1 rfl rfl ?_
    intro g3 w7 hP7
    refine q0_nil ?_
    refine hK.out _ _ ?_ (fun hHeld => ?_)
    ·exact ⟨ldS [_, _, _] hP7 rfl, ldA ([.int .i64 t.kind, .int .i64 t.dev, .int .i64 t.at_, .int .i64 t.txg]) [_, _, _] hP7 (rfl) (rfl), ldS [_, _, _] hP7 rfl⟩
    clear hK K
    (try simp only [Act.put, List.setIfInBounds_toArray, List.set_cons_zero, List.set_cons_succ])
    refine wpAnyH_ready (rs := [7]) (by kernel_rfl) (by simp) ?_
    refine (AllReadyH.cons (o := ⟨some 13, _, _, _, _, _⟩) rfl (fun K hK => ?_) AllReadyH.nil)
    rw [if_pos (by rfl)]
    refine ow_of_wl (ops := #[]) (by rfl) ?_
    apply wl_appX (m := nl) (ys := numsV t.lives) [_] hP7
    ·rfl
    ·rfl
    ·exact rfl
    ·exact rfl
    ·infer_instance
    ·infer_instance
    ·infer_instance
    ·exact Rd.old hP7 HT.out.L
    ·exact ones_numsV _
    ·exact ⟨by decide, by unfold maxLen; omega, by omega⟩
    intro lv2 w6 hP8 _
    obtain ⟨lo, lc, rfl, _, _⟩ := row_sliceC [_] hP8
    refine q0_nil ?_
    refine hK.out _ _ ?_ (fun hHeld => ?_)
    ·exact ⟨ldS [_, _, _] hP8 rfl, ldA ([.int .i64 t.kind, .int .i64 t.dev, .int .i64 t.at_, .int .i64 t.txg]) [_, _, _] hP8 (rfl) (rfl), ldS [_, _, _] hP8 rfl⟩
    clear hK K
    (try simp only [Act.put, List.setIfInBounds_toArray, List.set_cons_zero, List.set_cons_succ])
    refine wpAnyH_ready (rs := [8]) (by kernel_rfl) (by simp) ?_
    refine (AllReadyH.cons (o := ⟨some 14, _, _, _, _, _⟩) rfl (fun K hK => ?_) AllReadyH.nil)
    rw [if_pos (by rfl)]
    refine ow_of_wl (ops := #[]) (by rfl) ?_
    refine wl_buildX (cs := [.int .i64 t.next, .slice none 0 0, .int .i64 t.kind, .int .i64 t.dev, .int .i64 t.at_, .int .i64 t.txg, .slice lo (0 + nl) lc]) [(0, .int .i64 t.next), (2, .agg #[.int .i64 t.kind, .int .i64 t.dev, .int .i64 t.at_, .int .i64 t.txg]), (3, .slice lo (0 + nl) lc)] rfl rfl (by exact rfl) (bldT3 _ _ _ _ _ _ _ _) ?_
    refine q0_nil ?_
    refine hK.out _ _ ?_ (fun hHeld => ?_)
    ·exact ⟨ldS [_, _, _] hP8 rfl, ldA ([.int .i64 t.kind, .int .i64 t.dev, .int .i64 t.at_, .int .i64 t.txg]) [_, _, _] hP8 (rfl) (rfl), ldS [_, _, _] hP8 rfl⟩
    clear hK K
    (try simp only [Act.put, List.setIfInBounds_toArray, List.set_cons_zero, List.set_cons_succ])
    refine wpAnyH_ready (rs := [10]) (by kernel_rfl) (by simp) ?_
    refine (AllReadyH.cons (o := ⟨none, _, _, _, _, _⟩) rfl (fun K hK => ?_) AllReadyH.nil)
    rw [if_pos (by rfl)]
    refine ow_of_wl (ops := #[]) (by rfl) ?_
    refine wl_storeA [] hP8 rfl rfl rfl rfl rfl rfl rfl ?_
    intro w7 hP9
    refine q0_nil ?_
    refine hK.out _ _ ?_ (fun hHeld => ?_)
    ·exact ⟨ldS [_, _, _] hP9 rfl, ldA ([.int .i64 t.kind, .int .i64 t.dev, .int .i64 t.at_, .int .i64 t.txg]) [_, _, _] hP9 (rfl) (rfl), ldS [_, _, _] hP9 rfl⟩
    clear hK K
    (try simp only [Act.put, List.setIfInBounds_toArray, List.set_cons_zero, List.set_cons_succ])
    refine wpAnyH_done (by kernel_rfl) ?_ _
    clear hHeld
    have hQ0 := St.nilRow 53 44 hP9
    have hQ1 : St w [] w7 (.blk g3 27 [.int .i64 t.next, .slice none 0 0, .int .i64 t.kind, .int .i64 t.dev, .int .i64 t.at_, .int .i64 t.txg, .slice lo nl lc] :: .row (.slice none 0 0) 53 44 0 (recsV []) :: .row (.slice lo nl lc) 3 1 nl (numsV t.lives) :: .blk g1 27 (tabC t (.slice ar nr cr) (.slice al nl cl)) :: .blk g2 27 tab0 :: rootRows 102 []) := by
     have h := (St.front (L1 := [_, _, _, _]) (St.front (L1 := [_, _, _]) (St.front (L1 := [_, _, _, _]) (St.front (L1 := [_, _, _, _]) (St.front (L1 := [_, _, _]) hQ0)))))
     rw [Nat.zero_add, List.take_zero, List.nil_append] at h
     exact h
    clear hQ0 hP9
    rw [Nat.zero_add]
    go_wp2_with (first | go_big_skip | go_big_guard | fail)
    go_meet
    exact ⟨g3, lo, lc, rfl, hQ1⟩
  ·rw [if_pos (by rfl)]
   refine ow_of_wl (ops := #[]) (by rfl) ?_
   refine wl_alloc hX rfl rfl ?_
   intro g3 w7 hP10
   refine q0_nil ?_
   refine hK.out _ _ ?_ (fun hHeld => ?_)
   ·exact ⟨ldS [_, _] hP10 rfl, ldA ([.int .i64 t.kind, .int .i64 t.dev, .int .i64 t.at_, .int .i64 t.txg]) [_, _] hP10 (rfl) (rfl), ldS [_, _] hP10 rfl⟩
   clear hK K
   (try simp only [Act.put, List.setIfInBounds_toArray, List.set_cons_zero, List.set_cons_succ])
   refine wpAnyH_ready (rs := [4]) (by kernel_rfl) (by simp) ?_
   refine (AllReadyH.cons (o := ⟨some 10, _, _, _, _, _⟩) rfl (fun K hK => ?_) AllReadyH.nil)
   rw [if_pos (by rfl)]
   refine ow_of_wl (ops := #[]) (by rfl) ?_
   apply wl_bsX [] [] hP10
   ·rfl
   ·rfl
   ·exact rfl
   ·exact rfl
   ·infer_instance
   ·infer_instance
   ·rfl
   ·rfl
   ·rfl
   intro g7 w8 h8
   have hP11 := St.toRow (n := 0) (cap := 0) (sz := 1) h8 rfl (by decide) (by decide)
   clear h8
   refine q0_nil ?_
   refine hK.out _ _ ?_ (fun hHeld => ?_)
   ·exact ⟨ldS [_, _, _] hP11 rfl, ldA ([.int .i64 t.kind, .int .i64 t.dev, .int .i64 t.at_, .int .i64 t.txg]) [_, _, _] hP11 (rfl) (rfl), ldS [_, _, _] hP11 rfl⟩
   clear hK K
   (try simp only [Act.put, List.setIfInBounds_toArray, List.set_cons_zero, List.set_cons_succ])
   refine wpAnyH_ready (rs := [7]) (by kernel_rfl) (by simp) ?_
   refine (AllReadyH.cons (o := ⟨some 13, _, _, _, _, _⟩) rfl (fun K hK => ?_) AllReadyH.nil)
   rw [if_pos (by rfl)]
   refine ow_of_wl (ops := #[]) (by rfl) ?_
   apply wl_appX (m := nl) (ys := numsV t.lives) [] hP11
   ·rfl
   ·rfl
   ·exact rfl
   ·exact rfl
   ·infer_instance
   ·infer_instance
   ·infer_instance
   ·exact Rd.old hP11 HT.out.L
   ·exact ones_numsV _
   ·exact ⟨by decide, by unfold maxLen; omega, by omega⟩
   intro lv2 w6 hP12 _
   obtain ⟨lo, lc, rfl, _, _⟩ := row_sliceC [] hP12
   refine q0_nil ?_
   refine hK.out _ _ ?_ (fun hHeld => ?_)
   ·exact ⟨ldS [_, _, _] hP12 rfl, ldA ([.int .i64 t.kind, .int .i64 t.dev, .int .i64 t.at_, .int .i64 t.txg]) [_, _, _] hP12 (rfl) (rfl), ldS [_, _, _] hP12 rfl⟩
   clear hK K
   (try simp only [Act.put, List.setIfInBounds_toArray, List.set_cons_zero, List.set_cons_succ])
   refine wpAnyH_ready (rs := [8]) (by kernel_rfl) (by simp) ?_
   refine (AllReadyH.cons (o := ⟨some 14, _, _, _, _, _⟩) rfl (fun K hK => ?_) AllReadyH.nil)
   rw [if_pos (by rfl)]
   refine ow_of_wl (ops := #[]) (by rfl) ?_
   refine wl_buildX (cs := [.int .i64 t.next, .slice none 0 0, .int .i64 t.kind, .int .i64 t.dev, .int .i64 t.at_, .int .i64 t.txg, .slice lo (0 + nl) lc]) [(0, .int .i64 t.next), (2, .agg #[.int .i64 t.kind, .int .i64 t.dev, .int .i64 t.at_, .int .i64 t.txg]), (3, .slice lo (0 + nl) lc)] rfl rfl (by exact rfl) (bldT3 _ _ _ _ _ _ _ _) ?_
   refine q0_nil ?_
   refine hK.out _ _ ?_ (fun hHeld => ?_)
   ·exact ⟨ldS [_, _, _] hP12 rfl, ldA ([.int .i64 t.kind, .int .i64 t.dev, .int .i64 t.at_, .int .i64 t.txg]) [_, _, _] hP12 (rfl) (rfl), ldS [_, _, _] hP12 rfl⟩
   clear hK K
   (try simp only [Act.put, List.setIfInBounds_toArray, List.set_cons_zero, List.set_cons_succ])
   refine wpAnyH_ready (rs := [10]) (by kernel_rfl) (by simp) ?_
   refine (AllReadyH.cons (o := ⟨none, _, _, _, _, _⟩) rfl (fun K hK => ?_) AllReadyH.nil)
   rw [if_pos (by rfl)]
   refine ow_of_wl (ops := #[]) (by rfl) ?_
   refine wl_storeA [_] hP12 rfl rfl rfl rfl rfl rfl rfl ?_
   intro w7 hP13
   refine q0_nil ?_
   refine hK.out _ _ ?_ (fun hHeld => ?_)
   ·exact ⟨ldS [_, _, _] hP13 rfl, ldA ([.int .i64 t.kind, .int .i64 t.dev, .int .i64 t.at_, .int .i64 t.txg]) [_, _, _] hP13 (rfl) (rfl), ldS [_, _, _] hP13 rfl⟩
   clear hK K
   (try simp only [Act.put, List.setIfInBounds_toArray, List.set_cons_zero, List.set_cons_succ])
   refine wpAnyH_done (by kernel_rfl) ?_ _
   clear hHeld
   have hQ0 := St.nilRow 53 44 hP13
   have hQ1 : St w [] w7 (.blk g3 27 [.int .i64 t.next, .slice none 0 0, .int .i64 t.kind, .int .i64 t.dev, .int .i64 t.at_, .int .i64 t.txg, .slice lo nl lc] :: .row (.slice none 0 0) 53 44 0 (recsV []) :: .row (.slice lo nl lc) 3 1 nl (numsV t.lives) :: .blk g1 27 (tabC t (.slice ar nr cr) (.slice al nl cl)) :: .blk g2 27 tab0 :: rootRows 102 []) := by
    have h := (St.front (L1 := [_, _, _, _]) (St.front (L1 := [_, _, _]) (St.front (L1 := [_, _, _]) (St.front (L1 := [_, _, _, _]) (St.front (L1 := [_, _, _]) hQ0)))))
    rw [Nat.zero_add, List.take_zero, List.nil_append] at h
    exact h
   clear hQ0 hP13
   rw [Nat.zero_add]
   go_wp2_with (first | go_big_skip | go_big_guard | fail)
   go_meet
   exact ⟨g3, lo, lc, rfl, hQ1⟩
 case rest =>
  clear hst
  obtain ⟨g3, lo, lc, rfl, hQ1⟩ := hcut
  go_wp2_with (first | go_big_skip | go_big_guard | fail)
  go_loopw [4] (fun i wr => ∃ (j : Nat) (rv : Value) (ys : List (Value × RC)), j ≤ nr ∧ i = .int .i64 (j : Int) ∧ ys.map (·.2) = t.recs.take j ∧ St w [] wr (.blk g3 27 [.int .i64 t.next, rv, .int .i64 t.kind, .int .i64 t.dev, .int .i64 t.at_, .int .i64 t.txg, .slice lo nl lc] :: .row rv 53 44 j (recsV ys) :: .row (.slice lo nl lc) 3 1 nl (numsV t.lives) :: .blk g1 27 (tabC t (.slice ar nr cr) (.slice al nl cl)) :: .blk g2 27 tab0 :: rootRows 102 ys)) (fun i _ => nr - (intOf i).toNat)
  case atStart => exact ⟨0, _, [], Nat.zero_le _, rfl, rfl, hQ1⟩
  case round =>
   clear hQ1
   obtain ⟨j, rv, ys, hj, rfl, hy, hst⟩ := hrel
   have HY := hid hy
   clear hy
   by_cases hlt : j < nr
   ·have e1 : decide ((j : Int) < (nr : Int)) = true := decide_eq_true (by omega)
    have z1 : IntKind.i64.wrap ((j : Int) + 1) = (j : Int) + 1 := IntWalk.i64_in _ (by omega)
    obtain ⟨x, lb, lo3, hx, har, hin, hr⟩ := RecsIn.at HT.out.R hlt
    subst har
    have HXJ := hid (recs_at HT.out hx)
    have HIN := hid hin
    have HL := hid hin.L
    have HL44 := hid (cellsR_len hin.L)
    have H35 := hid (PV.len (p := x.2.pv x.1) hin.L)
    have HRX := hid hr
    have HLQ := hid (show ∀ v : Value, (cellsR (v, x.2)).length = 44 from fun _ => cellsR_len hin.L)
    have HAD := hid (ha x.2 (List.mem_of_getElem? HXJ.out))
    clear hx hr hin
    go_wp2_with (first | go_big_skip | go_big_guard | (refine wl_loadE rfl rfl rfl ?_; first | refine ⟨_, Loads.at [_, _, _] hst rfl, ?_⟩ | refine ⟨_, Loads.oldA (cs := cellsR x) hst HL44.out HRX.out, ?_⟩ | refine ⟨_, Loads.atA ((x.2.pv x.1).cells) [] hst3 H35.out (cellsR_root HL.out), ?_⟩ | refine ⟨_, Loads.at [_, _] hst5 rfl, ?_⟩ | refine ⟨_, Loads.atA (cellsR (.slice ao9 (x.2.pv x.1).l.length c9, x.2)) [_] hst5 (HLQ.out _) (cellsR_all _), ?_⟩) | (refine wl_index rfl rfl rfl rfl hlt ?_) | (refine wl_alloc hst rfl rfl ?_; intro g5 w2 hst2; clear hst) | (refine wl_storeA [] hst2 rfl rfl rfl rfl (by exact HL44.out) (cellsR_ones HIN.out) rfl ?_; intro w3 hst3; clear hst2) | (go_at_call 10; refine (copyPtr_any (x.2.pv x.1) _ (PV.In.old hst3.nil HIN.out.1) HAD.out).mono ?_; rintro _ w9 ⟨ao9, n9, c9, rfl, h4, hl4⟩; subst hl4; have hst4 := St.call hst3 h4; clear h4 hst3) | (refine wl_storeO [_] hst4 rfl rfl rfl rfl (off := 4) (vs := PV.cells ((x.2.pv x.1).re (.slice ao9 (x.2.pv x.1).l.length c9))) (by exact H35.out) (PV.ones_of rfl) (by rw [HL44.out]; decide) (put_root x HL.out _) ?_; intro w5 hst5; clear hst4) | (apply wl_bsX [.agg (List.toArray (cellsR (.slice ao9 (x.2.pv x.1).l.length c9, x.2)))] (cellsR (.slice ao9 (x.2.pv x.1).l.length c9, x.2)) hst5; rfl; rfl; exact rfl; exact (List.append_nil _); infer_instance; infer_instance; (show (((List.toArray (cellsR (.slice ao9 (x.2.pv x.1).l.length c9, x.2))).size == 44) && true) = true; rw [List.size_toArray, HLQ.out _]; rfl); rfl; rfl; intro gb w5 hst6; have HINR := hid (root_in (x := (.slice ao9 (x.2.pv x.1).l.length c9, x.2)) hst6 (.tail _ (.head _)) HL.out HIN.out.2); clear hst5) | (apply wl_appX (m := 1) (ys := cellsR (.slice ao9 (x.2.pv x.1).l.length c9, x.2)) [_, _, _, _] hst6; rfl; rfl; exact rfl; exact rfl; infer_instance; infer_instance; infer_instance; exact Rd.blk (n := 1) hst6 (.head _) (Nat.le_refl _) (by decide) (by rw [HLQ.out _]) (by rw [List.drop_zero, List.take_length]); exact cellsR_ones HINR.out; exact ⟨by decide, by unfold maxLen; omega, by omega⟩; intro rv2 w6 hst7 _; obtain ⟨ro, rc, rfl, _, _⟩ := row_sliceC [_, _, _, _] hst7; clear hst6) | (refine wl_store [_, _, _] hst7 rfl rfl rfl (off := 1) (v := .slice _ _ _) rfl rfl rfl (by show (1 : Nat) + 1 ≤ 7; decide) ?_; intro w7 hst8; clear hst7))
    have hst9 := Hp.St.root (A := [_, _, _, _]) (sv := .slice ao9 (x.2.pv x.1).l.length c9) (x := x.2) (St.perm (St.sub hst8 (.cons _ (.cons_cons _ (.cons _ (List.Sublist.refl _))))) (.swap _ _ _))
    clear hst8
    go_roundw
    case rel =>
     have hD7 : St w [] w7 (.blk g3 27 [.int .i64 t.next, .slice ro (j + 1) rc, .int .i64 t.kind, .int .i64 t.dev, .int .i64 t.at_, .int .i64 t.txg, .slice lo nl lc] :: .row (.slice ro (j + 1) rc) 53 44 (j + 1) (recsV (ys ++ [(.slice ao9 (x.2.pv x.1).l.length c9, x.2)])) :: .row (.slice lo nl lc) 3 1 nl (numsV t.lives) :: .blk g1 27 (tabC t (.slice (some ⟨lb, lo3, none⟩) nr cr) (.slice al nl cl)) :: .blk g2 27 tab0 :: rootRows 102 (ys ++ [(.slice ao9 (x.2.pv x.1).l.length c9, x.2)])) := by
      rw [recsV_append, show recsV [((.slice ao9 (x.2.pv x.1).l.length c9 : Value), x.2)] = cellsR (.slice ao9 (x.2.pv x.1).l.length c9, x.2) from List.append_nil _]
      exact hst9
     refine ⟨j + 1, .slice ro (j + 1) rc, ys ++ [(.slice ao9 (x.2.pv x.1).l.length c9, x.2)], by omega, rfl, ?_, hD7⟩
     rw [List.map_append, HY.out, List.take_add_one, HXJ.out]; rfl
    case measure => simp [intOf]; omega
   ·have e1 : decide ((j : Int) < (nr : Int)) = false := decide_eq_false (by omega)
    obtain rfl : j = nr := by omega
    obtain ⟨ro, rc, rfl, _, _⟩ := row_sliceC [_] hst
    have HYT := hid (show ys.map (·.2) = t.recs by rw [HY.out, List.take_of_length_le (by have := HT.out.len; omega)])
    go_wp2_with (first | go_big_skip | go_big_guard | (refine wl_loadE rfl rfl rfl ?_; first | refine ⟨_, Loads.at [_, _, _] hst rfl, ?_⟩ | refine ⟨_, Loads.atA (tabC t (.slice ro j rc) (.slice lo nl lc)) [] hst rfl rfl, ?_⟩) | (refine wl_storeA [_, _, _, _] hst rfl rfl rfl rfl (vs := tabC t (.slice ro j rc) (.slice lo nl lc)) rfl rfl rfl ?_; intro w7 hst8; clear hst))
    have hl := Loads.atA (P := Tryz.prog) (off := 0) (T := 27) (tabC t (.slice ro j rc) (.slice lo nl lc)) [_, _, _, _] hst8 rfl rfl
    refine bodyPost_ret (results_cellC rfl rfl hl) rfl ?_
    refine ⟨ro, rc, lo, lc, ys, rfl, HYT.out, ?_⟩
    exact St.sub hst8 (.cons _ (.cons_cons _ (.cons_cons _ (.cons _ (.cons _ (List.Sublist.refl _))))))
end Go.Proofs.YtifajcblbedcoaaGreat
namespace Go.Proofs.YtifajcblbedcoaaGreat
set_option linter.unusedVariables false
set_option linter.unusedSimpArgs false
open Go.RowKit Hp
attribute [local irreducible] Go.Calls Go.wpList
set_option maxRecDepth 100000
set_option maxHeartbeats 8000000
def overR : List Value := xC (-7) [111, 118, 101, 114] 0 0 zP 0 0 0 0 0
theorem bldOver : Tryz.prog.built 53 [(0, .int .i64 (-7)), (1, .string ⟨#[111, 118, 101, 114]⟩)] = some overR.toArray := by kernel_rfl
theorem overR_len : overR.length = 44 := rfl
theorem overR_ones : overR.all (·.oneCell') = true := rfl
theorem drop_recs {xs : List (Value × RC)} {zs : List Value} {j : Nat} {x : Value × RC} (hx : xs[j]? = some x) (hL : (cellsR x).length = 44) (h : zs.drop (j * 44) = recsV (xs.drop j)) : zs[j * 44 + 4]? = some x.1 ∧ zs.drop ((j + 1) * 44) = recsV (xs.drop (j + 1)) ∧ xs.drop j = x :: xs.drop (j + 1) := by
 have hd : xs.drop j = x :: xs.drop (j + 1) := by
  obtain ⟨hlt, hg⟩ := List.getElem?_eq_some_iff.1 hx
  rw [List.drop_eq_getElem_cons hlt, hg]
 have hr : recsV (xs.drop j) = cellsR x ++ recsV (xs.drop (j + 1)) := by rw [hd]; rfl
 refine ⟨?_, ?_, hd⟩
 ·rw [← List.getElem?_drop, h, hr, List.getElem?_append_left (by omega)]
  rfl
 ·rw [show (j + 1) * 44 = j * 44 + 44 by omega, ← List.drop_drop, h, hr, List.drop_left' hL]
theorem overTable_any {w0 w : World} {M : List Nat} {R : List HA} (t : TC) (ro lo : Option Addr) (nr rc nl lc : Nat) (xs : List (Value × RC)) (zs : List Value) (hS : St w0 M w (.row (.slice ro nr rc) 53 44 nr (recsV xs) :: .row (.slice lo nl lc) 3 1 nl zs :: (rootRows 102 xs ++ R))) (hx : ∀ x ∈ xs, L32 x.2.S) (hlen : xs.length = nr) (hnr : nr ≤ 100000) (hnl : nl ≤ 100000) :
  Calls Tryz.prog 16 #[.agg (tabC t (.slice ro nr rc) (.slice lo nl lc)).toArray] w fun e w' => e = .returned (.tuple #[]) ∧ St w0 M w' R := by
 have hst0 : St w0 M w (.row (.slice ro nr rc) 53 44 nr (recsV xs) :: .row (.slice lo nl lc) 3 1 nl zs :: (xs.map (rowOf 102) ++ R)) := St.perm hS (.cons _ (.cons _ ((rootRows_perm _ xs).append_right R)))
 have HLN := hid hlen
 have HXL := hid hx
 clear hS hx hlen
 go_enter Tryz.func16, Tryz.ntmps16
 go_wp2_with (first | go_big_skip | go_big_guard | (refine wl_boxA hst0 rfl rfl rfl ?_; intro g1 w1 hst; clear hst0))
 go_loopw [2] (fun i wr => ∃ (j : Nat) (ys : List Value), j ≤ nr ∧ i = .int .i64 (j : Int) ∧ Hid (ys.drop (j * 44) = recsV (xs.drop j)) ∧ St w0 M wr (.blk g1 27 (tabC t (.slice ro nr rc) (.slice lo nl lc)) :: .row (.slice ro nr rc) 53 44 nr ys :: .row (.slice lo nl lc) 3 1 nl zs :: ((xs.drop j).map (rowOf 102) ++ R))) (fun i _ => nr - (intOf i).toNat)
 case atStart => exact ⟨0, _, Nat.zero_le _, rfl, hid (by rw [Nat.zero_mul, List.drop_zero, List.drop_zero]), hst⟩
 case round =>
  clear hst
  obtain ⟨j, ys, hj, rfl, HY, hst⟩ := hrel
  by_cases hlt : j < nr
  ·have e1 : decide ((j : Int) < (nr : Int)) = true := decide_eq_true (by omega)
   have z1 : IntKind.i64.wrap ((j : Int) + 1) = (j : Int) + 1 := IntWalk.i64_in _ (by omega)
   obtain ⟨⟨xv, xr⟩, hxj⟩ : ∃ x, xs[j]? = some x := ⟨_, List.getElem?_eq_getElem (by rw [HLN.out]; exact hlt)⟩
   obtain ⟨q1, q2, q3⟩ := drop_recs hxj (cellsR_len (HXL.out _ (List.mem_of_getElem? hxj))) HY.out
   rw [q3, List.map_cons, List.cons_append] at hst
   obtain ⟨g, c, he, _⟩ := row_spot hst (.tail _ (.head _)) (by omega)
   cases he
   obtain ⟨xo, xc, hxe, _, _, _⟩ := row_form hst (.tail _ (.tail _ (.tail _ (.head _))))
   have hxe' : xv = .slice xo xr.l.length xc := hxe
   subst hxe'
   have HC := hid q1
   obtain ⟨_, _, _, _, _, hyl⟩ := row_form hst (.tail _ (.head _))
   have HYL := hid hyl
   clear hyl
   have HD := hid q2
   clear q1 q2 q3 hxe hxj
   go_wp2_with (first | go_big_skip | go_big_guard | (refine wl_loadE rfl rfl rfl ?_; first | refine ⟨_, Loads.at [] hst rfl, ?_⟩ | refine ⟨_, Loads.inRow (k := j * 44 + 4) hst (.tail _ (.head _)) HC.out, ?_⟩ | refine ⟨_, (by rw [Nat.zero_add]; exact Loads.inRow (k := j * 44 + 4) hst (.tail _ (.head _)) HC.out), ?_⟩ | refine ⟨_, Loads.at [_] hst2 rfl, ?_⟩) | (refine wl_index rfl rfl rfl rfl hlt ?_) | (go_at_call 45; refine (over_addrs xo xr.l.length xc (addrsV xr.l) _ (hst.owns (.tail _ (.tail _ (.tail _ (.head _)))))).mono ?_; rintro _ w9 ⟨ys9, rfl, h4⟩; have hst2 := St.callRow (St.front (L1 := [_, _, _]) hst) h4; clear h4 hst) | (refine wl_buildX (cs := overR) [(0, .int .i64 (-7)), (1, .string ⟨#[111, 118, 101, 114]⟩)] rfl rfl (by exact rfl) bldOver ?_) | (refine wl_storeRow [_, _] hst2 rfl rfl rfl rfl (vs := overR) overR_len overR_ones (by omega) (by omega) ?_; intro w7 hst3; clear hst2))
   have HD2 := hid (show (putAt ys (0 + j * 44) overR).drop ((j + 1) * 44) = recsV (xs.drop (j + 1)) by
    rw [drop_putAt (by rw [overR_len, HYL.out]; omega) (by rw [overR_len]; omega), HD.out])
   go_roundw
   case rel => exact ⟨j + 1, _, by omega, rfl, HD2, St.drop (L1 := []) hst3⟩
   case measure => simp [intOf]; omega
  ·have e1 : decide ((j : Int) < (nr : Int)) = false := decide_eq_false (by omega)
   have hst5 : St w0 M wr (.blk g1 27 (tabC t (.slice ro nr rc) (.slice lo nl lc)) :: .row (.slice lo nl lc) 3 1 nl zs :: R) := by
    have h0 : xs.drop j = [] := List.drop_eq_nil_of_le (by rw [HLN.out]; omega)
    rw [h0] at hst
    exact St.sub hst (.cons_cons _ (.cons _ (.cons_cons _ (List.Sublist.refl _))))
   clear hst
   go_wp2_with (first | go_big_skip | go_big_guard | (refine wl_loadE rfl rfl rfl ?_; refine ⟨_, Loads.at [] hst5 rfl, ?_⟩))
   go_loopw [3] (fun i wr => ∃ (k : Nat) (ys : List Value), k ≤ nl ∧ i = .int .i64 (k : Int) ∧ St w0 M wr (.blk g1 27 (tabC t (.slice ro nr rc) (.slice lo nl lc)) :: .row (.slice lo nl lc) 3 1 nl ys :: R)) (fun i _ => nl - (intOf i).toNat)
   case atStart => exact ⟨0, _, Nat.zero_le _, rfl, hst5⟩
   case round =>
    clear hst5
    obtain ⟨k, ys, hk, rfl, hst⟩ := hrel
    by_cases hltk : k < nl
    ·have e2 : decide ((k : Int) < (nl : Int)) = true := decide_eq_true (by omega)
     have z1 : IntKind.i64.wrap ((k : Int) + 1) = (k : Int) + 1 := IntWalk.i64_in _ (by omega)
     obtain ⟨g, c, he, _⟩ := row_spot hst (.tail _ (.head _)) (by omega)
     cases he
     go_wp2_with (first | go_big_skip | go_big_guard | (refine wl_loadE rfl rfl rfl ?_; refine ⟨_, Loads.at [] hst rfl, ?_⟩) | (refine wl_index rfl rfl rfl rfl hltk ?_) | (refine wl_storeRow1 [_] hst rfl rfl rfl rfl (v := .int .i64 (-7)) rfl rfl (by omega) (by omega) ?_; intro w7 hst3; clear hst))
     go_roundw
     case rel => exact ⟨k + 1, _, by omega, rfl, hst3⟩
     case measure => simp [intOf]; omega
    ·have e2 : decide ((k : Int) < (nl : Int)) = false := decide_eq_false (by omega)
     go_wp2_with (first | go_big_skip | go_big_guard | (refine wl_loadE rfl rfl rfl ?_; refine ⟨_, Loads.at [] hst rfl, ?_⟩))
     go_end0
     exact ⟨rfl, St.sub hst (.cons _ (.cons _ (List.Sublist.refl _)))⟩
end Go.Proofs.YtifajcblbedcoaaGreat
namespace Go.Proofs.YtifajcblbedcoaaGreat
set_option linter.unusedVariables false
set_option linter.unusedSimpArgs false
open Go.RowKit Hp
attribute [local irreducible] Go.Calls Go.wpList
def FewR (t : TC) (r : TR) : Prop := r.2.recs.length ≤ t.recs.length + 1 ∧ r.2.lives.length ≤ t.lives.length
theorem few_badT (t : TC) (z : Int) : FewR t (badR z) := ⟨Nat.zero_le _, Nat.zero_le _⟩
theorem few_opT {t : TC} {r : TR} (h : FewR t r) : FewR t (opR t r) := by
 unfold opR
 split
 ·split
  ·exact h
  ·exact few_badT _ _
 ·exact few_badT _ _
theorem few_putT (t : TC) (x : RC) (z : Int) : FewR t (z, putT t x) := ⟨Nat.le_of_eq (layL_length _ _), Nat.le_refl _⟩
theorem few_makeT (t : TC) (nm : List UInt8) (size txg : Int) : FewR t (makeR t nm size txg) := by
 unfold makeR
 split
 ·split
  ·exact few_putT _ _ _
  ·exact few_badT _ _
 ·exact few_badT _ _
theorem few_snapT (t : TC) (nm : List UInt8) (txg : Int) : FewR t (snapT t nm txg) := by
 unfold snapT
 split
 ·split
  ·exact few_badT _ _
  ·split
   ·split
    ·exact few_badT _ _
    ·exact few_putT _ _ _
   ·exact few_badT _ _
 ·exact few_badT _ _
theorem few_cloneT (t : TC) (nm tn : List UInt8) (txg : Int) : FewR t (cloneT t nm tn txg) := by
 unfold cloneT
 split
 ·split
  ·exact few_badT _ _
  ·split
   ·exact few_putT _ _ _
   ·exact few_badT _ _
 ·exact few_badT _ _
theorem few_setT (t : TC) (nm : List UInt8) (y : RC) (z : Int) : FewR t (z, { t with recs := setN nm t.recs y }) := by
 refine ⟨?_, Nat.le_refl _⟩
 show (setN nm t.recs y).length ≤ _
 unfold setN
 rw [List.length_set]
 exact Nat.le_succ _
theorem few_rollT (t : TC) (nm : List UInt8) : FewR t (rollT t nm) := by
 unfold rollT
 split
 ·split
  ·exact few_badT _ _
  ·split
   ·exact few_badT _ _
   ·split
    ·exact few_badT _ _
    ·exact few_setT _ _ _ _
 ·exact few_badT _ _
theorem few_dropT (t : TC) (nm : List UInt8) : FewR t (dropT t nm) := by
 unfold dropT
 split
 ·split
  ·exact few_badT _ _
  ·split
   ·exact few_badT _ _
   ·exact ⟨Nat.le_succ_of_le (List.eraseIdx_sublist _ _).length_le, Nat.le_refl _⟩
 ·exact few_badT _ _
theorem few_renameT (t : TC) (nm tn : List UInt8) : FewR t (renameT t nm tn) := by
 unfold renameT
 split
 ·split
  ·split
   ·exact few_badT _ _
   ·refine ⟨?_, Nat.le_refl _⟩
    show (sortL (t.recs.map (renR nm tn))).length ≤ _
    rw [(sortL_perm _).length_eq, List.length_map]
    exact Nat.le_succ _
  ·exact few_badT _ _
 ·exact few_badT _ _
theorem few_changeT (t : TC) (nm : List UInt8) (b : Bool) (f : RC → RC) : FewR t (changeT t nm b f) := by
 unfold changeT
 split
 ·split
  ·exact few_badT _ _
  ·split
   ·exact few_badT _ _
   ·exact few_setT _ _ _ _
 ·exact few_badT _ _
theorem few_doR (t : TC) (x : AD) : FewR t (doR t x) := by
 unfold doR
 split; · exact few_opT (few_makeT _ _ _ _)
 split; · exact few_opT (few_snapT _ _ _)
 split; · exact few_opT (few_cloneT _ _ _ _)
 split; · exact few_opT (few_rollT _ _)
 split; · exact few_opT (few_dropT _ _)
 split; · exact few_opT (few_renameT _ _ _)
 split; · exact few_opT (few_changeT _ _ _ _)
 split; · exact few_opT (few_changeT _ _ _ _)
 split; · exact few_opT (few_changeT _ _ _ _)
 exact ⟨Nat.le_succ _, Nat.le_refl _⟩
theorem put_act {k z txg : Int} {nm tn : List UInt8} {p q : PV} (hp : L32 p.S) (hq : L32 q.S) : putAt (AD.cells ⟨k, z, txg, nm, tn, p⟩) 5 q.cells = AD.cells ⟨k, z, txg, nm, tn, q⟩ := by
 unfold putAt
 show [_, _, _, _, _] ++ (q.cells ++ List.drop (5 + q.cells.length) (_ :: _ :: _ :: _ :: _ :: p.cells)) = _
 rw [PV.len hq, List.drop_of_length_le (by show p.cells.length + 5 ≤ _; rw [PV.len hp]; omega), List.append_nil]
 rfl
def HeldP (P : List HA) (q : PV) : Prop := ∀ w0 w M L, St w0 M w L → (∀ y ∈ P, y ∈ L) → q.In w
theorem HeldP.mono {P P' : List HA} {q : PV} (h : HeldP P q) (hs : ∀ y ∈ P, y ∈ P') : HeldP P' q := fun _ _ _ _ h1 h2 => h _ _ _ _ h1 fun y hy => h2 y (hs y hy)
theorem HeldP.inn {w0 w : World} {M : List Nat} {B P : List HA} {q : PV} (h : HeldP P q) (hst : St w0 M w (B ++ P)) : q.In w := h _ _ _ _ hst fun _ hy => List.mem_append_right _ hy
theorem heldP_row {P : List HA} {p : PV} {ao : Option Addr} {n c : Nat} (hS : L32 p.S) (hl : p.l.length = n) : HeldP (HA.row (.slice ao n c) 102 2 n (addrsV p.l) :: P) (p.re (.slice ao n c)) := fun _ _ _ _ h1 h2 =>
 ⟨hS, ao, n, c, rfl, Rd.row h1 (h2 _ (.head _)), hl⟩
theorem subA {A P P' : List HA} (h : ∀ y ∈ P, y ∈ P') : ∀ y ∈ A ++ P, y ∈ A ++ P' := fun y hy => by
 rcases List.mem_append.1 hy with hy | hy
 ·exact List.mem_append_left _ hy
 ·exact List.mem_append_right _ (h y hy)
theorem Held.mono {P P' : List HA} {t : TC} {ar al : Option Addr} {nr cr nl cl : Nat} {xs : List (Value × RC)} (h : Held P t ar al nr cr nl cl xs) (hs : ∀ y ∈ P, y ∈ P') : Held P' t ar al nr cr nl cl xs := fun _ _ _ _ h1 h2 => h _ _ _ _ h1 fun y hy => h2 y (hs y hy)
theorem Held.inn {w0 w : World} {M : List Nat} {B P : List HA} {t : TC} {ar al : Option Addr} {nr cr nl cl : Nat} {xs : List (Value × RC)} (h : Held P t ar al nr cr nl cl xs) (hst : St w0 M w (B ++ P)) : TabIn w t ar nr cr al nl cl xs := h _ _ _ _ hst fun y hy => List.mem_append_right _ hy
theorem Held.innA {w0 w : World} {M : List Nat} {B A P : List HA} {t : TC} {ar al : Option Addr} {nr cr nl cl : Nat} {xs : List (Value × RC)} (h : Held (A ++ P) t ar al nr cr nl cl xs) (hst : St w0 M w ((B ++ A) ++ P)) : TabIn w t ar nr cr al nl cl xs := h _ _ _ _ hst fun y hy => by
 rw [List.append_assoc]
 exact List.mem_append_right _ hy
def tabRows (u : TC) (rv lv : Value) (xs : List (Value × RC)) : List HA := .row rv 53 44 xs.length (recsV xs) :: .row lv 3 1 u.lives.length (numsV u.lives) :: xs.map rootH
theorem ret_own {w w1 w2 : World} {B P : List HA} {z : Int} {u : TC} {e : Ending} (hst : St w [] w1 (B ++ P)) (h : TabRet (z, u) w1 e w2) (hb : u.recs.length ≤ 1000000 ∧ u.lives.length ≤ 1000000) :
  ∃ (a a' : Option Addr) (c c' : Nat) (xs : List (Value × RC)), e = .returned (.tuple #[.agg (tabC u (.slice a xs.length c) (.slice a' u.lives.length c')).toArray, .int .i64 z]) ∧ Okx xs u ∧ Held (tabRows u (.slice a xs.length c) (.slice a' u.lives.length c') xs ++ P) u a a' xs.length c u.lives.length c' xs ∧ St w [] w2 ((B ++ tabRows u (.slice a xs.length c) (.slice a' u.lives.length c') xs) ++ P) := by
 obtain ⟨rv, lv, xs, rfl, hok, h4⟩ := h
 have h5 := St.call hst h4
 obtain ⟨a9, c9, rfl, _, _⟩ := rowS [] h5
 obtain ⟨a8, c8, rfl, _, _⟩ := rowS [_] h5
 refine ⟨a9, a8, c9, c8, xs, rfl, hok, fun _ _ _ _ h1 h2 => ?_, St.perm h5 ?_⟩
 ·exact own_tab h1 (h2 _ (.head _)) (h2 _ (.tail _ (.head _))) rfl rfl (fun x hx => ⟨h2 _ (.tail _ (.tail _ (List.mem_append_left _ (List.mem_map_of_mem hx)))), hok.ok x hx⟩) hok.eq ⟨by rw [hok.len]; exact hb.1, hb.2⟩
 ·show List.Perm (tabRows u (.slice a9 xs.length c9) (.slice a8 u.lives.length c8) xs ++ (B ++ P)) _
  rw [← List.append_assoc]
  exact List.perm_append_comm.append_right P
theorem St.split {w0 w : World} {M : List Nat} {B P : List HA} {u : TC} {rv lv : Value} {xs : List (Value × RC)} (h : St w0 M w ((B ++ tabRows u rv lv xs) ++ P)) :
  St w0 M w (.row rv 53 44 xs.length (recsV xs) :: .row lv 3 1 u.lives.length (numsV u.lives) :: (rootRows 102 xs ++ (B ++ P))) := by
 refine St.perm h ?_
 have h1 : (B ++ tabRows u rv lv xs ++ P).Perm (tabRows u rv lv xs ++ (B ++ P)) := by
  rw [← List.append_assoc]
  exact List.perm_append_comm.append_right P
 refine h1.trans (.cons _ (.cons _ ?_))
 exact ((rootRows_perm _ xs).symm.append_right (B ++ P))
theorem copy_pool {w w1 : World} {B P : List HA} {t : TC} {ar al : Option Addr} {nr cr nl cl : Nat} {xs : List (Value × RC)} (hst : St w [] w1 (B ++ P)) (ht : TabIn w1 t ar nr cr al nl cl xs) (hn : nr ≤ 100) (hl : nl ≤ 100) (ha : ∀ r ∈ t.recs, r.l.length ≤ 100000) :
  Calls Tryz.prog 9 #[.agg (tabC t (.slice ar nr cr) (.slice al nl cl)).toArray] w1 fun e w2 =>
   ∃ (ro lo : Option Addr) (rc lc : Nat) (ys : List (Value × RC)) (P' : List HA), e = .returned (.agg (tabC t (.slice ro nr rc) (.slice lo nl lc)).toArray) ∧ Held P' t ro lo nr rc nl lc ys ∧ (∀ y ∈ P, y ∈ P') ∧ St w [] w2 (B ++ P') := by
 refine (copyTable_any t ar al nr cr nl cl xs w1 ht hn hl ha).mono fun e w2 ⟨ro, rc, lo, lc, ys, he, hys, h4⟩ => ?_
 have h5 := St.call hst h4
 refine ⟨ro, lo, rc, lc, ys, (.row (.slice ro nr rc) 53 44 nr (recsV ys) :: .row (.slice lo nl lc) 3 1 nl (numsV t.lives) :: rootRows 102 ys) ++ P, he, fun w0 w M L h1 h2 => ?_, fun y hy => List.mem_append_right _ hy, St.perm h5 ?_⟩
 ·refine ⟨⟨Rd.row h1 (h2 _ (.head _)), by rw [← List.length_map (f := (·.2)), hys, ht.len], fun y hyy => ?_⟩, hys, Rd.row h1 (h2 _ (.tail _ (.head _))), ht.ln, ht.br, ht.bl⟩
  have h3 : y.2 ∈ xs.map (·.2) := by rw [ht.eq, ← hys]; exact List.mem_map_of_mem hyy
  obtain ⟨x, hx, he⟩ := List.mem_map.1 h3
  have hin := ht.R.each x hx
  exact root_in h1 (h2 _ (.tail _ (.tail _ (List.mem_append_left _ (rootRows_mem hyy))))) (by rw [← he]; exact hin.L) (by rw [← he]; exact hin.2)
 ·rw [← List.append_assoc, ← List.append_assoc]
  exact List.perm_append_comm.append_right P
theorem copyP_pool {w w1 : World} {B P : List HA} {p : PV} (hst : St w [] w1 (B ++ P)) (hp : p.In w1) (hl : p.l.length ≤ 100000) :
  Calls Tryz.prog 10 #[.agg p.cells.toArray] w1 fun e w2 =>
   ∃ (ao : Option Addr) (n c : Nat) (P' : List HA), e = .returned (.agg (PV.cells (p.re (.slice ao n c))).toArray) ∧ HeldP P' (p.re (.slice ao n c)) ∧ (∀ y ∈ P, y ∈ P') ∧ St w [] w2 (B ++ P') := by
 refine (copyPtr_any p w1 hp hl).mono fun e w2 ⟨ao, n, c, he, h4, h5⟩ => ?_
 exact ⟨ao, n, c, _, he, heldP_row hp.1 h5, fun y hy => .tail _ hy, St.perm (St.call hst h4) (by show List.Perm (HA.row (.slice ao n c) 102 2 n (addrsV p.l) :: (B ++ P)) _; exact List.perm_middle.symm)⟩
theorem doR_re (t : TC) (k z txg : Int) (nm tn : List UInt8) (p : PV) (s : Value) : doR t ⟨k, z, txg, nm, tn, p.re s⟩ = doR t ⟨k, z, txg, nm, tn, p⟩ := rfl
theorem wl_storeAt {ops : Array Oper} {rest : List Oper} {o : Oper} {a : Act} {w0 w : World} {M : List Nat} {Q : Exit → Act → World → Prop} {T T' : TypeId} {x y : Operand} {g n off : Nat} {vs cs : List Value} (L1 : List HA) {L2 : List HA} (hst : St w0 M w (L1 ++ .blk g T' cs :: L2)) (hop : o.op = .store T x y)
  (hw : Region.wanted o (yielded ops a.tmps) = true) (hx : a.eval x = .pointer (some ⟨g, off, none⟩)) (hy : a.eval y = .agg vs.toArray) [hi : TyN Tryz.prog T n] (hn : vs.length = n)
  (h1 : vs.all (·.oneCell') = true) (hf : off + n ≤ cs.length)
  (h : ∀ w', St w0 M w' (L1 ++ .blk g T' (putAt cs off vs) :: L2) → wpList Tryz.prog ops Q rest (a.put o.dst undef) w') : wpList Tryz.prog ops Q (o :: rest) a w := by
 refine wl_store L1 hst hop hw hx hy (n := n) (by simpa [Value.cells] using hn) (by simpa [Value.cells] using h1) (by simpa [Value.cells, hn] using hf) fun w' hst' => h w' ?_
 simpa [Value.cells] using hst'
def IffT (b : Bool) (p : Prop) : Prop := b = false ↔ p
theorem long_one {w0 w : World} {L : List HA} {x : AD} {g : Nat} (hst : St w0 [] w (.blk g 34 x.cells :: L)) (h40 : x.cells.length = 40) (hx : x.Ok w0) (hnb : x.nm.length ≤ 9223372036854775807 ∧ x.tn.length ≤ 9223372036854775807) (b : Bool) (hb : IffT b (shortD [x] 1)) :
  Calls Tryz.prog 7 #[.slice (some ⟨g, 0, none⟩) 1 1] w fun e w' => e = .returned (.bool b) ∧ St w [] w' [] := by
 have hf : [x].flatMap AD.cells = x.cells := List.append_nil _
 refine (longD_any (some ⟨g, 0, none⟩) 1 1 [x] w (by rw [hf]; exact Rd.blk0 hst (n := 1) (sz := 40) (by rw [h40]) (by decide)) rfl ?_ ?_).mono fun e w' ⟨⟨b', he, hb'⟩, h4⟩ => ⟨?_, h4⟩
 ·intro y hy
  obtain rfl := List.mem_singleton.1 hy
  exact ⟨hx.kind, hx.n, hx.txg, PV.In.old hst.nil hx.p⟩
 ·intro y hy
  obtain rfl := List.mem_singleton.1 hy
  exact hnb
 ·have : b' = b := by unfold IffT at hb; cases b <;> cases b' <;> simp_all
  rw [he, this]
end Go.Proofs.YtifajcblbedcoaaGreat
namespace Go.Proofs.YtifajcblbedcoaaGreat
set_option linter.unusedVariables false
set_option linter.unusedSimpArgs false
open Go.RowKit Hp
theorem tr_fst {r : TR} {z : Int} (h : (r.1 == z) = true) : r = (z, r.2) := by
 obtain ⟨a, b⟩ := r
 have : a = z := by simpa using h
 rw [this]
def tN : TC := (newR 2).2
theorem tN_eq : newR 2 = (0, tN) := tr_fst (by decide +kernel)
theorem tN_bd : tN.recs.length ≤ 1000000 ∧ tN.lives.length ≤ 1000000 := by decide +kernel
def tA : TC := (opR tN (makeR tN [97] 4 1)).2
theorem tA_eq : opR tN (makeR tN [97] 4 1) = (0, tA) := tr_fst (by decide +kernel)
theorem tA_bd : tA.recs.length ≤ 1000000 ∧ tA.lives.length ≤ 1000000 := by decide +kernel
def tAX : TC := (opR tA (snapT tA [97, 64, 120] 2)).2
theorem tAX_eq : opR tA (snapT tA [97, 64, 120] 2) = (0, tAX) := tr_fst (by decide +kernel)
theorem tAX_bd : tAX.recs.length ≤ 1000000 ∧ tAX.lives.length ≤ 1000000 := by decide +kernel
def tS : TC := (opR tAX (cloneT tAX [97, 64, 120] [98] 3)).2
theorem tS_eq : opR tAX (cloneT tAX [97, 64, 120] [98] 3) = (0, tS) := tr_fst (by decide +kernel)
theorem tS_bd : tS.recs.length ≤ 1000000 ∧ tS.lives.length ≤ 1000000 := by decide +kernel
theorem tS_rl : tS.recs.length ≤ 1000 := by decide +kernel
def tD1 : TC := (opR tS (dropT tS [97])).2
theorem tD1_eq : opR tS (dropT tS [97]) = (17, tD1) := tr_fst (by decide +kernel)
def tD2 : TC := (opR tS (dropT tS [97, 64, 120])).2
theorem tD2_eq : opR tS (dropT tS [97, 64, 120]) = (17, tD2) := tr_fst (by decide +kernel)
def tD3 : TC := (opR tS (dropT tS [98])).2
theorem tD3_eq : opR tS (dropT tS [98]) = (0, tD3) := tr_fst (by decide +kernel)
theorem tD3_bd : tD3.recs.length ≤ 1000000 ∧ tD3.lives.length ≤ 1000000 := by decide +kernel
def tD4 : TC := (opR tD3 (dropT tD3 [97, 64, 120])).2
theorem tD4_eq : opR tD3 (dropT tD3 [97, 64, 120]) = (0, tD4) := tr_fst (by decide +kernel)
theorem tD4_rl : tD4.recs.length ≤ 1000 := by decide +kernel
theorem tS_names : (namesOf tS == [[97], [97, 64, 120], [98]]) = true := by decide +kernel
theorem tD4_names : (namesOf tD4 == [[97]]) = true := by decide +kernel
theorem tS_next : tS.next = 4 := by decide +kernel
theorem tS_len : tS.recs.length = 3 := by decide +kernel
def sR0 : RC := tS.recs.getD 0 (volR [] 0 0)
def sR1 : RC := tS.recs.getD 1 (volR [] 0 0)
def sR2 : RC := tS.recs.getD 2 (volR [] 0 0)
theorem tS_recs : tS.recs = [sR0, sR1, sR2] := by
 have h := tS_len
 unfold sR0 sR1 sR2
 generalize tS.recs = l at h ⊢
 match l, h with
 | [a, b, c], _ => rfl
theorem tS_vals : sR0.id = 1 ∧ sR1.own = 1 ∧ sR1.id = 2 ∧ sR2.origin = 2 := by decide +kernel
end Go.Proofs.YtifajcblbedcoaaGreat
namespace Go.Proofs.YtifajcblbedcoaaGreat
set_option linter.unusedVariables false
set_option linter.unusedSimpArgs false
open Go.RowKit Hp
attribute [local irreducible] Go.Calls Go.wpList tN tA tAX tS tD1 tD2 tD3 tD4
set_option maxRecDepth 100000
set_option maxHeartbeats 8000000
attribute [local go_sem ↓] heldInt heldInts heldRecs heldRec heldStr heldTab heldPtr heldFn
theorem ow_if {P : Program} {ops : Array Oper} {o : Oper} {a : Act} {w : World} {K : Act → World → Prop} {Q : Exit → Act → World → Prop} {E : Prop} (hw : Region.wanted o (yielded ops a.tmps) = true) (h : wpList P ops (Q0 K Q) [o] a w) : if Region.wanted o (yielded ops a.tmps) = true then o.wp P a w K Q else E := by
 rw [if_pos hw]
 exact ow_of_wl hw h
theorem InP.spot {w0 w : World} {M : List Nat} {B P : List HA} {t : TC} {ar al : Option Addr} {cr cl : Nat} {xs : List (Value × RC)} (h : InP P t ar al cr cl xs) (hst : St w0 M w (B ++ P)) (hn : 0 < xs.length) : ∃ g2, ar = some ⟨g2, 0, none⟩ := by
 obtain ⟨g2, c, e, _⟩ := row_spot hst (List.mem_append_right _ h.rr) hn
 cases e
 exact ⟨g2, rfl⟩
theorem InP.range {w0 w : World} {M : List Nat} {B P : List HA} {t : TC} {g2 : Nat} {al : Option Addr} {cr cl j : Nat} {xs : List (Value × RC)} {x : Value × RC} (h : InP P t (some ⟨g2, 0, none⟩) al cr cl xs) (hst : St w0 M w (B ++ P)) (hx : xs[j]? = some x) : w.rangeAt g2 (j * 44) (cellsR x) := by
 have hlt := (List.getElem?_eq_some_iff.1 hx).1
 obtain ⟨x', b, off, hx', he, _, hr⟩ := RecsIn.at (h.recs hst) hlt
 cases he
 rw [hx] at hx'
 cases hx'
 rwa [Nat.zero_add] at hr
theorem InP.cell {w0 w : World} {M : List Nat} {B P : List HA} {t : TC} {g2 : Nat} {al : Option Addr} {cr cl j d o : Nat} {xs : List (Value × RC)} {x : Value × RC} {v : Value} (h : InP P t (some ⟨g2, 0, none⟩) al cr cl xs) (hst : St w0 M w (B ++ P)) (hx : xs[j]? = some x) (hd : (cellsR x)[d]? = some v) (ho : o = j * 44 + d) : w.cell? ⟨g2, o, none⟩ = some v := by
 subst ho
 exact h.range hst hx d v hd
def SmpPost (w : World) (e : Ending) (w' : World) : Prop := ∃ (a b : Option Addr) (c d : Nat) (P : List HA) (xs : List (Value × RC)), e = .returned (.tuple #[.agg (tabC tS (.slice a xs.length c) (.slice b tS.lives.length d)).toArray, .bool true]) ∧ InP P tS a b c d xs ∧ St w [] w' P
theorem sample13_any (w : World) : Calls Tryz.prog 22 #[] w (SmpPost w) := by
 obtain ⟨P0, hP0⟩ : ∃ P0 : List HA, P0 = [] := ⟨_, rfl⟩
 have hS0 : St w [] w ([] ++ P0) := by rw [hP0]; exact St.refl w
 clear hP0
 go_enter Tryz.func22, Tryz.ntmps22
 go_wp2_with (first | go_big_skip | go_big_guard | (refine wl_alloc hS0 rfl rfl ?_; intro g0 w1 h4; have hS1 : St w [] w1 ([.blk g0 27 (tab0)] ++ P0) := h4; clear h4 hS0) | (go_at_call 13; refine (new13_any 2 _).mono ?_; rw [tN_eq]; intro e9 w9 hret; obtain ⟨a1, b1, c1, d1, P1, xs1, rfl, hin, hsub, h4⟩ := ret_pool (B := [.blk g0 27 (tab0)]) hS1 hret; have hS2 : St w [] w9 ([.blk g0 27 (tab0)] ++ P1) := h4; clear hret h4 hS1; have HT1 := hid hin; clear hin hsub) | (refine wl_alloc hS2 rfl rfl ?_; intro g2 w1 h4; have hS3 : St w [] w1 ([.blk g2 27 (tab0), .blk g0 27 (tab0)] ++ P1) := h4; clear h4 hS2) | (refine wl_storeA [] hS3 rfl rfl rfl rfl (vs := tabC tN (.slice a1 xs1.length c1) (.slice b1 tN.lives.length d1)) rfl rfl rfl ?_; intro w1 h4; have hS4 : St w [] w1 ([.blk g2 27 (tabC tN (.slice a1 xs1.length c1) (.slice b1 tN.lives.length d1)), .blk g0 27 (tab0)] ++ P1) := h4; clear h4 hS3) | (refine wl_loadE rfl rfl rfl ?_; refine ⟨_, Loads.atA (tabC tN (.slice a1 xs1.length c1) (.slice b1 tN.lives.length d1)) [] hS4 rfl rfl, ?_⟩) | (go_at_call 25; refine (make13_any tN a1 b1 xs1.length c1 tN.lives.length d1 xs1 _ (HT1.out.tab hS4 tN_bd) [97] 4 1 (by decide)).mono ?_; rw [tA_eq]; intro e9 w9 hret; obtain ⟨a2, b2, c2, d2, P2, xs2, rfl, hin, hsub, h4⟩ := ret_pool (B := [.blk g2 27 (tabC tN (.slice a1 xs1.length c1) (.slice b1 tN.lives.length d1)), .blk g0 27 (tab0)]) hS4 hret; have hS5 : St w [] w9 ([.blk g2 27 (tabC tN (.slice a1 xs1.length c1) (.slice b1 tN.lives.length d1)), .blk g0 27 (tab0)] ++ P2) := h4; clear hret h4 hS4; replace HT1 := hid (HT1.out.mono hsub); have HT2 := hid hin; clear hin hsub) | (refine wl_storeA [] hS5 rfl rfl rfl rfl (vs := tabC tA (.slice a2 xs2.length c2) (.slice b2 tA.lives.length d2)) rfl rfl rfl ?_; intro w1 h4; have hS6 : St w [] w1 ([.blk g2 27 (tabC tA (.slice a2 xs2.length c2) (.slice b2 tA.lives.length d2)), .blk g0 27 (tab0)] ++ P2) := h4; clear h4 hS5) | (refine wl_loadE rfl rfl rfl ?_; refine ⟨_, Loads.atA (tabC tA (.slice a2 xs2.length c2) (.slice b2 tA.lives.length d2)) [] hS6 rfl rfl, ?_⟩) | (go_at_call 26; refine (snap13_any tA a2 b2 xs2.length c2 tA.lives.length d2 xs2 _ (HT2.out.tab hS6 tA_bd) [97, 64, 120] 2 (by decide)).mono ?_; rw [tAX_eq]; intro e9 w9 hret; obtain ⟨a3, b3, c3, d3, P3, xs3, rfl, hin, hsub, h4⟩ := ret_pool (B := [.blk g2 27 (tabC tA (.slice a2 xs2.length c2) (.slice b2 tA.lives.length d2)), .blk g0 27 (tab0)]) hS6 hret; have hS7 : St w [] w9 ([.blk g2 27 (tabC tA (.slice a2 xs2.length c2) (.slice b2 tA.lives.length d2)), .blk g0 27 (tab0)] ++ P3) := h4; clear hret h4 hS6; replace HT1 := hid (HT1.out.mono hsub); replace HT2 := hid (HT2.out.mono hsub); have HT3 := hid hin; clear hin hsub) | (refine wl_storeA [] hS7 rfl rfl rfl rfl (vs := tabC tAX (.slice a3 xs3.length c3) (.slice b3 tAX.lives.length d3)) rfl rfl rfl ?_; intro w1 h4; have hS8 : St w [] w1 ([.blk g2 27 (tabC tAX (.slice a3 xs3.length c3) (.slice b3 tAX.lives.length d3)), .blk g0 27 (tab0)] ++ P3) := h4; clear h4 hS7) | (refine wl_loadE rfl rfl rfl ?_; refine ⟨_, Loads.atA (tabC tAX (.slice a3 xs3.length c3) (.slice b3 tAX.lives.length d3)) [] hS8 rfl rfl, ?_⟩) | (go_at_call 27; refine (clone13_any tAX a3 b3 xs3.length c3 tAX.lives.length d3 xs3 _ (HT3.out.tab hS8 tAX_bd) [97, 64, 120] [98] 3 (by decide) (by decide)).mono ?_; rw [tS_eq]; intro e9 w9 hret; obtain ⟨a4, b4, c4, d4, P4, xs4, rfl, hin, hsub, h4⟩ := ret_pool (B := [.blk g2 27 (tabC tAX (.slice a3 xs3.length c3) (.slice b3 tAX.lives.length d3)), .blk g0 27 (tab0)]) hS8 hret; have hS9 : St w [] w9 ([.blk g2 27 (tabC tAX (.slice a3 xs3.length c3) (.slice b3 tAX.lives.length d3)), .blk g0 27 (tab0)] ++ P4) := h4; clear hret h4 hS8; replace HT1 := hid (HT1.out.mono hsub); replace HT2 := hid (HT2.out.mono hsub); replace HT3 := hid (HT3.out.mono hsub); have HT4 := hid hin; clear hin hsub) | (refine wl_storeA [] hS9 rfl rfl rfl rfl (vs := tabC tS (.slice a4 xs4.length c4) (.slice b4 tS.lives.length d4)) rfl rfl rfl ?_; intro w1 h4; have hS10 : St w [] w1 ([.blk g2 27 (tabC tS (.slice a4 xs4.length c4) (.slice b4 tS.lives.length d4)), .blk g0 27 (tab0)] ++ P4) := h4; clear h4 hS9))
 have hX := hS10.drew
 clear hS10
 refine wp_region_held_drew (S := (fun w' => (loadVarH 27 ⟨g2, 0, none⟩).run Tryz.prog w' = .ok (.agg (List.toArray (tabC tS (.slice a4 xs4.length c4) (.slice b4 tS.lives.length d4)))) w')) (by kernel_rfl) (by exact ldA (tabC tS (.slice a4 xs4.length c4) (.slice b4 tS.lives.length d4)) [] hX (rfl) (rfl)) (fun hHeld => ?_)
 refine tq 0 26 ?_
 refine tq 1 27 ?_
 refine tq 2 28 ?_
 refine tq 3 29 ?_
 refine tq 4 30 ?_
 refine tq 5 31 ?_
 refine tq 6 32 ?_
 refine tq 7 33 ?_
 refine tq 8 34 ?_
 refine tq 9 35 ?_
 refine tq 10 36 ?_
 refine tq 11 37 ?_
 refine tq 12 38 ?_
 refine tq 13 39 ?_
 refine tq 14 40 ?_
 refine tq 15 41 ?_
 refine tq 16 42 ?_
 refine wpAnyH_ready (rs := [17]) (by kernel_rfl) (by simp) ?_
 refine (AllReadyH.cons (o := ⟨some 43, _, _, _, _, _⟩) rfl (fun K hK => ?_) AllReadyH.nil)
 refine ow_if (by rfl) ?_
 apply wl_bsX [.string ⟨([97] : List UInt8).toArray⟩, .string ⟨([97, 64, 120] : List UInt8).toArray⟩, .string ⟨([98] : List UInt8).toArray⟩] [.string ⟨([97] : List UInt8).toArray⟩, .string ⟨([97, 64, 120] : List UInt8).toArray⟩, .string ⟨([98] : List UInt8).toArray⟩] hX
 ·rfl
 ·rfl
 ·exact rfl
 ·exact rfl
 ·infer_instance
 ·infer_instance
 ·rfl
 ·rfl
 ·rfl
 intro gw w5 h4
 have hW1 : St w [] w5 ([.blk gw 9 [.string ⟨([97] : List UInt8).toArray⟩, .string ⟨([97, 64, 120] : List UInt8).toArray⟩, .string ⟨([98] : List UInt8).toArray⟩], .blk g2 27 (tabC tS (.slice a4 xs4.length c4) (.slice b4 tS.lives.length d4)), .blk g0 27 tab0] ++ P4) := h4
 clear h4
 refine q0_nil ?_
 refine hK.out _ _ ?_ (fun hHeld => ?_)
 ·exact ldA (tabC tS (.slice a4 xs4.length c4) (.slice b4 tS.lives.length d4)) [_] hW1 (rfl) (rfl)
 clear hK K
 (try simp only [Act.put, List.setIfInBounds_toArray, List.set_cons_zero, List.set_cons_succ])
 refine wpAnyH_ready (rs := [18]) (by kernel_rfl) (by simp) ?_
 refine (AllReadyH.cons (o := ⟨some 44, _, _, _, _, _⟩) rfl (fun K hK => ?_) AllReadyH.nil)
 rw [if_pos (by rfl)]
 go_simp
 go_at_call 24
 refine (names13_any tS a4 xs4.length c4 _ xs4 _ 3 3 [[97], [97, 64, 120], [98]] _ (HT4.out.recs hW1) HT4.out.ok.eq (by rw [HT4.out.ok.len]; exact tS_rl) (Rd.blk hW1 (.head _) (Nat.le_refl _) (by decide) rfl rfl) rfl (by decide)).mono ?_
 rw [tS_names]
 rintro _ w6 ⟨rfl, h4⟩
 have hW2 : St w [] w6 ([.blk gw 9 [.string ⟨([97] : List UInt8).toArray⟩, .string ⟨([97, 64, 120] : List UInt8).toArray⟩, .string ⟨([98] : List UInt8).toArray⟩], .blk g2 27 (tabC tS (.slice a4 xs4.length c4) (.slice b4 tS.lives.length d4)), .blk g0 27 tab0] ++ P4) := St.call0 hW1 h4
 clear h4
 refine hK.out _ _ ?_ (fun hHeld => ?_)
 ·exact ldA (tabC tS (.slice a4 xs4.length c4) (.slice b4 tS.lives.length d4)) [_] hW2 (rfl) (rfl)
 clear hK K
 (try simp only [Act.put, List.setIfInBounds_toArray, List.set_cons_zero, List.set_cons_succ])
 refine tq 19 45 ?_
 refine wpAnyH_ready (rs := [20]) (by kernel_rfl) (by simp) ?_
 refine (AllReadyH.cons (o := ⟨none, _, _, _, _, _⟩) rfl (fun K hK => ?_) AllReadyH.nil)
 refine ow_if (by rfl) ?_
 refine wl_storeA [_, _] hW2 rfl rfl rfl rfl (vs := tabC tS (.slice a4 xs4.length c4) (.slice b4 tS.lives.length d4)) rfl rfl rfl ?_
 intro w7 hW3
 refine q0_nil ?_
 refine hK.out _ _ ?_ (fun hHeld => ?_)
 ·exact ldA (tabC tS (.slice a4 xs4.length c4) (.slice b4 tS.lives.length d4)) [_] hW3 (rfl) (rfl)
 clear hK K
 (try simp only [Act.put, List.setIfInBounds_toArray, List.set_cons_zero, List.set_cons_succ])
 refine tq 21 1 ?_
 refine wpAnyH_done (by kernel_rfl) ?_ _
 clear hHeld
 go_wp2_with (first | go_big_skip | go_big_guard | fail)
 have hl := Loads.atA (P := Tryz.prog) (off := 0) (T := 27) (tabC tS (.slice a4 xs4.length c4) (.slice b4 tS.lives.length d4)) [_, _] hW3 rfl rfl
 refine bodyPost_ret (results_cellR rfl rfl rfl hl) rfl ?_
 exact ⟨_, _, _, _, _, _, rfl, HT4.out, St.sub hW3 (.cons _ (.cons _ (.cons _ (List.Sublist.refl _))))⟩
theorem smp_parts {w0 w : World} {M : List Nat} {B P : List HA} {ar al : Option Addr} {cr cl : Nat} {xs : List (Value × RC)} (h : InP P tS ar al cr cl xs) (hst : St w0 M w (B ++ P)) :
  xs.length = 3 ∧ (∃ g9, ar = some ⟨g9, 0, none⟩) ∧ (∃ v : Value, xs[0]? = some (v, sR0)) ∧ (∃ v : Value, xs[1]? = some (v, sR1)) ∧ (∃ v : Value, xs[2]? = some (v, sR2)) := by
 have hl : xs.length = 3 := by rw [h.ok.len, tS_len]
 have key : ∀ (j : Nat) (r : RC), tS.recs[j]? = some r → ∃ v : Value, xs[j]? = some (v, r) := fun j r hr => by
  obtain ⟨x, hx, he⟩ := okx_at h.ok hr
  subst he
  exact ⟨x.1, hx⟩
 exact ⟨hl, h.spot hst (by omega), key 0 sR0 (by rw [tS_recs]; rfl), key 1 sR1 (by rw [tS_recs]; rfl), key 2 sR2 (by rw [tS_recs]; rfl)⟩
attribute [local irreducible] sR0 sR1 sR2
theorem awake13_any (w : World) : Calls Tryz.prog 8 #[] w fun e w' => e = .returned (.bool true) ∧ St w [] w' [] := by
 obtain ⟨P0, hP0⟩ : ∃ P0 : List HA, P0 = [] := ⟨_, rfl⟩
 have hS0 : St w [] w ([] ++ P0) := by rw [hP0]; exact St.refl w
 clear hP0
 have hn4 := tS_next
 obtain ⟨v1, v2, v3, v4⟩ := tS_vals
 go_enter Tryz.func8, Tryz.ntmps8
 go_wp2_with (first | go_big_skip | go_big_guard | (go_at_call 22; refine (sample13_any _).mono ?_; intro e9 w9 hret; obtain ⟨a0, b0, c0, d0, P1, xs0, rfl, hin, h4⟩ := hret; have hS1 : St w [] w9 ([] ++ P1) := St.sub (St.call hS0 h4) (List.sublist_append_left _ _); have HT0 := hid hin; clear h4 hin hS0; obtain ⟨hn3, ⟨g9, hg9⟩, ⟨x0, hx0⟩, ⟨x1, hx1⟩, ⟨x2, hx2⟩⟩ := smp_parts HT0.out hS1; subst hg9; have HX0 := hid hx0; have HX1 := hid hx1; have HX2 := hid hx2; have HL1 := hid (HT0.out.ok.ok _ (List.mem_of_getElem? hx1)).1; have HL2 := hid (HT0.out.ok.ok _ (List.mem_of_getElem? hx2)).1; have HN3 := hid hn3; clear hx0 hx1 hx2 hn3) | (refine wl_alloc hS1 rfl rfl ?_; intro g1 w1 h4; have hS2 : St w [] w1 ([.blk g1 27 (tab0)] ++ P1) := h4; clear h4 hS1) | (refine wl_storeA [] hS2 rfl rfl rfl rfl (vs := tabC tS (.slice (some ⟨g9, 0, none⟩) xs0.length c0) (.slice b0 tS.lives.length d0)) rfl rfl rfl ?_; intro w1 h4; have hS3 : St w [] w1 ([.blk g1 27 (tabC tS (.slice (some ⟨g9, 0, none⟩) xs0.length c0) (.slice b0 tS.lives.length d0))] ++ P1) := h4; clear h4 hS2) | (refine wl_loadE rfl rfl rfl ?_; first | refine ⟨.int .i64 tS.next, Loads.at [] hS3 rfl, ?_⟩ | refine ⟨_, Loads.at [] hS3 rfl, ?_⟩ | refine ⟨.int .i64 sR0.id, Loads.cell (inferInstance : TyS Tryz.prog 3).out (HT0.out.cell hS3 HX0.out (d := 0) (rfl) (by decide)), ?_⟩ | refine ⟨.int .i64 sR1.own, Loads.cell (inferInstance : TyS Tryz.prog 3).out (HT0.out.cell hS3 HX1.out (d := 40) (cellsR_40 HL1.out) (by decide)), ?_⟩ | refine ⟨.int .i64 sR1.id, Loads.cell (inferInstance : TyS Tryz.prog 3).out (HT0.out.cell hS3 HX1.out (d := 0) (rfl) (by decide)), ?_⟩ | refine ⟨.int .i64 sR2.origin, Loads.cell (inferInstance : TyS Tryz.prog 3).out (HT0.out.cell hS3 HX2.out (d := 41) (cellsR_41 HL2.out) (by decide)), ?_⟩) | (refine wl_index (k := 0) rfl rfl rfl rfl (by have := HN3.out; omega) ?_) | (refine wl_index (k := 1) rfl rfl rfl rfl (by have := HN3.out; omega) ?_) | (refine wl_index (k := 2) rfl rfl rfl rfl (by have := HN3.out; omega) ?_) | (refine wl_loadE rfl rfl rfl ?_; refine ⟨_, Loads.atA (tabC tS (.slice (some ⟨g9, 0, none⟩) xs0.length c0) (.slice b0 tS.lives.length d0)) [] hS3 rfl rfl, ?_⟩) | (go_at_call 23; refine (drop13_any tS (some ⟨g9, 0, none⟩) b0 xs0.length c0 tS.lives.length d0 xs0 _ (HT0.out.tab hS3 tS_bd) [97] (by decide)).mono ?_; rw [tD1_eq]; intro e9 w9 hret; obtain ⟨a1, b1, c1, d1, P2, xs1, rfl, hin, hsub, h4⟩ := ret_pool (B := [.blk g1 27 (tabC tS (.slice (some ⟨g9, 0, none⟩) xs0.length c0) (.slice b0 tS.lives.length d0))]) hS3 hret; have hS4 : St w [] w9 ([.blk g1 27 (tabC tS (.slice (some ⟨g9, 0, none⟩) xs0.length c0) (.slice b0 tS.lives.length d0))] ++ P2) := h4; clear hret h4 hS3; replace HT0 := hid (HT0.out.mono hsub); have HT1 := hid hin; clear hin hsub) | (refine wl_alloc hS4 rfl rfl ?_; intro g3 w1 h4; have hS5 : St w [] w1 ([.blk g3 27 (tab0), .blk g1 27 (tabC tS (.slice (some ⟨g9, 0, none⟩) xs0.length c0) (.slice b0 tS.lives.length d0))] ++ P2) := h4; clear h4 hS4) | (refine wl_storeA [] hS5 rfl rfl rfl rfl (vs := tabC tD1 (.slice a1 xs1.length c1) (.slice b1 tD1.lives.length d1)) rfl rfl rfl ?_; intro w1 h4; have hS6 : St w [] w1 ([.blk g3 27 (tabC tD1 (.slice a1 xs1.length c1) (.slice b1 tD1.lives.length d1)), .blk g1 27 (tabC tS (.slice (some ⟨g9, 0, none⟩) xs0.length c0) (.slice b0 tS.lives.length d0))] ++ P2) := h4; clear h4 hS5) | (refine wl_loadE rfl rfl rfl ?_; refine ⟨_, Loads.atA (tabC tS (.slice (some ⟨g9, 0, none⟩) xs0.length c0) (.slice b0 tS.lives.length d0)) [_] hS6 rfl rfl, ?_⟩) | (go_at_call 23; refine (drop13_any tS (some ⟨g9, 0, none⟩) b0 xs0.length c0 tS.lives.length d0 xs0 _ (HT0.out.tab hS6 tS_bd) [97, 64, 120] (by decide)).mono ?_; rw [tD2_eq]; intro e9 w9 hret; obtain ⟨a2, b2, c2, d2, P3, xs2, rfl, hin, hsub, h4⟩ := ret_pool (B := [.blk g3 27 (tabC tD1 (.slice a1 xs1.length c1) (.slice b1 tD1.lives.length d1)), .blk g1 27 (tabC tS (.slice (some ⟨g9, 0, none⟩) xs0.length c0) (.slice b0 tS.lives.length d0))]) hS6 hret; have hS7 : St w [] w9 ([.blk g3 27 (tabC tD1 (.slice a1 xs1.length c1) (.slice b1 tD1.lives.length d1)), .blk g1 27 (tabC tS (.slice (some ⟨g9, 0, none⟩) xs0.length c0) (.slice b0 tS.lives.length d0))] ++ P3) := h4; clear hret h4 hS6; replace HT0 := hid (HT0.out.mono hsub); replace HT1 := hid (HT1.out.mono hsub); have HT2 := hid hin; clear hin hsub) | (refine wl_alloc hS7 rfl rfl ?_; intro g5 w1 h4; have hS8 : St w [] w1 ([.blk g5 27 (tab0), .blk g3 27 (tabC tD1 (.slice a1 xs1.length c1) (.slice b1 tD1.lives.length d1)), .blk g1 27 (tabC tS (.slice (some ⟨g9, 0, none⟩) xs0.length c0) (.slice b0 tS.lives.length d0))] ++ P3) := h4; clear h4 hS7) | (refine wl_storeA [] hS8 rfl rfl rfl rfl (vs := tabC tD2 (.slice a2 xs2.length c2) (.slice b2 tD2.lives.length d2)) rfl rfl rfl ?_; intro w1 h4; have hS9 : St w [] w1 ([.blk g5 27 (tabC tD2 (.slice a2 xs2.length c2) (.slice b2 tD2.lives.length d2)), .blk g3 27 (tabC tD1 (.slice a1 xs1.length c1) (.slice b1 tD1.lives.length d1)), .blk g1 27 (tabC tS (.slice (some ⟨g9, 0, none⟩) xs0.length c0) (.slice b0 tS.lives.length d0))] ++ P3) := h4; clear h4 hS8) | (refine wl_loadE rfl rfl rfl ?_; refine ⟨_, Loads.atA (tabC tS (.slice (some ⟨g9, 0, none⟩) xs0.length c0) (.slice b0 tS.lives.length d0)) [_, _] hS9 rfl rfl, ?_⟩) | (go_at_call 23; refine (drop13_any tS (some ⟨g9, 0, none⟩) b0 xs0.length c0 tS.lives.length d0 xs0 _ (HT0.out.tab hS9 tS_bd) [98] (by decide)).mono ?_; rw [tD3_eq]; intro e9 w9 hret; obtain ⟨a3, b3, c3, d3, P4, xs3, rfl, hin, hsub, h4⟩ := ret_pool (B := [.blk g5 27 (tabC tD2 (.slice a2 xs2.length c2) (.slice b2 tD2.lives.length d2)), .blk g3 27 (tabC tD1 (.slice a1 xs1.length c1) (.slice b1 tD1.lives.length d1)), .blk g1 27 (tabC tS (.slice (some ⟨g9, 0, none⟩) xs0.length c0) (.slice b0 tS.lives.length d0))]) hS9 hret; have hS10 : St w [] w9 ([.blk g5 27 (tabC tD2 (.slice a2 xs2.length c2) (.slice b2 tD2.lives.length d2)), .blk g3 27 (tabC tD1 (.slice a1 xs1.length c1) (.slice b1 tD1.lives.length d1)), .blk g1 27 (tabC tS (.slice (some ⟨g9, 0, none⟩) xs0.length c0) (.slice b0 tS.lives.length d0))] ++ P4) := h4; clear hret h4 hS9; replace HT0 := hid (HT0.out.mono hsub); replace HT1 := hid (HT1.out.mono hsub); replace HT2 := hid (HT2.out.mono hsub); have HT3 := hid hin; clear hin hsub) | (refine wl_alloc hS10 rfl rfl ?_; intro g7 w1 h4; have hS11 : St w [] w1 ([.blk g7 27 (tab0), .blk g5 27 (tabC tD2 (.slice a2 xs2.length c2) (.slice b2 tD2.lives.length d2)), .blk g3 27 (tabC tD1 (.slice a1 xs1.length c1) (.slice b1 tD1.lives.length d1)), .blk g1 27 (tabC tS (.slice (some ⟨g9, 0, none⟩) xs0.length c0) (.slice b0 tS.lives.length d0))] ++ P4) := h4; clear h4 hS10) | (refine wl_storeA [] hS11 rfl rfl rfl rfl (vs := tabC tD3 (.slice a3 xs3.length c3) (.slice b3 tD3.lives.length d3)) rfl rfl rfl ?_; intro w1 h4; have hS12 : St w [] w1 ([.blk g7 27 (tabC tD3 (.slice a3 xs3.length c3) (.slice b3 tD3.lives.length d3)), .blk g5 27 (tabC tD2 (.slice a2 xs2.length c2) (.slice b2 tD2.lives.length d2)), .blk g3 27 (tabC tD1 (.slice a1 xs1.length c1) (.slice b1 tD1.lives.length d1)), .blk g1 27 (tabC tS (.slice (some ⟨g9, 0, none⟩) xs0.length c0) (.slice b0 tS.lives.length d0))] ++ P4) := h4; clear h4 hS11) | (refine wl_loadE rfl rfl rfl ?_; refine ⟨_, Loads.atA (tabC tD3 (.slice a3 xs3.length c3) (.slice b3 tD3.lives.length d3)) [] hS12 rfl rfl, ?_⟩) | (go_at_call 23; refine (drop13_any tD3 a3 b3 xs3.length c3 tD3.lives.length d3 xs3 _ (HT3.out.tab hS12 tD3_bd) [97, 64, 120] (by decide)).mono ?_; rw [tD4_eq]; intro e9 w9 hret; obtain ⟨a4, b4, c4, d4, P5, xs4, rfl, hin, hsub, h4⟩ := ret_pool (B := [.blk g7 27 (tabC tD3 (.slice a3 xs3.length c3) (.slice b3 tD3.lives.length d3)), .blk g5 27 (tabC tD2 (.slice a2 xs2.length c2) (.slice b2 tD2.lives.length d2)), .blk g3 27 (tabC tD1 (.slice a1 xs1.length c1) (.slice b1 tD1.lives.length d1)), .blk g1 27 (tabC tS (.slice (some ⟨g9, 0, none⟩) xs0.length c0) (.slice b0 tS.lives.length d0))]) hS12 hret; have hS13 : St w [] w9 ([.blk g7 27 (tabC tD3 (.slice a3 xs3.length c3) (.slice b3 tD3.lives.length d3)), .blk g5 27 (tabC tD2 (.slice a2 xs2.length c2) (.slice b2 tD2.lives.length d2)), .blk g3 27 (tabC tD1 (.slice a1 xs1.length c1) (.slice b1 tD1.lives.length d1)), .blk g1 27 (tabC tS (.slice (some ⟨g9, 0, none⟩) xs0.length c0) (.slice b0 tS.lives.length d0))] ++ P5) := h4; clear hret h4 hS12; replace HT0 := hid (HT0.out.mono hsub); replace HT1 := hid (HT1.out.mono hsub); replace HT2 := hid (HT2.out.mono hsub); replace HT3 := hid (HT3.out.mono hsub); have HT4 := hid hin; clear hin hsub) | (refine wl_alloc hS13 rfl rfl ?_; intro g8 w1 h4; have hS14 : St w [] w1 ([.blk g8 27 (tab0), .blk g7 27 (tabC tD3 (.slice a3 xs3.length c3) (.slice b3 tD3.lives.length d3)), .blk g5 27 (tabC tD2 (.slice a2 xs2.length c2) (.slice b2 tD2.lives.length d2)), .blk g3 27 (tabC tD1 (.slice a1 xs1.length c1) (.slice b1 tD1.lives.length d1)), .blk g1 27 (tabC tS (.slice (some ⟨g9, 0, none⟩) xs0.length c0) (.slice b0 tS.lives.length d0))] ++ P5) := h4; clear h4 hS13) | (refine wl_storeA [] hS14 rfl rfl rfl rfl (vs := tabC tD4 (.slice a4 xs4.length c4) (.slice b4 tD4.lives.length d4)) rfl rfl rfl ?_; intro w1 h4; have hS15 : St w [] w1 ([.blk g8 27 (tabC tD4 (.slice a4 xs4.length c4) (.slice b4 tD4.lives.length d4)), .blk g7 27 (tabC tD3 (.slice a3 xs3.length c3) (.slice b3 tD3.lives.length d3)), .blk g5 27 (tabC tD2 (.slice a2 xs2.length c2) (.slice b2 tD2.lives.length d2)), .blk g3 27 (tabC tD1 (.slice a1 xs1.length c1) (.slice b1 tD1.lives.length d1)), .blk g1 27 (tabC tS (.slice (some ⟨g9, 0, none⟩) xs0.length c0) (.slice b0 tS.lives.length d0))] ++ P5) := h4; clear h4 hS14) | (refine wl_loadE rfl rfl rfl ?_; refine ⟨_, Loads.atA (tabC tD4 (.slice a4 xs4.length c4) (.slice b4 tD4.lives.length d4)) [] hS15 rfl rfl, ?_⟩) | (apply wl_bsX [.string ⟨([97] : List UInt8).toArray⟩] [.string ⟨([97] : List UInt8).toArray⟩] hS15; rfl; rfl; exact rfl; exact rfl; infer_instance; infer_instance; rfl; rfl; rfl; intro gw w5 h4; have hS16 : St w [] w5 ([.blk gw 9 ([.string ⟨([97] : List UInt8).toArray⟩]), .blk g8 27 (tabC tD4 (.slice a4 xs4.length c4) (.slice b4 tD4.lives.length d4)), .blk g7 27 (tabC tD3 (.slice a3 xs3.length c3) (.slice b3 tD3.lives.length d3)), .blk g5 27 (tabC tD2 (.slice a2 xs2.length c2) (.slice b2 tD2.lives.length d2)), .blk g3 27 (tabC tD1 (.slice a1 xs1.length c1) (.slice b1 tD1.lives.length d1)), .blk g1 27 (tabC tS (.slice (some ⟨g9, 0, none⟩) xs0.length c0) (.slice b0 tS.lives.length d0))] ++ P5) := h4; clear h4 hS15) | (go_at_call 24; refine (names13_any tD4 a4 xs4.length c4 _ xs4 _ 1 1 [[97]] _ (HT4.out.recs hS16) HT4.out.ok.eq (by rw [HT4.out.ok.len]; exact tD4_rl) (Rd.blk hS16 (.head _) (Nat.le_refl _) (by decide) rfl rfl) rfl (by decide)).mono ?_; rw [tD4_names]; rintro _ w9 ⟨rfl, h4⟩; have hS17 : St w [] w9 ([.blk gw 9 ([.string ⟨([97] : List UInt8).toArray⟩]), .blk g8 27 (tabC tD4 (.slice a4 xs4.length c4) (.slice b4 tD4.lives.length d4)), .blk g7 27 (tabC tD3 (.slice a3 xs3.length c3) (.slice b3 tD3.lives.length d3)), .blk g5 27 (tabC tD2 (.slice a2 xs2.length c2) (.slice b2 tD2.lives.length d2)), .blk g3 27 (tabC tD1 (.slice a1 xs1.length c1) (.slice b1 tD1.lives.length d1)), .blk g1 27 (tabC tS (.slice (some ⟨g9, 0, none⟩) xs0.length c0) (.slice b0 tS.lives.length d0))] ++ P5) := St.call0 hS16 h4; clear h4 hS16))
 go_ret
 exact ⟨rfl, hS17.nil⟩
end Go.Proofs.YtifajcblbedcoaaGreat
namespace Go.Proofs.YtifajcblbedcoaaGreat
set_option linter.unusedVariables false
set_option linter.unusedSimpArgs false
open Go.RowKit Hp
attribute [local irreducible] Go.Calls Go.wpList doR
set_option maxRecDepth 100000
set_option maxHeartbeats 8000000
def act0 : List Value := [.int .i64 0, .string ⟨#[]⟩, .string ⟨#[]⟩, .int .i64 0, .int .i64 0] ++ ptrCells (.slice none 0 0) 0 0 nones
instance adZ : TyZ Tryz.prog 34 act0 := ⟨by kernel_rfl⟩
instance adE : TyE Tryz.prog 34 40 128 := ⟨by kernel_rfl⟩
theorem heldActT (A : Addr) : loadVar 34 A = loadVarH 34 A := rfl
attribute [local go_sem ↓] heldInt heldInts heldRecs heldRec heldStr heldTab heldPtr heldFn heldActT
theorem consS {w0 w : World} {M : List Nat} {x : HA} {L A P : List HA} (h : St w0 M w (x :: ((L ++ A) ++ P))) : St w0 M w (((x :: L) ++ A) ++ P) := h
theorem consT {w0 w : World} {M : List Nat} {x : HA} {L P : List HA} (h : St w0 M w (x :: (L ++ P))) : St w0 M w ((x :: L) ++ P) := h
theorem AD.onesT {w : World} {x : AD} (h : x.p.In w) : x.cells.all (·.oneCell') = true := by
 have := PV.ones h
 unfold AD.cells
 simp only [List.all_cons, this]
 rfl
theorem bd_few2 {t : TC} {r : TR} (h : t.recs.length ≤ 20 ∧ t.lives.length ≤ 20) (x : AD) (hr : r = doR t x) : r.2.recs.length ≤ 100000 ∧ r.2.lives.length ≤ 100000 := by
 have := few_doR t x
 rw [hr]
 exact ⟨Nat.le_trans this.1 (by omega), Nat.le_trans this.2 (by omega)⟩
theorem bd_do2 {t : TC} {r : TR} (h : t.recs.length ≤ 20 ∧ t.lives.length ≤ 20) (x : AD) (hr : r = doR t x) : r.2.recs.length ≤ 1000000 ∧ r.2.lives.length ≤ 1000000 := by
 have := bd_few2 h x hr
 omega
theorem tells13_tab (devs : Int) (t : TC) (ar al : Option Addr) (nr cr nl cl : Nat) (xs : List (Value × RC)) (k z txg : Int) (nm tn : List UInt8) (p : PV) (w : World) (HT : Hid (TabAny w t ar nr cr al nl cl xs)) (HX : Hid ((AD.mk k z txg nm tn p).Ok w)) (HNB : Hid (nm.length ≤ 9223372036854775807 ∧ tn.length ≤ 9223372036854775807)) (HL : Hid (t.longB = true)) :
  Calls Tryz.prog 3 #[.agg (tabC t (.slice ar nr cr) (.slice al nl cl)).toArray, .agg (AD.cells (AD.mk k z txg nm tn p)).toArray, .int .i64 devs] w fun e w' => e = .returned (.bool true) ∧ St w [] w' [] := by
 obtain ⟨P0, hP0⟩ : ∃ P0 : List HA, P0 = [] := ⟨_, rfl⟩
 have hS0 : St w [] w ([] ++ P0) := by rw [hP0]; exact St.refl w
 clear hP0
 have HX40 : Hid ((AD.cells (AD.mk k z txg nm tn p)).length = 40) := hid (AD.len HX.out.p.1)
 go_enter Tryz.func3, Tryz.ntmps3
 go_wp2_with (first | go_big_skip | go_big_guard | (refine wl_boxA hS0 rfl rfl rfl ?_; intro g3 w1 h4; have hS1 : St w [] w1 ([.blk g3 27 (tabC t (.slice ar nr cr) (.slice al nl cl))] ++ P0) := h4; clear h4 hS0) | (refine wl_boxA hS1 rfl rfl rfl ?_; intro g4 w1 h4; have hst : St w [] w1 ([.blk g4 34 (AD.cells (AD.mk k z txg nm tn p)), .blk g3 27 (tabC t (.slice ar nr cr) (.slice al nl cl))] ++ P0) := h4; clear h4 hS1) | (refine wl_loadE rfl rfl rfl ?_; first | refine ⟨_, Loads.atA (tabC t (.slice ar nr cr) (.slice al nl cl)) [_] hst rfl rfl, ?_⟩ | refine ⟨_, Loads.atA (AD.cells (AD.mk k z txg nm tn p)) [] hst HX40.out (by show List.take (AD.cells (AD.mk k z txg nm tn p)).length (AD.cells (AD.mk k z txg nm tn p)) = (AD.cells (AD.mk k z txg nm tn p)); exact List.take_length), ?_⟩) | (go_at_call 6; refine (longTable_any t ar al nr cr nl cl xs _ (HT.out.old hst.nil)).mono ?_; rw [HL.out]; rintro _ w9 ⟨rfl, h4⟩; replace hst := St.call0 hst h4; clear h4) | (go_at_call 8; refine (awake13_any _).mono ?_; rintro _ w9 ⟨rfl, h4⟩; have hst9 := St.call0 hst h4; clear h4))
 go_ret
 exact ⟨rfl, hst9.nil⟩
theorem tells13_act (devs : Int) (t : TC) (ar al : Option Addr) (nr cr nl cl : Nat) (xs : List (Value × RC)) (k z txg : Int) (nm tn : List UInt8) (p : PV) (w : World) (HT : Hid (TabAny w t ar nr cr al nl cl xs)) (HX : Hid ((AD.mk k z txg nm tn p).Ok w)) (HNB : Hid (nm.length ≤ 9223372036854775807 ∧ tn.length ≤ 9223372036854775807)) (HL : Hid (t.longB = false)) (HLB : Hid (IffT true (shortD [AD.mk k z txg nm tn p] 1))) :
  Calls Tryz.prog 3 #[.agg (tabC t (.slice ar nr cr) (.slice al nl cl)).toArray, .agg (AD.cells (AD.mk k z txg nm tn p)).toArray, .int .i64 devs] w fun e w' => e = .returned (.bool true) ∧ St w [] w' [] := by
 obtain ⟨P0, hP0⟩ : ∃ P0 : List HA, P0 = [] := ⟨_, rfl⟩
 have hS0 : St w [] w ([] ++ P0) := by rw [hP0]; exact St.refl w
 clear hP0
 have HX40 : Hid ((AD.cells (AD.mk k z txg nm tn p)).length = 40) := hid (AD.len HX.out.p.1)
 go_enter Tryz.func3, Tryz.ntmps3
 go_wp2_with (first | go_big_skip | go_big_guard | (refine wl_boxA hS0 rfl rfl rfl ?_; intro g3 w1 h4; have hS1 : St w [] w1 ([.blk g3 27 (tabC t (.slice ar nr cr) (.slice al nl cl))] ++ P0) := h4; clear h4 hS0) | (refine wl_boxA hS1 rfl rfl rfl ?_; intro g4 w1 h4; have hst : St w [] w1 ([.blk g4 34 (AD.cells (AD.mk k z txg nm tn p)), .blk g3 27 (tabC t (.slice ar nr cr) (.slice al nl cl))] ++ P0) := h4; clear h4 hS1) | (refine wl_loadE rfl rfl rfl ?_; first | refine ⟨_, Loads.atA (tabC t (.slice ar nr cr) (.slice al nl cl)) [_] hst rfl rfl, ?_⟩ | refine ⟨_, Loads.atA (AD.cells (AD.mk k z txg nm tn p)) [] hst HX40.out (by show List.take (AD.cells (AD.mk k z txg nm tn p)).length (AD.cells (AD.mk k z txg nm tn p)) = (AD.cells (AD.mk k z txg nm tn p)); exact List.take_length), ?_⟩) | (go_at_call 6; refine (longTable_any t ar al nr cr nl cl xs _ (HT.out.old hst.nil)).mono ?_; rw [HL.out]; rintro _ w9 ⟨rfl, h4⟩; replace hst := St.call0 hst h4; clear h4) | (apply wl_bsX [.agg (List.toArray (AD.cells (AD.mk k z txg nm tn p)))] (AD.cells (AD.mk k z txg nm tn p)) hst; rfl; rfl; exact rfl; exact (List.append_nil _); infer_instance; infer_instance; (show (((List.toArray (AD.cells (AD.mk k z txg nm tn p))).size == 40) && true) = true; rw [List.size_toArray, HX40.out]; rfl); rfl; rfl; intro gb w5 hst2; clear hst) | (go_at_call 7; refine (long_one hst2 HX40.out HX.out HNB.out true HLB.out).mono ?_; rintro _ w9 ⟨rfl, h4⟩; have hst : St w [] w9 ([.blk g4 34 (AD.cells (AD.mk k z txg nm tn p)), .blk g3 27 (tabC t (.slice ar nr cr) (.slice al nl cl))] ++ P0) := St.drop (L1 := []) (St.call0 hst2 h4); clear h4 hst2) | (go_at_call 8; refine (awake13_any _).mono ?_; rintro _ w9 ⟨rfl, h4⟩; have hst9 := St.call0 hst h4; clear h4))
 go_ret
 exact ⟨rfl, hst9.nil⟩
theorem tells13_short (devs : Int) (t : TC) (ar al : Option Addr) (nr cr nl cl : Nat) (xs : List (Value × RC)) (k z txg : Int) (nm tn : List UInt8) (p : PV) (w : World) (HT : Hid (TabAny w t ar nr cr al nl cl xs)) (HX : Hid ((AD.mk k z txg nm tn p).Ok w)) (HNB : Hid (nm.length ≤ 9223372036854775807 ∧ tn.length ≤ 9223372036854775807)) (HL : Hid (t.longB = false)) (HLB : Hid (IffT false (shortD [AD.mk k z txg nm tn p] 1))) (t0 : TC) (z0 : Int) (HNW : Hid (newR devs = (z0, t0))) (HTD : Hid (t0.recs.length ≤ 1000000 ∧ t0.lives.length ≤ 1000000)) :
  Calls Tryz.prog 3 #[.agg (tabC t (.slice ar nr cr) (.slice al nl cl)).toArray, .agg (AD.cells (AD.mk k z txg nm tn p)).toArray, .int .i64 devs] w fun e w' => e = .returned (.bool true) ∧ St w [] w' [] := by
 obtain ⟨P0, hP0⟩ : ∃ P0 : List HA, P0 = [] := ⟨_, rfl⟩
 have hS0 : St w [] w ([] ++ P0) := by rw [hP0]; exact St.refl w
 clear hP0
 have HX40 : Hid ((AD.cells (AD.mk k z txg nm tn p)).length = 40) := hid (AD.len HX.out.p.1)
 have HP35 : Hid (p.cells.length = 35) := hid (PV.len HX.out.p.1)
 have HQ35 : ∀ {s : Value}, Hid ((PV.cells (p.re s)).length = 35) := hid (PV.len (p := p.re _) HX.out.p.1)
 have HXO : Hid ((AD.cells (AD.mk k z txg nm tn p)).all (·.oneCell') = true) := hid (AD.onesT HX.out.p)
 have HSD := hid ((HLB.out.1 rfl).2 _ (List.mem_singleton.2 rfl))
 have HPL : Hid (p.l.length ≤ 100000) := hid (Nat.le_trans HSD.out.2.2 (by decide))
 have HTI := hid (HT.out.tab HL.out)
 have HSM := hid (show t.recs.length ≤ 20 ∧ t.lives.length ≤ 20 from ⟨(TC.long_no HL.out).1, (TC.long_no HL.out).2.1⟩)
 have HNN := hid (show nr ≤ 100 ∧ nl ≤ 100 from ⟨by have := HSM.out.1; have := HTI.out.len; omega, by have := HSM.out.2; have := HTI.out.ln; omega⟩)
 have HAD := hid (show ∀ r ∈ t.recs, r.l.length ≤ 100000 from fun r hr => by have := ((TC.long_no HL.out).2.2 r hr).2; omega)
 have HF := hid (show ∀ (w1 : World) (L : List HA), St w [] w1 L → ∀ {s : Value}, (p.re s).In w1 → (AD.mk k z txg nm tn (p.re s)).Few w1 from fun w1 L h s hs => ⟨Nat.le_trans HSD.out.1 (by decide), Nat.le_trans HSD.out.2.1 (by decide), hs, HPL.out⟩)
 have HF0 := hid (show ∀ (w1 : World) (L : List HA), St w [] w1 L → (AD.mk k z txg nm tn p).Few w1 from fun w1 L h => ⟨Nat.le_trans HSD.out.1 (by decide), Nat.le_trans HSD.out.2.1 (by decide), PV.In.old h.nil HX.out.p, HPL.out⟩)
 have dz : (z0 == z0) = true := beq_self_eq_true _
 go_enter Tryz.func3, Tryz.ntmps3
 go_upto_region 3 with (first | go_big_skip | go_big_guard | (refine wl_boxA hS0 rfl rfl rfl ?_; intro g3 w1 h4; have hS1 : St w [] w1 ([.blk g3 27 (tabC t (.slice ar nr cr) (.slice al nl cl))] ++ P0) := h4; clear h4 hS0) | (refine wl_boxA hS1 rfl rfl rfl ?_; intro g4 w1 h4; have hst : St w [] w1 ([.blk g4 34 (AD.cells (AD.mk k z txg nm tn p)), .blk g3 27 (tabC t (.slice ar nr cr) (.slice al nl cl))] ++ P0) := h4; clear h4 hS1) | (refine wl_loadE rfl rfl rfl ?_; first | refine ⟨_, Loads.atA (tabC t (.slice ar nr cr) (.slice al nl cl)) [_] hst rfl rfl, ?_⟩ | refine ⟨_, Loads.atA (AD.cells (AD.mk k z txg nm tn p)) [] hst HX40.out (by show List.take (AD.cells (AD.mk k z txg nm tn p)).length (AD.cells (AD.mk k z txg nm tn p)) = (AD.cells (AD.mk k z txg nm tn p)); exact List.take_length), ?_⟩) | (go_at_call 6; refine (longTable_any t ar al nr cr nl cl xs _ (HT.out.old hst.nil)).mono ?_; rw [HL.out]; rintro _ w9 ⟨rfl, h4⟩; replace hst := St.call0 hst h4; clear h4) | (apply wl_bsX [.agg (List.toArray (AD.cells (AD.mk k z txg nm tn p)))] (AD.cells (AD.mk k z txg nm tn p)) hst; rfl; rfl; exact rfl; exact (List.append_nil _); infer_instance; infer_instance; (show (((List.toArray (AD.cells (AD.mk k z txg nm tn p))).size == 40) && true) = true; rw [List.size_toArray, HX40.out]; rfl); rfl; rfl; intro gb w5 hst2; clear hst) | (go_at_call 7; refine (long_one hst2 HX40.out HX.out HNB.out false HLB.out).mono ?_; rintro _ w9 ⟨rfl, h4⟩; have hst : St w [] w9 ([.blk g4 34 (AD.cells (AD.mk k z txg nm tn p)), .blk g3 27 (tabC t (.slice ar nr cr) (.slice al nl cl))] ++ P0) := St.drop (L1 := []) (St.call0 hst2 h4); clear h4 hst2))
 (try simp only [Act.put, List.setIfInBounds_toArray, List.set_cons_zero, List.set_cons_succ])
 go_cut [7, 8, 27] (fun v7 v8 v27 wx => ∃ (g7 g8 : Nat) (ro lo : Option Addr) (rc lc : Nat) (ys : List (Value × RC)) (P1 : List HA), v7 = .pointer (some ⟨g7, 0, none⟩) ∧ v8 = .pointer (some ⟨g8, 0, none⟩) ∧ v27 = .agg (tabC t (.slice ro nr rc) (.slice lo nl lc)).toArray ∧ Held P1 t ro lo nr rc nl lc ys ∧ St w [] wx ([.blk g8 34 (AD.cells (AD.mk k z txg nm tn p)), .blk g7 27 (tabC t (.slice ro nr rc) (.slice lo nl lc)), .blk g4 34 (AD.cells (AD.mk k z txg nm tn p)), .blk g3 27 (tabC t (.slice ar nr cr) (.slice al nl cl))] ++ P1))
 case first =>
  have hD := hst.drew
  clear hst
  refine wp_region_held_drew (S := (fun w' => (loadVarH 27 ⟨g3, 0, none⟩).run Tryz.prog w' = .ok (.agg (List.toArray ((tabC t (.slice ar nr cr) (.slice al nl cl))))) w' ∧ (loadVarH 34 ⟨g4, 0, none⟩).run Tryz.prog w' = .ok (.agg (List.toArray ((AD.cells (AD.mk k z txg nm tn p))))) w')) (by kernel_rfl) (by exact ⟨ldA ((tabC t (.slice ar nr cr) (.slice al nl cl))) [_] hD (rfl) (rfl), ldA ((AD.cells (AD.mk k z txg nm tn p))) [] hD (HX40.out) ((by show List.take (AD.cells (AD.mk k z txg nm tn p)).length (AD.cells (AD.mk k z txg nm tn p)) = (AD.cells (AD.mk k z txg nm tn p)); exact List.take_length))⟩) (fun hHeld => ?_)
  refine tq 0 26 ?_
  refine tq 2 28 ?_
  refine wpAnyH_ready (rs := [1, 3, 4]) (by kernel_rfl) (by simp) ?_
  refine (AllReadyH.cons (o := ⟨some 27, _, _, _, _, _⟩) rfl (fun K hK => ?_) (AllReadyH.cons (o := ⟨some 7, _, _, _, _, _⟩) rfl (fun K hK => ?_) (AllReadyH.cons (o := ⟨some 8, _, _, _, _, _⟩) rfl (fun K hK => ?_) AllReadyH.nil)))
  ·rw [if_pos (by rfl)]
   go_simp
   go_at_call 9
   refine (copy_pool hD (HTI.out.old hD.nil) HNN.out.1 HNN.out.2 HAD.out).mono ?_
   rintro _ wC ⟨ro, lo, rc, lc, ys, P1, rfl, hin, hsub, hE1⟩
   have HI := hid hin
   clear hin hsub
   refine hK.out _ _ ?_ (fun hHeld => ?_)
   ·exact ⟨ldA ((tabC t (.slice ar nr cr) (.slice al nl cl))) [_] hE1 (rfl) (rfl), ldA ((AD.cells (AD.mk k z txg nm tn p))) [] hE1 (HX40.out) ((by show List.take (AD.cells (AD.mk k z txg nm tn p)).length (AD.cells (AD.mk k z txg nm tn p)) = (AD.cells (AD.mk k z txg nm tn p)); exact List.take_length))⟩
   clear hK K
   (try simp only [Act.put, List.setIfInBounds_toArray, List.set_cons_zero, List.set_cons_succ])
   refine wpAnyH_ready (rs := [3, 4]) (by kernel_rfl) (by simp) ?_
   refine (AllReadyH.cons (o := ⟨some 7, _, _, _, _, _⟩) rfl (fun K hK => ?_) (AllReadyH.cons (o := ⟨some 8, _, _, _, _, _⟩) rfl (fun K hK => ?_) AllReadyH.nil))
   ·refine ow_if (by rfl) ?_
    refine wl_alloc hE1 rfl rfl ?_
    intro g7 wA h4
    have hE2 := consT h4
    clear h4
    refine q0_nil ?_
    refine hK.out _ _ ?_ (fun hHeld => ?_)
    ·exact ⟨ldA ((tabC t (.slice ar nr cr) (.slice al nl cl))) [_, _] hE2 (rfl) (rfl), ldA ((AD.cells (AD.mk k z txg nm tn p))) [_] hE2 (HX40.out) ((by show List.take (AD.cells (AD.mk k z txg nm tn p)).length (AD.cells (AD.mk k z txg nm tn p)) = (AD.cells (AD.mk k z txg nm tn p)); exact List.take_length))⟩
    clear hK K
    (try simp only [Act.put, List.setIfInBounds_toArray, List.set_cons_zero, List.set_cons_succ])
    refine wpAnyH_ready (rs := [4]) (by kernel_rfl) (by simp) ?_
    refine (AllReadyH.cons (o := ⟨some 8, _, _, _, _, _⟩) rfl (fun K hK => ?_) AllReadyH.nil)
    refine ow_if (by rfl) ?_
    refine wl_alloc hE2 rfl rfl ?_
    intro g8 wA h4
    have hE3 := consT h4
    clear h4
    refine q0_nil ?_
    refine hK.out _ _ ?_ (fun hHeld => ?_)
    ·exact ⟨ldA ((tabC t (.slice ar nr cr) (.slice al nl cl))) [_, _, _] hE3 (rfl) (rfl), ldA ((AD.cells (AD.mk k z txg nm tn p))) [_, _] hE3 (HX40.out) ((by show List.take (AD.cells (AD.mk k z txg nm tn p)).length (AD.cells (AD.mk k z txg nm tn p)) = (AD.cells (AD.mk k z txg nm tn p)); exact List.take_length))⟩
    clear hK K
    (try simp only [Act.put, List.setIfInBounds_toArray, List.set_cons_zero, List.set_cons_succ])
    refine wpAnyH_ready (rs := [5]) (by kernel_rfl) (by simp) ?_
    refine (AllReadyH.cons (o := ⟨none, _, _, _, _, _⟩) rfl (fun K hK => ?_) AllReadyH.nil)
    refine ow_if (by rfl) ?_
    refine wl_storeA [_] hE3 rfl rfl rfl rfl (vs := (tabC t (.slice ro nr rc) (.slice lo nl lc))) rfl rfl rfl ?_
    intro wS h4
    have hE4 : St w [] wS ([.blk g8 34 act0, .blk g7 27 (tabC t (.slice ro nr rc) (.slice lo nl lc)), .blk g4 34 (AD.cells (AD.mk k z txg nm tn p)), .blk g3 27 (tabC t (.slice ar nr cr) (.slice al nl cl))] ++ P1) := h4
    clear h4
    refine q0_nil ?_
    refine hK.out _ _ ?_ (fun hHeld => ?_)
    ·exact ⟨ldA ((tabC t (.slice ar nr cr) (.slice al nl cl))) [_, _, _] hE4 (rfl) (rfl), ldA ((AD.cells (AD.mk k z txg nm tn p))) [_, _] hE4 (HX40.out) ((by show List.take (AD.cells (AD.mk k z txg nm tn p)).length (AD.cells (AD.mk k z txg nm tn p)) = (AD.cells (AD.mk k z txg nm tn p)); exact List.take_length))⟩
    clear hK K
    (try simp only [Act.put, List.setIfInBounds_toArray, List.set_cons_zero, List.set_cons_succ])
    refine wpAnyH_ready (rs := [6]) (by kernel_rfl) (by simp) ?_
    refine (AllReadyH.cons (o := ⟨none, _, _, _, _, _⟩) rfl (fun K hK => ?_) AllReadyH.nil)
    refine ow_if (by rfl) ?_
    refine wl_storeA [] hE4 rfl rfl rfl rfl (vs := (AD.cells (AD.mk k z txg nm tn p))) HX40.out HXO.out rfl ?_
    intro wS h4
    have hE5 : St w [] wS ([.blk g8 34 (AD.cells (AD.mk k z txg nm tn p)), .blk g7 27 (tabC t (.slice ro nr rc) (.slice lo nl lc)), .blk g4 34 (AD.cells (AD.mk k z txg nm tn p)), .blk g3 27 (tabC t (.slice ar nr cr) (.slice al nl cl))] ++ P1) := h4
    clear h4
    refine q0_nil ?_
    refine hK.out _ _ ?_ (fun hHeld => ?_)
    ·exact ⟨ldA ((tabC t (.slice ar nr cr) (.slice al nl cl))) [_, _, _] hE5 (rfl) (rfl), ldA ((AD.cells (AD.mk k z txg nm tn p))) [_, _] hE5 (HX40.out) ((by show List.take (AD.cells (AD.mk k z txg nm tn p)).length (AD.cells (AD.mk k z txg nm tn p)) = (AD.cells (AD.mk k z txg nm tn p)); exact List.take_length))⟩
    clear hK K
    (try simp only [Act.put, List.setIfInBounds_toArray, List.set_cons_zero, List.set_cons_succ])
    refine wpAnyH_done (by kernel_rfl) ?_ _
    clear hHeld
    go_wp2_with (first | go_big_skip | go_big_guard | fail)
    go_meet
    exact ⟨g7, g8, ro, lo, rc, lc, ys, P1, rfl, rfl, rfl, HI.out, hE5⟩
   ·refine ow_if (by rfl) ?_
    refine wl_alloc hE1 rfl rfl ?_
    intro g8 wA h4
    have hE6 := consT h4
    clear h4
    refine q0_nil ?_
    refine hK.out _ _ ?_ (fun hHeld => ?_)
    ·exact ⟨ldA ((tabC t (.slice ar nr cr) (.slice al nl cl))) [_, _] hE6 (rfl) (rfl), ldA ((AD.cells (AD.mk k z txg nm tn p))) [_] hE6 (HX40.out) ((by show List.take (AD.cells (AD.mk k z txg nm tn p)).length (AD.cells (AD.mk k z txg nm tn p)) = (AD.cells (AD.mk k z txg nm tn p)); exact List.take_length))⟩
    clear hK K
    (try simp only [Act.put, List.setIfInBounds_toArray, List.set_cons_zero, List.set_cons_succ])
    refine wpAnyH_ready (rs := [3]) (by kernel_rfl) (by simp) ?_
    refine (AllReadyH.cons (o := ⟨some 7, _, _, _, _, _⟩) rfl (fun K hK => ?_) AllReadyH.nil)
    refine ow_if (by rfl) ?_
    refine wl_alloc hE6 rfl rfl ?_
    intro g7 wA h4
    have hE7 := consT h4
    clear h4
    refine q0_nil ?_
    refine hK.out _ _ ?_ (fun hHeld => ?_)
    ·exact ⟨ldA ((tabC t (.slice ar nr cr) (.slice al nl cl))) [_, _, _] hE7 (rfl) (rfl), ldA ((AD.cells (AD.mk k z txg nm tn p))) [_, _] hE7 (HX40.out) ((by show List.take (AD.cells (AD.mk k z txg nm tn p)).length (AD.cells (AD.mk k z txg nm tn p)) = (AD.cells (AD.mk k z txg nm tn p)); exact List.take_length))⟩
    clear hK K
    (try simp only [Act.put, List.setIfInBounds_toArray, List.set_cons_zero, List.set_cons_succ])
    refine wpAnyH_ready (rs := [5]) (by kernel_rfl) (by simp) ?_
    refine (AllReadyH.cons (o := ⟨none, _, _, _, _, _⟩) rfl (fun K hK => ?_) AllReadyH.nil)
    refine ow_if (by rfl) ?_
    refine wl_storeA [] hE7 rfl rfl rfl rfl (vs := (tabC t (.slice ro nr rc) (.slice lo nl lc))) rfl rfl rfl ?_
    intro wS h4
    have hE8 : St w [] wS ([.blk g7 27 (tabC t (.slice ro nr rc) (.slice lo nl lc)), .blk g8 34 act0, .blk g4 34 (AD.cells (AD.mk k z txg nm tn p)), .blk g3 27 (tabC t (.slice ar nr cr) (.slice al nl cl))] ++ P1) := h4
    clear h4
    refine q0_nil ?_
    refine hK.out _ _ ?_ (fun hHeld => ?_)
    ·exact ⟨ldA ((tabC t (.slice ar nr cr) (.slice al nl cl))) [_, _, _] hE8 (rfl) (rfl), ldA ((AD.cells (AD.mk k z txg nm tn p))) [_, _] hE8 (HX40.out) ((by show List.take (AD.cells (AD.mk k z txg nm tn p)).length (AD.cells (AD.mk k z txg nm tn p)) = (AD.cells (AD.mk k z txg nm tn p)); exact List.take_length))⟩
    clear hK K
    (try simp only [Act.put, List.setIfInBounds_toArray, List.set_cons_zero, List.set_cons_succ])
    refine wpAnyH_ready (rs := [6]) (by kernel_rfl) (by simp) ?_
    refine (AllReadyH.cons (o := ⟨none, _, _, _, _, _⟩) rfl (fun K hK => ?_) AllReadyH.nil)
    refine ow_if (by rfl) ?_
    refine wl_storeA [_] hE8 rfl rfl rfl rfl (vs := (AD.cells (AD.mk k z txg nm tn p))) HX40.out HXO.out rfl ?_
    intro wS h4
    have hE9 : St w [] wS ([.blk g7 27 (tabC t (.slice ro nr rc) (.slice lo nl lc)), .blk g8 34 (AD.cells (AD.mk k z txg nm tn p)), .blk g4 34 (AD.cells (AD.mk k z txg nm tn p)), .blk g3 27 (tabC t (.slice ar nr cr) (.slice al nl cl))] ++ P1) := h4
    clear h4
    refine q0_nil ?_
    refine hK.out _ _ ?_ (fun hHeld => ?_)
    ·exact ⟨ldA ((tabC t (.slice ar nr cr) (.slice al nl cl))) [_, _, _] hE9 (rfl) (rfl), ldA ((AD.cells (AD.mk k z txg nm tn p))) [_, _] hE9 (HX40.out) ((by show List.take (AD.cells (AD.mk k z txg nm tn p)).length (AD.cells (AD.mk k z txg nm tn p)) = (AD.cells (AD.mk k z txg nm tn p)); exact List.take_length))⟩
    clear hK K
    (try simp only [Act.put, List.setIfInBounds_toArray, List.set_cons_zero, List.set_cons_succ])
    refine wpAnyH_done (by kernel_rfl) ?_ _
    clear hHeld
    go_wp2_with (first | go_big_skip | go_big_guard | fail)
    go_meet
    exact ⟨g7, g8, ro, lo, rc, lc, ys, P1, rfl, rfl, rfl, HI.out, (St.perm hE9 (.swap _ _ _))⟩
  ·refine ow_if (by rfl) ?_
   refine wl_alloc hD rfl rfl ?_
   intro g7 wA h4
   have hE10 := consT h4
   clear h4
   refine q0_nil ?_
   refine hK.out _ _ ?_ (fun hHeld => ?_)
   ·exact ⟨ldA ((tabC t (.slice ar nr cr) (.slice al nl cl))) [_, _] hE10 (rfl) (rfl), ldA ((AD.cells (AD.mk k z txg nm tn p))) [_] hE10 (HX40.out) ((by show List.take (AD.cells (AD.mk k z txg nm tn p)).length (AD.cells (AD.mk k z txg nm tn p)) = (AD.cells (AD.mk k z txg nm tn p)); exact List.take_length))⟩
   clear hK K
   (try simp only [Act.put, List.setIfInBounds_toArray, List.set_cons_zero, List.set_cons_succ])
   refine wpAnyH_ready (rs := [1, 4]) (by kernel_rfl) (by simp) ?_
   refine (AllReadyH.cons (o := ⟨some 27, _, _, _, _, _⟩) rfl (fun K hK => ?_) (AllReadyH.cons (o := ⟨some 8, _, _, _, _, _⟩) rfl (fun K hK => ?_) AllReadyH.nil))
   ·rw [if_pos (by rfl)]
    go_simp
    go_at_call 9
    refine (copy_pool hE10 (HTI.out.old hE10.nil) HNN.out.1 HNN.out.2 HAD.out).mono ?_
    rintro _ wC ⟨ro, lo, rc, lc, ys, P1, rfl, hin, hsub, hE11⟩
    have HI := hid hin
    clear hin hsub
    refine hK.out _ _ ?_ (fun hHeld => ?_)
    ·exact ⟨ldA ((tabC t (.slice ar nr cr) (.slice al nl cl))) [_, _] hE11 (rfl) (rfl), ldA ((AD.cells (AD.mk k z txg nm tn p))) [_] hE11 (HX40.out) ((by show List.take (AD.cells (AD.mk k z txg nm tn p)).length (AD.cells (AD.mk k z txg nm tn p)) = (AD.cells (AD.mk k z txg nm tn p)); exact List.take_length))⟩
    clear hK K
    (try simp only [Act.put, List.setIfInBounds_toArray, List.set_cons_zero, List.set_cons_succ])
    refine wpAnyH_ready (rs := [4]) (by kernel_rfl) (by simp) ?_
    refine (AllReadyH.cons (o := ⟨some 8, _, _, _, _, _⟩) rfl (fun K hK => ?_) AllReadyH.nil)
    refine ow_if (by rfl) ?_
    refine wl_alloc hE11 rfl rfl ?_
    intro g8 wA h4
    have hE12 := consT h4
    clear h4
    refine q0_nil ?_
    refine hK.out _ _ ?_ (fun hHeld => ?_)
    ·exact ⟨ldA ((tabC t (.slice ar nr cr) (.slice al nl cl))) [_, _, _] hE12 (rfl) (rfl), ldA ((AD.cells (AD.mk k z txg nm tn p))) [_, _] hE12 (HX40.out) ((by show List.take (AD.cells (AD.mk k z txg nm tn p)).length (AD.cells (AD.mk k z txg nm tn p)) = (AD.cells (AD.mk k z txg nm tn p)); exact List.take_length))⟩
    clear hK K
    (try simp only [Act.put, List.setIfInBounds_toArray, List.set_cons_zero, List.set_cons_succ])
    refine wpAnyH_ready (rs := [5]) (by kernel_rfl) (by simp) ?_
    refine (AllReadyH.cons (o := ⟨none, _, _, _, _, _⟩) rfl (fun K hK => ?_) AllReadyH.nil)
    refine ow_if (by rfl) ?_
    refine wl_storeA [_] hE12 rfl rfl rfl rfl (vs := (tabC t (.slice ro nr rc) (.slice lo nl lc))) rfl rfl rfl ?_
    intro wS h4
    have hE13 : St w [] wS ([.blk g8 34 act0, .blk g7 27 (tabC t (.slice ro nr rc) (.slice lo nl lc)), .blk g4 34 (AD.cells (AD.mk k z txg nm tn p)), .blk g3 27 (tabC t (.slice ar nr cr) (.slice al nl cl))] ++ P1) := h4
    clear h4
    refine q0_nil ?_
    refine hK.out _ _ ?_ (fun hHeld => ?_)
    ·exact ⟨ldA ((tabC t (.slice ar nr cr) (.slice al nl cl))) [_, _, _] hE13 (rfl) (rfl), ldA ((AD.cells (AD.mk k z txg nm tn p))) [_, _] hE13 (HX40.out) ((by show List.take (AD.cells (AD.mk k z txg nm tn p)).length (AD.cells (AD.mk k z txg nm tn p)) = (AD.cells (AD.mk k z txg nm tn p)); exact List.take_length))⟩
    clear hK K
    (try simp only [Act.put, List.setIfInBounds_toArray, List.set_cons_zero, List.set_cons_succ])
    refine wpAnyH_ready (rs := [6]) (by kernel_rfl) (by simp) ?_
    refine (AllReadyH.cons (o := ⟨none, _, _, _, _, _⟩) rfl (fun K hK => ?_) AllReadyH.nil)
    refine ow_if (by rfl) ?_
    refine wl_storeA [] hE13 rfl rfl rfl rfl (vs := (AD.cells (AD.mk k z txg nm tn p))) HX40.out HXO.out rfl ?_
    intro wS h4
    have hE14 : St w [] wS ([.blk g8 34 (AD.cells (AD.mk k z txg nm tn p)), .blk g7 27 (tabC t (.slice ro nr rc) (.slice lo nl lc)), .blk g4 34 (AD.cells (AD.mk k z txg nm tn p)), .blk g3 27 (tabC t (.slice ar nr cr) (.slice al nl cl))] ++ P1) := h4
    clear h4
    refine q0_nil ?_
    refine hK.out _ _ ?_ (fun hHeld => ?_)
    ·exact ⟨ldA ((tabC t (.slice ar nr cr) (.slice al nl cl))) [_, _, _] hE14 (rfl) (rfl), ldA ((AD.cells (AD.mk k z txg nm tn p))) [_, _] hE14 (HX40.out) ((by show List.take (AD.cells (AD.mk k z txg nm tn p)).length (AD.cells (AD.mk k z txg nm tn p)) = (AD.cells (AD.mk k z txg nm tn p)); exact List.take_length))⟩
    clear hK K
    (try simp only [Act.put, List.setIfInBounds_toArray, List.set_cons_zero, List.set_cons_succ])
    refine wpAnyH_done (by kernel_rfl) ?_ _
    clear hHeld
    go_wp2_with (first | go_big_skip | go_big_guard | fail)
    go_meet
    exact ⟨g7, g8, ro, lo, rc, lc, ys, P1, rfl, rfl, rfl, HI.out, hE14⟩
   ·refine ow_if (by rfl) ?_
    refine wl_alloc hE10 rfl rfl ?_
    intro g8 wA h4
    have hE15 := consT h4
    clear h4
    refine q0_nil ?_
    refine hK.out _ _ ?_ (fun hHeld => ?_)
    ·exact ⟨ldA ((tabC t (.slice ar nr cr) (.slice al nl cl))) [_, _, _] hE15 (rfl) (rfl), ldA ((AD.cells (AD.mk k z txg nm tn p))) [_, _] hE15 (HX40.out) ((by show List.take (AD.cells (AD.mk k z txg nm tn p)).length (AD.cells (AD.mk k z txg nm tn p)) = (AD.cells (AD.mk k z txg nm tn p)); exact List.take_length))⟩
    clear hK K
    (try simp only [Act.put, List.setIfInBounds_toArray, List.set_cons_zero, List.set_cons_succ])
    refine wpAnyH_ready (rs := [1]) (by kernel_rfl) (by simp) ?_
    refine (AllReadyH.cons (o := ⟨some 27, _, _, _, _, _⟩) rfl (fun K hK => ?_) AllReadyH.nil)
    rw [if_pos (by rfl)]
    go_simp
    go_at_call 9
    refine (copy_pool hE15 (HTI.out.old hE15.nil) HNN.out.1 HNN.out.2 HAD.out).mono ?_
    rintro _ wC ⟨ro, lo, rc, lc, ys, P1, rfl, hin, hsub, hE16⟩
    have HI := hid hin
    clear hin hsub
    refine hK.out _ _ ?_ (fun hHeld => ?_)
    ·exact ⟨ldA ((tabC t (.slice ar nr cr) (.slice al nl cl))) [_, _, _] hE16 (rfl) (rfl), ldA ((AD.cells (AD.mk k z txg nm tn p))) [_, _] hE16 (HX40.out) ((by show List.take (AD.cells (AD.mk k z txg nm tn p)).length (AD.cells (AD.mk k z txg nm tn p)) = (AD.cells (AD.mk k z txg nm tn p)); exact List.take_length))⟩
    clear hK K
    (try simp only [Act.put, List.setIfInBounds_toArray, List.set_cons_zero, List.set_cons_succ])
    refine wpAnyH_ready (rs := [5]) (by kernel_rfl) (by simp) ?_
    refine (AllReadyH.cons (o := ⟨none, _, _, _, _, _⟩) rfl (fun K hK => ?_) AllReadyH.nil)
    refine ow_if (by rfl) ?_
    refine wl_storeA [_] hE16 rfl rfl rfl rfl (vs := (tabC t (.slice ro nr rc) (.slice lo nl lc))) rfl rfl rfl ?_
    intro wS h4
    have hE17 : St w [] wS ([.blk g8 34 act0, .blk g7 27 (tabC t (.slice ro nr rc) (.slice lo nl lc)), .blk g4 34 (AD.cells (AD.mk k z txg nm tn p)), .blk g3 27 (tabC t (.slice ar nr cr) (.slice al nl cl))] ++ P1) := h4
    clear h4
    refine q0_nil ?_
    refine hK.out _ _ ?_ (fun hHeld => ?_)
    ·exact ⟨ldA ((tabC t (.slice ar nr cr) (.slice al nl cl))) [_, _, _] hE17 (rfl) (rfl), ldA ((AD.cells (AD.mk k z txg nm tn p))) [_, _] hE17 (HX40.out) ((by show List.take (AD.cells (AD.mk k z txg nm tn p)).length (AD.cells (AD.mk k z txg nm tn p)) = (AD.cells (AD.mk k z txg nm tn p)); exact List.take_length))⟩
    clear hK K
    (try simp only [Act.put, List.setIfInBounds_toArray, List.set_cons_zero, List.set_cons_succ])
    refine wpAnyH_ready (rs := [6]) (by kernel_rfl) (by simp) ?_
    refine (AllReadyH.cons (o := ⟨none, _, _, _, _, _⟩) rfl (fun K hK => ?_) AllReadyH.nil)
    refine ow_if (by rfl) ?_
    refine wl_storeA [] hE17 rfl rfl rfl rfl (vs := (AD.cells (AD.mk k z txg nm tn p))) HX40.out HXO.out rfl ?_
    intro wS h4
    have hE18 : St w [] wS ([.blk g8 34 (AD.cells (AD.mk k z txg nm tn p)), .blk g7 27 (tabC t (.slice ro nr rc) (.slice lo nl lc)), .blk g4 34 (AD.cells (AD.mk k z txg nm tn p)), .blk g3 27 (tabC t (.slice ar nr cr) (.slice al nl cl))] ++ P1) := h4
    clear h4
    refine q0_nil ?_
    refine hK.out _ _ ?_ (fun hHeld => ?_)
    ·exact ⟨ldA ((tabC t (.slice ar nr cr) (.slice al nl cl))) [_, _, _] hE18 (rfl) (rfl), ldA ((AD.cells (AD.mk k z txg nm tn p))) [_, _] hE18 (HX40.out) ((by show List.take (AD.cells (AD.mk k z txg nm tn p)).length (AD.cells (AD.mk k z txg nm tn p)) = (AD.cells (AD.mk k z txg nm tn p)); exact List.take_length))⟩
    clear hK K
    (try simp only [Act.put, List.setIfInBounds_toArray, List.set_cons_zero, List.set_cons_succ])
    refine wpAnyH_done (by kernel_rfl) ?_ _
    clear hHeld
    go_wp2_with (first | go_big_skip | go_big_guard | fail)
    go_meet
    exact ⟨g7, g8, ro, lo, rc, lc, ys, P1, rfl, rfl, rfl, HI.out, hE18⟩
  ·refine ow_if (by rfl) ?_
   refine wl_alloc hD rfl rfl ?_
   intro g8 wA h4
   have hE19 := consT h4
   clear h4
   refine q0_nil ?_
   refine hK.out _ _ ?_ (fun hHeld => ?_)
   ·exact ⟨ldA ((tabC t (.slice ar nr cr) (.slice al nl cl))) [_, _] hE19 (rfl) (rfl), ldA ((AD.cells (AD.mk k z txg nm tn p))) [_] hE19 (HX40.out) ((by show List.take (AD.cells (AD.mk k z txg nm tn p)).length (AD.cells (AD.mk k z txg nm tn p)) = (AD.cells (AD.mk k z txg nm tn p)); exact List.take_length))⟩
   clear hK K
   (try simp only [Act.put, List.setIfInBounds_toArray, List.set_cons_zero, List.set_cons_succ])
   refine wpAnyH_ready (rs := [1, 3]) (by kernel_rfl) (by simp) ?_
   refine (AllReadyH.cons (o := ⟨some 27, _, _, _, _, _⟩) rfl (fun K hK => ?_) (AllReadyH.cons (o := ⟨some 7, _, _, _, _, _⟩) rfl (fun K hK => ?_) AllReadyH.nil))
   ·rw [if_pos (by rfl)]
    go_simp
    go_at_call 9
    refine (copy_pool hE19 (HTI.out.old hE19.nil) HNN.out.1 HNN.out.2 HAD.out).mono ?_
    rintro _ wC ⟨ro, lo, rc, lc, ys, P1, rfl, hin, hsub, hE20⟩
    have HI := hid hin
    clear hin hsub
    refine hK.out _ _ ?_ (fun hHeld => ?_)
    ·exact ⟨ldA ((tabC t (.slice ar nr cr) (.slice al nl cl))) [_, _] hE20 (rfl) (rfl), ldA ((AD.cells (AD.mk k z txg nm tn p))) [_] hE20 (HX40.out) ((by show List.take (AD.cells (AD.mk k z txg nm tn p)).length (AD.cells (AD.mk k z txg nm tn p)) = (AD.cells (AD.mk k z txg nm tn p)); exact List.take_length))⟩
    clear hK K
    (try simp only [Act.put, List.setIfInBounds_toArray, List.set_cons_zero, List.set_cons_succ])
    refine wpAnyH_ready (rs := [3]) (by kernel_rfl) (by simp) ?_
    refine (AllReadyH.cons (o := ⟨some 7, _, _, _, _, _⟩) rfl (fun K hK => ?_) AllReadyH.nil)
    refine ow_if (by rfl) ?_
    refine wl_alloc hE20 rfl rfl ?_
    intro g7 wA h4
    have hE21 := consT h4
    clear h4
    refine q0_nil ?_
    refine hK.out _ _ ?_ (fun hHeld => ?_)
    ·exact ⟨ldA ((tabC t (.slice ar nr cr) (.slice al nl cl))) [_, _, _] hE21 (rfl) (rfl), ldA ((AD.cells (AD.mk k z txg nm tn p))) [_, _] hE21 (HX40.out) ((by show List.take (AD.cells (AD.mk k z txg nm tn p)).length (AD.cells (AD.mk k z txg nm tn p)) = (AD.cells (AD.mk k z txg nm tn p)); exact List.take_length))⟩
    clear hK K
    (try simp only [Act.put, List.setIfInBounds_toArray, List.set_cons_zero, List.set_cons_succ])
    refine wpAnyH_ready (rs := [5]) (by kernel_rfl) (by simp) ?_
    refine (AllReadyH.cons (o := ⟨none, _, _, _, _, _⟩) rfl (fun K hK => ?_) AllReadyH.nil)
    refine ow_if (by rfl) ?_
    refine wl_storeA [] hE21 rfl rfl rfl rfl (vs := (tabC t (.slice ro nr rc) (.slice lo nl lc))) rfl rfl rfl ?_
    intro wS h4
    have hE22 : St w [] wS ([.blk g7 27 (tabC t (.slice ro nr rc) (.slice lo nl lc)), .blk g8 34 act0, .blk g4 34 (AD.cells (AD.mk k z txg nm tn p)), .blk g3 27 (tabC t (.slice ar nr cr) (.slice al nl cl))] ++ P1) := h4
    clear h4
    refine q0_nil ?_
    refine hK.out _ _ ?_ (fun hHeld => ?_)
    ·exact ⟨ldA ((tabC t (.slice ar nr cr) (.slice al nl cl))) [_, _, _] hE22 (rfl) (rfl), ldA ((AD.cells (AD.mk k z txg nm tn p))) [_, _] hE22 (HX40.out) ((by show List.take (AD.cells (AD.mk k z txg nm tn p)).length (AD.cells (AD.mk k z txg nm tn p)) = (AD.cells (AD.mk k z txg nm tn p)); exact List.take_length))⟩
    clear hK K
    (try simp only [Act.put, List.setIfInBounds_toArray, List.set_cons_zero, List.set_cons_succ])
    refine wpAnyH_ready (rs := [6]) (by kernel_rfl) (by simp) ?_
    refine (AllReadyH.cons (o := ⟨none, _, _, _, _, _⟩) rfl (fun K hK => ?_) AllReadyH.nil)
    refine ow_if (by rfl) ?_
    refine wl_storeA [_] hE22 rfl rfl rfl rfl (vs := (AD.cells (AD.mk k z txg nm tn p))) HX40.out HXO.out rfl ?_
    intro wS h4
    have hE23 : St w [] wS ([.blk g7 27 (tabC t (.slice ro nr rc) (.slice lo nl lc)), .blk g8 34 (AD.cells (AD.mk k z txg nm tn p)), .blk g4 34 (AD.cells (AD.mk k z txg nm tn p)), .blk g3 27 (tabC t (.slice ar nr cr) (.slice al nl cl))] ++ P1) := h4
    clear h4
    refine q0_nil ?_
    refine hK.out _ _ ?_ (fun hHeld => ?_)
    ·exact ⟨ldA ((tabC t (.slice ar nr cr) (.slice al nl cl))) [_, _, _] hE23 (rfl) (rfl), ldA ((AD.cells (AD.mk k z txg nm tn p))) [_, _] hE23 (HX40.out) ((by show List.take (AD.cells (AD.mk k z txg nm tn p)).length (AD.cells (AD.mk k z txg nm tn p)) = (AD.cells (AD.mk k z txg nm tn p)); exact List.take_length))⟩
    clear hK K
    (try simp only [Act.put, List.setIfInBounds_toArray, List.set_cons_zero, List.set_cons_succ])
    refine wpAnyH_done (by kernel_rfl) ?_ _
    clear hHeld
    go_wp2_with (first | go_big_skip | go_big_guard | fail)
    go_meet
    exact ⟨g7, g8, ro, lo, rc, lc, ys, P1, rfl, rfl, rfl, HI.out, (St.perm hE23 (.swap _ _ _))⟩
   ·refine ow_if (by rfl) ?_
    refine wl_alloc hE19 rfl rfl ?_
    intro g7 wA h4
    have hE24 := consT h4
    clear h4
    refine q0_nil ?_
    refine hK.out _ _ ?_ (fun hHeld => ?_)
    ·exact ⟨ldA ((tabC t (.slice ar nr cr) (.slice al nl cl))) [_, _, _] hE24 (rfl) (rfl), ldA ((AD.cells (AD.mk k z txg nm tn p))) [_, _] hE24 (HX40.out) ((by show List.take (AD.cells (AD.mk k z txg nm tn p)).length (AD.cells (AD.mk k z txg nm tn p)) = (AD.cells (AD.mk k z txg nm tn p)); exact List.take_length))⟩
    clear hK K
    (try simp only [Act.put, List.setIfInBounds_toArray, List.set_cons_zero, List.set_cons_succ])
    refine wpAnyH_ready (rs := [1]) (by kernel_rfl) (by simp) ?_
    refine (AllReadyH.cons (o := ⟨some 27, _, _, _, _, _⟩) rfl (fun K hK => ?_) AllReadyH.nil)
    rw [if_pos (by rfl)]
    go_simp
    go_at_call 9
    refine (copy_pool hE24 (HTI.out.old hE24.nil) HNN.out.1 HNN.out.2 HAD.out).mono ?_
    rintro _ wC ⟨ro, lo, rc, lc, ys, P1, rfl, hin, hsub, hE25⟩
    have HI := hid hin
    clear hin hsub
    refine hK.out _ _ ?_ (fun hHeld => ?_)
    ·exact ⟨ldA ((tabC t (.slice ar nr cr) (.slice al nl cl))) [_, _, _] hE25 (rfl) (rfl), ldA ((AD.cells (AD.mk k z txg nm tn p))) [_, _] hE25 (HX40.out) ((by show List.take (AD.cells (AD.mk k z txg nm tn p)).length (AD.cells (AD.mk k z txg nm tn p)) = (AD.cells (AD.mk k z txg nm tn p)); exact List.take_length))⟩
    clear hK K
    (try simp only [Act.put, List.setIfInBounds_toArray, List.set_cons_zero, List.set_cons_succ])
    refine wpAnyH_ready (rs := [5]) (by kernel_rfl) (by simp) ?_
    refine (AllReadyH.cons (o := ⟨none, _, _, _, _, _⟩) rfl (fun K hK => ?_) AllReadyH.nil)
    refine ow_if (by rfl) ?_
    refine wl_storeA [] hE25 rfl rfl rfl rfl (vs := (tabC t (.slice ro nr rc) (.slice lo nl lc))) rfl rfl rfl ?_
    intro wS h4
    have hE26 : St w [] wS ([.blk g7 27 (tabC t (.slice ro nr rc) (.slice lo nl lc)), .blk g8 34 act0, .blk g4 34 (AD.cells (AD.mk k z txg nm tn p)), .blk g3 27 (tabC t (.slice ar nr cr) (.slice al nl cl))] ++ P1) := h4
    clear h4
    refine q0_nil ?_
    refine hK.out _ _ ?_ (fun hHeld => ?_)
    ·exact ⟨ldA ((tabC t (.slice ar nr cr) (.slice al nl cl))) [_, _, _] hE26 (rfl) (rfl), ldA ((AD.cells (AD.mk k z txg nm tn p))) [_, _] hE26 (HX40.out) ((by show List.take (AD.cells (AD.mk k z txg nm tn p)).length (AD.cells (AD.mk k z txg nm tn p)) = (AD.cells (AD.mk k z txg nm tn p)); exact List.take_length))⟩
    clear hK K
    (try simp only [Act.put, List.setIfInBounds_toArray, List.set_cons_zero, List.set_cons_succ])
    refine wpAnyH_ready (rs := [6]) (by kernel_rfl) (by simp) ?_
    refine (AllReadyH.cons (o := ⟨none, _, _, _, _, _⟩) rfl (fun K hK => ?_) AllReadyH.nil)
    refine ow_if (by rfl) ?_
    refine wl_storeA [_] hE26 rfl rfl rfl rfl (vs := (AD.cells (AD.mk k z txg nm tn p))) HX40.out HXO.out rfl ?_
    intro wS h4
    have hE27 : St w [] wS ([.blk g7 27 (tabC t (.slice ro nr rc) (.slice lo nl lc)), .blk g8 34 (AD.cells (AD.mk k z txg nm tn p)), .blk g4 34 (AD.cells (AD.mk k z txg nm tn p)), .blk g3 27 (tabC t (.slice ar nr cr) (.slice al nl cl))] ++ P1) := h4
    clear h4
    refine q0_nil ?_
    refine hK.out _ _ ?_ (fun hHeld => ?_)
    ·exact ⟨ldA ((tabC t (.slice ar nr cr) (.slice al nl cl))) [_, _, _] hE27 (rfl) (rfl), ldA ((AD.cells (AD.mk k z txg nm tn p))) [_, _] hE27 (HX40.out) ((by show List.take (AD.cells (AD.mk k z txg nm tn p)).length (AD.cells (AD.mk k z txg nm tn p)) = (AD.cells (AD.mk k z txg nm tn p)); exact List.take_length))⟩
    clear hK K
    (try simp only [Act.put, List.setIfInBounds_toArray, List.set_cons_zero, List.set_cons_succ])
    refine wpAnyH_done (by kernel_rfl) ?_ _
    clear hHeld
    go_wp2_with (first | go_big_skip | go_big_guard | fail)
    go_meet
    exact ⟨g7, g8, ro, lo, rc, lc, ys, P1, rfl, rfl, rfl, HI.out, (St.perm hE27 (.swap _ _ _))⟩
 case rest =>
  clear hst
  obtain ⟨g7, g8, ro, lo, rc, lc, ys, P1, rfl, rfl, rfl, hin, h4⟩ := hcut
  have hS0 : St w [] _ ([.blk g8 34 (AD.cells (AD.mk k z txg nm tn p)), .blk g7 27 (tabC t (.slice ro nr rc) (.slice lo nl lc)), .blk g4 34 (AD.cells (AD.mk k z txg nm tn p)), .blk g3 27 (tabC t (.slice ar nr cr) (.slice al nl cl))] ++ P1) := h4
  have HI := hid hin
  clear hin h4
  by_cases hi : 0 ≤ k ∧ k ≤ 8
  ·have e0 : decide ((0 : Int) ≤ k) = true := decide_eq_true hi.1
   have e0' : decide (k ≥ (0 : Int)) = true := e0
   have e8 : decide (k ≤ (8 : Int)) = true := decide_eq_true hi.2
   have HID : Hid ((AD.mk k z txg nm tn p).idle = false) := hid (by unfold AD.idle; simp; omega)
   obtain ⟨r, hr⟩ : ∃ r, r = doR t (AD.mk k z txg nm tn p) := ⟨_, rfl⟩
   have HR := hid hr
   have HBD := hid (bd_do2 HSM.out (AD.mk k z txg nm tn p) hr)
   have HBE := hid (bd_few2 HSM.out (AD.mk k z txg nm tn p) hr)
   have dr : (r.1 == r.1) = true := beq_self_eq_true _
   clear hi hr
   go_wp2_with (first | go_big_skip | go_big_guard | (refine wl_loadE rfl rfl rfl ?_; refine ⟨_, Loads.atA (PV.cells p) [_, _] hS0 HP35.out (by show List.take (PV.cells p).length (PV.cells p) = (PV.cells p); exact List.take_length), ?_⟩) | (go_at_call 10; refine (copyP_pool hS0 (PV.In.old hS0.nil HX.out.p) HPL.out).mono ?_; rintro _ w9 ⟨aq, nq, cq, P2, rfl, hin, hsub, hS1⟩; clear hS0; replace HI := hid (HI.out.mono hsub); have HQ := hid hin; clear hin hsub) | (refine wl_storeAt [] hS1 rfl rfl rfl rfl (vs := (PV.cells (p.re (.slice aq nq cq)))) (off := 5) HQ35.out (PV.ones_of (p := (p.re (.slice aq nq cq))) rfl) (by rw [HX40.out]; decide) ?_; intro w1 h4; rw [put_act (k := k) (z := z) (txg := txg) (nm := nm) (tn := tn) (p := p) (q := (p.re (.slice aq nq cq))) HX.out.p.1 HX.out.p.1] at h4; have hS2 : St w [] w1 (([.blk g8 34 (AD.cells (AD.mk k z txg nm tn (p.re (.slice aq nq cq)))), .blk g7 27 (tabC t (.slice ro nr rc) (.slice lo nl lc)), .blk g4 34 (AD.cells (AD.mk k z txg nm tn p)), .blk g3 27 (tabC t (.slice ar nr cr) (.slice al nl cl))]) ++ P2) := h4; clear h4 hS1) | (refine wl_loadE rfl rfl rfl ?_; refine ⟨_, Loads.atA (tabC t (.slice ro nr rc) (.slice lo nl lc)) [_] hS2 rfl rfl, ?_⟩) | (refine wl_loadE rfl rfl rfl ?_; refine ⟨_, Loads.atA (AD.cells (AD.mk k z txg nm tn (p.re (.slice aq nq cq)))) [] hS2 HX40.out (by show List.take (AD.cells (AD.mk k z txg nm tn (p.re (.slice aq nq cq)))).length (AD.cells (AD.mk k z txg nm tn (p.re (.slice aq nq cq)))) = (AD.cells (AD.mk k z txg nm tn (p.re (.slice aq nq cq)))); exact List.take_length), ?_⟩) | (go_at_call 11; refine (does13_any t ro lo nr rc nl lc ys _ (HI.out.inn hS2) (AD.mk k z txg nm tn (p.re (.slice aq nq cq))) (HF.out _ _ hS2 (HQ.out.inn hS2)) HID.out).mono ?_; rw [doR_re, ← HR.out]; intro en w9 hret; obtain ⟨a9, b9, c9, d9, xs9, rfl, hok, hin, hS3⟩ := ret_own hS2 hret HBD.out; have HA9 := hid hin; have HOK := hid hok; clear hret hin hok hS2) | (refine wl_alloc hS3 rfl rfl ?_; intro g9 w1 h4; have hS4 := consS h4; clear h4 hS3) | (refine wl_storeA [] hS4 rfl rfl rfl rfl (vs := (tabC r.2 (.slice a9 xs9.length c9) (.slice b9 r.2.lives.length d9))) rfl rfl rfl ?_; intro w1 h4; have hS5 : St w [] w1 (([.blk g9 27 (tabC r.2 (.slice a9 xs9.length c9) (.slice b9 r.2.lives.length d9)), .blk g8 34 (AD.cells (AD.mk k z txg nm tn (p.re (.slice aq nq cq)))), .blk g7 27 (tabC t (.slice ro nr rc) (.slice lo nl lc)), .blk g4 34 (AD.cells (AD.mk k z txg nm tn p)), .blk g3 27 (tabC t (.slice ar nr cr) (.slice al nl cl))] ++ tabRows r.2 (.slice a9 xs9.length c9) (.slice b9 r.2.lives.length d9) xs9) ++ P2) := h4; clear h4 hS4) | (refine wl_loadE rfl rfl rfl ?_; refine ⟨_, Loads.atA (tabC t (.slice ar nr cr) (.slice al nl cl)) [_, _, _, _] hS5 rfl rfl, ?_⟩) | (refine wl_loadE rfl rfl rfl ?_; refine ⟨_, Loads.atA (AD.cells (AD.mk k z txg nm tn p)) [_, _, _] hS5 HX40.out (by show List.take (AD.cells (AD.mk k z txg nm tn p)).length (AD.cells (AD.mk k z txg nm tn p)) = (AD.cells (AD.mk k z txg nm tn p)); exact List.take_length), ?_⟩) | (go_at_call 12; refine (wants13_any t ar al nr cr nl cl xs _ (HTI.out.old hS5.nil) (AD.mk k z txg nm tn p) (HF0.out _ _ hS5) HID.out).mono ?_; rw [← HR.out]; intro en w9 hret; obtain ⟨e9, f9, n9, q9, m9, r9, ys9, P3, rfl, hin, hsub, hS6⟩ := ref_pool hS5 hret; clear hS5; replace HI := hid (HI.out.mono hsub); replace HQ := hid (HQ.out.mono hsub); replace HA9 := hid (HA9.out.mono (subA hsub)); have HB9 := hid hin; clear hret; clear hin hsub) | (refine wl_alloc hS6 rfl rfl ?_; intro g11 w1 h4; have hS7 := consS h4; clear h4 hS6) | (refine wl_storeA [] hS7 rfl rfl rfl rfl (vs := (tabC r.2 (.slice e9 n9 q9) (.slice f9 m9 r9))) rfl rfl rfl ?_; intro w1 h4; have hS8 : St w [] w1 (([.blk g11 27 (tabC r.2 (.slice e9 n9 q9) (.slice f9 m9 r9)), .blk g9 27 (tabC r.2 (.slice a9 xs9.length c9) (.slice b9 r.2.lives.length d9)), .blk g8 34 (AD.cells (AD.mk k z txg nm tn (p.re (.slice aq nq cq)))), .blk g7 27 (tabC t (.slice ro nr rc) (.slice lo nl lc)), .blk g4 34 (AD.cells (AD.mk k z txg nm tn p)), .blk g3 27 (tabC t (.slice ar nr cr) (.slice al nl cl))] ++ tabRows r.2 (.slice a9 xs9.length c9) (.slice b9 r.2.lives.length d9) xs9) ++ P3) := h4; clear h4 hS7) | (go_at_call 13; refine (new13_any devs _).mono ?_; rw [HNW.out]; intro en w9 hret; obtain ⟨au, bu, cu, du, Pu, xsu, rfl, hin, hsub, hS9⟩ := ret_pool hS8 hret; clear hS8; replace HI := hid (HI.out.mono hsub); replace HQ := hid (HQ.out.mono hsub); replace HA9 := hid (HA9.out.mono (subA hsub)); replace HB9 := hid (HB9.out.mono hsub); have HTu := hid hin; clear hret; clear hin hsub) | (refine wl_alloc hS9 rfl rfl ?_; intro g13 w1 h4; have hS10 := consS h4; clear h4 hS9) | (refine wl_storeA [] hS10 rfl rfl rfl rfl (vs := (tabC t0 (.slice au xsu.length cu) (.slice bu t0.lives.length du))) rfl rfl rfl ?_; intro w1 h4; have hS11 : St w [] w1 (([.blk g13 27 (tabC t0 (.slice au xsu.length cu) (.slice bu t0.lives.length du)), .blk g11 27 (tabC r.2 (.slice e9 n9 q9) (.slice f9 m9 r9)), .blk g9 27 (tabC r.2 (.slice a9 xs9.length c9) (.slice b9 r.2.lives.length d9)), .blk g8 34 (AD.cells (AD.mk k z txg nm tn (p.re (.slice aq nq cq)))), .blk g7 27 (tabC t (.slice ro nr rc) (.slice lo nl lc)), .blk g4 34 (AD.cells (AD.mk k z txg nm tn p)), .blk g3 27 (tabC t (.slice ar nr cr) (.slice al nl cl))] ++ tabRows r.2 (.slice a9 xs9.length c9) (.slice b9 r.2.lives.length d9) xs9) ++ Pu) := h4; clear h4 hS10) | (go_at_call 14; refine (refNew13 devs _).mono ?_; rw [HNW.out]; intro en w9 hret; obtain ⟨av, bv, cv, dv, Pv, xsv, rfl, hin, hsub, hS12⟩ := ret_pool hS11 hret; clear hS11; replace HI := hid (HI.out.mono hsub); replace HQ := hid (HQ.out.mono hsub); replace HA9 := hid (HA9.out.mono (subA hsub)); replace HB9 := hid (HB9.out.mono hsub); replace HTu := hid (HTu.out.mono hsub); have HTv := hid hin; clear hret; clear hin hsub) | (refine wl_alloc hS12 rfl rfl ?_; intro g15 w1 h4; have hS13 := consS h4; clear h4 hS12) | (refine wl_storeA [] hS13 rfl rfl rfl rfl (vs := (tabC t0 (.slice av xsv.length cv) (.slice bv t0.lives.length dv))) rfl rfl rfl ?_; intro w1 h4; have hS14 : St w [] w1 (([.blk g15 27 (tabC t0 (.slice av xsv.length cv) (.slice bv t0.lives.length dv)), .blk g13 27 (tabC t0 (.slice au xsu.length cu) (.slice bu t0.lives.length du)), .blk g11 27 (tabC r.2 (.slice e9 n9 q9) (.slice f9 m9 r9)), .blk g9 27 (tabC r.2 (.slice a9 xs9.length c9) (.slice b9 r.2.lives.length d9)), .blk g8 34 (AD.cells (AD.mk k z txg nm tn (p.re (.slice aq nq cq)))), .blk g7 27 (tabC t (.slice ro nr rc) (.slice lo nl lc)), .blk g4 34 (AD.cells (AD.mk k z txg nm tn p)), .blk g3 27 (tabC t (.slice ar nr cr) (.slice al nl cl))] ++ tabRows r.2 (.slice a9 xs9.length c9) (.slice b9 r.2.lives.length d9) xs9) ++ Pv) := h4; clear h4 hS13) | (refine wl_loadE rfl rfl rfl ?_; refine ⟨_, Loads.atA (tabC r.2 (.slice a9 xs9.length c9) (.slice b9 r.2.lives.length d9)) [_, _, _] hS14 rfl rfl, ?_⟩) | (refine wl_loadE rfl rfl rfl ?_; refine ⟨_, Loads.atA (tabC r.2 (.slice e9 n9 q9) (.slice f9 m9 r9)) [_, _] hS14 rfl rfl, ?_⟩) | (go_at_call 15; refine (kitTable_any _ _ _ _ _ _ _ _ _ _ _ _ _ _ _ _ _ (HA9.out.innA hS14) (HB9.out.inn hS14)).mono ?_; rw [show TC.sameB r.2 r.2 = true from TC.sameB_iff.2 rfl]; rintro _ w9 ⟨rfl, h4⟩; have hS15 := St.call0 hS14 h4; clear h4 hS14) | (refine wl_loadE rfl rfl rfl ?_; refine ⟨_, Loads.atA (tabC t0 (.slice au xsu.length cu) (.slice bu t0.lives.length du)) [_] hS15 rfl rfl, ?_⟩) | (refine wl_loadE rfl rfl rfl ?_; refine ⟨_, Loads.atA (tabC t0 (.slice av xsv.length cv) (.slice bv t0.lives.length dv)) [] hS15 rfl rfl, ?_⟩) | (go_at_call 15; refine (kitTable_any _ _ _ _ _ _ _ _ _ _ _ _ _ _ _ _ _ (HTu.out.tab hS15 HTD.out) (HTv.out.tab hS15 HTD.out)).mono ?_; rw [show TC.sameB t0 t0 = true from TC.sameB_iff.2 rfl]; rintro _ w9 ⟨rfl, h4⟩; have hS16 := St.call0 hS15 h4; clear h4 hS15) | (refine wl_loadE rfl rfl rfl ?_; refine ⟨_, Loads.at [_, _, _, _, _, _] hS16 rfl, ?_⟩) | (refine wl_loadE rfl rfl rfl ?_; refine ⟨_, Loads.atA (tabC r.2 (.slice a9 xs9.length c9) (.slice b9 r.2.lives.length d9)) [_, _, _] hS16 rfl rfl, ?_⟩) | (go_at_call 16; refine (overTable_any r.2 a9 b9 xs9.length c9 r.2.lives.length d9 xs9 (numsV r.2.lives) (St.split hS16) (fun x hx => (HOK.out.ok x hx).1) rfl (by rw [HOK.out.len]; exact HBE.out.1) HBE.out.2).mono ?_; rintro _ w9 ⟨rfl, hS17⟩; clear hS16) | (refine wl_loadE rfl rfl rfl ?_; refine ⟨_, Loads.atA (tabC t (.slice ro nr rc) (.slice lo nl lc)) [_, _, _, _, _] hS17 rfl rfl, ?_⟩) | (refine wl_loadE rfl rfl rfl ?_; refine ⟨_, Loads.atA (tabC t (.slice ar nr cr) (.slice al nl cl)) [_, _, _, _, _, _, _] hS17 rfl rfl, ?_⟩) | (go_at_call 15; refine (kitTable_any _ _ _ _ _ _ _ _ _ _ _ _ _ _ _ _ _ (HI.out.inn hS17) (HTI.out.old hS17.nil)).mono ?_; rw [show TC.sameB t t = true from TC.sameB_iff.2 rfl]; rintro _ w9 ⟨rfl, h4⟩; have hS18 := St.call0 hS17 h4; clear h4 hS17) | (refine wl_loadE rfl rfl rfl ?_; refine ⟨_, Loads.atA (PV.cells (p.re (.slice aq nq cq))) [_, _, _, _] hS18 HQ35.out (by show List.take (PV.cells (p.re (.slice aq nq cq))).length (PV.cells (p.re (.slice aq nq cq))) = (PV.cells (p.re (.slice aq nq cq))); exact List.take_length), ?_⟩) | (refine wl_loadE rfl rfl rfl ?_; refine ⟨_, Loads.atA (PV.cells p) [_, _, _, _, _, _] hS18 HP35.out (by show List.take (PV.cells p).length (PV.cells p) = (PV.cells p); exact List.take_length), ?_⟩) | (go_at_call 17; refine (same_pv (p.re (.slice aq nq cq)) p _ (HQ.out.inn hS18) (PV.In.old hS18.nil HX.out.p)).mono ?_; rw [show PV.same (p.re (.slice aq nq cq)) p = true from sameB_refl _ _ _ _]; rintro _ w9 ⟨rfl, h4⟩; have hS19 := St.call0 hS18 h4; clear h4 hS18) | (go_at_call 8; refine (awake13_any _).mono ?_; rintro _ w9 ⟨rfl, h4⟩; have hS20 := St.call0 hS19 h4; clear h4 hS19))
   go_ret
   exact ⟨rfl, hS20.nil⟩
  ·have HID : Hid ((AD.mk k z txg nm tn p).idle = true) := hid (by unfold AD.idle; simp; omega)
   obtain ⟨e0, e0'⟩ | ⟨e0, e0', e8⟩ : (decide ((0 : Int) ≤ k) = false ∧ decide (k ≥ (0 : Int)) = false) ∨ (decide ((0 : Int) ≤ k) = true ∧ decide (k ≥ (0 : Int)) = true ∧ decide (k ≤ (8 : Int)) = false) := by
    by_cases h0 : k < 0
    ·exact Or.inl ⟨decide_eq_false (by omega), decide_eq_false (by omega)⟩
    ·exact Or.inr ⟨decide_eq_true (by omega), decide_eq_true (by omega), decide_eq_false (by omega)⟩
   all_goals
    clear hi
    go_wp2_with (first | go_big_skip | go_big_guard | (refine wl_loadE rfl rfl rfl ?_; refine ⟨_, Loads.atA (PV.cells p) [_, _] hS0 HP35.out (by show List.take (PV.cells p).length (PV.cells p) = (PV.cells p); exact List.take_length), ?_⟩) | (go_at_call 10; refine (copyP_pool hS0 (PV.In.old hS0.nil HX.out.p) HPL.out).mono ?_; rintro _ w9 ⟨aq, nq, cq, P2, rfl, hin, hsub, hS1⟩; clear hS0; replace HI := hid (HI.out.mono hsub); have HQ := hid hin; clear hin hsub) | (refine wl_storeAt [] hS1 rfl rfl rfl rfl (vs := (PV.cells (p.re (.slice aq nq cq)))) (off := 5) HQ35.out (PV.ones_of (p := (p.re (.slice aq nq cq))) rfl) (by rw [HX40.out]; decide) ?_; intro w1 h4; rw [put_act (k := k) (z := z) (txg := txg) (nm := nm) (tn := tn) (p := p) (q := (p.re (.slice aq nq cq))) HX.out.p.1 HX.out.p.1] at h4; have hS2 : St w [] w1 (([.blk g8 34 (AD.cells (AD.mk k z txg nm tn (p.re (.slice aq nq cq)))), .blk g7 27 (tabC t (.slice ro nr rc) (.slice lo nl lc)), .blk g4 34 (AD.cells (AD.mk k z txg nm tn p)), .blk g3 27 (tabC t (.slice ar nr cr) (.slice al nl cl))]) ++ P2) := h4; clear h4 hS1) | (refine wl_loadE rfl rfl rfl ?_; refine ⟨_, Loads.atA (tabC t (.slice ro nr rc) (.slice lo nl lc)) [_] hS2 rfl rfl, ?_⟩) | (refine wl_loadE rfl rfl rfl ?_; refine ⟨_, Loads.atA (AD.cells (AD.mk k z txg nm tn (p.re (.slice aq nq cq)))) [] hS2 HX40.out (by show List.take (AD.cells (AD.mk k z txg nm tn (p.re (.slice aq nq cq)))).length (AD.cells (AD.mk k z txg nm tn (p.re (.slice aq nq cq)))) = (AD.cells (AD.mk k z txg nm tn (p.re (.slice aq nq cq)))); exact List.take_length), ?_⟩) | (go_at_call 11; refine (does_none t ro lo nr rc nl lc ys _ (HI.out.inn hS2) (AD.mk k z txg nm tn (p.re (.slice aq nq cq))) (HF.out _ _ hS2 (HQ.out.inn hS2)) HID.out).mono ?_; rintro _ w9 ⟨rfl, h4⟩; have hS3 := St.call0 hS2 h4; clear h4 hS2) | (refine wl_alloc hS3 rfl rfl ?_; intro g9 w1 h4; have hS4 := consT h4; clear h4 hS3) | (refine wl_storeA [] hS4 rfl rfl rfl rfl (vs := (tabC t (.slice ro nr rc) (.slice lo nl lc))) rfl rfl rfl ?_; intro w1 h4; have hS5 : St w [] w1 (([.blk g9 27 (tabC t (.slice ro nr rc) (.slice lo nl lc)), .blk g8 34 (AD.cells (AD.mk k z txg nm tn (p.re (.slice aq nq cq)))), .blk g7 27 (tabC t (.slice ro nr rc) (.slice lo nl lc)), .blk g4 34 (AD.cells (AD.mk k z txg nm tn p)), .blk g3 27 (tabC t (.slice ar nr cr) (.slice al nl cl))]) ++ P2) := h4; clear h4 hS4) | (refine wl_loadE rfl rfl rfl ?_; refine ⟨_, Loads.atA (tabC t (.slice ar nr cr) (.slice al nl cl)) [_, _, _, _] hS5 rfl rfl, ?_⟩) | (refine wl_loadE rfl rfl rfl ?_; refine ⟨_, Loads.atA (AD.cells (AD.mk k z txg nm tn p)) [_, _, _] hS5 HX40.out (by show List.take (AD.cells (AD.mk k z txg nm tn p)).length (AD.cells (AD.mk k z txg nm tn p)) = (AD.cells (AD.mk k z txg nm tn p)); exact List.take_length), ?_⟩) | (go_at_call 12; refine (wants_none t ar al nr cr nl cl xs _ (HTI.out.old hS5.nil) (AD.mk k z txg nm tn p) (HF0.out _ _ hS5) HID.out).mono ?_; rintro _ w9 ⟨rfl, h4⟩; have hS6 := St.call0 hS5 h4; clear h4 hS5) | (refine wl_alloc hS6 rfl rfl ?_; intro g11 w1 h4; have hS7 := consT h4; clear h4 hS6) | (refine wl_storeA [] hS7 rfl rfl rfl rfl (vs := (tabC t (.slice ar nr cr) (.slice al nl cl))) rfl rfl rfl ?_; intro w1 h4; have hS8 : St w [] w1 (([.blk g11 27 (tabC t (.slice ar nr cr) (.slice al nl cl)), .blk g9 27 (tabC t (.slice ro nr rc) (.slice lo nl lc)), .blk g8 34 (AD.cells (AD.mk k z txg nm tn (p.re (.slice aq nq cq)))), .blk g7 27 (tabC t (.slice ro nr rc) (.slice lo nl lc)), .blk g4 34 (AD.cells (AD.mk k z txg nm tn p)), .blk g3 27 (tabC t (.slice ar nr cr) (.slice al nl cl))]) ++ P2) := h4; clear h4 hS7) | (go_at_call 13; refine (new13_any devs _).mono ?_; rw [HNW.out]; intro en w9 hret; obtain ⟨au, bu, cu, du, Pu, xsu, rfl, hin, hsub, hS9⟩ := ret_pool hS8 hret; clear hS8; replace HI := hid (HI.out.mono hsub); replace HQ := hid (HQ.out.mono hsub); have HTu := hid hin; clear hret; clear hin hsub) | (refine wl_alloc hS9 rfl rfl ?_; intro g13 w1 h4; have hS10 := consT h4; clear h4 hS9) | (refine wl_storeA [] hS10 rfl rfl rfl rfl (vs := (tabC t0 (.slice au xsu.length cu) (.slice bu t0.lives.length du))) rfl rfl rfl ?_; intro w1 h4; have hS11 : St w [] w1 (([.blk g13 27 (tabC t0 (.slice au xsu.length cu) (.slice bu t0.lives.length du)), .blk g11 27 (tabC t (.slice ar nr cr) (.slice al nl cl)), .blk g9 27 (tabC t (.slice ro nr rc) (.slice lo nl lc)), .blk g8 34 (AD.cells (AD.mk k z txg nm tn (p.re (.slice aq nq cq)))), .blk g7 27 (tabC t (.slice ro nr rc) (.slice lo nl lc)), .blk g4 34 (AD.cells (AD.mk k z txg nm tn p)), .blk g3 27 (tabC t (.slice ar nr cr) (.slice al nl cl))]) ++ Pu) := h4; clear h4 hS10) | (go_at_call 14; refine (refNew13 devs _).mono ?_; rw [HNW.out]; intro en w9 hret; obtain ⟨av, bv, cv, dv, Pv, xsv, rfl, hin, hsub, hS12⟩ := ret_pool hS11 hret; clear hS11; replace HI := hid (HI.out.mono hsub); replace HQ := hid (HQ.out.mono hsub); replace HTu := hid (HTu.out.mono hsub); have HTv := hid hin; clear hret; clear hin hsub) | (refine wl_alloc hS12 rfl rfl ?_; intro g15 w1 h4; have hS13 := consT h4; clear h4 hS12) | (refine wl_storeA [] hS13 rfl rfl rfl rfl (vs := (tabC t0 (.slice av xsv.length cv) (.slice bv t0.lives.length dv))) rfl rfl rfl ?_; intro w1 h4; have hS14 : St w [] w1 (([.blk g15 27 (tabC t0 (.slice av xsv.length cv) (.slice bv t0.lives.length dv)), .blk g13 27 (tabC t0 (.slice au xsu.length cu) (.slice bu t0.lives.length du)), .blk g11 27 (tabC t (.slice ar nr cr) (.slice al nl cl)), .blk g9 27 (tabC t (.slice ro nr rc) (.slice lo nl lc)), .blk g8 34 (AD.cells (AD.mk k z txg nm tn (p.re (.slice aq nq cq)))), .blk g7 27 (tabC t (.slice ro nr rc) (.slice lo nl lc)), .blk g4 34 (AD.cells (AD.mk k z txg nm tn p)), .blk g3 27 (tabC t (.slice ar nr cr) (.slice al nl cl))]) ++ Pv) := h4; clear h4 hS13) | (refine wl_loadE rfl rfl rfl ?_; refine ⟨_, Loads.atA (tabC t (.slice ro nr rc) (.slice lo nl lc)) [_, _, _] hS14 rfl rfl, ?_⟩) | (refine wl_loadE rfl rfl rfl ?_; refine ⟨_, Loads.atA (tabC t (.slice ar nr cr) (.slice al nl cl)) [_, _] hS14 rfl rfl, ?_⟩) | (go_at_call 15; refine (kitTable_any _ _ _ _ _ _ _ _ _ _ _ _ _ _ _ _ _ (HI.out.inn hS14) (HTI.out.old hS14.nil)).mono ?_; rw [show TC.sameB t t = true from TC.sameB_iff.2 rfl]; rintro _ w9 ⟨rfl, h4⟩; have hS15 := St.call0 hS14 h4; clear h4 hS14) | (refine wl_loadE rfl rfl rfl ?_; refine ⟨_, Loads.atA (tabC t0 (.slice au xsu.length cu) (.slice bu t0.lives.length du)) [_] hS15 rfl rfl, ?_⟩) | (refine wl_loadE rfl rfl rfl ?_; refine ⟨_, Loads.atA (tabC t0 (.slice av xsv.length cv) (.slice bv t0.lives.length dv)) [] hS15 rfl rfl, ?_⟩) | (go_at_call 15; refine (kitTable_any _ _ _ _ _ _ _ _ _ _ _ _ _ _ _ _ _ (HTu.out.tab hS15 HTD.out) (HTv.out.tab hS15 HTD.out)).mono ?_; rw [show TC.sameB t0 t0 = true from TC.sameB_iff.2 rfl]; rintro _ w9 ⟨rfl, h4⟩; have hS16 := St.call0 hS15 h4; clear h4 hS15) | (refine wl_loadE rfl rfl rfl ?_; refine ⟨_, Loads.at [_, _, _, _, _, _] hS16 rfl, ?_⟩) | (refine wl_loadE rfl rfl rfl ?_; refine ⟨_, Loads.atA (tabC t (.slice ro nr rc) (.slice lo nl lc)) [_, _, _, _, _] hS16 rfl rfl, ?_⟩) | (refine wl_loadE rfl rfl rfl ?_; refine ⟨_, Loads.atA (tabC t (.slice ar nr cr) (.slice al nl cl)) [_, _, _, _, _, _, _] hS16 rfl rfl, ?_⟩) | (go_at_call 15; refine (kitTable_any _ _ _ _ _ _ _ _ _ _ _ _ _ _ _ _ _ (HI.out.inn hS16) (HTI.out.old hS16.nil)).mono ?_; rw [show TC.sameB t t = true from TC.sameB_iff.2 rfl]; rintro _ w9 ⟨rfl, h4⟩; have hS17 := St.call0 hS16 h4; clear h4 hS16) | (refine wl_loadE rfl rfl rfl ?_; refine ⟨_, Loads.atA (PV.cells (p.re (.slice aq nq cq))) [_, _, _, _] hS17 HQ35.out (by show List.take (PV.cells (p.re (.slice aq nq cq))).length (PV.cells (p.re (.slice aq nq cq))) = (PV.cells (p.re (.slice aq nq cq))); exact List.take_length), ?_⟩) | (refine wl_loadE rfl rfl rfl ?_; refine ⟨_, Loads.atA (PV.cells p) [_, _, _, _, _, _] hS17 HP35.out (by show List.take (PV.cells p).length (PV.cells p) = (PV.cells p); exact List.take_length), ?_⟩) | (go_at_call 17; refine (same_pv (p.re (.slice aq nq cq)) p _ (HQ.out.inn hS17) (PV.In.old hS17.nil HX.out.p)).mono ?_; rw [show PV.same (p.re (.slice aq nq cq)) p = true from sameB_refl _ _ _ _]; rintro _ w9 ⟨rfl, h4⟩; have hS18 := St.call0 hS17 h4; clear h4 hS17) | (go_at_call 8; refine (awake13_any _).mono ?_; rintro _ w9 ⟨rfl, h4⟩; have hS19 := St.call0 hS18 h4; clear h4 hS18))
    go_ret
    exact ⟨rfl, hS19.nil⟩
end Go.Proofs.YtifajcblbedcoaaGreat
namespace Go.Proofs.YtifajcblbedcoaaGreat
set_option linter.unusedVariables false
set_option linter.unusedSimpArgs false
open Go.RowKit Hp
attribute [local irreducible] Go.Calls Go.wpList doR
theorem tells13_any (devs : Int) (t : TC) (ar al : Option Addr) (nr cr nl cl : Nat) (xs : List (Value × RC)) (x : AD) (w : World) (ht : TabAny w t ar nr cr al nl cl xs) (hx : x.Ok w) (hnb : x.nm.length ≤ 9223372036854775807 ∧ x.tn.length ≤ 9223372036854775807) :
  Calls Tryz.prog 3 #[.agg (tabC t (.slice ar nr cr) (.slice al nl cl)).toArray, .agg x.cells.toArray, .int .i64 devs] w fun e w' => e = .returned (.bool true) ∧ St w [] w' [] := by
 obtain ⟨k, z, txg, nm, tn, p⟩ := x
 have HT := hid ht
 have HX := hid hx
 have HNB : Hid (nm.length ≤ 9223372036854775807 ∧ tn.length ≤ 9223372036854775807) := hid hnb
 cases h1 : t.longB with
 | true => exact tells13_tab devs t ar al nr cr nl cl xs k z txg nm tn p w HT HX HNB (hid h1)
 | false =>
  by_cases hs : shortD [AD.mk k z txg nm tn p] 1
  ·have HLB : Hid (IffT false (shortD [AD.mk k z txg nm tn p] 1)) := hid (Iff.intro (fun _ => hs) (fun _ => rfl))
   obtain ⟨z0, t0, hnw, htd⟩ : ∃ (z0 : Int) (t0 : TC), newR devs = (z0, t0) ∧ (t0.recs.length ≤ 1000000 ∧ t0.lives.length ≤ 1000000) := by
    cases hq : inB devs 2 8 with
    | false => exact ⟨2, noTab, by unfold newR; rw [hq]; rfl, by decide⟩
    | true =>
     have h2 := inB_iff.1 hq
     refine ⟨0, ⟨1, [], 0, 0, 0, 0, List.replicate devs.toNat 0⟩, by unfold newR; rw [hq]; rfl, Nat.zero_le _, ?_⟩
     show (List.replicate devs.toNat (0 : Int)).length ≤ _
     rw [List.length_replicate]
     omega
   exact tells13_short devs t ar al nr cr nl cl xs k z txg nm tn p w HT HX HNB (hid h1) HLB t0 z0 (hid hnw) (hid htd)
  ·exact tells13_act devs t ar al nr cr nl cl xs k z txg nm tn p w HT HX HNB (hid h1) (hid (Iff.intro (fun h => (by cases h)) (fun h => absurd h hs)))
end Go.Proofs.YtifajcblbedcoaaGreat
namespace Go.Proofs.YtifajcblbedcoaaGreat
set_option linter.unusedVariables false
set_option linter.unusedSimpArgs false
open Go.ChangeShapes Go.WideShapes Go.ChangeAt Go.RowKit Hp
set_option maxRecDepth 100000 in
theorem dirTells_lifted (os : Os) (started : os.Started) (H : Type) (enc : TypeId × Value → H) :
  ReturnsInHanded {} Tryz.checked os 3 .any (Rows.dirTellsSpec.pre6 enc Tryz.prog Tryz.f3 Rows.dirTellsRow.domain false) (Rows.dirTellsSpec.post enc Tryz.prog Tryz.f3 false true false false) := by
 refine returnsInHanded_of_change (C := Tryz.checked) own started (by kernel_rfl) Tryz.func3
  (ChangeSpec.witness6 (enc := enc) (C := Tryz.checked) false ⟨#[], #[.agg #[.int .i64 0, .slice none 0 0, .int .i64 0, .int .i64 0, .int .i64 0, .int .i64 0, .slice none 0 0], .agg (AD.cells ⟨0, 0, 0, [], [], ⟨.slice none 0 0, [], 0, 0, nones⟩⟩).toArray, .int .i64 0], []⟩ 8 (by kernel_rfl) (by kernel_rfl) (by kernel_rfl) (by kernel_rfl)) ?_
 intro W base args ds gs before hval0 hW hcnd _
 have hval : ∀ (j : Nat) t v, Tryz.f3.params[j]? = some t → args[j]? = some v → Value.okWide Tryz.prog W .any base t v := hval0
 have hW' := hW
 obtain ⟨p, q, hAA0, hV, rfl, hfz, hnd⟩ := hW
 have hA : DataW.TrodAll enc Tryz.prog W 0 (fun _ => true) true Tryz.f3.params.toList args.toList ds p := hAA0
 rw [Tryz.params3] at hA hval
 have hk := hA
 obtain ⟨v0, v1, v2, d0, d1, d2, p0, p1, p2, rfl, rfl, rfl, h0, h1, h2⟩ := trodAll_three hA
 obtain ⟨rfl, rfl⟩ := trodVars_none hV
 obtain ⟨n0, h0⟩ := h0
 obtain ⟨t0, ar0, nr0, cr0, al0, nl0, cl0, xs0, rfl, hT0⟩ := open_tableD (hval 0 _ v0 rfl rfl) h0
 obtain ⟨n1, h1⟩ := h1
 obtain ⟨y1, rfl, hA1, hm1, hk1⟩ := open_ad (hval 1 _ v1 rfl rfl) h1
 obtain ⟨n2, h2⟩ := h2
 obtain ⟨z2, rfl, hl2, hu2⟩ := open_int (hval 2 _ v2 rfl rfl) h2
 clear hAA0 hval0
 simp only [List.append_nil] at hW'
 refine (tells13_any z2 t0 ar0 al0 nr0 cr0 nl0 cl0 xs0 y1 W hT0 hA1 ⟨hm1, hk1⟩).mono fun e W' ⟨he, hg⟩ => ?_
 subst he
 exact ⟨_, rfl, post_of_kept (pv := []) hW' (fun _ _ _ => (trodAll_cons_mk (shut_bool Tryz.underlying4 _) trodAll_mk0)) (fun sp hsp => by
   rw [Tryz.params3]
   exact args_kept (by decide) hk hg.below (fun p hp => hW'.lt p hp) sp hsp) (fun _ _ => rfl) (by simp)
  (hg.below.frame _)⟩
theorem dirTells_over : Rows.dirTellsRow.holds Tryz.pinned (OpenSpec.ofChange Rows.dirTellsSpec) :=
 OpenClaim.holds_of_wide 3 Tryz.f3 rfl rfl rfl rfl rfl rfl rfl ⟨rfl, rfl, rfl, rfl, rfl⟩ rfl rfl rfl rfl rfl (by kernel_rfl) Tryz.func3 (by kernel_rfl)
  (of_decide_eq_true (by kernel_rfl)) (by unfold Func.isWrapper; first | (rw [if_pos (by decide +kernel)]; kernel_rfl) | (rw [if_neg (by decide +kernel)]; exact ⟨rfl, rfl⟩))
  (fun os started H enc _ => dirTells_lifted os started H enc)
theorem dirTells_proved : Rows.DirTellsSaid :=
 dirTells_over
end Go.Proofs.YtifajcblbedcoaaGreat
