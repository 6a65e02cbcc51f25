import Derived.Test.YtifajcblbedcoaaGreatJDirTellsg
import Derived.Test.YtifajcblbedcoaaGreatJDirTellsf
import Derived.Test.YtifajcblbedcoaaGreatJDirTellse
import Derived.Deep.DeepCutAuto
import Derived.Test.YtifajcblbedcoaaGreatJDirTellsc
import Derived.Test.YtifajcblbedcoaaGreatJDirTellsb
namespace Go.Proofs.YtifajcblbedcoaaGreat
set_option linter.unusedVariables false
set_option linter.unusedSimpArgs false
open Go.RowKit Hp
def kinP (l : List RC) (x : RC) : Prop := if x.kind = 2 then ∃ v ∈ l, v.name = (splitL x.name).1 ∧ v.id = x.own else (x.origin = 0 ∨ ∃ y ∈ l, y.id = x.origin ∧ y.kind = 2)
structure OkP (t : TC) : Prop where
 next : 1 ≤ t.next ∧ t.next ≤ 2147483648
 many : t.recs.length ≤ 16
 devs : 2 ≤ t.lives.length ∧ t.lives.length ≤ 8
 cur : t.curB = true
 lives : t.livesB = true
 alone : ∀ x ∈ t.recs, x.aloneB = true
 lt : t.recs.Pairwise NameLt
 ids : t.recs.Pairwise fun x y => x.id ≠ y.id
 low : ∀ x ∈ t.recs, x.id < t.next
 kin : ∀ x ∈ t.recs, kinP t.recs x
theorem inB_iff {n lo hi : Int} : inB n lo hi = true ↔ lo ≤ n ∧ n ≤ hi := by unfold inB; simp
theorem find_name {l : List RC} (h : l.Pairwise NameLt) {nm : List UInt8} {v : RC} (hv : v ∈ l) (hn : v.name = nm) : ∃ k : Nat, findN nm l = (k : Int) ∧ l[k]? = some v := by
 rcases find_split (nm := nm) (l := l) with ⟨h1, _⟩ | ⟨j, y, hy, _, hf, _, hyn⟩
 ·unfold recAt at h1
  rw [List.find?_eq_none] at h1
  have := h1 v hv
  simp [hn] at this
 ·refine ⟨j, hf, ?_⟩
  obtain ⟨i, hi⟩ := List.getElem?_of_mem hv
  have hs := sorted_iff.2 h
  by_cases hij : i = j
  ·subst hij; exact hi
  ·exfalso
   rcases Nat.lt_or_gt_of_ne hij with hlt | hlt
   ·exact NameLt.ne (hs i j v y hlt hi hy) (hn.trans hyn.symm)
   ·exact NameLt.ne (hs j i y v hlt hy hi) (hyn.trans hn.symm)
theorem volB_iff {l : List RC} (h : l.Pairwise NameLt) {r : RC} : volB l r = true ↔ ∃ v ∈ l, v.name = (splitL r.name).1 ∧ v.id = r.own := by
 unfold volB
 rw [Bool.and_eq_true, decide_eq_true_eq]
 constructor
 ·rintro ⟨h1, h2⟩
  rcases find_split (nm := (splitL r.name).1) (l := l) with ⟨_, hf⟩ | ⟨j, y, hy, _, hf, _, hyn⟩
  ·exfalso
   unfold findP at hf
   rw [if_neg (by omega)] at hf
   exact absurd (congrArg Prod.snd hf) (by simp)
  ·unfold idAt at h2
   rw [hf, Int.toNat_natCast, hy] at h2
   exact ⟨y, List.mem_of_getElem? hy, hyn, by simpa using h2⟩
 ·rintro ⟨v, hv, hn, hi⟩
  obtain ⟨k, hf, hk⟩ := find_name h hv hn
  refine ⟨by omega, ?_⟩
  unfold idAt
  rw [hf, Int.toNat_natCast, hk]
  simpa using hi
theorem kinB_iff {l : List RC} (h : l.Pairwise NameLt) {r : RC} : kinB l r = true ↔ kinP l r := by
 unfold kinB kinP
 by_cases hk : r.kind = 2
 ·rw [if_pos (by simpa using hk), if_pos hk, volB_iff h]
 ·rw [if_neg (by simpa using hk), if_neg hk]
  simp
theorem ids_iff {l : List RC} : (∀ (i : Nat) (x : RC), l[i]? = some x → ((l.take i).any fun y => y.id == x.id) = false) ↔ l.Pairwise fun x y => x.id ≠ y.id := by
 rw [List.pairwise_iff_getElem]
 constructor
 ·intro h i j hi hj hij e
  have := h j l[j] (List.getElem?_eq_getElem hj)
  rw [List.any_eq_false] at this
  have h2 := this l[i] (by rw [List.mem_take_iff_getElem]; exact ⟨i, by omega, rfl⟩)
  simp at h2
  exact h2 e
 ·intro h i x hx
  obtain ⟨hi, rfl⟩ := List.getElem?_eq_some_iff.1 hx
  rw [List.any_eq_false]
  intro y hy
  obtain ⟨k, hk, rfl⟩ := List.mem_take_iff_getElem.1 hy
  simpa using h k i (by omega) hi (by omega)
theorem less_step {l : List RC} : (∀ (i : Nat) (x : RC), l[i]? = some x → lessAt l i x = true) ↔ l.Pairwise NameLt := by
 constructor
 ·intro h
  rw [← sorted_iff]
  have step : ∀ (i : Nat) (x y : RC), l[i]? = some x → l[i + 1]? = some y → lessL x.name y.name = true := fun i x y hx hy => by
   have h2 := h (i + 1) y hy
   have e : lessAt l (i + 1) y = lessL x.name y.name := by
    show (match l[i]? with
     | some u => lessL u.name y.name
     | none => true) = _
    rw [hx]
   rwa [e] at h2
  intro i j x y hij hx hy
  obtain ⟨d, rfl⟩ : ∃ d, j = i + 1 + d := ⟨j - (i + 1), by omega⟩
  induction d generalizing y with
  | zero => exact step i x y hx hy
  | succ d ih =>
   have hlt := (List.getElem?_eq_some_iff.1 hy).1
   have hz : l[i + 1 + d]? = some l[i + 1 + d] := List.getElem?_eq_getElem (by omega)
   exact less_trans (ih _ (by omega) hz) (step (i + 1 + d) _ y hz hy)
 ·intro h i x hx
  have hs := sorted_iff.2 h
  cases i with
  | zero => rfl
  | succ i =>
   show (match l[i]? with
    | some u => lessL u.name x.name
    | none => true) = true
   cases hy : l[i]? with
   | none => rfl
   | some y => exact hs i (i + 1) y x (by omega) hy hx
theorem okP_iff {t : TC} : t.ok = true ↔ OkP t := by
 constructor
 ·intro h
  have hlt := ok_lt h
  have hbd := ok_bd h
  have h0 := h
  unfold TC.ok at h0
  simp only [Bool.and_eq_true] at h0
  obtain ⟨⟨⟨⟨h1, h2⟩, h3⟩, h4⟩, h5⟩ := h0
  unfold TC.sizeB at h1
  simp only [Bool.and_eq_true, decide_eq_true_eq] at h1
  have hrel : ∀ (i : Nat) (x : RC), t.recs[i]? = some x → relB t.next t.recs i x = true := fun i x hx => allAt_at h5 hx
  refine ⟨inB_iff.1 h1.1.1, hbd.many, ?_, h2, h3, fun x hx => ok_alone h hx, hlt, ids_iff.1 fun i x hx => ?_, fun x hx => ?_, fun x hx => ?_⟩
  ·have := inB_iff.1 h1.2
   omega
  ·have := hrel i x hx
   unfold relB at this
   have h6 := (Bool.and_eq_true_iff.1 (Bool.and_eq_true_iff.1 this).1).1
   simpa using h6
  ·obtain ⟨i, hi⟩ := List.getElem?_of_mem hx
   have := hrel i x hi
   unfold relB at this
   simpa using (Bool.and_eq_true_iff.1 (Bool.and_eq_true_iff.1 this).1).2
  ·obtain ⟨i, hi⟩ := List.getElem?_of_mem hx
   have := hrel i x hi
   unfold relB at this
   exact (kinB_iff hlt).1 (Bool.and_eq_true_iff.1 this).2
 ·intro h
  refine ok_all ?_ h.cur h.lives (allAt_all fun i x hx => ?_) (allAt_all fun i x hx => ?_)
  ·unfold TC.sizeB
   rw [inB_iff.2 h.next, inB_iff.2 (by have := h.devs; omega), decide_eq_true (by have := h.many; omega)]
   rfl
  ·unfold eachB
   rw [h.alone x (List.mem_of_getElem? hx), less_step.2 h.lt i x hx]
   rfl
  ·unfold relB
   rw [ids_iff.2 h.ids i x hx, decide_eq_true (h.low x (List.mem_of_getElem? hx)), (kinB_iff h.lt).2 (h.kin x (List.mem_of_getElem? hx))]
   rfl
end Go.Proofs.YtifajcblbedcoaaGreat
namespace Go.Proofs.YtifajcblbedcoaaGreat
set_option linter.unusedVariables false
set_option linter.unusedSimpArgs false
open Go.RowKit Hp
theorem kinP.mono {l l' : List RC} {x : RC} (h : kinP l x) (hs : ∀ y ∈ l, ∃ y' ∈ l', y'.name = y.name ∧ y'.id = y.id ∧ y'.kind = y.kind) : kinP l' x := by
 unfold kinP at h ⊢
 split
 ·rename_i hk
  rw [if_pos hk] at h
  obtain ⟨v, hv, h1, h2⟩ := h
  obtain ⟨v', hv', q1, q2, _⟩ := hs v hv
  exact ⟨v', hv', q1.trans h1, q2.trans h2⟩
 ·rename_i hk
  rw [if_neg hk] at h
  rcases h with h | ⟨y, hy, h1, h2⟩
  ·exact .inl h
  ·obtain ⟨y', hy', _, q2, q3⟩ := hs y hy
   exact .inr ⟨y', hy', q2.trans h1, q3.trans h2⟩
theorem set_same {α : Type} {l : List α} {k : Nat} {a : α} (h : l[k]? = some a) : l.set k a = l := by
 obtain ⟨hk, rfl⟩ := List.getElem?_eq_some_iff.1 h
 exact List.set_getElem_self hk
theorem set_pair {α β : Type} {f : α → β} {S : β → β → Prop} {l : List α} {k : Nat} {v y : α} (hk : l[k]? = some v) (hf : f y = f v) (h : l.Pairwise fun a b => S (f a) (f b)) : (l.set k y).Pairwise fun a b => S (f a) (f b) := by
 rw [← List.pairwise_map (f := f)] at h ⊢
 rw [List.map_set, set_same (by rw [List.getElem?_map, hk, hf]; rfl)]
 exact h
theorem set_ok {t : TC} {k : Nat} {v y : RC} (h : OkP t) (hv : t.recs[k]? = some v) (hi : y.id = v.id) (hn : y.name = v.name) (hkd : y.kind = v.kind) (ho : y.own = v.own) (hg : y.origin = v.origin) (ha : y.aloneB = true) : OkP { t with recs := t.recs.set k y } := by
 have hvm := List.mem_of_getElem? hv
 have hlt : k < t.recs.length := (List.getElem?_eq_some_iff.1 hv).1
 have hmem : ∀ x ∈ t.recs.set k y, x ∈ t.recs ∨ x = y := fun x hx => List.mem_or_eq_of_mem_set hx
 have hym : y ∈ t.recs.set k y := List.mem_of_getElem? (List.getElem?_set_self hlt)
 have hsub : ∀ u ∈ t.recs, ∃ u' ∈ t.recs.set k y, u'.name = u.name ∧ u'.id = u.id ∧ u'.kind = u.kind := fun u hu => by
  obtain ⟨i, hu⟩ := List.getElem?_of_mem hu
  by_cases e : i = k
  ·subst e
   rw [hv] at hu
   cases hu
   exact ⟨y, hym, hn, hi, hkd⟩
  ·exact ⟨u, List.mem_of_getElem? (by rw [List.getElem?_set_ne (Ne.symm e)]; exact hu), rfl, rfl, rfl⟩
 refine ⟨h.next, by show (t.recs.set k y).length ≤ 16; rw [List.length_set]; exact h.many, h.devs, h.cur, h.lives, fun x hx => ?_, set_pair (f := fun r : RC => r.name) (S := fun a b => lessL a b = true) hv hn h.lt, set_pair (f := fun r : RC => r.id) (S := fun a b => a ≠ b) hv hi h.ids, fun x hx => ?_, fun x hx => ?_⟩
 ·rcases hmem x hx with hx | rfl
  ·exact h.alone x hx
  ·exact ha
 ·rcases hmem x hx with hx | rfl
  ·exact h.low x hx
  ·rw [hi]; exact h.low v hvm
 ·rcases hmem x hx with hx | rfl
  ·exact (h.kin x hx).mono hsub
  ·have := (h.kin v hvm).mono hsub
   unfold kinP at this ⊢
   rw [hkd, hn, ho, hg]
   exact this
theorem part_not_snap {s : List UInt8} (h : partB s = true) : snapB s = false := by unfold snapB; rw [part_split h]
end Go.Proofs.YtifajcblbedcoaaGreat
namespace Go.Proofs.YtifajcblbedcoaaGreat
set_option linter.unusedVariables false
set_option linter.unusedSimpArgs false
open Go.RowKit Hp
def Rt (x y : RC) : Prop := x.l = y.l ∧ x.b = y.b ∧ x.v = y.v ∧ x.S = y.S
theorem Rt.refl (x : RC) : Rt x x := ⟨rfl, rfl, rfl, rfl⟩
structure Keeps (t u : TC) (txg : Int) : Prop where
 ok : OkP u
 grow : (u.recs.length = t.recs.length ∧ u.next = t.next) ∨ (u.recs.length = t.recs.length + 1 ∧ u.next = t.next + 1) ∨ (u.recs.length + 1 = t.recs.length ∧ u.next = t.next)
 made : u.recs.length = t.recs.length + 1 → ∀ x ∈ u.recs, x.id = t.next → x.made = txg
def Froms (t u : TC) : Prop := ∀ x ∈ u.recs, ∃ y ∈ t.recs, Rt y x
def Tos (t u : TC) : Prop := ∀ y ∈ t.recs, ∃ x ∈ u.recs, Rt x y
theorem rec_mem {nm : List UInt8} {l : List RC} {x : RC} (h : recAt nm l = some x) : x ∈ l ∧ x.name = nm := ⟨List.mem_of_find?_eq_some h, by simpa using List.find?_some h⟩
theorem set_keeps {t : TC} {k : Nat} {v y : RC} (h : OkP t) (hv : t.recs[k]? = some v) (hi : y.id = v.id) (hn : y.name = v.name) (hkd : y.kind = v.kind) (ho : y.own = v.own) (hg : y.origin = v.origin) (ha : y.aloneB = true) (txg : Int) :
  Keeps t { t with recs := t.recs.set k y } txg ∧ ((∃ z ∈ t.recs, Rt z y) → Froms t { t with recs := t.recs.set k y }) ∧ (Rt y v → Tos t { t with recs := t.recs.set k y }) := by
 refine ⟨⟨set_ok h hv hi hn hkd ho hg ha, .inl ⟨List.length_set, rfl⟩, fun hh => ?_⟩, fun hf x hx => ?_, fun hf x hx => ?_⟩
 ·have hh' : (t.recs.set k y).length = t.recs.length + 1 := hh
  rw [List.length_set] at hh'
  omega
 ·rcases List.mem_or_eq_of_mem_set hx with hx | rfl
  ·exact ⟨x, hx, Rt.refl x⟩
  ·exact hf
 ·obtain ⟨j, hj⟩ := List.getElem?_of_mem hx
  by_cases e : j = k
  ·subst e
   rw [hv] at hj
   cases hj
   exact ⟨y, List.mem_of_getElem? (i := j) (by rw [List.getElem?_set_self (List.getElem?_eq_some_iff.1 hv).1]), hf⟩
  ·exact ⟨x, List.mem_of_getElem? (i := j) (by rw [List.getElem?_set_ne (Ne.symm e)]; exact hj), Rt.refl x⟩
theorem root_alone {r s : RC} (h : s.aloneB = true) (hr : Rt r s) : rootB (r.pv undef) = true := by
 unfold RC.aloneB at h
 have h3 : rootB (s.pv undef) = true := (Bool.and_eq_true_iff.1 (Bool.and_eq_true_iff.1 h).1).2
 unfold RC.pv at h3 ⊢
 rw [hr.1, hr.2.1, hr.2.2.1, hr.2.2.2]
 exact h3
theorem alone_mk {r : RC} (h1 : inB r.id 1 2147483647 = true) (h2 : inB r.size 1 64 = true) (h3 : inB r.made 1 2147483648 = true) (h4 : rootB (r.pv undef) = true) (h5 : r.kindB = true) : r.aloneB = true := by
 unfold RC.aloneB
 rw [h1, h2, h3, h4, h5]
 rfl
theorem alone_in {r : RC} (h : r.aloneB = true) : inB r.id 1 2147483647 = true ∧ inB r.size 1 64 = true ∧ inB r.made 1 2147483648 = true ∧ r.kindB = true := by
 unfold RC.aloneB at h
 simp only [Bool.and_eq_true] at h
 exact ⟨h.1.1.1.1, h.1.1.1.2, h.1.1.2, h.2⟩
theorem snap_part {s : List UInt8} (h : snapB s = true) : partB (splitL s).1 = true := by
 obtain ⟨a, b, e, _, ha, _⟩ := snap_form h
 rw [e]
 exact ha
theorem bad_no {e : Int} (h : (badR e).1 = 0) (he : e ≠ 0) : False := he h
theorem set_findN {t : TC} {nm : List UInt8} {r y : RC} (hr : recAt nm t.recs = some r) : ∃ k : Nat, t.recs[k]? = some r ∧ r.name = nm ∧ findN nm t.recs = (k : Int) ∧ setN nm t.recs y = t.recs.set k y := by
 rcases find_split (nm := nm) (l := t.recs) with ⟨h1, _⟩ | ⟨j, z, h1, h2, h3, _, h5⟩
 ·rw [h1] at hr
  cases hr
 ·rw [h2] at hr
  cases hr
  exact ⟨j, h1, h5, h3, by unfold setN; rw [h3]; rfl⟩
theorem roll_keeps {t : TC} {sp : List UInt8} (txg : Int) (h : OkP t) (hz : (rollT t sp).1 = 0) : Keeps t (rollT t sp).2 txg ∧ Froms t (rollT t sp).2 := by
 unfold rollT at hz ⊢
 by_cases hc : snapB sp = true
 ·rw [if_pos hc] at hz ⊢
  cases hv : recAt sp t.recs with
  | none => rw [hv] at hz; exact (bad_no (e := 6) hz (by decide)).elim
  | some s =>
   rw [hv] at hz
   simp only at hz ⊢
   split at hz
   next => exact (bad_no (e := 17) hz (by decide)).elim
   next hb =>
    rw [if_neg hb]
    obtain ⟨k, v, h1, h2, h3, h4, h5, h6⟩ := snap_vol (okP_iff.2 h) hc hv
    rw [h2]
    simp only
    obtain ⟨hm, he⟩ := rec_mem hv
    have has := h.alone s hm
    have hav := h.alone v (List.mem_of_getElem? h1)
    obtain ⟨k', q1, q2, q3, q4⟩ := set_findN (y := backR v s) h2
    rw [h3] at q3
    have ek : k' = k := by omega
    subst ek
    rw [q4]
    have hvk : v.kind = 1 ∧ partB v.name = true := by
     rcases alone_kind hav with q | ⟨_, n2⟩
     ·exact q
     ·rw [q2] at n2
      exact absurd (part_not_snap (snap_part hc)) (by rw [n2]; decide)
    have q := set_keeps (y := backR v s) h h1 rfl rfl rfl rfl rfl (alone_mk (alone_in hav).1 (alone_in has).2.1 (alone_in hav).2.2.1 (root_alone has ⟨rfl, rfl, rfl, rfl⟩) (by have e := (alone_in hav).2.2.2; unfold RC.kindB at e ⊢; rw [if_pos (by simp [hvk.1])] at e; rw [if_pos (by show (v.kind == 1) = true; simp [hvk.1])]; exact e)) txg
    exact ⟨q.1, q.2.1 ⟨s, hm, ⟨rfl, rfl, rfl, rfl⟩⟩⟩
 ·rw [if_neg hc] at hz
  exact (bad_no (e := 2) hz (by decide)).elim
theorem change_keeps {t : TC} {nm : List UInt8} {fine : Bool} {f : RC → RC} (txg : Int) (h : OkP t) (hf : ∀ v : RC, (f v).id = v.id ∧ (f v).name = v.name ∧ (f v).kind = v.kind ∧ (f v).own = v.own ∧ (f v).origin = v.origin) (ha : fine = true → ∀ v : RC, v.aloneB = true → v.kind = 1 → (f v).aloneB = true) (hz : (changeT t nm fine f).1 = 0) :
  Keeps t (changeT t nm fine f).2 txg ∧ ((∀ v, Rt (f v) v) → Froms t (changeT t nm fine f).2 ∧ Tos t (changeT t nm fine f).2) := by
 unfold changeT at hz ⊢
 by_cases hc : (fine && namedB nm) = true
 ·rw [if_pos hc] at hz ⊢
  cases hv : recAt nm t.recs with
  | none => rw [hv] at hz; exact (bad_no (e := 6) hz (by decide)).elim
  | some r =>
   rw [hv] at hz
   simp only at hz ⊢
   by_cases h2 : (r.kind == 2) = true
   ·rw [if_pos h2] at hz
    exact (bad_no (e := 18) hz (by decide)).elim
   ·rw [if_neg h2]
    simp only [Bool.and_eq_true] at hc
    obtain ⟨k, q1, q2, q3, q4⟩ := set_findN (y := f r) hv
    rw [q4]
    have hm := List.mem_of_getElem? q1
    have har := h.alone r hm
    have hk : r.kind = 1 := by
     rcases alone_kind har with q | q
     ·exact q.1
     ·rw [q.1] at h2; exact absurd rfl h2
    obtain ⟨f1, f2, f3, f4, f5⟩ := hf r
    have q := set_keeps (y := f r) h q1 f1 f2 f3 f4 f5 (ha hc.1 r har hk) txg
    exact ⟨q.1, fun hr => ⟨q.2.1 ⟨r, hm, by have e := hr r; exact ⟨e.1.symm, e.2.1.symm, e.2.2.1.symm, e.2.2.2.symm⟩⟩, q.2.2 (hr r)⟩⟩
 ·rw [if_neg hc] at hz
  exact (bad_no (e := 2) hz (by decide)).elim
theorem kindB_turn {r : RC} {sz q s : Int} {l : List (Int × Int)} {b v : Int} {S : List UInt8} (h : r.kindB = true) (k : r.kind = 1) (hq : inB q 0 64 = true) (hs : inB s 0 64 = true) : RC.kindB { r with size := sz, quota := q, reserve := s, l := l, b := b, v := v, S := S } = true := by
 unfold RC.kindB at h ⊢
 rw [if_pos (by simp [k])] at h
 rw [if_pos (by show (r.kind == 1) = true; simp [k])]
 simp only [Bool.and_eq_true] at h ⊢
 exact ⟨⟨h.1.1, hq⟩, hs⟩
theorem quota_in {r : RC} (h : r.kindB = true) (k : r.kind = 1) : inB r.quota 0 64 = true ∧ inB r.reserve 0 64 = true := by
 unfold RC.kindB at h
 rw [if_pos (by simp [k])] at h
 simp only [Bool.and_eq_true] at h
 exact ⟨h.1.2, h.2⟩
theorem rootT_keeps {t : TC} {nm : List UInt8} {p : PV} (txg : Int) (h : OkP t) (hz : (rootT t nm p).1 = 0) : Keeps t (rootT t nm p).2 txg := by
 have q := change_keeps (fine := rootB p) (f := fun v => { v with l := p.l, b := p.b, v := p.v, S := p.S }) txg h (fun v => ⟨rfl, rfl, rfl, rfl, rfl⟩) (fun hc v hv hk => alone_mk (alone_in hv).1 (alone_in hv).2.1 (alone_in hv).2.2.1 hc (kindB_turn (alone_in hv).2.2.2 hk (quota_in (alone_in hv).2.2.2 hk).1 (quota_in (alone_in hv).2.2.2 hk).2)) hz
 exact q.1
end Go.Proofs.YtifajcblbedcoaaGreat
namespace Go.Proofs.YtifajcblbedcoaaGreat
set_option linter.unusedVariables false
set_option linter.unusedSimpArgs false
open Go.RowKit Hp
attribute [local irreducible] Go.Calls Go.wpList
set_option maxRecDepth 100000
set_option maxHeartbeats 8000000
structure InP (P : List HA) (t : TC) (ar al : Option Addr) (cr cl : Nat) (xs : List (Value × RC)) : Prop where
 rr : HA.row (.slice ar xs.length cr) 53 44 xs.length (recsV xs) ∈ P
 ll : HA.row (.slice al t.lives.length cl) 3 1 t.lives.length (numsV t.lives) ∈ P
 roots : ∀ x ∈ xs, rootH x ∈ P
 ok : Okx xs t
theorem InP.mono {P P' : List HA} {t : TC} {ar al : Option Addr} {cr cl : Nat} {xs : List (Value × RC)} (h : InP P t ar al cr cl xs) (hs : ∀ y ∈ P, y ∈ P') : InP P' t ar al cr cl xs := ⟨hs _ h.rr, hs _ h.ll, fun x hx => hs _ (h.roots x hx), h.ok⟩
theorem InP.own {P : List HA} {t : TC} {ar al : Option Addr} {cr cl : Nat} {xs : List (Value × RC)} (h : InP P t ar al cr cl xs) : OwnX P xs := fun x hx => ⟨h.roots x hx, h.ok.ok x hx⟩
theorem InP.recs {w0 w : World} {M : List Nat} {B P : List HA} {t : TC} {ar al : Option Addr} {cr cl : Nat} {xs : List (Value × RC)} (h : InP P t ar al cr cl xs) (hst : St w0 M w (B ++ P)) : RecsIn w (.slice ar xs.length cr) xs.length xs :=
 recs_inL hst (List.mem_append_right _ h.rr) rfl (h.own.sub fun _ hy => List.mem_append_right _ hy)
theorem InP.tab {w0 w : World} {M : List Nat} {B P : List HA} {t : TC} {ar al : Option Addr} {cr cl : Nat} {xs : List (Value × RC)} (h : InP P t ar al cr cl xs) (hst : St w0 M w (B ++ P)) (hb : t.recs.length ≤ 1000000 ∧ t.lives.length ≤ 1000000) : TabIn w t ar xs.length cr al t.lives.length cl xs :=
 ⟨h.recs hst, h.ok.eq, Rd.row hst (List.mem_append_right _ h.ll), rfl, by rw [h.ok.len]; exact hb.1, hb.2⟩
theorem ret_pool {w w1 w2 : World} {B P : List HA} {z : Int} {u : TC} {e : Ending} (hst : St w [] w1 (B ++ P)) (h : TabRet (z, u) w1 e w2) :
  ∃ (a a' : Option Addr) (c c' : Nat) (P' : List HA) (xs' : List (Value × RC)), e = .returned (.tuple #[.agg (tabC u (.slice a xs'.length c) (.slice a' u.lives.length c')).toArray, .int .i64 z]) ∧ InP P' u a a' c c' xs' ∧ (∀ y ∈ P, y ∈ P') ∧ St w [] w2 (B ++ P') := by
 obtain ⟨rv, lv, xs, rfl, hok, h4⟩ := h
 have h5 := St.call hst h4
 obtain ⟨a9, c9, rfl, _, _⟩ := rowS [] h5
 obtain ⟨a8, c8, rfl, _, _⟩ := rowS [_] h5
 refine ⟨a9, a8, c9, c8, (.row (.slice a9 xs.length c9) 53 44 xs.length (recsV xs) :: .row (.slice a8 u.lives.length c8) 3 1 u.lives.length (numsV u.lives) :: xs.map rootH) ++ P, xs, rfl, ⟨by simp, by simp, fun x hx => List.mem_append_left _ (.tail _ (.tail _ (List.mem_map_of_mem hx))), hok⟩, fun y hy => List.mem_append_right _ hy, St.perm h5 ?_⟩
 rw [← List.append_assoc, ← List.append_assoc]
 exact List.perm_append_comm.append_right P
def namesOf (t : TC) : List (List UInt8) := t.recs.map (·.name)
def strsW (l : List (List UInt8)) : List Value := l.map fun s => .string ⟨s.toArray⟩
theorem strsW_get {l : List (List UInt8)} {k : Nat} {s : List UInt8} (h : l[k]? = some s) : (strsW l)[k]? = some (.string ⟨s.toArray⟩) := by simp [strsW, h]
attribute [local go_sem ↓] heldInt heldInts heldRecs heldRec heldStr heldTab heldPtr heldFn
instance slStr : TySl Tryz.prog 82 9 := ⟨by kernel_rfl⟩
instance elStr : TyE Tryz.prog 9 1 16 := ⟨by kernel_rfl⟩
theorem list_no {l k : List (List UInt8)} {j : Nat} {a b : List UInt8} (ha : l[j]? = some a) (hb : k[j]? = some b) (h : a ≠ b) : (l == k) = false := by
 rw [beq_eq_false_iff_ne]
 rintro rfl
 rw [ha] at hb
 exact h (Option.some.inj hb)
theorem list_all {l k : List (List UInt8)} (hl : l.length = k.length) (h : ∀ (j : Nat) (a b : List UInt8), l[j]? = some a → k[j]? = some b → a = b) : (l == k) = true := by
 rw [beq_iff_eq]
 apply List.ext_getElem hl
 intro j h1 h2
 exact h j _ _ (List.getElem?_eq_getElem h1) (List.getElem?_eq_getElem h2)
theorem list_len {l k : List (List UInt8)} (h : l.length ≠ k.length) : (l == k) = false := by
 rw [beq_eq_false_iff_ne]
 exact fun e => h (by rw [e])
theorem names13_any (t : TC) (ar : Option Addr) (nr cr : Nat) (lv : Value) (xs : List (Value × RC)) (so' : Option Addr) (k ck : Nat) (want : List (List UInt8)) (w : World) (hR : RecsIn w (.slice ar nr cr) nr xs) (he : xs.map (·.2) = t.recs) (hb : nr ≤ 1000) (hs : Rd w (.slice so' k ck) 1 k (strsW want)) (hk : want.length = k) (hkb : k ≤ 1000) :
  Calls Tryz.prog 24 #[.agg (tabC t (.slice ar nr cr) lv).toArray, .slice so' k ck] w fun e w' => e = .returned (.bool (namesOf t == want)) ∧ St w [] w' [] := by
 have hst0 := St.refl w
 have HR := hid hR
 have HSR := hid hs
 have HK := hid hk
 have hnl : (namesOf t).length = nr := by unfold namesOf; rw [List.length_map, ← he, List.length_map, hR.len]
 have HNL := hid hnl
 have HNE := hid he
 obtain ⟨E, hE⟩ : ∃ E, E = (namesOf t == want) := ⟨_, rfl⟩
 rw [← hE]
 have HE := hid hE
 clear hR hs hk hE hnl he
 by_cases hnk : nr = k
 ·subst hnk
  have d1 : ((nr : Int) != (nr : Int)) = false := by simp
  go_enter Tryz.func24, Tryz.ntmps24
  go_wp2_with (first | go_big_skip | go_big_guard | (refine wl_boxA hst0 rfl rfl rfl ?_; intro g2 w1 hst; clear hst0) | (refine wl_loadE rfl rfl rfl ?_; refine ⟨_, Loads.at [] hst rfl, ?_⟩))
  go_loopw [5] (fun i wr => ∃ j : Nat, j ≤ nr ∧ i = .int .i64 (j : Int) ∧ St w [] wr [.blk g2 27 (tabC t (.slice ar nr cr) lv)] ∧ Hid (∀ (i : Nat) (a b : List UInt8), i < j → (namesOf t)[i]? = some a → want[i]? = some b → a = b)) (fun i _ => nr - (intOf i).toNat)
  case atStart => exact ⟨0, Nat.zero_le _, rfl, hst, hid (fun i a b hi _ _ => by omega)⟩
  case round =>
   clear hst
   obtain ⟨j, hj, rfl, hst, HP⟩ := hrel
   by_cases hlt : j < nr
   ·have e1 : decide ((j : Int) < (nr : Int)) = true := decide_eq_true (by omega)
    have z1 : IntKind.i64.wrap ((j : Int) + 1) = (j : Int) + 1 := IntWalk.i64_in _ (by omega)
    obtain ⟨x, lb, lo, hx, har, hin, hr⟩ := RecsIn.at HR.out hlt
    subst har
    obtain ⟨s, hs⟩ : ∃ s, want[j]? = some s := ⟨_, List.getElem?_eq_getElem (by rw [HK.out]; exact hlt)⟩
    obtain ⟨sb, so, hso, hr2⟩ := Rd.at HSR.out hlt
    subst hso
    have HX : Hid ((namesOf t)[j]? = some x.2.name) := hid (by unfold namesOf; rw [← HNE.out, List.getElem?_map, List.getElem?_map, hx]; rfl)
    have HS := hid hs
    have HNX := hid (show w.cell? ⟨lb, lo + j * 44 + 1, none⟩ = some (.string ⟨x.2.name.toArray⟩) from hr 1 _ rfl)
    have HNS := hid (show w.cell? ⟨sb, so + j, none⟩ = some (.string ⟨s.toArray⟩) from hr2 j _ (strsW_get hs))
    clear hx hs hr hr2 hin
    go_wp2_with (first | go_big_skip | go_big_guard | fail)
    cases hq : (x.2.name == s)
    ·have HQ := hid hq
     have hX := hst.drew
     clear hst
     refine wp_region_held_drew (S := (fun w' => (loadVarH 22 ⟨g2, 1, none⟩).run Tryz.prog w' = .ok (.slice (some ⟨lb, lo, none⟩) nr cr) w' ∧ (loadVarH 9 ⟨lb, lo + j * 44 + 1, none⟩).run Tryz.prog w' = .ok (.string ⟨x.2.name.toArray⟩) w' ∧ (loadVarH 9 ⟨sb, so + j, none⟩).run Tryz.prog w' = .ok (.string ⟨s.toArray⟩) w')) (by kernel_rfl) (by exact ⟨ldS [] hX rfl, ldO hX HNX.out, ldO hX HNS.out⟩) (fun hHeld => ?_)
     refine tq 0 18 ?_
     refine tq 2 20 ?_
     refine tq 6 24 ?_
     refine tq 7 25 ?_
     refine tq 1 19 ?_
     refine tq 8 26 ?_
     refine tq 3 21 ?_
     refine tq 9 27 ?_
     refine tq 4 22 ?_
     refine tq 5 23 ?_
     refine tq 10 28 ?_
     refine wpAnyH_done (by kernel_rfl) ?_ _
     clear hHeld
     go_wp2_with (first | go_big_skip | go_big_guard | fail)
     go_ret
     exact ⟨by rw [HE.out, list_no HX.out HS.out (by simpa using HQ.out)]; rfl, hX.nil⟩
    ·have HQ := hid hq
     have hX := hst.drew
     clear hst
     refine wp_region_held_drew (S := (fun w' => (loadVarH 22 ⟨g2, 1, none⟩).run Tryz.prog w' = .ok (.slice (some ⟨lb, lo, none⟩) nr cr) w' ∧ (loadVarH 9 ⟨lb, lo + j * 44 + 1, none⟩).run Tryz.prog w' = .ok (.string ⟨x.2.name.toArray⟩) w' ∧ (loadVarH 9 ⟨sb, so + j, none⟩).run Tryz.prog w' = .ok (.string ⟨s.toArray⟩) w')) (by kernel_rfl) (by exact ⟨ldS [] hX rfl, ldO hX HNX.out, ldO hX HNS.out⟩) (fun hHeld => ?_)
     refine tq 0 18 ?_
     refine tq 2 20 ?_
     refine tq 6 24 ?_
     refine tq 7 25 ?_
     refine tq 1 19 ?_
     refine tq 8 26 ?_
     refine tq 3 21 ?_
     refine tq 9 27 ?_
     refine tq 4 22 ?_
     refine tq 5 23 ?_
     refine tq 10 28 ?_
     refine wpAnyH_done (by kernel_rfl) ?_ _
     clear hHeld
     go_wp2_with (first | go_big_skip | go_big_guard | fail)
     go_roundw
     case rel => exact ⟨j + 1, by omega, rfl, hX, hid (fun i a b hi ha hb => by
      by_cases e : i = j
      ·subst e
       rw [HX.out] at ha; rw [HS.out] at hb
       cases ha; cases hb
       simpa using HQ.out
      ·exact HP.out i a b (by omega) ha hb)⟩
     case measure => simp [intOf]; omega
   ·have e1 : decide ((j : Int) < (nr : Int)) = false := decide_eq_false (by omega)
    go_wp2_with (first | go_big_skip | go_big_guard | fail)
    go_ret
    exact ⟨by rw [HE.out, list_all (by rw [HNL.out, HK.out]) (fun i a b ha hb => HP.out i a b (by have := (List.getElem?_eq_some_iff.1 ha).1; have := HNL.out; omega) ha hb)]; rfl, hst.nil⟩
 ·have d1 : ((nr : Int) != (k : Int)) = true := by rw [bne_iff_ne]; omega
  have HNN := hid hnk
  clear hnk
  go_enter Tryz.func24, Tryz.ntmps24
  go_wp2_with (first | go_big_skip | go_big_guard | (refine wl_boxA hst0 rfl rfl rfl ?_; intro g2 w1 hst; clear hst0) | (refine wl_loadE rfl rfl rfl ?_; refine ⟨_, Loads.at [] hst rfl, ?_⟩))
  go_ret
  exact ⟨by rw [HE.out, list_len (by rw [HNL.out, HK.out]; exact HNN.out)]; rfl, hst.nil⟩
end Go.Proofs.YtifajcblbedcoaaGreat
namespace Go.Proofs.YtifajcblbedcoaaGreat
set_option linter.unusedVariables false
set_option linter.unusedSimpArgs false
open Go.RowKit Hp
attribute [local irreducible] Go.Calls Go.wpList
set_option maxHeartbeats 1000000
end Go.Proofs.YtifajcblbedcoaaGreat
namespace Go.Proofs.YtifajcblbedcoaaGreat
set_option linter.unusedVariables false
set_option linter.unusedSimpArgs false
open Go.RowKit Hp
attribute [local irreducible] Go.Calls Go.wpList
set_option maxRecDepth 100000
set_option maxHeartbeats 8000000
attribute [local go_sem ↓] heldInt heldInts heldCur
theorem wl_storeC {ops : Array Oper} {rest : List Oper} {o : Oper} {a : Act} {w0 w : World} {M : List Nat} {Q : Exit → Act → World → Prop} {T T' : TypeId} {x y : Operand} {g off : Nat} {v : Value} {cs cs' : List Value} (L1 : List HA) {L2 : List HA} (hst : St w0 M w (L1 ++ .blk g T' cs :: L2)) (hop : o.op = .store T x y)
  (hw : Region.wanted o (yielded ops a.tmps) = true) (hx : a.eval x = .pointer (some ⟨g, off, none⟩)) (hy : a.eval y = v) [hi : TyN Tryz.prog T 1] (hv : v.cells = #[v]) (h1 : v.oneCell' = true) (hf : off + 1 ≤ cs.length) (he : putAt cs off [v] = cs')
  (h : ∀ w', St w0 M w' (L1 ++ .blk g T' cs' :: L2) → wpList Tryz.prog ops Q rest (a.put o.dst undef) w') : wpList Tryz.prog ops Q (o :: rest) a w := by
 refine wl_store L1 hst hop hw hx hy (n := 1) (by rw [hv]; rfl) (by rw [hv]; simpa using h1) (by rw [hv]; exact hf) fun w' hst' => h w' ?_
 rw [← he]
 rw [hv] at hst'
 exact hst'
theorem row_tidy {w0 w : World} {M : List Nat} (L1 : List HA) {L2 : List HA} {ao : Option Addr} {n c : Nat} {T : TypeId} {sz : Nat} {xs : List Value} (h : St w0 M w (L1 ++ .row (.slice ao (0 + n) c) T sz (0 + n) (List.take (0 * sz) [] ++ xs) :: L2)) : St w0 M w (L1 ++ .row (.slice ao n c) T sz n xs :: L2) := by
 simpa using h
theorem refOwn13_any (t : TC) (ar al : Option Addr) (nr cr nl cl : Nat) (xs : List (Value × RC)) (w : World) (ht : TabIn w t ar nr cr al nl cl xs) (hn : nr ≤ 100) (hl : nl ≤ 100) (ha : ∀ r ∈ t.recs, r.l.length ≤ 100000) :
  Calls Tryz.prog 94 #[.agg (tabC t (.slice ar nr cr) (.slice al nl cl)).toArray] w fun e w' => ∃ ro rc lo lc ys, e = .returned (.agg (tabC t (.slice ro nr rc) (.slice lo nl lc)).toArray) ∧ ys.map (·.2) = t.recs ∧ St w [] w' (.row (.slice ro nr rc) 53 44 nr (recsV ys) :: .row (.slice lo nl lc) 3 1 nl (numsV t.lives) :: rootRows 102 ys) := by
 have hst0 := St.refl w
 have HT := hid ht
 clear ht
 go_enter Tryz.func94, Tryz.ntmps94
 go_upto_region 1 with (first | go_big_skip | go_big_guard | (refine wl_boxA hst0 rfl rfl rfl ?_; intro g1 w1 hst1; clear hst0) | (refine wl_alloc hst1 rfl rfl ?_; intro g2 w2 hst; clear hst1))
 (try simp only [Act.put, List.setIfInBounds_toArray, List.set_cons_zero, List.set_cons_succ])
 go_cut [3, 10, 13, 14] (fun a b c d wx => ∃ g3 lo lc, a = .pointer (some ⟨g3, 0, none⟩) ∧ St w [] wx (.blk g3 27 [.int .i64 t.next, .slice none 0 0, .int .i64 t.kind, .int .i64 t.dev, .int .i64 t.at_, .int .i64 t.txg, .slice lo nl lc] :: .row (.slice none 0 0) 53 44 0 (recsV []) :: .row (.slice lo nl lc) 3 1 nl (numsV t.lives) :: .blk g1 27 (tabC t (.slice ar nr cr) (.slice al nl cl)) :: .blk g2 27 tab0 :: rootRows 102 []))
 case first =>
  have hX := hst.drew
  clear hst
  refine wp_region_held_drew (S := (fun w' => (loadVarH 3 ⟨g1, 0, none⟩).run Tryz.prog w' = .ok (.int .i64 t.next) w' ∧ (loadVarH 24 ⟨g1, 2, none⟩).run Tryz.prog w' = .ok (.agg (List.toArray ([.int .i64 t.kind, .int .i64 t.dev, .int .i64 t.at_, .int .i64 t.txg]))) w' ∧ (loadVarH 25 ⟨g1, 6, none⟩).run Tryz.prog w' = .ok (.slice al nl cl) w')) (by kernel_rfl) (by exact ⟨ldS [_] hX rfl, ldA ([.int .i64 t.kind, .int .i64 t.dev, .int .i64 t.at_, .int .i64 t.txg]) [_] hX (rfl) (rfl), ldS [_] hX rfl⟩) (fun hHeld => ?_)
  refine tq 0 6 ?_
  refine tq 2 8 ?_
  refine tq 5 11 ?_
  refine tq 1 7 ?_
  refine tq 3 9 ?_
  refine tq 6 12 ?_
  refine wpAnyH_ready (rs := [4, 9]) (by kernel_rfl) (by simp) ?_
  refine (AllReadyH.cons (o := ⟨some 10, _, _, _, _, _⟩) rfl (fun K hK => ?_) (AllReadyH.cons (o := ⟨some 3, _, _, _, _, _⟩) rfl (fun K hK => ?_) AllReadyH.nil))
  ·rw [if_pos (by rfl)]
   refine ow_of_wl (ops := #[]) (by rfl) ?_
   apply wl_bsX [] [] hX
   ·rfl
   ·rfl
   ·exact rfl
   ·exact rfl
   ·infer_instance
   ·infer_instance
   ·rfl
   ·rfl
   ·rfl
   intro g7 w8 h8
   have hP1 := St.toRow (n := 0) (cap := 0) (sz := 1) h8 rfl (by decide) (by decide)
   clear h8
   refine q0_nil ?_
   refine hK.out _ _ ?_ (fun hHeld => ?_)
   ·exact ⟨ldS [_, _] hP1 rfl, ldA ([.int .i64 t.kind, .int .i64 t.dev, .int .i64 t.at_, .int .i64 t.txg]) [_, _] hP1 (rfl) (rfl), ldS [_, _] hP1 rfl⟩
   clear hK K
   (try simp only [Act.put, List.setIfInBounds_toArray, List.set_cons_zero, List.set_cons_succ])
   refine wpAnyH_ready (rs := [7, 9]) (by kernel_rfl) (by simp) ?_
   refine (AllReadyH.cons (o := ⟨some 13, _, _, _, _, _⟩) rfl (fun K hK => ?_) (AllReadyH.cons (o := ⟨some 3, _, _, _, _, _⟩) rfl (fun K hK => ?_) AllReadyH.nil))
   ·rw [if_pos (by rfl)]
    refine ow_of_wl (ops := #[]) (by rfl) ?_
    apply wl_appX (m := nl) (ys := numsV t.lives) [] hP1
    ·rfl
    ·rfl
    ·exact rfl
    ·exact rfl
    ·infer_instance
    ·infer_instance
    ·infer_instance
    ·exact Rd.old hP1 HT.out.L
    ·exact ones_numsV _
    ·exact ⟨by decide, by unfold maxLen; omega, by omega⟩
    intro lv2 w6 hP2 _
    obtain ⟨lo, lc, rfl, _, _⟩ := row_sliceC [] hP2
    refine q0_nil ?_
    refine hK.out _ _ ?_ (fun hHeld => ?_)
    ·exact ⟨ldS [_, _] hP2 rfl, ldA ([.int .i64 t.kind, .int .i64 t.dev, .int .i64 t.at_, .int .i64 t.txg]) [_, _] hP2 (rfl) (rfl), ldS [_, _] hP2 rfl⟩
    clear hK K
    (try simp only [Act.put, List.setIfInBounds_toArray, List.set_cons_zero, List.set_cons_succ])
    refine wpAnyH_ready (rs := [8, 9]) (by kernel_rfl) (by simp) ?_
    refine (AllReadyH.cons (o := ⟨some 14, _, _, _, _, _⟩) rfl (fun K hK => ?_) (AllReadyH.cons (o := ⟨some 3, _, _, _, _, _⟩) rfl (fun K hK => ?_) AllReadyH.nil))
    ·rw [if_pos (by rfl)]
     refine ow_of_wl (ops := #[]) (by rfl) ?_
     refine wl_buildX (cs := [.int .i64 t.next, .slice none 0 0, .int .i64 t.kind, .int .i64 t.dev, .int .i64 t.at_, .int .i64 t.txg, .slice lo (0 + nl) lc]) [(0, .int .i64 t.next), (2, .agg #[.int .i64 t.kind, .int .i64 t.dev, .int .i64 t.at_, .int .i64 t.txg]), (3, .slice lo (0 + nl) lc)] rfl rfl (by exact rfl) (bldT3 _ _ _ _ _ _ _ _) ?_
     refine q0_nil ?_
     refine hK.out _ _ ?_ (fun hHeld => ?_)
     ·exact ⟨ldS [_, _] hP2 rfl, ldA ([.int .i64 t.kind, .int .i64 t.dev, .int .i64 t.at_, .int .i64 t.txg]) [_, _] hP2 (rfl) (rfl), ldS [_, _] hP2 rfl⟩
     clear hK K
     (try simp only [Act.put, List.setIfInBounds_toArray, List.set_cons_zero, List.set_cons_succ])
     refine wpAnyH_ready (rs := [9]) (by kernel_rfl) (by simp) ?_
     refine (AllReadyH.cons (o := ⟨some 3, _, _, _, _, _⟩) rfl (fun K hK => ?_) AllReadyH.nil)
     rw [if_pos (by rfl)]
     refine ow_of_wl (ops := #[]) (by rfl) ?_
     refine wl_alloc hP2 rfl rfl ?_
     intro g3 w7 hP3
     refine q0_nil ?_
     refine hK.out _ _ ?_ (fun hHeld => ?_)
     ·exact ⟨ldS [_, _, _] hP3 rfl, ldA ([.int .i64 t.kind, .int .i64 t.dev, .int .i64 t.at_, .int .i64 t.txg]) [_, _, _] hP3 (rfl) (rfl), ldS [_, _, _] hP3 rfl⟩
     clear hK K
     (try simp only [Act.put, List.setIfInBounds_toArray, List.set_cons_zero, List.set_cons_succ])
     refine wpAnyH_ready (rs := [10]) (by kernel_rfl) (by simp) ?_
     refine (AllReadyH.cons (o := ⟨none, _, _, _, _, _⟩) rfl (fun K hK => ?_) AllReadyH.nil)
     rw [if_pos (by rfl)]
     refine ow_of_wl (ops := #[]) (by rfl) ?_
     refine wl_storeA [] hP3 rfl rfl rfl rfl rfl rfl rfl ?_
     intro w7 hP4
     refine q0_nil ?_
     refine hK.out _ _ ?_ (fun hHeld => ?_)
     ·exact ⟨ldS [_, _, _] hP4 rfl, ldA ([.int .i64 t.kind, .int .i64 t.dev, .int .i64 t.at_, .int .i64 t.txg]) [_, _, _] hP4 (rfl) (rfl), ldS [_, _, _] hP4 rfl⟩
     clear hK K
     (try simp only [Act.put, List.setIfInBounds_toArray, List.set_cons_zero, List.set_cons_succ])
     refine wpAnyH_done (by kernel_rfl) ?_ _
     clear hHeld
     have hQ0 := St.nilRow 53 44 hP4
     have hQ1 : St w [] w7 (.blk g3 27 [.int .i64 t.next, .slice none 0 0, .int .i64 t.kind, .int .i64 t.dev, .int .i64 t.at_, .int .i64 t.txg, .slice lo nl lc] :: .row (.slice none 0 0) 53 44 0 (recsV []) :: .row (.slice lo nl lc) 3 1 nl (numsV t.lives) :: .blk g1 27 (tabC t (.slice ar nr cr) (.slice al nl cl)) :: .blk g2 27 tab0 :: rootRows 102 []) := by
      have h := (St.front (L1 := [_, _, _, _]) (St.front (L1 := [_, _, _]) (St.front (L1 := [_, _, _, _]) (St.front (L1 := [_, _, _, _]) (St.front (L1 := [_, _, _]) hQ0)))))
      rw [Nat.zero_add, List.take_zero, List.nil_append] at h
      exact h
     clear hQ0 hP4
     rw [Nat.zero_add]
     go_wp2_with (first | go_big_skip | go_big_guard | fail)
     go_meet
     exact ⟨g3, lo, lc, rfl, hQ1⟩
    ·rw [if_pos (by rfl)]
     refine ow_of_wl (ops := #[]) (by rfl) ?_
     refine wl_alloc hP2 rfl rfl ?_
     intro g3 w7 hP5
     refine q0_nil ?_
     refine hK.out _ _ ?_ (fun hHeld => ?_)
     ·exact ⟨ldS [_, _, _] hP5 rfl, ldA ([.int .i64 t.kind, .int .i64 t.dev, .int .i64 t.at_, .int .i64 t.txg]) [_, _, _] hP5 (rfl) (rfl), ldS [_, _, _] hP5 rfl⟩
     clear hK K
     (try simp only [Act.put, List.setIfInBounds_toArray, List.set_cons_zero, List.set_cons_succ])
     refine wpAnyH_ready (rs := [8]) (by kernel_rfl) (by simp) ?_
     refine (AllReadyH.cons (o := ⟨some 14, _, _, _, _, _⟩) rfl (fun K hK => ?_) AllReadyH.nil)
     rw [if_pos (by rfl)]
     refine ow_of_wl (ops := #[]) (by rfl) ?_
     refine wl_buildX (cs := [.int .i64 t.next, .slice none 0 0, .int .i64 t.kind, .int .i64 t.dev, .int .i64 t.at_, .int .i64 t.txg, .slice lo (0 + nl) lc]) [(0, .int .i64 t.next), (2, .agg #[.int .i64 t.kind, .int .i64 t.dev, .int .i64 t.at_, .int .i64 t.txg]), (3, .slice lo (0 + nl) lc)] rfl rfl (by exact rfl) (bldT3 _ _ _ _ _ _ _ _) ?_
     refine q0_nil ?_
     refine hK.out _ _ ?_ (fun hHeld => ?_)
     ·exact ⟨ldS [_, _, _] hP5 rfl, ldA ([.int .i64 t.kind, .int .i64 t.dev, .int .i64 t.at_, .int .i64 t.txg]) [_, _, _] hP5 (rfl) (rfl), ldS [_, _, _] hP5 rfl⟩
     clear hK K
     (try simp only [Act.put, List.setIfInBounds_toArray, List.set_cons_zero, List.set_cons_succ])
     refine wpAnyH_ready (rs := [10]) (by kernel_rfl) (by simp) ?_
     refine (AllReadyH.cons (o := ⟨none, _, _, _, _, _⟩) rfl (fun K hK => ?_) AllReadyH.nil)
     rw [if_pos (by rfl)]
     refine ow_of_wl (ops := #[]) (by rfl) ?_
     refine wl_storeA [] hP5 rfl rfl rfl rfl rfl rfl rfl ?_
     intro w7 hP6
     refine q0_nil ?_
     refine hK.out _ _ ?_ (fun hHeld => ?_)
     ·exact ⟨ldS [_, _, _] hP6 rfl, ldA ([.int .i64 t.kind, .int .i64 t.dev, .int .i64 t.at_, .int .i64 t.txg]) [_, _, _] hP6 (rfl) (rfl), ldS [_, _, _] hP6 rfl⟩
     clear hK K
     (try simp only [Act.put, List.setIfInBounds_toArray, List.set_cons_zero, List.set_cons_succ])
     refine wpAnyH_done (by kernel_rfl) ?_ _
     clear hHeld
     have hQ0 := St.nilRow 53 44 hP6
     have hQ1 : St w [] w7 (.blk g3 27 [.int .i64 t.next, .slice none 0 0, .int .i64 t.kind, .int .i64 t.dev, .int .i64 t.at_, .int .i64 t.txg, .slice lo nl lc] :: .row (.slice none 0 0) 53 44 0 (recsV []) :: .row (.slice lo nl lc) 3 1 nl (numsV t.lives) :: .blk g1 27 (tabC t (.slice ar nr cr) (.slice al nl cl)) :: .blk g2 27 tab0 :: rootRows 102 []) := by
      have h := (St.front (L1 := [_, _, _, _]) (St.front (L1 := [_, _, _]) (St.front (L1 := [_, _, _, _]) (St.front (L1 := [_, _, _, _]) (St.front (L1 := [_, _, _]) hQ0)))))
      rw [Nat.zero_add, List.take_zero, List.nil_append] at h
      exact h
     clear hQ0 hP6
     rw [Nat.zero_add]
     go_wp2_with (first | go_big_skip | go_big_guard | fail)
     go_meet
     exact ⟨g3, lo, lc, rfl, hQ1⟩
   ·rw [if_pos (by rfl)]
    refine ow_of_wl (ops := #[]) (by rfl) ?_
    refine wl_alloc hP1 rfl rfl ?_
    intro g3 w7 hP7
    refine q0_nil ?_
    refine hK.out _ _ ?_ (fun hHeld => ?_)
    ·exact ⟨ldS [_, _, _] hP7 rfl, ldA ([.int .i64 t.kind, .int .i64 t.dev, .int .i64 t.at_, .int .i64 t.txg]) [_, _, _] hP7 (rfl) (rfl), ldS [_, _, _] hP7 rfl⟩
    clear hK K
    (try simp only [Act.put, List.setIfInBounds_toArray, List.set_cons_zero, List.set_cons_succ])
    refine wpAnyH_ready (rs := [7]) (by kernel_rfl) (by simp) ?_
    refine (AllReadyH.cons (o := ⟨some 13, _, _, _, _, _⟩) rfl (fun K hK => ?_) AllReadyH.nil)
    rw [if_pos (by rfl)]
    refine ow_of_wl (ops := #[]) (by rfl) ?_
    apply wl_appX (m := nl) (ys := numsV t.lives) [_] hP7
    ·rfl
    ·rfl
    ·exact rfl
    ·exact rfl
    ·infer_instance
    ·infer_instance
    ·infer_instance
    ·exact Rd.old hP7 HT.out.L
    ·exact ones_numsV _
    ·exact ⟨by decide, by unfold maxLen; omega, by omega⟩
    intro lv2 w6 hP8 _
    obtain ⟨lo, lc, rfl, _, _⟩ := row_sliceC [_] hP8
    refine q0_nil ?_
    refine hK.out _ _ ?_ (fun hHeld => ?_)
    ·exact ⟨ldS [_, _, _] hP8 rfl, ldA ([.int .i64 t.kind, .int .i64 t.dev, .int .i64 t.at_, .int .i64 t.txg]) [_, _, _] hP8 (rfl) (rfl), ldS [_, _, _] hP8 rfl⟩
    clear hK K
    (try simp only [Act.put, List.setIfInBounds_toArray, List.set_cons_zero, List.set_cons_succ])
    refine wpAnyH_ready (rs := [8]) (by kernel_rfl) (by simp) ?_
    refine (AllReadyH.cons (o := ⟨some 14, _, _, _, _, _⟩) rfl (fun K hK => ?_) AllReadyH.nil)
    rw [if_pos (by rfl)]
    refine ow_of_wl (ops := #[]) (by rfl) ?_
    refine wl_buildX (cs := [.int .i64 t.next, .slice none 0 0, .int .i64 t.kind, .int .i64 t.dev, .int .i64 t.at_, .int .i64 t.txg, .slice lo (0 + nl) lc]) [(0, .int .i64 t.next), (2, .agg #[.int .i64 t.kind, .int .i64 t.dev, .int .i64 t.at_, .int .i64 t.txg]), (3, .slice lo (0 + nl) lc)] rfl rfl (by exact rfl) (bldT3 _ _ _ _ _ _ _ _) ?_
    refine q0_nil ?_
    refine hK.out _ _ ?_ (fun hHeld => ?_)
    ·exact ⟨ldS [_, _, _] hP8 rfl, ldA ([.int .i64 t.kind, .int .i64 t.dev, .int .i64 t.at_, .int .i64 t.txg]) [_, _, _] hP8 (rfl) (rfl), ldS [_, _, _] hP8 rfl⟩
    clear hK K
    (try simp only [Act.put, List.setIfInBounds_toArray, List.set_cons_zero, List.set_cons_succ])
    refine wpAnyH_ready (rs := [10]) (by kernel_rfl) (by simp) ?_
    refine (AllReadyH.cons (o := ⟨none, _, _, _, _, _⟩) rfl (fun K hK => ?_) AllReadyH.nil)
    rw [if_pos (by rfl)]
    refine ow_of_wl (ops := #[]) (by rfl) ?_
    refine wl_storeA [] hP8 rfl rfl rfl rfl rfl rfl rfl ?_
    intro w7 hP9
    refine q0_nil ?_
    refine hK.out _ _ ?_ (fun hHeld => ?_)
    ·exact ⟨ldS [_, _, _] hP9 rfl, ldA ([.int .i64 t.kind, .int .i64 t.dev, .int .i64 t.at_, .int .i64 t.txg]) [_, _, _] hP9 (rfl) (rfl), ldS [_, _, _] hP9 rfl⟩
    clear hK K
    (try simp only [Act.put, List.setIfInBounds_toArray, List.set_cons_zero, List.set_cons_succ])
    refine wpAnyH_done (by kernel_rfl) ?_ _
    clear hHeld
    have hQ0 := St.nilRow 53 44 hP9
    have hQ1 : St w [] w7 (.blk g3 27 [.int .i64 t.next, .slice none 0 0, .int .i64 t.kind, .int .i64 t.dev, .int .i64 t.at_, .int .i64 t.txg, .slice lo nl lc] :: .row (.slice none 0 0) 53 44 0 (recsV []) :: .row (.slice lo nl lc) 3 1 nl (numsV t.lives) :: .blk g1 27 (tabC t (.slice ar nr cr) (.slice al nl cl)) :: .blk g2 27 tab0 :: rootRows 102 []) := by
     have h := (St.front (L1 := [_, _, _, _]) (St.front (L1 := [_, _, _]) (St.front (L1 := [_, _, _, _]) (St.front (L1 := [_, _, _, _]) (St.front (L1 := [_, _, _]) hQ0)))))
     rw [Nat.zero_add, List.take_zero, List.nil_append] at h
     exact h
    clear hQ0 hP9
    rw [Nat.zero_add]
    go_wp2_with (first | go_big_skip | go_big_guard | fail)
    go_meet
    exact ⟨g3, lo, lc, rfl, hQ1⟩
  ·rw [if_pos (by rfl)]
   refine ow_of_wl (ops := #[]) (by rfl) ?_
   refine wl_alloc hX rfl rfl ?_
   intro g3 w7 hP10
   refine q0_nil ?_
   refine hK.out _ _ ?_ (fun hHeld => ?_)
   ·exact ⟨ldS [_, _] hP10 rfl, ldA ([.int .i64 t.kind, .int .i64 t.dev, .int .i64 t.at_, .int .i64 t.txg]) [_, _] hP10 (rfl) (rfl), ldS [_, _] hP10 rfl⟩
   clear hK K
   (try simp only [Act.put, List.setIfInBounds_toArray, List.set_cons_zero, List.set_cons_succ])
   refine wpAnyH_ready (rs := [4]) (by kernel_rfl) (by simp) ?_
   refine (AllReadyH.cons (o := ⟨some 10, _, _, _, _, _⟩) rfl (fun K hK => ?_) AllReadyH.nil)
   rw [if_pos (by rfl)]
   refine ow_of_wl (ops := #[]) (by rfl) ?_
   apply wl_bsX [] [] hP10
   ·rfl
   ·rfl
   ·exact rfl
   ·exact rfl
   ·infer_instance
   ·infer_instance
   ·rfl
   ·rfl
   ·rfl
   intro g7 w8 h8
   have hP11 := St.toRow (n := 0) (cap := 0) (sz := 1) h8 rfl (by decide) (by decide)
   clear h8
   refine q0_nil ?_
   refine hK.out _ _ ?_ (fun hHeld => ?_)
   ·exact ⟨ldS [_, _, _] hP11 rfl, ldA ([.int .i64 t.kind, .int .i64 t.dev, .int .i64 t.at_, .int .i64 t.txg]) [_, _, _] hP11 (rfl) (rfl), ldS [_, _, _] hP11 rfl⟩
   clear hK K
   (try simp only [Act.put, List.setIfInBounds_toArray, List.set_cons_zero, List.set_cons_succ])
   refine wpAnyH_ready (rs := [7]) (by kernel_rfl) (by simp) ?_
   refine (AllReadyH.cons (o := ⟨some 13, _, _, _, _, _⟩) rfl (fun K hK => ?_) AllReadyH.nil)
   rw [if_pos (by rfl)]
   refine ow_of_wl (ops := #[]) (by rfl) ?_
   apply wl_appX (m := nl) (ys := numsV t.lives) [] hP11
   ·rfl
   ·rfl
   ·exact rfl
   ·exact rfl
   ·infer_instance
   ·infer_instance
   ·infer_instance
   ·exact Rd.old hP11 HT.out.L
   ·exact ones_numsV _
   ·exact ⟨by decide, by unfold maxLen; omega, by omega⟩
   intro lv2 w6 hP12 _
   obtain ⟨lo, lc, rfl, _, _⟩ := row_sliceC [] hP12
   refine q0_nil ?_
   refine hK.out _ _ ?_ (fun hHeld => ?_)
   ·exact ⟨ldS [_, _, _] hP12 rfl, ldA ([.int .i64 t.kind, .int .i64 t.dev, .int .i64 t.at_, .int .i64 t.txg]) [_, _, _] hP12 (rfl) (rfl), ldS [_, _, _] hP12 rfl⟩
   clear hK K
   (try simp only [Act.put, List.setIfInBounds_toArray, List.set_cons_zero, List.set_cons_succ])
   refine wpAnyH_ready (rs := [8]) (by kernel_rfl) (by simp) ?_
   refine (AllReadyH.cons (o := ⟨some 14, _, _, _, _, _⟩) rfl (fun K hK => ?_) AllReadyH.nil)
   rw [if_pos (by rfl)]
   refine ow_of_wl (ops := #[]) (by rfl) ?_
   refine wl_buildX (cs := [.int .i64 t.next, .slice none 0 0, .int .i64 t.kind, .int .i64 t.dev, .int .i64 t.at_, .int .i64 t.txg, .slice lo (0 + nl) lc]) [(0, .int .i64 t.next), (2, .agg #[.int .i64 t.kind, .int .i64 t.dev, .int .i64 t.at_, .int .i64 t.txg]), (3, .slice lo (0 + nl) lc)] rfl rfl (by exact rfl) (bldT3 _ _ _ _ _ _ _ _) ?_
   refine q0_nil ?_
   refine hK.out _ _ ?_ (fun hHeld => ?_)
   ·exact ⟨ldS [_, _, _] hP12 rfl, ldA ([.int .i64 t.kind, .int .i64 t.dev, .int .i64 t.at_, .int .i64 t.txg]) [_, _, _] hP12 (rfl) (rfl), ldS [_, _, _] hP12 rfl⟩
   clear hK K
   (try simp only [Act.put, List.setIfInBounds_toArray, List.set_cons_zero, List.set_cons_succ])
   refine wpAnyH_ready (rs := [10]) (by kernel_rfl) (by simp) ?_
   refine (AllReadyH.cons (o := ⟨none, _, _, _, _, _⟩) rfl (fun K hK => ?_) AllReadyH.nil)
   rw [if_pos (by rfl)]
   refine ow_of_wl (ops := #[]) (by rfl) ?_
   refine wl_storeA [_] hP12 rfl rfl rfl rfl rfl rfl rfl ?_
   intro w7 hP13
   refine q0_nil ?_
   refine hK.out _ _ ?_ (fun hHeld => ?_)
   ·exact ⟨ldS [_, _, _] hP13 rfl, ldA ([.int .i64 t.kind, .int .i64 t.dev, .int .i64 t.at_, .int .i64 t.txg]) [_, _, _] hP13 (rfl) (rfl), ldS [_, _, _] hP13 rfl⟩
   clear hK K
   (try simp only [Act.put, List.setIfInBounds_toArray, List.set_cons_zero, List.set_cons_succ])
   refine wpAnyH_done (by kernel_rfl) ?_ _
   clear hHeld
   have hQ0 := St.nilRow 53 44 hP13
   have hQ1 : St w [] w7 (.blk g3 27 [.int .i64 t.next, .slice none 0 0, .int .i64 t.kind, .int .i64 t.dev, .int .i64 t.at_, .int .i64 t.txg, .slice lo nl lc] :: .row (.slice none 0 0) 53 44 0 (recsV []) :: .row (.slice lo nl lc) 3 1 nl (numsV t.lives) :: .blk g1 27 (tabC t (.slice ar nr cr) (.slice al nl cl)) :: .blk g2 27 tab0 :: rootRows 102 []) := by
    have h := (St.front (L1 := [_, _, _, _]) (St.front (L1 := [_, _, _]) (St.front (L1 := [_, _, _]) (St.front (L1 := [_, _, _, _]) (St.front (L1 := [_, _, _]) hQ0)))))
    rw [Nat.zero_add, List.take_zero, List.nil_append] at h
    exact h
   clear hQ0 hP13
   rw [Nat.zero_add]
   go_wp2_with (first | go_big_skip | go_big_guard | fail)
   go_meet
   exact ⟨g3, lo, lc, rfl, hQ1⟩
 case rest =>
  clear hst
  obtain ⟨g3, lo, lc, rfl, hQ1⟩ := hcut
  go_wp2_with (first | go_big_skip | go_big_guard | fail)
  go_loopw [4] (fun i wr => ∃ (j : Nat) (rv : Value) (ys : List (Value × RC)), j ≤ nr ∧ i = .int .i64 (j : Int) ∧ ys.map (·.2) = t.recs.take j ∧ St w [] wr (.blk g3 27 [.int .i64 t.next, rv, .int .i64 t.kind, .int .i64 t.dev, .int .i64 t.at_, .int .i64 t.txg, .slice lo nl lc] :: .row rv 53 44 j (recsV ys) :: .row (.slice lo nl lc) 3 1 nl (numsV t.lives) :: .blk g1 27 (tabC t (.slice ar nr cr) (.slice al nl cl)) :: .blk g2 27 tab0 :: rootRows 102 ys)) (fun i _ => nr - (intOf i).toNat)
  case atStart => exact ⟨0, _, [], Nat.zero_le _, rfl, rfl, hQ1⟩
  case round =>
   clear hQ1
   obtain ⟨j, rv, ys, hj, rfl, hy, hst⟩ := hrel
   have HY := hid hy
   clear hy
   by_cases hlt : j < nr
   ·have e1 : decide ((j : Int) < (nr : Int)) = true := decide_eq_true (by omega)
    have z1 : IntKind.i64.wrap ((j : Int) + 1) = (j : Int) + 1 := IntWalk.i64_in _ (by omega)
    obtain ⟨x, lb, lo3, hx, har, hin, hr⟩ := RecsIn.at HT.out.R hlt
    subst har
    have HXJ := hid (recs_at HT.out hx)
    have HIN := hid hin
    have HL := hid hin.L
    have HL44 := hid (cellsR_len hin.L)
    have H35 := hid (PV.len (p := x.2.pv x.1) hin.L)
    have HRX := hid hr
    have HLQ := hid (show ∀ v : Value, (cellsR (v, x.2)).length = 44 from fun _ => cellsR_len hin.L)
    obtain ⟨_, ao2, mm, cc, hsv, hrd, hml⟩ := hin.1
    subst hml
    have HSV := hid (show x.1 = .slice ao2 (x.2.pv x.1).l.length cc from hsv)
    have HRD := hid (show Rd w (.slice ao2 (x.2.pv x.1).l.length cc) 2 (x.2.pv x.1).l.length (addrsV x.2.l) from hrd)
    have hmm : (x.2.pv x.1).l.length ≤ 100000 := ha x.2 (List.mem_of_getElem? HXJ.out)
    clear hsv hrd
    clear hx hr hin
    go_wp2_with (first | go_big_skip | go_big_guard | (refine wl_loadE rfl rfl rfl ?_; first | refine ⟨_, Loads.at [_, _, _] hst rfl, ?_⟩ | refine ⟨_, Loads.oldA (cs := cellsR x) hst HL44.out HRX.out, ?_⟩ | refine ⟨_, (by have h9 := Loads.at (P := Tryz.prog) (T := 28) (off := 4) [_] hst4 rfl; rw [HSV.out] at h9; exact h9), ?_⟩ | refine ⟨_, Loads.at [_, _] hst5 rfl, ?_⟩ | refine ⟨_, Loads.atA (cellsR (.slice ao9 (x.2.pv x.1).l.length c9, x.2)) [_] hst5 (HLQ.out _) (cellsR_all _), ?_⟩) | (refine wl_index rfl rfl rfl rfl hlt ?_) | (refine wl_alloc hst rfl rfl ?_; intro g5 w2 hst2; clear hst) | (refine wl_storeA [] hst2 rfl rfl rfl rfl (by exact HL44.out) (cellsR_ones HIN.out) rfl ?_; intro w3 hst3; clear hst2) | (apply wl_bsX [] [] hst3; rfl; rfl; exact rfl; exact rfl; infer_instance; infer_instance; rfl; rfl; rfl; intro g7 w8 h8; have hst4 := St.toRow (n := 0) (cap := 0) (sz := 2) h8 rfl (by decide) (by decide); clear h8 hst3) | (apply wl_appX (m := (x.2.pv x.1).l.length) (ys := addrsV x.2.l) [] hst4; rfl; rfl; exact rfl; exact rfl; infer_instance; infer_instance; infer_instance; exact Rd.old hst4 HRD.out; exact addrs_ones _; exact ⟨by decide, by unfold maxLen; omega, by omega⟩; intro v9 w6 h9 _; obtain ⟨ao9, c9, rfl, _, _⟩ := row_sliceC [] h9; have hst4b := row_tidy [] h9; clear h9 hst4) | (refine wl_storeC [_] hst4b rfl rfl rfl rfl (off := 4) (v := .slice ao9 (x.2.pv x.1).l.length c9) rfl rfl (by rw [HL44.out]; decide) (cs' := cellsR (.slice ao9 (x.2.pv x.1).l.length c9, x.2)) rfl ?_; intro w5 h5; have hst5 := h5; clear h5 hst4b) | (apply wl_bsX [.agg (List.toArray (cellsR (.slice ao9 (x.2.pv x.1).l.length c9, x.2)))] (cellsR (.slice ao9 (x.2.pv x.1).l.length c9, x.2)) hst5; rfl; rfl; exact rfl; exact (List.append_nil _); infer_instance; infer_instance; (show (((List.toArray (cellsR (.slice ao9 (x.2.pv x.1).l.length c9, x.2))).size == 44) && true) = true; rw [List.size_toArray, HLQ.out _]; rfl); rfl; rfl; intro gb w5 hst6; have HINR := hid (root_in (x := (.slice ao9 (x.2.pv x.1).l.length c9, x.2)) hst6 (.tail _ (.head _)) HL.out HIN.out.2); clear hst5) | (apply wl_appX (m := 1) (ys := cellsR (.slice ao9 (x.2.pv x.1).l.length c9, x.2)) [_, _, _, _] hst6; rfl; rfl; exact rfl; exact rfl; infer_instance; infer_instance; infer_instance; exact Rd.blk (n := 1) hst6 (.head _) (Nat.le_refl _) (by decide) (by rw [HLQ.out _]) (by rw [List.drop_zero, List.take_length]); exact cellsR_ones HINR.out; exact ⟨by decide, by unfold maxLen; omega, by omega⟩; intro rv2 w6 hst7 _; obtain ⟨ro, rc, rfl, _, _⟩ := row_sliceC [_, _, _, _] hst7; clear hst6) | (refine wl_store [_, _, _] hst7 rfl rfl rfl (off := 1) (v := .slice _ _ _) rfl rfl rfl (by show (1 : Nat) + 1 ≤ 7; decide) ?_; intro w7 hst8; clear hst7))
    have hst9 := Hp.St.root (A := [_, _, _, _]) (sv := .slice ao9 (x.2.pv x.1).l.length c9) (x := x.2) (by exact St.perm (St.sub hst8 (.cons _ (.cons_cons _ (.cons _ (List.Sublist.refl _))))) (.swap _ _ _))
    clear hst8
    go_roundw
    case rel =>
     have hD7 : St w [] w7 (.blk g3 27 [.int .i64 t.next, .slice ro (j + 1) rc, .int .i64 t.kind, .int .i64 t.dev, .int .i64 t.at_, .int .i64 t.txg, .slice lo nl lc] :: .row (.slice ro (j + 1) rc) 53 44 (j + 1) (recsV (ys ++ [(.slice ao9 (x.2.pv x.1).l.length c9, x.2)])) :: .row (.slice lo nl lc) 3 1 nl (numsV t.lives) :: .blk g1 27 (tabC t (.slice (some ⟨lb, lo3, none⟩) nr cr) (.slice al nl cl)) :: .blk g2 27 tab0 :: rootRows 102 (ys ++ [(.slice ao9 (x.2.pv x.1).l.length c9, x.2)])) := by
      rw [recsV_append, show recsV [((.slice ao9 (x.2.pv x.1).l.length c9 : Value), x.2)] = cellsR (.slice ao9 (x.2.pv x.1).l.length c9, x.2) from List.append_nil _]
      exact hst9
     refine ⟨j + 1, .slice ro (j + 1) rc, ys ++ [(.slice ao9 (x.2.pv x.1).l.length c9, x.2)], by omega, rfl, ?_, hD7⟩
     rw [List.map_append, HY.out, List.take_add_one, HXJ.out]; rfl
    case measure => simp [intOf]; omega
   ·have e1 : decide ((j : Int) < (nr : Int)) = false := decide_eq_false (by omega)
    obtain rfl : j = nr := by omega
    obtain ⟨ro, rc, rfl, _, _⟩ := row_sliceC [_] hst
    have HYT := hid (show ys.map (·.2) = t.recs by rw [HY.out, List.take_of_length_le (by have := HT.out.len; omega)])
    go_wp2_with (first | go_big_skip | go_big_guard | (refine wl_loadE rfl rfl rfl ?_; first | refine ⟨_, Loads.at [_, _, _] hst rfl, ?_⟩ | refine ⟨_, Loads.atA (tabC t (.slice ro j rc) (.slice lo nl lc)) [] hst rfl rfl, ?_⟩) | (refine wl_storeA [_, _, _, _] hst rfl rfl rfl rfl (vs := tabC t (.slice ro j rc) (.slice lo nl lc)) rfl rfl rfl ?_; intro w7 hst8; clear hst))
    have hl := Loads.atA (P := Tryz.prog) (off := 0) (T := 27) (tabC t (.slice ro j rc) (.slice lo nl lc)) [_, _, _, _] hst8 rfl rfl
    refine bodyPost_ret (results_cellC rfl rfl hl) rfl ?_
    refine ⟨ro, rc, lo, lc, ys, rfl, HYT.out, ?_⟩
    exact St.sub hst8 (.cons _ (.cons_cons _ (.cons_cons _ (.cons _ (.cons _ (List.Sublist.refl _))))))
end Go.Proofs.YtifajcblbedcoaaGreat
namespace Go.Proofs.YtifajcblbedcoaaGreat
set_option linter.unusedVariables false
set_option linter.unusedSimpArgs false
open Go.RowKit Hp
attribute [local irreducible] Go.Calls Go.wpList tailS
set_option maxRecDepth 100000
set_option maxHeartbeats 8000000
attribute [local go_sem ↓] heldInt heldInts heldRecs heldRec heldStr heldTab
theorem sliceR_hm (ao : Option Addr) (n c k : Nat) (hk : k ≤ c) (w : World) : (Instr.sliceAt 22 (.slice ao n c) none (some (.int .i64 (k : Int))) (some (.int .i64 (k : Int)))).run Tryz.prog w = .ok (.slice ao k k) w := by
 rw [run_sliceAt_slice _ _ _ _ _ _ (by kernel_rfl)]
 have hz : ∀ w, (sizeOf (Tryz.prog.elem 22)).run Tryz.prog w = .ok 44 w := fun w => by kernel_rfl
 rw [run_slice_hm w 22 _ _ _ (by kernel_rfl) .i64 .i64 (k : Int) (k : Int) (by omega) (by omega) (by omega), hz]
 have : (if k = 0 then ao else ao.map (·.add (0 * 44))) = ao := by
  split
  ·rfl
  ·cases ao <;> simp [Addr.add]
 simp only [sliced, Result.andThen_ok, Int.toNat_natCast, this, Nat.sub_zero]
theorem sliceR_l (ao : Option Addr) (n c k : Nat) (hk : k ≤ n) (w : World) : (Instr.sliceAt 22 (.slice ao n c) (some (.int .i64 (k : Int))) none none).run Tryz.prog w = .ok (tailS ao n c k 44) w := by
 rw [run_sliceAt_slice _ _ _ _ _ _ (by kernel_rfl)]
 have hz : ∀ w, (sizeOf (Tryz.prog.elem 22)).run Tryz.prog w = .ok 44 w := fun w => by kernel_rfl
 rw [run_slice_l w 22 _ _ _ (by kernel_rfl) .i64 (k : Int) (by omega) (by omega), hz]
 simp only [sliced, Result.andThen_ok, Int.toNat_natCast, tailS]
theorem rowCell {w0 w : World} {M : List Nat} {L : List HA} {g n c k d : Nat} {y : Value × RC} {ys : List (Value × RC)} {T : TypeId} {v : Value} (h : St w0 M w L) (hm : HA.row (.slice (some ⟨g, 0, none⟩) n c) T 44 n (recsV ys) ∈ L) (hl : LX ys) (hy : ys[k]? = some y) (hd : (cellsR y)[d]? = some v) : w.cell? ⟨g, k * 44 + d, none⟩ = some v := by
 have := (Rd.row h hm).range (k * 44 + d) v (recsV_at hl hy hd)
 rwa [Nat.zero_add] at this
theorem recsV_ones' {xs : List (Value × RC)} (h : ∀ x ∈ xs, (cellsR x).all (·.oneCell') = true) : (recsV xs).all (·.oneCell') = true := by
 rw [recsV, List.all_flatMap, List.all_eq_true]
 exact h
theorem lay_perm (x : Value × RC) (k : Nat) {ys zs : List (Value × RC)} (h : ys.Perm zs) : (ys.take k ++ x :: ys.drop k).Perm (zs ++ [x]) := by
 have h1 : (ys.take k ++ x :: ys.drop k).Perm (x :: ys) := by
  have := List.perm_middle (a := x) (l₁ := ys.take k) (l₂ := ys.drop k)
  rwa [List.take_append_drop] at this
 exact h1.trans ((List.Perm.cons x h).trans (List.perm_append_singleton x zs).symm)
theorem map_get {xs : List (Value × RC)} {i : Nat} {r : RC} (h : (xs.map (·.2))[i]? = some r) : ∃ x, xs[i]? = some x ∧ x.2 = r := by
 rw [List.getElem?_map] at h
 cases hx : xs[i]? with
 | none => rw [hx] at h; cases h
 | some x => rw [hx] at h; exact ⟨x, rfl, Option.some.inj h⟩
theorem refSorted_any (ao : Option Addr) (n c : Nat) (xs : List (Value × RC)) (w : World) (hR : Rd w (.slice ao n c) 44 n (recsV xs)) (hN : xs.length = n) (hl : LX xs) (h1 : ∀ x ∈ xs, (cellsR x).all (·.oneCell') = true) (hnm : ∀ x ∈ xs, x.2.name.length ≤ 1000000) (hn : n ≤ 1000) :
  Calls Tryz.prog 97 #[.slice ao n c] w fun e w' => ∃ (rv : Value) (ys : List (Value × RC)), e = .returned rv ∧ ys.map (·.2) = sortL (xs.map (·.2)) ∧ ys.Perm xs ∧ St w [] w' [.row rv 53 44 n (recsV ys)] := by
 have hst0 := St.nilRow 53 44 (St.refl w)
 have HR := hid hR
 have HN := hid hN
 have HLX := hid hl
 have HON := hid h1
 have HNB := hid hnm
 clear hR hN hl h1 hnm
 go_enter Tryz.func97, Tryz.ntmps97
 go_wp2_with (first | go_big_skip | go_big_guard | fail)
 go_loopw [3, 4] (fun v i wr => ∃ (j : Nat) (ys : List (Value × RC)), j ≤ n ∧ i = .int .i64 (j : Int) ∧ ys.map (·.2) = sortL ((xs.take j).map (·.2)) ∧ ys.Perm (xs.take j) ∧ St w [] wr [.row v 53 44 j (recsV ys)]) (fun _ i _ => n - (intOf i).toNat)
 case atStart => exact ⟨0, [], Nat.zero_le _, rfl, rfl, List.Perm.refl _, hst0⟩
 case round =>
  clear hst0
  obtain ⟨j, ys, hj, rfl, hye, hyp, hst⟩ := hrel
  obtain ⟨ar, cr, rfl, hcr, hcr2⟩ := rowS [] hst
  have HYE := hid hye
  have HYP := hid hyp
  have HYN := hid (show ys.length = j by rw [hyp.length_eq, List.length_take, HN.out]; omega)
  have HYB := hid (show ∀ y ∈ ys, y ∈ xs from fun y hy => List.mem_of_mem_take (hyp.subset hy))
  have HLY := hid (show LX ys from fun y hy => HLX.out y (HYB.out y hy))
  clear hye hyp
  by_cases hlt : j < n
  ·have e1 : decide ((j : Int) < (n : Int)) = true := decide_eq_true (by omega)
   have z1 : IntKind.i64.wrap ((j : Int) + 1) = (j : Int) + 1 := IntWalk.i64_in _ (by omega)
   obtain ⟨x, hx⟩ : ∃ x, xs[j]? = some x := ⟨_, List.getElem?_eq_getElem (by rw [HN.out]; exact hlt)⟩
   obtain ⟨lb, lo, rfl, hr0⟩ := Rd.at HR.out hlt
   have hrx : w.rangeAt lb (lo + j * 44) (cellsR x) := fun d v hv => by
    have := hr0 (j * 44 + d) v (recsV_at HLX.out hx hv)
    rwa [← Nat.add_assoc] at this
   have HX := hid hx
   have HRX := hid hrx
   have HNX := hid (show w.cell? ⟨lb, lo + j * 44 + 1, none⟩ = some (.string ⟨x.2.name.toArray⟩) from hrx 1 _ rfl)
   have H44 := hid (cellsR_len (HLX.out x (List.mem_of_getElem? hx)))
   clear hx hr0 hrx
   go_wp2_with (first | go_big_skip | go_big_guard | fail)
   go_loopw [5] (fun i wr => ∃ k : Nat, k ≤ j ∧ i = .int .i64 (k : Int) ∧ St w [] wr [.row (.slice ar j cr) 53 44 j (recsV ys)] ∧ Hid (∀ (i : Nat) (z : Value × RC), i < k → ys[i]? = some z → lessL z.2.name x.2.name = true)) (fun i _ => j - (intOf i).toNat)
   case atStart => exact ⟨0, Nat.zero_le _, rfl, hst, hid (fun i z hi _ => by omega)⟩
   case round =>
    clear hst
    obtain ⟨k, hkj, rfl, hst, HA⟩ := hrel
    by_cases hlk : k < j
    ·have ek : decide ((k : Int) < (j : Int)) = true := decide_eq_true (by omega)
     have z2 : IntKind.i64.wrap ((k : Int) + 1) = (k : Int) + 1 := IntWalk.i64_in _ (by omega)
     obtain ⟨y, hy⟩ : ∃ y, ys[k]? = some y := ⟨_, List.getElem?_eq_getElem (by rw [HYN.out]; exact hlk)⟩
     have HYK := hid hy
     obtain ⟨g, c9, he, _⟩ := row_spot hst (.head _) (by omega)
     obtain ⟨he1, _, he3⟩ : ar = some ⟨g, 0, none⟩ ∧ j = j ∧ cr = c9 := by simpa using he
     subst he1
     clear hy he he3
     cases hq : lessL y.2.name x.2.name
     ·have HQ := hid hq
      clear hq
      go_wp2_with (first | go_big_skip | go_big_guard | fail)
      have hX := hst.drew
      clear hst
      refine wp_region_held_drew (S := (fun w' => (loadVarH 9 ⟨g, k * 44 + 1, none⟩).run Tryz.prog w' = .ok (.string ⟨y.2.name.toArray⟩) w' ∧ (loadVarH 9 ⟨lb, lo + j * 44 + 1, none⟩).run Tryz.prog w' = .ok (.string ⟨x.2.name.toArray⟩) w')) (by kernel_rfl) (by exact ⟨ldO (St.refl _) (rowCell hX (.head _) HLY.out HYK.out (d := 1) rfl), ldO hX HNX.out⟩) (fun hHeld => ?_)
      refine tq 0 12 ?_
      refine tq 1 13 ?_
      refine tq 2 14 ?_
      refine tq 3 15 ?_
      refine tq 4 16 ?_
      refine tq 5 17 ?_
      refine tq 6 18 ?_
      refine tq 10 22 ?_
      refine tq 11 23 ?_
      refine tq 7 19 ?_
      refine tq 12 24 ?_
      refine tq 8 20 ?_
      refine tq 13 25 ?_
      refine tq 9 21 ?_
      refine tq 14 26 ?_
      refine wpAnyH_ready (rs := [15]) (by kernel_rfl) (by simp) ?_
      refine (AllReadyH.cons (o := ⟨some 27, _, _, _, _, _⟩) rfl (fun K hK => ?_) AllReadyH.nil)
      rw [if_pos (by rfl)]
      go_simp
      go_at_call 127
      refine (refLess_any y.2.name x.2.name _ (by have := HNB.out y (HYB.out y (List.mem_of_getElem? HYK.out)); omega) (by have := HNB.out x (List.mem_of_getElem? HX.out); omega)).mono ?_
      rw [HQ.out]
      rintro _ w9 ⟨rfl, h4⟩
      have hC := St.call0 hX h4
      clear h4
      refine hK.out _ _ ?_ (fun hHeld => ?_)
      ·exact ⟨ldO (St.refl _) (rowCell hC (.head _) HLY.out HYK.out (d := 1) rfl), ldO hC HNX.out⟩
      clear hK K
      (try simp only [Act.put, List.setIfInBounds_toArray, List.set_cons_zero, List.set_cons_succ])
      refine tq 16 28 ?_
      refine wpAnyH_done (by kernel_rfl) ?_ _
      clear hHeld
      go_wp2_with (first | go_big_skip | go_big_guard | fail)
      have HNL := hid (show nLess x.2 (ys.map (·.2)) = k from nLess_of (by rw [List.length_map, HYN.out]; exact hkj) (fun i z hi hz => by
       obtain ⟨z', hz', rfl⟩ := map_get hz
       exact HA.out i z' hi hz') (fun z hz => by
       obtain ⟨z', hz', rfl⟩ := map_get hz
       rw [HYK.out] at hz'
       cases hz'
       exact HQ.out))
      clear HA
      have hsl1 := fun w => sliceR_hm (some ⟨g, 0, none⟩) j cr k (by omega) w
      have hsl2 := fun w => sliceR_l (some ⟨g, 0, none⟩) j cr k hkj w
      have hY := hC.drew
      clear hC
      refine wp_region_held_drew (S := (fun w' => (loadVarH 53 ⟨lb, lo + j * 44, none⟩).run Tryz.prog w' = .ok (.agg (cellsR x).toArray) w')) (by kernel_rfl) (by exact ldOA hY H44.out HRX.out) (fun hHeld => ?_)
      refine tq 0 31 ?_
      refine tq 1 32 ?_
      refine tq 2 33 ?_
      refine tq 4 35 ?_
      refine tq 5 36 ?_
      refine tq 9 40 ?_
      refine tq 10 41 ?_
      refine tq 3 34 ?_
      refine tq 6 37 ?_
      refine tq 11 42 ?_
      refine tq 7 38 ?_
      refine wpAnyH_ready (rs := [8]) (by kernel_rfl) (by simp) ?_
      refine (AllReadyH.cons (o := ⟨some 39, _, _, _, _, _⟩) rfl (fun K hK => ?_) AllReadyH.nil)
      rw [if_pos (by rfl)]
      refine ow_of_wl (ops := #[]) (by rfl) ?_
      apply wl_bsX [.agg (List.toArray (cellsR x))] (cellsR x) hY
      ·rfl
      ·rfl
      ·exact rfl
      ·exact (List.append_nil _)
      ·infer_instance
      ·infer_instance
      ·(show (((List.toArray (cellsR x)).size == 44) && true) = true; rw [List.size_toArray, H44.out]; rfl)
      ·rfl
      ·rfl
      intro gb w5 h5
      have hM1 := St.toRow (n := 1) (cap := 1) (sz := 44) h5 (by rw [H44.out]) (by decide) (by decide)
      clear h5
      rw [show List.take (1 * 44) (cellsR x) = cellsR x from List.take_of_length_le (by rw [H44.out]; decide)] at hM1
      refine q0_nil ?_
      refine hK.out _ _ ?_ (fun hHeld => ?_)
      ·exact ldOA hM1 H44.out HRX.out
      clear hK K
      (try simp only [Act.put, List.setIfInBounds_toArray, List.set_cons_zero, List.set_cons_succ])
      refine wpAnyH_ready (rs := [12]) (by kernel_rfl) (by simp) ?_
      refine (AllReadyH.cons (o := ⟨some 43, _, _, _, _, _⟩) rfl (fun K hK => ?_) AllReadyH.nil)
      rw [if_pos (by rfl)]
      refine ow_of_wl (ops := #[]) (by rfl) ?_
      apply wl_appX (m := j - k) (ys := recsV (ys.drop k)) [] hM1
      ·rfl
      ·rfl
      ·exact rfl
      ·exact rfl
      ·infer_instance
      ·infer_instance
      ·infer_instance
      ·exact (by have h := Rd.tailA (k := k) (Rd.row hM1 (.tail _ (.head _))) hkj; rw [(recsV_takeL HLY.out (k := k) (by rw [HYN.out]; exact hkj)).2] at h; exact h)
      ·exact recsV_ones' (fun z hz => HON.out z (HYB.out z (List.mem_of_mem_drop hz)))
      ·exact ⟨by decide, by unfold maxLen; omega, by omega⟩
      intro v9 w6 h9 _
      have hM2 := h9
      clear h9
      refine q0_nil ?_
      refine hK.out _ _ ?_ (fun hHeld => ?_)
      ·exact ldOA hM2 H44.out HRX.out
      clear hK K
      (try simp only [Act.put, List.setIfInBounds_toArray, List.set_cons_zero, List.set_cons_succ])
      refine wpAnyH_ready (rs := [13]) (by kernel_rfl) (by simp) ?_
      refine (AllReadyH.cons (o := ⟨some 44, _, _, _, _, _⟩) rfl (fun K hK => ?_) AllReadyH.nil)
      rw [if_pos (by rfl)]
      refine ow_of_wl (ops := #[]) (by rfl) ?_
      apply wl_appFull (n := k) (m := 1 + (j - k)) (xs := recsV (ys.take k)) (ys := cellsR x ++ recsV (ys.drop k)) hM2
      ·rfl
      ·rfl
      ·exact rfl
      ·exact rfl
      ·infer_instance
      ·infer_instance
      ·infer_instance
      ·exact (by have h := Rd.frontA (k := k) (Rd.row hM2 (.tail _ (.head _))) hkj; rw [(recsV_takeL HLY.out (k := k) (by rw [HYN.out]; exact hkj)).1] at h; exact h)
      ·exact Rd.row hM2 (.head _)
      ·omega
      ·exact ⟨by unfold maxLen; omega, by omega⟩
      intro v8 w7 h9
      have hM3 := h9
      clear h9
      refine q0_nil ?_
      refine hK.out _ _ ?_ (fun hHeld => ?_)
      ·exact ldOA hM3 H44.out HRX.out
      clear hK K
      (try simp only [Act.put, List.setIfInBounds_toArray, List.set_cons_zero, List.set_cons_succ])
      refine tq 14 3 ?_
      refine wpAnyH_done (by kernel_rfl) ?_ _
      clear hHeld
      go_wp2_with (first | go_big_skip | go_big_guard | fail)
      go_roundw
      case rel =>
       refine ⟨j + 1, ys.take k ++ x :: ys.drop k, by omega, rfl, ?_, ?_, ?_⟩
       ·rw [← HNL.out, lay_map, HYE.out, List.take_add_one, HX.out, List.map_append]
        exact (sortL_snoc _ _).symm
       ·rw [List.take_add_one, HX.out]
        exact lay_perm x k HYP.out
       ·have e1 : k + (1 + (j - k)) = j + 1 := by omega
        have h := St.sub hM3 (.cons_cons _ (List.nil_sublist _))
        rw [e1] at h
        rw [recsV_append]
        exact h
      case measure => simp [intOf]; omega
     ·have HQ := hid hq
      clear hq
      go_wp2_with (first | go_big_skip | go_big_guard | fail)
      have hX := hst.drew
      clear hst
      refine wp_region_held_drew (S := (fun w' => (loadVarH 9 ⟨g, k * 44 + 1, none⟩).run Tryz.prog w' = .ok (.string ⟨y.2.name.toArray⟩) w' ∧ (loadVarH 9 ⟨lb, lo + j * 44 + 1, none⟩).run Tryz.prog w' = .ok (.string ⟨x.2.name.toArray⟩) w')) (by kernel_rfl) (by exact ⟨ldO (St.refl _) (rowCell hX (.head _) HLY.out HYK.out (d := 1) rfl), ldO hX HNX.out⟩) (fun hHeld => ?_)
      refine tq 0 12 ?_
      refine tq 1 13 ?_
      refine tq 2 14 ?_
      refine tq 3 15 ?_
      refine tq 4 16 ?_
      refine tq 5 17 ?_
      refine tq 6 18 ?_
      refine tq 10 22 ?_
      refine tq 11 23 ?_
      refine tq 7 19 ?_
      refine tq 12 24 ?_
      refine tq 8 20 ?_
      refine tq 13 25 ?_
      refine tq 9 21 ?_
      refine tq 14 26 ?_
      refine wpAnyH_ready (rs := [15]) (by kernel_rfl) (by simp) ?_
      refine (AllReadyH.cons (o := ⟨some 27, _, _, _, _, _⟩) rfl (fun K hK => ?_) AllReadyH.nil)
      rw [if_pos (by rfl)]
      go_simp
      go_at_call 127
      refine (refLess_any y.2.name x.2.name _ (by have := HNB.out y (HYB.out y (List.mem_of_getElem? HYK.out)); omega) (by have := HNB.out x (List.mem_of_getElem? HX.out); omega)).mono ?_
      rw [HQ.out]
      rintro _ w9 ⟨rfl, h4⟩
      have hC := St.call0 hX h4
      clear h4
      refine hK.out _ _ ?_ (fun hHeld => ?_)
      ·exact ⟨ldO (St.refl _) (rowCell hC (.head _) HLY.out HYK.out (d := 1) rfl), ldO hC HNX.out⟩
      clear hK K
      (try simp only [Act.put, List.setIfInBounds_toArray, List.set_cons_zero, List.set_cons_succ])
      refine tq 16 28 ?_
      refine wpAnyH_done (by kernel_rfl) ?_ _
      clear hHeld
      go_wp2_with (first | go_big_skip | go_big_guard | fail)
      go_roundw
      case rel => exact ⟨k + 1, by omega, rfl, hC, hid (fun i z hi hz => by
       by_cases e : i = k
       ·subst e
        rw [HYK.out] at hz
        cases hz
        exact HQ.out
       ·exact HA.out i z (by omega) hz)⟩
      case measure => simp [intOf]; omega
    ·have ek : decide ((k : Int) < (j : Int)) = false := decide_eq_false (by omega)
     go_wp2_with (first | go_big_skip | go_big_guard | fail)
     have hX := hst.drew
     clear hst
     refine wp_region_held_drew (S := (fun w' => True)) (by kernel_rfl) (by exact trivial) (fun hHeld => ?_)
     refine tq 0 12 ?_
     refine tq 1 13 ?_
     refine tq 2 14 ?_
     refine tq 3 15 ?_
     refine tq 4 16 ?_
     refine tu 5 17 ?_
     refine tu 6 18 ?_
     refine tu 10 22 ?_
     refine tu 11 23 ?_
     refine tu 7 19 ?_
     refine tu 12 24 ?_
     refine tu 8 20 ?_
     refine tu 13 25 ?_
     refine tu 9 21 ?_
     refine tu 14 26 ?_
     refine wpAnyH_ready (rs := [15]) (by kernel_rfl) (by simp) ?_
     refine (AllReadyH.cons (o := ⟨some 27, _, _, _, _, _⟩) rfl (fun K hK => ?_) AllReadyH.nil)
     rw [if_neg (by rw [show Region.wanted _ _ = false from rfl]; exact Bool.false_ne_true)]
     refine hK.out _ _ ?_ (fun hHeld => ?_)
     ·exact trivial
     clear hK K
     (try simp only [Act.put, List.setIfInBounds_toArray, List.set_cons_zero, List.set_cons_succ])
     refine tq 16 28 ?_
     refine wpAnyH_done (by kernel_rfl) ?_ _
     clear hHeld
     go_wp2_with (first | go_big_skip | go_big_guard | fail)
     have HNL := hid (show nLess x.2 (ys.map (·.2)) = k from nLess_of (by rw [List.length_map, HYN.out]; exact hkj) (fun i z hi hz => by
      obtain ⟨z', hz', rfl⟩ := map_get hz
      exact HA.out i z' hi hz') (fun z hz => by
      have h9 := (List.getElem?_eq_some_iff.1 hz).1
      rw [List.length_map, HYN.out] at h9
      omega))
     clear HA
     have hsl1 := fun w => sliceR_hm ar j cr k (by omega) w
     have hsl2 := fun w => sliceR_l ar j cr k hkj w
     have hY := hX.drew
     clear hX
     refine wp_region_held_drew (S := (fun w' => (loadVarH 53 ⟨lb, lo + j * 44, none⟩).run Tryz.prog w' = .ok (.agg (cellsR x).toArray) w')) (by kernel_rfl) (by exact ldOA hY H44.out HRX.out) (fun hHeld => ?_)
     refine tq 0 31 ?_
     refine tq 1 32 ?_
     refine tq 2 33 ?_
     refine tq 4 35 ?_
     refine tq 5 36 ?_
     refine tq 9 40 ?_
     refine tq 10 41 ?_
     refine tq 3 34 ?_
     refine tq 6 37 ?_
     refine tq 11 42 ?_
     refine tq 7 38 ?_
     refine wpAnyH_ready (rs := [8]) (by kernel_rfl) (by simp) ?_
     refine (AllReadyH.cons (o := ⟨some 39, _, _, _, _, _⟩) rfl (fun K hK => ?_) AllReadyH.nil)
     rw [if_pos (by rfl)]
     refine ow_of_wl (ops := #[]) (by rfl) ?_
     apply wl_bsX [.agg (List.toArray (cellsR x))] (cellsR x) hY
     ·rfl
     ·rfl
     ·exact rfl
     ·exact (List.append_nil _)
     ·infer_instance
     ·infer_instance
     ·(show (((List.toArray (cellsR x)).size == 44) && true) = true; rw [List.size_toArray, H44.out]; rfl)
     ·rfl
     ·rfl
     intro gb w5 h5
     have hM1 := St.toRow (n := 1) (cap := 1) (sz := 44) h5 (by rw [H44.out]) (by decide) (by decide)
     clear h5
     rw [show List.take (1 * 44) (cellsR x) = cellsR x from List.take_of_length_le (by rw [H44.out]; decide)] at hM1
     refine q0_nil ?_
     refine hK.out _ _ ?_ (fun hHeld => ?_)
     ·exact ldOA hM1 H44.out HRX.out
     clear hK K
     (try simp only [Act.put, List.setIfInBounds_toArray, List.set_cons_zero, List.set_cons_succ])
     refine wpAnyH_ready (rs := [12]) (by kernel_rfl) (by simp) ?_
     refine (AllReadyH.cons (o := ⟨some 43, _, _, _, _, _⟩) rfl (fun K hK => ?_) AllReadyH.nil)
     rw [if_pos (by rfl)]
     refine ow_of_wl (ops := #[]) (by rfl) ?_
     apply wl_appX (m := j - k) (ys := recsV (ys.drop k)) [] hM1
     ·rfl
     ·rfl
     ·exact rfl
     ·exact rfl
     ·infer_instance
     ·infer_instance
     ·infer_instance
     ·exact (by have h := Rd.tailA (k := k) (Rd.row hM1 (.tail _ (.head _))) hkj; rw [(recsV_takeL HLY.out (k := k) (by rw [HYN.out]; exact hkj)).2] at h; exact h)
     ·exact recsV_ones' (fun z hz => HON.out z (HYB.out z (List.mem_of_mem_drop hz)))
     ·exact ⟨by decide, by unfold maxLen; omega, by omega⟩
     intro v9 w6 h9 _
     have hM2 := h9
     clear h9
     refine q0_nil ?_
     refine hK.out _ _ ?_ (fun hHeld => ?_)
     ·exact ldOA hM2 H44.out HRX.out
     clear hK K
     (try simp only [Act.put, List.setIfInBounds_toArray, List.set_cons_zero, List.set_cons_succ])
     refine wpAnyH_ready (rs := [13]) (by kernel_rfl) (by simp) ?_
     refine (AllReadyH.cons (o := ⟨some 44, _, _, _, _, _⟩) rfl (fun K hK => ?_) AllReadyH.nil)
     rw [if_pos (by rfl)]
     refine ow_of_wl (ops := #[]) (by rfl) ?_
     apply wl_appFull (n := k) (m := 1 + (j - k)) (xs := recsV (ys.take k)) (ys := cellsR x ++ recsV (ys.drop k)) hM2
     ·rfl
     ·rfl
     ·exact rfl
     ·exact rfl
     ·infer_instance
     ·infer_instance
     ·infer_instance
     ·exact (by have h := Rd.frontA (k := k) (Rd.row hM2 (.tail _ (.head _))) hkj; rw [(recsV_takeL HLY.out (k := k) (by rw [HYN.out]; exact hkj)).1] at h; exact h)
     ·exact Rd.row hM2 (.head _)
     ·omega
     ·exact ⟨by unfold maxLen; omega, by omega⟩
     intro v8 w7 h9
     have hM3 := h9
     clear h9
     refine q0_nil ?_
     refine hK.out _ _ ?_ (fun hHeld => ?_)
     ·exact ldOA hM3 H44.out HRX.out
     clear hK K
     (try simp only [Act.put, List.setIfInBounds_toArray, List.set_cons_zero, List.set_cons_succ])
     refine tq 14 3 ?_
     refine wpAnyH_done (by kernel_rfl) ?_ _
     clear hHeld
     go_wp2_with (first | go_big_skip | go_big_guard | fail)
     go_roundw
     case rel =>
      refine ⟨j + 1, ys.take k ++ x :: ys.drop k, by omega, rfl, ?_, ?_, ?_⟩
      ·rw [← HNL.out, lay_map, HYE.out, List.take_add_one, HX.out, List.map_append]
       exact (sortL_snoc _ _).symm
      ·rw [List.take_add_one, HX.out]
       exact lay_perm x k HYP.out
      ·have e1 : k + (1 + (j - k)) = j + 1 := by omega
       have h := St.sub hM3 (.cons_cons _ (List.nil_sublist _))
       rw [e1] at h
       rw [recsV_append]
       exact h
     case measure => simp [intOf]; omega
  ·have e1 : decide ((j : Int) < (n : Int)) = false := decide_eq_false (by omega)
   obtain rfl : j = n := by omega
   go_wp2_with (first | go_big_skip | go_big_guard | fail)
   go_ret
   refine ⟨_, rfl, ys, ?_⟩
   exact ⟨by rw [HYE.out, List.take_of_length_le (by rw [HN.out]; exact Nat.le_refl _)], by have h := HYP.out; rwa [List.take_of_length_le (by rw [HN.out]; exact Nat.le_refl _)] at h, hst⟩
end Go.Proofs.YtifajcblbedcoaaGreat
namespace Go.Proofs.YtifajcblbedcoaaGreat
set_option linter.unusedVariables false
set_option linter.unusedSimpArgs false
open Go.RowKit Hp
attribute [local irreducible] Go.Calls
set_option maxRecDepth 100000
set_option maxHeartbeats 4000000
attribute [local go_sem ↓] heldInt heldRecs heldStr
theorem any_step {p : RC → Bool} {xs : List (Value × RC)} {j : Nat} {y : Value × RC} (h : xs[j]? = some y) : ((xs.take (j + 1)).map (·.2)).any p = (((xs.take j).map (·.2)).any p || p y.2) := by
 rw [List.take_add_one, h, List.map_append, List.any_append]
 simp
theorem kin_any_r (t : TC) (lv : Value) (ar : Option Addr) (nr cr : Nat) (xs : List (Value × RC)) (w : World) (hR : RecsIn w (.slice ar nr cr) nr xs) (hb : nr ≤ 1000000) (x : Value × RC) (hin : RC.In w x) :
  Calls Tryz.prog 136 #[.agg (tabC t (.slice ar nr cr) lv).toArray, .agg (cellsR x).toArray] w fun e w' => e = .returned (.bool (kinB (xs.map (·.2)) x.2)) ∧ St w [] w' [] := by
 have hst0 := St.refl w
 have hcr : nr ≤ cr ∧ cr ≤ maxLen := by
  obtain ⟨_, ao', c0, he, hn, hcm, _⟩ := hR.rd
  cases he
  exact ⟨hn, hcm⟩
 have HR := hid hR
 have HIN := hid hin
 have HLL := hid hin.L
 clear hR hin
 obtain ⟨RR, hRR⟩ : ∃ RR, RR = kinB (xs.map (·.2)) x.2 := ⟨_, rfl⟩
 rw [← hRR]
 have HV := hid hRR
 clear hRR
 obtain ⟨hc1, hc2⟩ := hcr
 unfold maxLen at hc2
 cases d5 : (x.2.kind == 2)
 ·have hv : RR = ((x.2.origin == 0) || (xs.map (·.2)).any fun y => (y.id == x.2.origin) && (y.kind == 2)) := by rw [HV.out]; unfold kinB; rw [d5]; rfl
  have HW := hid hv
  clear hv
  go_enter Tryz.func136, Tryz.ntmps136
  go_wp2_with (first | go_big_skip | go_big_guard | (refine wl_boxA hst0 rfl rfl rfl ?_; intro g1 w1 hst1; clear hst0) | (refine wl_boxA hst1 rfl rfl rfl ?_; intro gx w2 hst; clear hst1) | (refine wl_loadE rfl rfl rfl ?_; first | refine ⟨_, Loads.atA (tabC t (.slice ar nr cr) lv) [_] hst rfl rfl, ?_⟩ | refine ⟨_, Loads.at [] hst rfl, ?_⟩ | refine ⟨_, Loads.at [] hst (cellsR_41 HLL.out), ?_⟩ | refine ⟨_, Loads.at [_] hst rfl, ?_⟩) | (go_at_call 90; refine (refSplit_any x.2.name _ HIN.out.2).mono ?_; rintro _ w9 ⟨rfl, h4⟩; replace hst := St.call0 hst h4; clear h4) | (go_at_call 91; refine (refFind_any t lv (splitL x.2.name).1 _ nr cr xs _ (HR.out.old hst.nil) hb).mono ?_; rw [HF.out]; rintro _ w9 ⟨rfl, h4⟩; replace hst := St.call0 hst h4; clear h4))
  go_loopw [10, 11] (fun q i wr => ∃ j : Nat, j ≤ nr ∧ i = .int .i64 (j : Int) ∧ q = .bool ((x.2.origin == 0) || ((xs.take j).map (·.2)).any fun y => (y.id == x.2.origin) && (y.kind == 2)) ∧ St w [] wr [.blk gx 53 (cellsR x), .blk g1 27 (tabC t (.slice ar nr cr) lv)]) (fun _ i _ => nr - (intOf i).toNat)
  case atStart => exact ⟨0, Nat.zero_le _, rfl, by simp, hst⟩
  case round =>
   clear hst
   obtain ⟨j, hj, rfl, rfl, hst⟩ := hrel
   by_cases hlt : j < nr
   ·have e1 : decide ((j : Int) < (nr : Int)) = true := decide_eq_true (by omega)
    have z1 : IntKind.i64.wrap ((j : Int) + 1) = (j : Int) + 1 := IntWalk.i64_in _ (by omega)
    obtain ⟨y, lb, lo, hyj, rfl, hiny, hr⟩ := RecsIn.at HR.out hlt
    have HYJ := hid hyj
    have HYI := hid (show w.cell? ⟨lb, lo + j * 44, none⟩ = some (.int .i64 y.2.id) from hr 0 _ rfl)
    have HYK := hid (show w.cell? ⟨lb, lo + j * 44 + 2, none⟩ = some (.int .i64 y.2.kind) from hr 2 _ rfl)
    clear hyj hiny hr
    obtain ⟨a, ha⟩ : ∃ a, a = ((x.2.origin == 0) || ((xs.take j).map (·.2)).any fun y => (y.id == x.2.origin) && (y.kind == 2)) := ⟨_, rfl⟩
    rw [← ha]
    have HAC := hid ha
    clear ha
    cases a
    ·cases c1 : (y.2.id == x.2.origin)
     ·go_wp2_with (first | go_big_skip | go_big_guard | (refine wl_loadE rfl rfl rfl ?_; first | refine ⟨_, Loads.atA (tabC t (.slice ar nr cr) lv) [_] hst rfl rfl, ?_⟩ | refine ⟨_, Loads.at [] hst rfl, ?_⟩ | refine ⟨_, Loads.at [] hst (cellsR_41 HLL.out), ?_⟩ | refine ⟨_, Loads.at [_] hst rfl, ?_⟩))
      have hX := hst.drew
      clear hst
      refine wp_region_held_drew (S := (fun w' => (loadVarH 22 ⟨g1, 1, none⟩).run Tryz.prog w' = .ok (.slice (some ⟨lb, lo, none⟩) nr cr) w' ∧ (loadVarH 3 ⟨gx, 41, none⟩).run Tryz.prog w' = .ok (.int .i64 x.2.origin) w' ∧ (loadVarH 3 ⟨lb, lo + j * 44, none⟩).run Tryz.prog w' = .ok (.int .i64 y.2.id) w' ∧ (loadVarH 3 ⟨lb, lo + j * 44 + 2, none⟩).run Tryz.prog w' = .ok (.int .i64 y.2.kind) w')) (by kernel_rfl) (by exact ⟨ldS [_] hX rfl, ldS [] hX (cellsR_41 HLL.out), ldO hX (HYI.out), ldO hX (HYK.out)⟩) (fun hHeld => ?_)
      refine tq 0 50 ?_
      refine tq 1 51 ?_
      refine tq 2 52 ?_
      refine tq 4 54 ?_
      refine tq 8 58 ?_
      refine tq 3 53 ?_
      refine tq 9 59 ?_
      refine tq 5 55 ?_
      refine tq 6 56 ?_
      refine tq 7 57 ?_
      refine tq 10 60 ?_
      refine tq 11 61 ?_
      refine tu 12 62 ?_
      refine tu 14 64 ?_
      refine tu 13 63 ?_
      refine tu 15 65 ?_
      refine tu 16 66 ?_
      refine tu 17 67 ?_
      refine tu 18 68 ?_
      refine tq 19 69 ?_
      refine tq 20 70 ?_
      refine tq 21 10 ?_
      refine wpAnyH_done (by kernel_rfl) ?_ _
      clear hHeld
      go_wp2_with (first | go_big_skip | go_big_guard | fail)
      go_roundw
      case rel => exact ⟨j + 1, by omega, rfl, by rw [any_step HYJ.out, ← Bool.or_assoc, ← HAC.out]; simp [c1], hX⟩
      case measure => simp [intOf]; omega
     ·go_wp2_with (first | go_big_skip | go_big_guard | (refine wl_loadE rfl rfl rfl ?_; first | refine ⟨_, Loads.atA (tabC t (.slice ar nr cr) lv) [_] hst rfl rfl, ?_⟩ | refine ⟨_, Loads.at [] hst rfl, ?_⟩ | refine ⟨_, Loads.at [] hst (cellsR_41 HLL.out), ?_⟩ | refine ⟨_, Loads.at [_] hst rfl, ?_⟩))
      have hX := hst.drew
      clear hst
      refine wp_region_held_drew (S := (fun w' => (loadVarH 22 ⟨g1, 1, none⟩).run Tryz.prog w' = .ok (.slice (some ⟨lb, lo, none⟩) nr cr) w' ∧ (loadVarH 3 ⟨gx, 41, none⟩).run Tryz.prog w' = .ok (.int .i64 x.2.origin) w' ∧ (loadVarH 3 ⟨lb, lo + j * 44, none⟩).run Tryz.prog w' = .ok (.int .i64 y.2.id) w' ∧ (loadVarH 3 ⟨lb, lo + j * 44 + 2, none⟩).run Tryz.prog w' = .ok (.int .i64 y.2.kind) w')) (by kernel_rfl) (by exact ⟨ldS [_] hX rfl, ldS [] hX (cellsR_41 HLL.out), ldO hX (HYI.out), ldO hX (HYK.out)⟩) (fun hHeld => ?_)
      refine tq 0 50 ?_
      refine tq 1 51 ?_
      refine tq 2 52 ?_
      refine tq 4 54 ?_
      refine tq 8 58 ?_
      refine tq 3 53 ?_
      refine tq 9 59 ?_
      refine tq 5 55 ?_
      refine tq 6 56 ?_
      refine tq 7 57 ?_
      refine tq 10 60 ?_
      refine tq 11 61 ?_
      refine tq 12 62 ?_
      refine tq 14 64 ?_
      refine tq 13 63 ?_
      refine tq 15 65 ?_
      refine tq 16 66 ?_
      refine tq 17 67 ?_
      refine tq 18 68 ?_
      refine tq 19 69 ?_
      refine tq 20 70 ?_
      refine tq 21 10 ?_
      refine wpAnyH_done (by kernel_rfl) ?_ _
      clear hHeld
      go_wp2_with (first | go_big_skip | go_big_guard | fail)
      go_roundw
      case rel => exact ⟨j + 1, by omega, rfl, by rw [any_step HYJ.out, ← Bool.or_assoc, ← HAC.out]; simp [c1], hX⟩
      case measure => simp [intOf]; omega
    ·go_wp2_with (first | go_big_skip | go_big_guard | (refine wl_loadE rfl rfl rfl ?_; first | refine ⟨_, Loads.atA (tabC t (.slice ar nr cr) lv) [_] hst rfl rfl, ?_⟩ | refine ⟨_, Loads.at [] hst rfl, ?_⟩ | refine ⟨_, Loads.at [] hst (cellsR_41 HLL.out), ?_⟩ | refine ⟨_, Loads.at [_] hst rfl, ?_⟩))
     have hX := hst.drew
     clear hst
     refine wp_region_held_drew (S := (fun w' => (loadVarH 22 ⟨g1, 1, none⟩).run Tryz.prog w' = .ok (.slice (some ⟨lb, lo, none⟩) nr cr) w' ∧ (loadVarH 3 ⟨gx, 41, none⟩).run Tryz.prog w' = .ok (.int .i64 x.2.origin) w' ∧ (loadVarH 3 ⟨lb, lo + j * 44, none⟩).run Tryz.prog w' = .ok (.int .i64 y.2.id) w' ∧ (loadVarH 3 ⟨lb, lo + j * 44 + 2, none⟩).run Tryz.prog w' = .ok (.int .i64 y.2.kind) w')) (by kernel_rfl) (by exact ⟨ldS [_] hX rfl, ldS [] hX (cellsR_41 HLL.out), ldO hX (HYI.out), ldO hX (HYK.out)⟩) (fun hHeld => ?_)
     refine tq 0 50 ?_
     refine tq 1 51 ?_
     refine tu 2 52 ?_
     refine tu 4 54 ?_
     refine tu 8 58 ?_
     refine tu 3 53 ?_
     refine tu 9 59 ?_
     refine tu 5 55 ?_
     refine tu 6 56 ?_
     refine tu 7 57 ?_
     refine tu 10 60 ?_
     refine tu 11 61 ?_
     refine tu 12 62 ?_
     refine tu 14 64 ?_
     refine tu 13 63 ?_
     refine tu 15 65 ?_
     refine tu 16 66 ?_
     refine tu 17 67 ?_
     refine tu 18 68 ?_
     refine tu 19 69 ?_
     refine tq 20 70 ?_
     refine tq 21 10 ?_
     refine wpAnyH_done (by kernel_rfl) ?_ _
     clear hHeld
     go_wp2_with (first | go_big_skip | go_big_guard | fail)
     go_roundw
     case rel => exact ⟨j + 1, by omega, rfl, by rw [any_step HYJ.out, ← Bool.or_assoc, ← HAC.out]; rfl, hX⟩
     case measure => simp [intOf]; omega
   ·have e1 : decide ((j : Int) < (nr : Int)) = false := decide_eq_false (by omega)
    have hv : RR = ((x.2.origin == 0) || ((xs.take j).map (·.2)).any fun y => (y.id == x.2.origin) && (y.kind == 2)) := by rw [HW.out, List.take_of_length_le (by have := HR.out.len; omega)]
    rw [← hv]
    clear hv
    go_wp2_with (first | go_big_skip | go_big_guard | (refine wl_loadE rfl rfl rfl ?_; first | refine ⟨_, Loads.atA (tabC t (.slice ar nr cr) lv) [_] hst rfl rfl, ?_⟩ | refine ⟨_, Loads.at [] hst rfl, ?_⟩ | refine ⟨_, Loads.at [] hst (cellsR_41 HLL.out), ?_⟩ | refine ⟨_, Loads.at [_] hst rfl, ?_⟩))
    go_ret
    exact ⟨rfl, hst.nil⟩
 ·have hv : RR = volB (xs.map (·.2)) x.2 := by rw [HV.out]; unfold kinB; rw [d5]; rfl
  obtain ⟨⟨z, is⟩, hf⟩ : ∃ p, findP (splitL x.2.name).1 (xs.map (·.2)) = p := ⟨_, rfl⟩
  have HF := hid hf
  cases is
  ·have hv2 := hv.trans (volB_no hf)
   rw [hv2]
   clear hv hv2 hf
   go_enter Tryz.func136, Tryz.ntmps136
   go_wp2_with (first | go_big_skip | go_big_guard | (refine wl_boxA hst0 rfl rfl rfl ?_; intro g1 w1 hst1; clear hst0) | (refine wl_boxA hst1 rfl rfl rfl ?_; intro gx w2 hst; clear hst1) | (refine wl_loadE rfl rfl rfl ?_; first | refine ⟨_, Loads.atA (tabC t (.slice ar nr cr) lv) [_] hst rfl rfl, ?_⟩ | refine ⟨_, Loads.at [] hst rfl, ?_⟩ | refine ⟨_, Loads.at [] hst (cellsR_41 HLL.out), ?_⟩ | refine ⟨_, Loads.at [_] hst rfl, ?_⟩) | (go_at_call 90; refine (refSplit_any x.2.name _ HIN.out.2).mono ?_; rintro _ w9 ⟨rfl, h4⟩; replace hst := St.call0 hst h4; clear h4) | (go_at_call 91; refine (refFind_any t lv (splitL x.2.name).1 _ nr cr xs _ (HR.out.old hst.nil) hb).mono ?_; rw [HF.out]; rintro _ w9 ⟨rfl, h4⟩; replace hst := St.call0 hst h4; clear h4))
   have hD := hst.drew
   clear hst
   refine wp_region_held_drew (S := (fun w' => (loadVarH 22 ⟨g1, 1, none⟩).run Tryz.prog w' = .ok (.slice ar nr cr) w' ∧ (loadVarH 3 ⟨gx, 40, none⟩).run Tryz.prog w' = .ok (.int .i64 x.2.own) w')) (by kernel_rfl) (by exact ⟨ldS [_] hD rfl, ldS [] hD (cellsR_40 HLL.out)⟩) (fun hHeld => ?_)
   refine tq 0 28 ?_
   refine tq 1 29 ?_
   refine tu 2 30 ?_
   refine tu 4 32 ?_
   refine tu 8 36 ?_
   refine tu 3 31 ?_
   refine tu 9 37 ?_
   refine tu 5 33 ?_
   refine tu 6 34 ?_
   refine tu 7 35 ?_
   refine tu 10 38 ?_
   refine tq 11 39 ?_
   refine tq 12 4 ?_
   refine wpAnyH_done (by kernel_rfl) ?_ _
   clear hHeld
   go_wp2_with (first | go_big_skip | go_big_guard | fail)
   go_ret
   exact ⟨rfl, hD.nil⟩
  ·obtain ⟨j, y, rfl, hy, hfn⟩ := findP_yes hf
   have hv2 := hv.trans (volB_yes hfn hy)
   rw [hv2]
   have hjlt : j < nr := by rw [← HR.out.len]; exact (List.getElem?_eq_some_iff.1 hy).1
   obtain ⟨y', lb, lo, hy', rfl, hiny, hry⟩ := RecsIn.at HR.out hjlt
   obtain rfl : y = y' := Option.some.inj (hy.symm.trans hy')
   have HY := hid (show w.cell? ⟨lb, lo + j * 44, none⟩ = some (.int .i64 y.2.id) from hry 0 _ rfl)
   clear hv hv2 hf hy hfn hy' hiny hry
   go_enter Tryz.func136, Tryz.ntmps136
   go_wp2_with (first | go_big_skip | go_big_guard | (refine wl_boxA hst0 rfl rfl rfl ?_; intro g1 w1 hst1; clear hst0) | (refine wl_boxA hst1 rfl rfl rfl ?_; intro gx w2 hst; clear hst1) | (refine wl_loadE rfl rfl rfl ?_; first | refine ⟨_, Loads.atA (tabC t (.slice (some ⟨lb, lo, none⟩) nr cr) lv) [_] hst rfl rfl, ?_⟩ | refine ⟨_, Loads.at [] hst rfl, ?_⟩ | refine ⟨_, Loads.at [] hst (cellsR_41 HLL.out), ?_⟩ | refine ⟨_, Loads.at [_] hst rfl, ?_⟩) | (go_at_call 90; refine (refSplit_any x.2.name _ HIN.out.2).mono ?_; rintro _ w9 ⟨rfl, h4⟩; replace hst := St.call0 hst h4; clear h4) | (go_at_call 91; refine (refFind_any t lv (splitL x.2.name).1 _ nr cr xs _ (HR.out.old hst.nil) hb).mono ?_; rw [HF.out]; rintro _ w9 ⟨rfl, h4⟩; replace hst := St.call0 hst h4; clear h4))
   have hD := hst.drew
   clear hst
   refine wp_region_held_drew (S := (fun w' => (loadVarH 22 ⟨g1, 1, none⟩).run Tryz.prog w' = .ok (.slice (some ⟨lb, lo, none⟩) nr cr) w' ∧ (loadVarH 3 ⟨gx, 40, none⟩).run Tryz.prog w' = .ok (.int .i64 x.2.own) w' ∧ (loadVarH 3 ⟨lb, lo + j * 44, none⟩).run Tryz.prog w' = .ok (.int .i64 y.2.id) w')) (by kernel_rfl) (by exact ⟨ldS [_] hD rfl, ldS [] hD (cellsR_40 HLL.out), ldO hD (HY.out)⟩) (fun hHeld => ?_)
   refine tq 0 28 ?_
   refine tq 1 29 ?_
   refine tq 2 30 ?_
   refine tq 4 32 ?_
   refine tq 8 36 ?_
   refine tq 3 31 ?_
   refine tq 9 37 ?_
   refine tq 5 33 ?_
   refine tq 6 34 ?_
   refine tq 7 35 ?_
   refine tq 10 38 ?_
   refine tq 11 39 ?_
   refine tq 12 4 ?_
   refine wpAnyH_done (by kernel_rfl) ?_ _
   clear hHeld
   go_wp2_with (first | go_big_skip | go_big_guard | fail)
   go_ret
   exact ⟨rfl, hD.nil⟩
end Go.Proofs.YtifajcblbedcoaaGreat
namespace Go.Proofs.YtifajcblbedcoaaGreat
set_option linter.unusedVariables false
set_option linter.unusedSimpArgs false
open Go.RowKit Hp
attribute [local irreducible] Go.Calls Go.wpList Hp.gvV Hp.gB Hp.gA Hp.bOr Hp.bAnd Hp.bNot inB rootB partB snapB
set_option maxRecDepth 100000
set_option maxHeartbeats 4000000
theorem rootB_ref (p : PV) : rootB p = (p.ok && (p.hole || (p.v == 3))) := by
 unfold rootB
 cases hh : p.hole
 ·simp
 ·rw [PV.hole_ok hh]; rfl
theorem may_any_r (x : Value × RC) (w : World) (hx : RC.In w x) : Calls Tryz.prog 135 #[.agg (cellsR x).toArray] w fun e w' => e = .returned (.bool x.2.aloneB) ∧ St w [] w' [] := by
 have hst0 := St.refl w
 have HX := hid hx
 have HL := hid hx.L
 have H35 := hid (PV.len (p := x.2.pv x.1) hx.L)
 clear hx
 obtain ⟨k, hk⟩ : ∃ k, k = (x.2.pv x.1).ok := ⟨_, rfl⟩
 have HK := hid hk
 clear hk
 cases k
 all_goals
  go_enter Tryz.func135, Tryz.ntmps135
  go_wp2_with (first | go_big_skip | (refine wl_boxA hst0 rfl rfl rfl ?_; intro g4 w1 hst; clear hst0) | (show wpList _ _ _ (Oper.mk _ (.fieldAddr 32 _ 2) _ _ _ (some _) :: _) _ _; refine wl_gfld (d := 2) rfl (by first | exact wanted_b rfl rfl | exact wanted_g rfl rfl) (by first | exact (fun hg => gvV_on hg) | exact (fun hg => gvV_gA hg) | exact (fun _ => rfl)) (by kernel_rfl) ?_; (try simp only [Act.put, List.setIfInBounds_toArray, List.set_cons_zero, List.set_cons_succ])) | (show wpList _ _ _ (Oper.mk _ (.fieldAddr 53 _ _) _ _ _ (some _) :: _) _ _; refine wl_gfldR rfl (by first | exact wanted_b rfl rfl | exact wanted_g rfl rfl) (by first | exact (fun hg => gvV_on hg) | exact (fun hg => gvV_gA hg) | exact (fun _ => rfl)) rfl ?_; (try simp only [Act.put, List.setIfInBounds_toArray, List.set_cons_zero, List.set_cons_succ])) | (show wpList _ _ _ (Oper.mk _ (.fieldAddr 32 _ 1) _ _ _ (some _) :: _) _ _; refine wl_gfld (d := 1) rfl (by first | exact wanted_b rfl rfl | exact wanted_g rfl rfl) (by first | exact (fun hg => gvV_on hg) | exact (fun hg => gvV_gA hg) | exact (fun _ => rfl)) (by kernel_rfl) ?_; (try simp only [Act.put, List.setIfInBounds_toArray, List.set_cons_zero, List.set_cons_succ])) | (show wpList _ _ _ (Oper.mk _ (.load _ _) _ _ _ (some _) :: _) _ _; refine wl_gloadE rfl (by first | exact wanted_b rfl rfl | exact wanted_g rfl rfl) (by first | exact (fun hg => gvV_on hg) | exact (fun hg => gvV_gA hg) | exact (fun _ => rfl)) ?_; (first | refine ⟨_, Loads.atA ((x.2.pv x.1).cells) [] hst H35.out (cellsR_root HL.out), ?_⟩ | refine ⟨_, Loads.at [] hst (cellsR_39 HL.out), ?_⟩ | refine ⟨_, Loads.at [] hst (cellsR_40 HL.out), ?_⟩ | refine ⟨_, Loads.at [] hst (cellsR_41 HL.out), ?_⟩ | refine ⟨_, Loads.at [] hst (cellsR_42 HL.out), ?_⟩ | refine ⟨_, Loads.at [] hst (cellsR_43 HL.out), ?_⟩ | refine ⟨_, Loads.at [] hst rfl, ?_⟩); (try simp only [Act.put, List.setIfInBounds_toArray, List.set_cons_zero, List.set_cons_succ]); (repeat ((first | (show wpList _ _ _ (Oper.mk _ (.move _) _ _ _ none :: _) _ _; refine wl_mv rfl rfl rfl ?_) | (show wpList _ _ _ (Oper.mk _ (.pick _ _ _) _ _ _ none :: _) _ _; (first | (refine wl_pickOr rfl rfl rfl rfl rfl ?_; intro q hq) | (refine wl_pickAnd rfl rfl rfl rfl rfl ?_; intro q hq))) | (show wpList _ _ _ (Oper.mk _ (.pick _ _ _) _ _ _ (some _) :: _) _ _; (first | (refine wl_gpickOr rfl (by first | exact wanted_b rfl rfl | exact wanted_g rfl rfl) rfl rfl rfl ?_; intro q hq) | (refine wl_gpickAnd rfl (by first | exact wanted_b rfl rfl | exact wanted_g rfl rfl) rfl rfl rfl ?_; intro q hq))) | (show wpList _ _ _ (Oper.mk _ (.move _) _ _ _ (some _) :: _) _ _; refine wl_gmove rfl (by first | exact wanted_b rfl rfl | exact wanted_g rfl rfl) (by first | exact (fun hg => gvV_on hg) | exact (fun hg => gvV_gA hg) | exact (fun _ => rfl)) ?_)); (try simp only [Act.put, List.setIfInBounds_toArray, List.set_cons_zero, List.set_cons_succ])))) | (show wpList _ _ _ (Oper.mk _ (.binOp _ 3 _ _ _) _ _ _ (some _) :: _) _ _; refine wl_gcmp rfl (by first | exact wanted_b rfl rfl | exact wanted_g rfl rfl) (by first | exact (fun hg => gvV_on hg) | exact (fun hg => gvV_gA hg) | exact (fun _ => rfl)) (by first | exact (fun hg => gvV_on hg) | exact (fun hg => gvV_gA hg) | exact (fun _ => rfl)) rfl ?_; (try simp only [Act.put, List.setIfInBounds_toArray, List.set_cons_zero, List.set_cons_succ]); (repeat ((first | (show wpList _ _ _ (Oper.mk _ (.move _) _ _ _ none :: _) _ _; refine wl_mv rfl rfl rfl ?_) | (show wpList _ _ _ (Oper.mk _ (.pick _ _ _) _ _ _ none :: _) _ _; (first | (refine wl_pickOr rfl rfl rfl rfl rfl ?_; intro q hq) | (refine wl_pickAnd rfl rfl rfl rfl rfl ?_; intro q hq))) | (show wpList _ _ _ (Oper.mk _ (.pick _ _ _) _ _ _ (some _) :: _) _ _; (first | (refine wl_gpickOr rfl (by first | exact wanted_b rfl rfl | exact wanted_g rfl rfl) rfl rfl rfl ?_; intro q hq) | (refine wl_gpickAnd rfl (by first | exact wanted_b rfl rfl | exact wanted_g rfl rfl) rfl rfl rfl ?_; intro q hq))) | (show wpList _ _ _ (Oper.mk _ (.move _) _ _ _ (some _) :: _) _ _; refine wl_gmove rfl (by first | exact wanted_b rfl rfl | exact wanted_g rfl rfl) (by first | exact (fun hg => gvV_on hg) | exact (fun hg => gvV_gA hg) | exact (fun _ => rfl)) ?_)); (try simp only [Act.put, List.setIfInBounds_toArray, List.set_cons_zero, List.set_cons_succ])))) | (show wpList _ _ _ (Oper.mk _ (.unOp .not _ _) _ _ _ (some _) :: _) _ _; refine wl_gnot rfl (by first | exact wanted_b rfl rfl | exact wanted_g rfl rfl) (by first | exact (fun hg => gvV_on hg) | exact (fun hg => gvV_gA hg) | exact (fun _ => rfl)) ?_; (try simp only [Act.put, List.setIfInBounds_toArray, List.set_cons_zero, List.set_cons_succ]); (repeat ((first | (show wpList _ _ _ (Oper.mk _ (.move _) _ _ _ none :: _) _ _; refine wl_mv rfl rfl rfl ?_) | (show wpList _ _ _ (Oper.mk _ (.pick _ _ _) _ _ _ none :: _) _ _; (first | (refine wl_pickOr rfl rfl rfl rfl rfl ?_; intro q hq) | (refine wl_pickAnd rfl rfl rfl rfl rfl ?_; intro q hq))) | (show wpList _ _ _ (Oper.mk _ (.pick _ _ _) _ _ _ (some _) :: _) _ _; (first | (refine wl_gpickOr rfl (by first | exact wanted_b rfl rfl | exact wanted_g rfl rfl) rfl rfl rfl ?_; intro q hq) | (refine wl_gpickAnd rfl (by first | exact wanted_b rfl rfl | exact wanted_g rfl rfl) rfl rfl rfl ?_; intro q hq))) | (show wpList _ _ _ (Oper.mk _ (.move _) _ _ _ (some _) :: _) _ _; refine wl_gmove rfl (by first | exact wanted_b rfl rfl | exact wanted_g rfl rfl) (by first | exact (fun hg => gvV_on hg) | exact (fun hg => gvV_gA hg) | exact (fun _ => rfl)) ?_)); (try simp only [Act.put, List.setIfInBounds_toArray, List.set_cons_zero, List.set_cons_succ])))) | (refine wl_loadE rfl rfl rfl ?_; first | refine ⟨_, Loads.atA ((x.2.pv x.1).cells) [] hst H35.out (cellsR_root HL.out), ?_⟩ | refine ⟨_, Loads.at [] hst (cellsR_39 HL.out), ?_⟩ | refine ⟨_, Loads.at [] hst (cellsR_40 HL.out), ?_⟩ | refine ⟨_, Loads.at [] hst (cellsR_41 HL.out), ?_⟩ | refine ⟨_, Loads.at [] hst (cellsR_42 HL.out), ?_⟩ | refine ⟨_, Loads.at [] hst (cellsR_43 HL.out), ?_⟩ | refine ⟨_, Loads.at [] hst rfl, ?_⟩) | (show wpList _ _ _ (Oper.mk _ (.call (Call.mk (.value (.func 122)) _ _)) _ _ _ (some _) :: _) _ _; refine wl_gcall (v := .bool (inB x.2.size 1 64)) hst (by first | exact wanted_b rfl rfl | exact wanted_g rfl rfl) ?_ ?_; (intro hg K hK; have Hg := hid hg; clear hg; go_simp; go_at_call 122; (try (conv => (arg 3; simp only [gvV_on Hg.out]))); refine (refWithin_any x.2.size 1 64 _).mono ?_; rintro _ w9 ⟨rfl, h4⟩; have hk := hK _ (St.call0 hst h4); simp only [Act.put, List.setIfInBounds_toArray, List.set_cons_zero, List.set_cons_succ] at hk; dsimp only; exact hk); (intro w5 hst5; replace hst := hst5; clear hst5; (try simp only [Act.put, List.setIfInBounds_toArray, List.set_cons_zero, List.set_cons_succ]); (repeat ((first | (show wpList _ _ _ (Oper.mk _ (.move _) _ _ _ none :: _) _ _; refine wl_mv rfl rfl rfl ?_) | (show wpList _ _ _ (Oper.mk _ (.pick _ _ _) _ _ _ none :: _) _ _; (first | (refine wl_pickOr rfl rfl rfl rfl rfl ?_; intro q hq) | (refine wl_pickAnd rfl rfl rfl rfl rfl ?_; intro q hq))) | (show wpList _ _ _ (Oper.mk _ (.pick _ _ _) _ _ _ (some _) :: _) _ _; (first | (refine wl_gpickOr rfl (by first | exact wanted_b rfl rfl | exact wanted_g rfl rfl) rfl rfl rfl ?_; intro q hq) | (refine wl_gpickAnd rfl (by first | exact wanted_b rfl rfl | exact wanted_g rfl rfl) rfl rfl rfl ?_; intro q hq))) | (show wpList _ _ _ (Oper.mk _ (.move _) _ _ _ (some _) :: _) _ _; refine wl_gmove rfl (by first | exact wanted_b rfl rfl | exact wanted_g rfl rfl) (by first | exact (fun hg => gvV_on hg) | exact (fun hg => gvV_gA hg) | exact (fun _ => rfl)) ?_)); (try simp only [Act.put, List.setIfInBounds_toArray, List.set_cons_zero, List.set_cons_succ]))))) | (show wpList _ _ _ (Oper.mk _ (.call (Call.mk (.value (.func 122)) _ _)) _ _ _ (some _) :: _) _ _; refine wl_gcall (v := .bool (inB x.2.made 1 2147483648)) hst (by first | exact wanted_b rfl rfl | exact wanted_g rfl rfl) ?_ ?_; (intro hg K hK; have Hg := hid hg; clear hg; go_simp; go_at_call 122; (try (conv => (arg 3; simp only [gvV_on Hg.out]))); refine (refWithin_any x.2.made 1 2147483648 _).mono ?_; rintro _ w9 ⟨rfl, h4⟩; have hk := hK _ (St.call0 hst h4); simp only [Act.put, List.setIfInBounds_toArray, List.set_cons_zero, List.set_cons_succ] at hk; dsimp only; exact hk); (intro w5 hst5; replace hst := hst5; clear hst5; (try simp only [Act.put, List.setIfInBounds_toArray, List.set_cons_zero, List.set_cons_succ]); (repeat ((first | (show wpList _ _ _ (Oper.mk _ (.move _) _ _ _ none :: _) _ _; refine wl_mv rfl rfl rfl ?_) | (show wpList _ _ _ (Oper.mk _ (.pick _ _ _) _ _ _ none :: _) _ _; (first | (refine wl_pickOr rfl rfl rfl rfl rfl ?_; intro q hq) | (refine wl_pickAnd rfl rfl rfl rfl rfl ?_; intro q hq))) | (show wpList _ _ _ (Oper.mk _ (.pick _ _ _) _ _ _ (some _) :: _) _ _; (first | (refine wl_gpickOr rfl (by first | exact wanted_b rfl rfl | exact wanted_g rfl rfl) rfl rfl rfl ?_; intro q hq) | (refine wl_gpickAnd rfl (by first | exact wanted_b rfl rfl | exact wanted_g rfl rfl) rfl rfl rfl ?_; intro q hq))) | (show wpList _ _ _ (Oper.mk _ (.move _) _ _ _ (some _) :: _) _ _; refine wl_gmove rfl (by first | exact wanted_b rfl rfl | exact wanted_g rfl rfl) (by first | exact (fun hg => gvV_on hg) | exact (fun hg => gvV_gA hg) | exact (fun _ => rfl)) ?_)); (try simp only [Act.put, List.setIfInBounds_toArray, List.set_cons_zero, List.set_cons_succ]))))) | (show wpList _ _ _ (Oper.mk _ (.call (Call.mk (.value (.func 122)) _ _)) _ _ _ (some _) :: _) _ _; refine wl_gcall (v := .bool (inB x.2.origin 0 2147483647)) hst (by first | exact wanted_b rfl rfl | exact wanted_g rfl rfl) ?_ ?_; (intro hg K hK; have Hg := hid hg; clear hg; go_simp; go_at_call 122; (try (conv => (arg 3; simp only [gvV_on Hg.out]))); refine (refWithin_any x.2.origin 0 2147483647 _).mono ?_; rintro _ w9 ⟨rfl, h4⟩; have hk := hK _ (St.call0 hst h4); simp only [Act.put, List.setIfInBounds_toArray, List.set_cons_zero, List.set_cons_succ] at hk; dsimp only; exact hk); (intro w5 hst5; replace hst := hst5; clear hst5; (try simp only [Act.put, List.setIfInBounds_toArray, List.set_cons_zero, List.set_cons_succ]); (repeat ((first | (show wpList _ _ _ (Oper.mk _ (.move _) _ _ _ none :: _) _ _; refine wl_mv rfl rfl rfl ?_) | (show wpList _ _ _ (Oper.mk _ (.pick _ _ _) _ _ _ none :: _) _ _; (first | (refine wl_pickOr rfl rfl rfl rfl rfl ?_; intro q hq) | (refine wl_pickAnd rfl rfl rfl rfl rfl ?_; intro q hq))) | (show wpList _ _ _ (Oper.mk _ (.pick _ _ _) _ _ _ (some _) :: _) _ _; (first | (refine wl_gpickOr rfl (by first | exact wanted_b rfl rfl | exact wanted_g rfl rfl) rfl rfl rfl ?_; intro q hq) | (refine wl_gpickAnd rfl (by first | exact wanted_b rfl rfl | exact wanted_g rfl rfl) rfl rfl rfl ?_; intro q hq))) | (show wpList _ _ _ (Oper.mk _ (.move _) _ _ _ (some _) :: _) _ _; refine wl_gmove rfl (by first | exact wanted_b rfl rfl | exact wanted_g rfl rfl) (by first | exact (fun hg => gvV_on hg) | exact (fun hg => gvV_gA hg) | exact (fun _ => rfl)) ?_)); (try simp only [Act.put, List.setIfInBounds_toArray, List.set_cons_zero, List.set_cons_succ]))))) | (show wpList _ _ _ (Oper.mk _ (.call (Call.mk (.value (.func 122)) _ _)) _ _ _ (some _) :: _) _ _; refine wl_gcall (v := .bool (inB x.2.quota 0 64)) hst (by first | exact wanted_b rfl rfl | exact wanted_g rfl rfl) ?_ ?_; (intro hg K hK; have Hg := hid hg; clear hg; go_simp; go_at_call 122; (try (conv => (arg 3; simp only [gvV_on Hg.out]))); refine (refWithin_any x.2.quota 0 64 _).mono ?_; rintro _ w9 ⟨rfl, h4⟩; have hk := hK _ (St.call0 hst h4); simp only [Act.put, List.setIfInBounds_toArray, List.set_cons_zero, List.set_cons_succ] at hk; dsimp only; exact hk); (intro w5 hst5; replace hst := hst5; clear hst5; (try simp only [Act.put, List.setIfInBounds_toArray, List.set_cons_zero, List.set_cons_succ]); (repeat ((first | (show wpList _ _ _ (Oper.mk _ (.move _) _ _ _ none :: _) _ _; refine wl_mv rfl rfl rfl ?_) | (show wpList _ _ _ (Oper.mk _ (.pick _ _ _) _ _ _ none :: _) _ _; (first | (refine wl_pickOr rfl rfl rfl rfl rfl ?_; intro q hq) | (refine wl_pickAnd rfl rfl rfl rfl rfl ?_; intro q hq))) | (show wpList _ _ _ (Oper.mk _ (.pick _ _ _) _ _ _ (some _) :: _) _ _; (first | (refine wl_gpickOr rfl (by first | exact wanted_b rfl rfl | exact wanted_g rfl rfl) rfl rfl rfl ?_; intro q hq) | (refine wl_gpickAnd rfl (by first | exact wanted_b rfl rfl | exact wanted_g rfl rfl) rfl rfl rfl ?_; intro q hq))) | (show wpList _ _ _ (Oper.mk _ (.move _) _ _ _ (some _) :: _) _ _; refine wl_gmove rfl (by first | exact wanted_b rfl rfl | exact wanted_g rfl rfl) (by first | exact (fun hg => gvV_on hg) | exact (fun hg => gvV_gA hg) | exact (fun _ => rfl)) ?_)); (try simp only [Act.put, List.setIfInBounds_toArray, List.set_cons_zero, List.set_cons_succ]))))) | (show wpList _ _ _ (Oper.mk _ (.call (Call.mk (.value (.func 122)) _ _)) _ _ _ (some _) :: _) _ _; refine wl_gcall (v := .bool (inB x.2.reserve 0 64)) hst (by first | exact wanted_b rfl rfl | exact wanted_g rfl rfl) ?_ ?_; (intro hg K hK; have Hg := hid hg; clear hg; go_simp; go_at_call 122; (try (conv => (arg 3; simp only [gvV_on Hg.out]))); refine (refWithin_any x.2.reserve 0 64 _).mono ?_; rintro _ w9 ⟨rfl, h4⟩; have hk := hK _ (St.call0 hst h4); simp only [Act.put, List.setIfInBounds_toArray, List.set_cons_zero, List.set_cons_succ] at hk; dsimp only; exact hk); (intro w5 hst5; replace hst := hst5; clear hst5; (try simp only [Act.put, List.setIfInBounds_toArray, List.set_cons_zero, List.set_cons_succ]); (repeat ((first | (show wpList _ _ _ (Oper.mk _ (.move _) _ _ _ none :: _) _ _; refine wl_mv rfl rfl rfl ?_) | (show wpList _ _ _ (Oper.mk _ (.pick _ _ _) _ _ _ none :: _) _ _; (first | (refine wl_pickOr rfl rfl rfl rfl rfl ?_; intro q hq) | (refine wl_pickAnd rfl rfl rfl rfl rfl ?_; intro q hq))) | (show wpList _ _ _ (Oper.mk _ (.pick _ _ _) _ _ _ (some _) :: _) _ _; (first | (refine wl_gpickOr rfl (by first | exact wanted_b rfl rfl | exact wanted_g rfl rfl) rfl rfl rfl ?_; intro q hq) | (refine wl_gpickAnd rfl (by first | exact wanted_b rfl rfl | exact wanted_g rfl rfl) rfl rfl rfl ?_; intro q hq))) | (show wpList _ _ _ (Oper.mk _ (.move _) _ _ _ (some _) :: _) _ _; refine wl_gmove rfl (by first | exact wanted_b rfl rfl | exact wanted_g rfl rfl) (by first | exact (fun hg => gvV_on hg) | exact (fun hg => gvV_gA hg) | exact (fun _ => rfl)) ?_)); (try simp only [Act.put, List.setIfInBounds_toArray, List.set_cons_zero, List.set_cons_succ]))))) | (show wpList _ _ _ (Oper.mk _ (.call (Call.mk (.value (.func 122)) _ _)) _ _ _ (some _) :: _) _ _; refine wl_gcall (v := .bool (inB x.2.own 1 2147483647)) hst (by first | exact wanted_b rfl rfl | exact wanted_g rfl rfl) ?_ ?_; (intro hg K hK; have Hg := hid hg; clear hg; go_simp; go_at_call 122; (try (conv => (arg 3; simp only [gvV_on Hg.out]))); refine (refWithin_any x.2.own 1 2147483647 _).mono ?_; rintro _ w9 ⟨rfl, h4⟩; have hk := hK _ (St.call0 hst h4); simp only [Act.put, List.setIfInBounds_toArray, List.set_cons_zero, List.set_cons_succ] at hk; dsimp only; exact hk); (intro w5 hst5; replace hst := hst5; clear hst5; (try simp only [Act.put, List.setIfInBounds_toArray, List.set_cons_zero, List.set_cons_succ]); (repeat ((first | (show wpList _ _ _ (Oper.mk _ (.move _) _ _ _ none :: _) _ _; refine wl_mv rfl rfl rfl ?_) | (show wpList _ _ _ (Oper.mk _ (.pick _ _ _) _ _ _ none :: _) _ _; (first | (refine wl_pickOr rfl rfl rfl rfl rfl ?_; intro q hq) | (refine wl_pickAnd rfl rfl rfl rfl rfl ?_; intro q hq))) | (show wpList _ _ _ (Oper.mk _ (.pick _ _ _) _ _ _ (some _) :: _) _ _; (first | (refine wl_gpickOr rfl (by first | exact wanted_b rfl rfl | exact wanted_g rfl rfl) rfl rfl rfl ?_; intro q hq) | (refine wl_gpickAnd rfl (by first | exact wanted_b rfl rfl | exact wanted_g rfl rfl) rfl rfl rfl ?_; intro q hq))) | (show wpList _ _ _ (Oper.mk _ (.move _) _ _ _ (some _) :: _) _ _; refine wl_gmove rfl (by first | exact wanted_b rfl rfl | exact wanted_g rfl rfl) (by first | exact (fun hg => gvV_on hg) | exact (fun hg => gvV_gA hg) | exact (fun _ => rfl)) ?_)); (try simp only [Act.put, List.setIfInBounds_toArray, List.set_cons_zero, List.set_cons_succ]))))) | (go_at_call 99; refine (refCheck_pv (x.2.pv x.1) _ (PV.In.old hst HX.out.1)).mono ?_; rw [← HK.out]; rintro _ w9 ⟨rfl, h4⟩; replace hst := St.call0 hst h4; clear h4; (try simp only [Act.put, List.setIfInBounds_toArray, List.set_cons_zero, List.set_cons_succ]); (repeat ((first | (show wpList _ _ _ (Oper.mk _ (.move _) _ _ _ none :: _) _ _; refine wl_mv rfl rfl rfl ?_) | (show wpList _ _ _ (Oper.mk _ (.pick _ _ _) _ _ _ none :: _) _ _; (first | (refine wl_pickOr rfl rfl rfl rfl rfl ?_; intro q hq) | (refine wl_pickAnd rfl rfl rfl rfl rfl ?_; intro q hq))) | (show wpList _ _ _ (Oper.mk _ (.pick _ _ _) _ _ _ (some _) :: _) _ _; (first | (refine wl_gpickOr rfl (by first | exact wanted_b rfl rfl | exact wanted_g rfl rfl) rfl rfl rfl ?_; intro q hq) | (refine wl_gpickAnd rfl (by first | exact wanted_b rfl rfl | exact wanted_g rfl rfl) rfl rfl rfl ?_; intro q hq))) | (show wpList _ _ _ (Oper.mk _ (.move _) _ _ _ (some _) :: _) _ _; refine wl_gmove rfl (by first | exact wanted_b rfl rfl | exact wanted_g rfl rfl) (by first | exact (fun hg => gvV_on hg) | exact (fun hg => gvV_gA hg) | exact (fun _ => rfl)) ?_)); (try simp only [Act.put, List.setIfInBounds_toArray, List.set_cons_zero, List.set_cons_succ])))) | (show wpList _ _ _ (Oper.mk _ (.call (Call.mk (.value (.func 100)) _ _)) _ _ _ (some _) :: _) _ _; refine wl_gcall (v := .bool (x.2.pv x.1).hole) hst (by first | exact wanted_b rfl rfl | exact wanted_g rfl rfl) ?_ ?_; (intro hg K hK; have Hg := hid hg; clear hg; go_simp; go_at_call 100; (try (conv => (arg 3; simp only [gvV_on Hg.out]))); refine (refHole_pv (x.2.pv x.1) _ (PV.In.old hst HX.out.1)).mono ?_; rintro _ w9 ⟨rfl, h4⟩; have hk := hK _ (St.call0 hst h4); simp only [Act.put, List.setIfInBounds_toArray, List.set_cons_zero, List.set_cons_succ] at hk; dsimp only; exact hk); (intro w5 hst5; replace hst := hst5; clear hst5; (try simp only [Act.put, List.setIfInBounds_toArray, List.set_cons_zero, List.set_cons_succ]); (repeat ((first | (show wpList _ _ _ (Oper.mk _ (.move _) _ _ _ none :: _) _ _; refine wl_mv rfl rfl rfl ?_) | (show wpList _ _ _ (Oper.mk _ (.pick _ _ _) _ _ _ none :: _) _ _; (first | (refine wl_pickOr rfl rfl rfl rfl rfl ?_; intro q hq) | (refine wl_pickAnd rfl rfl rfl rfl rfl ?_; intro q hq))) | (show wpList _ _ _ (Oper.mk _ (.pick _ _ _) _ _ _ (some _) :: _) _ _; (first | (refine wl_gpickOr rfl (by first | exact wanted_b rfl rfl | exact wanted_g rfl rfl) rfl rfl rfl ?_; intro q hq) | (refine wl_gpickAnd rfl (by first | exact wanted_b rfl rfl | exact wanted_g rfl rfl) rfl rfl rfl ?_; intro q hq))) | (show wpList _ _ _ (Oper.mk _ (.move _) _ _ _ (some _) :: _) _ _; refine wl_gmove rfl (by first | exact wanted_b rfl rfl | exact wanted_g rfl rfl) (by first | exact (fun hg => gvV_on hg) | exact (fun hg => gvV_gA hg) | exact (fun _ => rfl)) ?_)); (try simp only [Act.put, List.setIfInBounds_toArray, List.set_cons_zero, List.set_cons_succ]))))) | (go_at_call 100; refine (refHole_pv (x.2.pv x.1) _ (PV.In.old hst HX.out.1)).mono ?_; rintro _ w9 ⟨rfl, h4⟩; replace hst := St.call0 hst h4; clear h4; (try simp only [Act.put, List.setIfInBounds_toArray, List.set_cons_zero, List.set_cons_succ]); (repeat ((first | (show wpList _ _ _ (Oper.mk _ (.move _) _ _ _ none :: _) _ _; refine wl_mv rfl rfl rfl ?_) | (show wpList _ _ _ (Oper.mk _ (.pick _ _ _) _ _ _ none :: _) _ _; (first | (refine wl_pickOr rfl rfl rfl rfl rfl ?_; intro q hq) | (refine wl_pickAnd rfl rfl rfl rfl rfl ?_; intro q hq))) | (show wpList _ _ _ (Oper.mk _ (.pick _ _ _) _ _ _ (some _) :: _) _ _; (first | (refine wl_gpickOr rfl (by first | exact wanted_b rfl rfl | exact wanted_g rfl rfl) rfl rfl rfl ?_; intro q hq) | (refine wl_gpickAnd rfl (by first | exact wanted_b rfl rfl | exact wanted_g rfl rfl) rfl rfl rfl ?_; intro q hq))) | (show wpList _ _ _ (Oper.mk _ (.move _) _ _ _ (some _) :: _) _ _; refine wl_gmove rfl (by first | exact wanted_b rfl rfl | exact wanted_g rfl rfl) (by first | exact (fun hg => gvV_on hg) | exact (fun hg => gvV_gA hg) | exact (fun _ => rfl)) ?_)); (try simp only [Act.put, List.setIfInBounds_toArray, List.set_cons_zero, List.set_cons_succ])))) | (go_at_call 122; refine (refWithin_any x.2.id _ _ _).mono ?_; rintro _ w9 ⟨rfl, h4⟩; replace hst := St.call0 hst h4; clear h4; (try simp only [Act.put, List.setIfInBounds_toArray, List.set_cons_zero, List.set_cons_succ]); (repeat ((first | (show wpList _ _ _ (Oper.mk _ (.move _) _ _ _ none :: _) _ _; refine wl_mv rfl rfl rfl ?_) | (show wpList _ _ _ (Oper.mk _ (.pick _ _ _) _ _ _ none :: _) _ _; (first | (refine wl_pickOr rfl rfl rfl rfl rfl ?_; intro q hq) | (refine wl_pickAnd rfl rfl rfl rfl rfl ?_; intro q hq))) | (show wpList _ _ _ (Oper.mk _ (.pick _ _ _) _ _ _ (some _) :: _) _ _; (first | (refine wl_gpickOr rfl (by first | exact wanted_b rfl rfl | exact wanted_g rfl rfl) rfl rfl rfl ?_; intro q hq) | (refine wl_gpickAnd rfl (by first | exact wanted_b rfl rfl | exact wanted_g rfl rfl) rfl rfl rfl ?_; intro q hq))) | (show wpList _ _ _ (Oper.mk _ (.move _) _ _ _ (some _) :: _) _ _; refine wl_gmove rfl (by first | exact wanted_b rfl rfl | exact wanted_g rfl rfl) (by first | exact (fun hg => gvV_on hg) | exact (fun hg => gvV_gA hg) | exact (fun _ => rfl)) ?_)); (try simp only [Act.put, List.setIfInBounds_toArray, List.set_cons_zero, List.set_cons_succ])))) | (go_at_call 87; refine (refVolume_any x.2.name _ HX.out.2).mono ?_; rintro _ w9 ⟨rfl, h4⟩; replace hst := St.call0 hst h4; clear h4; (try simp only [Act.put, List.setIfInBounds_toArray, List.set_cons_zero, List.set_cons_succ]); (repeat ((first | (show wpList _ _ _ (Oper.mk _ (.move _) _ _ _ none :: _) _ _; refine wl_mv rfl rfl rfl ?_) | (show wpList _ _ _ (Oper.mk _ (.pick _ _ _) _ _ _ none :: _) _ _; (first | (refine wl_pickOr rfl rfl rfl rfl rfl ?_; intro q hq) | (refine wl_pickAnd rfl rfl rfl rfl rfl ?_; intro q hq))) | (show wpList _ _ _ (Oper.mk _ (.pick _ _ _) _ _ _ (some _) :: _) _ _; (first | (refine wl_gpickOr rfl (by first | exact wanted_b rfl rfl | exact wanted_g rfl rfl) rfl rfl rfl ?_; intro q hq) | (refine wl_gpickAnd rfl (by first | exact wanted_b rfl rfl | exact wanted_g rfl rfl) rfl rfl rfl ?_; intro q hq))) | (show wpList _ _ _ (Oper.mk _ (.move _) _ _ _ (some _) :: _) _ _; refine wl_gmove rfl (by first | exact wanted_b rfl rfl | exact wanted_g rfl rfl) (by first | exact (fun hg => gvV_on hg) | exact (fun hg => gvV_gA hg) | exact (fun _ => rfl)) ?_)); (try simp only [Act.put, List.setIfInBounds_toArray, List.set_cons_zero, List.set_cons_succ])))) | (go_at_call 92; refine (refSnap_any x.2.name _ HX.out.2).mono ?_; rintro _ w9 ⟨rfl, h4⟩; replace hst := St.call0 hst h4; clear h4; (try simp only [Act.put, List.setIfInBounds_toArray, List.set_cons_zero, List.set_cons_succ]); (repeat ((first | (show wpList _ _ _ (Oper.mk _ (.move _) _ _ _ none :: _) _ _; refine wl_mv rfl rfl rfl ?_) | (show wpList _ _ _ (Oper.mk _ (.pick _ _ _) _ _ _ none :: _) _ _; (first | (refine wl_pickOr rfl rfl rfl rfl rfl ?_; intro q hq) | (refine wl_pickAnd rfl rfl rfl rfl rfl ?_; intro q hq))) | (show wpList _ _ _ (Oper.mk _ (.pick _ _ _) _ _ _ (some _) :: _) _ _; (first | (refine wl_gpickOr rfl (by first | exact wanted_b rfl rfl | exact wanted_g rfl rfl) rfl rfl rfl ?_; intro q hq) | (refine wl_gpickAnd rfl (by first | exact wanted_b rfl rfl | exact wanted_g rfl rfl) rfl rfl rfl ?_; intro q hq))) | (show wpList _ _ _ (Oper.mk _ (.move _) _ _ _ (some _) :: _) _ _; refine wl_gmove rfl (by first | exact wanted_b rfl rfl | exact wanted_g rfl rfl) (by first | exact (fun hg => gvV_on hg) | exact (fun hg => gvV_gA hg) | exact (fun _ => rfl)) ?_)); (try simp only [Act.put, List.setIfInBounds_toArray, List.set_cons_zero, List.set_cons_succ])))))
  all_goals go_ret
  all_goals refine ⟨congrArg (fun z => Ending.returned (Value.bool z)) (?_ : (_ : Bool) = x.2.aloneB), hst.nil⟩
  all_goals
   have e := alone_eq x
   have e2 : (x.2.pv x.1).v = x.2.v := rfl
   have hk := HK.out
   clear HX HL H35 hst HK
   rw [e, RC.kindB, rootB_ref, e2, ← hk]
   simp only [hid_iff, bNot_eq, e2] at *
   clear e e2 hk
   (simp_all only [← Bool.not_and, ← Bool.not_or, bne, Bool.not_eq_true', Bool.not_eq_false', Bool.false_or, Bool.true_or, Bool.or_false, Bool.or_true, Bool.not_true, Bool.not_false, Bool.and_true, Bool.and_false, Bool.true_and, Bool.false_and, if_true, if_false, Bool.false_eq_true]) <;> rfl
end Go.Proofs.YtifajcblbedcoaaGreat
namespace Go.Proofs.YtifajcblbedcoaaGreat
set_option linter.unusedVariables false
set_option linter.unusedSimpArgs false
open Go.RowKit Hp
attribute [local irreducible] Go.Calls
set_option maxRecDepth 100000
set_option maxHeartbeats 4000000
attribute [local go_sem ↓] heldInt heldRecs heldStr heldRec
def bothB (next : Int) (l : List RC) (i : Nat) (r : RC) : Bool := eachB l i r && relB next l i r
theorem both_all (next : Int) (l : List RC) : allAt (bothB next l) l = (allAt (eachB l) l && allAt (relB next l) l) := by
 rw [Bool.eq_iff_iff, Bool.and_eq_true]
 constructor
 ·intro h
  exact ⟨allAt_all fun i r hi => (Bool.and_eq_true_iff.1 (allAt_at h hi)).1, allAt_all fun i r hi => (Bool.and_eq_true_iff.1 (allAt_at h hi)).2⟩
 ·rintro ⟨h1, h2⟩
  exact allAt_all fun i r hi => by unfold bothB; rw [allAt_at h1 hi, allAt_at h2 hi]; rfl
theorem records_any_r (t : TC) (lv : Value) (ar : Option Addr) (nr cr : Nat) (xs : List (Value × RC)) (w : World) (hR : RecsIn w (.slice ar nr cr) nr xs) (hb : nr ≤ 1000000) :
  Calls Tryz.prog 123 #[.agg (tabC t (.slice ar nr cr) lv).toArray] w fun e w' => e = .returned (.bool (allAt (bothB t.next (xs.map (·.2))) (xs.map (·.2)))) ∧ St w [] w' [] := by
 have hst0 := St.refl w
 have hcr : nr ≤ cr ∧ cr ≤ maxLen := by
  obtain ⟨_, ao', c0, he, hn, hcm, _⟩ := hR.rd
  cases he
  exact ⟨hn, hcm⟩
 have HR := hid hR
 clear hR
 obtain ⟨hc1, hc2⟩ := hcr
 unfold maxLen at hc2
 obtain ⟨E, hE⟩ : ∃ E, E = allAt (bothB t.next (xs.map (·.2))) (xs.map (·.2)) := ⟨_, rfl⟩
 rw [← hE]
 have HE := hid hE
 clear hE
 go_enter Tryz.func123, Tryz.ntmps123
 go_wp2_with (first | go_big_skip | go_big_guard | (refine wl_boxA hst0 rfl rfl rfl ?_; intro g1 w1 hst; clear hst0))
 go_loopw [3] (fun i wr => ∃ j : Nat, j ≤ nr ∧ i = .int .i64 (j : Int) ∧ St w [] wr [.blk g1 27 (tabC t (.slice ar nr cr) lv)] ∧ Hid (∀ i y, i < j → xs[i]? = some y → bothB t.next (xs.map (·.2)) i y.2 = true)) (fun i _ => nr - (intOf i).toNat)
 case atStart => exact ⟨0, Nat.zero_le _, rfl, hst, hid (fun i y hi _ => by omega)⟩
 case round =>
  clear hst
  obtain ⟨j, hj, rfl, hst, HP⟩ := hrel
  by_cases hlt : j < nr
  ·have e1 : decide ((j : Int) < (nr : Int)) = true := decide_eq_true (by omega)
   have z1 : IntKind.i64.wrap ((j : Int) + 1) = (j : Int) + 1 := IntWalk.i64_in _ (by omega)
   obtain ⟨x, lb, lo, hxj, rfl, hin, hr⟩ := RecsIn.at HR.out hlt
   have HXJ := hid hxj
   have HIN := hid hin
   have HL := hid (cellsR_len hin.L)
   have HWR := hid hr
   clear hxj hin hr
   obtain ⟨q, hq⟩ : ∃ q, q = x.2.aloneB := ⟨_, rfl⟩
   have HQ := hid hq
   clear hq
   cases q
   ·go_wp2_with (first | go_big_skip | go_big_guard | (refine wl_loadE rfl rfl rfl ?_; first | refine ⟨_, Loads.at [] hst rfl, ?_⟩) | (refine wl_index rfl rfl rfl rfl hlt ?_) | (refine wl_loadE rfl rfl rfl ?_; first | refine ⟨_, Loads.oldA (cs := cellsR x) hst HL.out HWR.out, ?_⟩) | (refine wl_alloc hst rfl rfl ?_; intro gx w2 hst2; clear hst) | (refine wl_storeA [] hst2 rfl rfl rfl rfl (by exact HL.out) (cellsR_ones HIN.out) rfl ?_; intro w3 hst3; clear hst2))
    have hX := hst3.drew
    clear hst3
    refine wp_region_held_drew (S := (fun w' => (loadVarH 53 ⟨gx, 0, none⟩).run Tryz.prog w' = .ok (.agg (List.toArray (cellsR x))) w' ∧ (loadVarH 3 ⟨gx, 0, none⟩).run Tryz.prog w' = .ok (.int .i64 x.2.id) w' ∧ (loadVarH 3 ⟨g1, 0, none⟩).run Tryz.prog w' = .ok (.int .i64 t.next) w')) (by kernel_rfl) (by exact ⟨ldA (cellsR x) [] hX (HL.out) (by simp), ldS [] hX rfl, ldS [_] hX rfl⟩) (fun hHeld => ?_)
    refine tq 0 18 ?_
    refine wpAnyH_ready (rs := [1]) (by kernel_rfl) (by simp) ?_
    refine (AllReadyH.cons (o := ⟨some 19, _, _, _, _, _⟩) rfl (fun K hK => ?_) AllReadyH.nil)
    rw [if_pos (by rfl)]
    go_simp
    go_at_call 135
    refine (may_any_r x _ (RC.In.old hX HIN.out)).mono ?_
    rw [← HQ.out]
    rintro _ w4 ⟨rfl, h4⟩
    have hA1 := St.call0 hX h4
    clear h4
    refine hK.out _ _ ?_ (fun hHeld => ?_)
    ·exact ⟨ldA (cellsR x) [] hA1 (HL.out) (by simp), ldS [] hA1 rfl, ldS [_] hA1 rfl⟩
    clear hK K
    (try simp only [Act.put, List.setIfInBounds_toArray, List.set_cons_zero, List.set_cons_succ])
    refine tq 2 20 ?_
    refine tq 3 21 ?_
    refine tu 4 22 ?_
    refine tu 6 24 ?_
    refine tu 5 23 ?_
    refine tu 7 25 ?_
    refine tu 8 26 ?_
    refine tq 9 27 ?_
    refine tq 10 28 ?_
    refine tu 11 29 ?_
    refine tu 12 30 ?_
    refine tu 13 31 ?_
    refine tu 14 32 ?_
    refine tu 16 34 ?_
    refine tu 21 39 ?_
    refine tu 15 33 ?_
    refine tu 17 35 ?_
    refine tu 22 40 ?_
    refine tu 18 36 ?_
    refine tu 19 37 ?_
    refine tu 20 38 ?_
    refine wpAnyH_ready (rs := [23]) (by kernel_rfl) (by simp) ?_
    refine (AllReadyH.cons (o := ⟨some 41, _, _, _, _, _⟩) rfl (fun K hK => ?_) AllReadyH.nil)
    rw [if_neg (by rw [show Region.wanted _ _ = false from rfl]; exact Bool.false_ne_true)]
    refine hK.out _ _ ?_ (fun hHeld => ?_)
    ·exact ⟨ldA (cellsR x) [] hA1 (HL.out) (by simp), ldS [] hA1 rfl, ldS [_] hA1 rfl⟩
    clear hK K
    (try simp only [Act.put, List.setIfInBounds_toArray, List.set_cons_zero, List.set_cons_succ])
    refine tu 24 42 ?_
    refine tu 25 43 ?_
    refine tq 26 44 ?_
    refine wpAnyH_done (by kernel_rfl) ?_ _
    clear hHeld
    have hv : E = false := by rw [HE.out]; exact allAt_no (map_at HXJ.out) (by unfold bothB eachB relB; rw [← HQ.out]; rfl)
    have HV := hid hv
    clear hv
    go_wp2_with (first | go_big_skip | go_big_guard | fail)
    go_ret
    exact ⟨by have h := HV.out; subst h; rfl, hA1.nil⟩
   ·by_cases k2 : x.2.id < t.next
    ·have d3 : decide (x.2.id ≥ t.next) = false := decide_eq_false (by omega)
     have d4 : decide (t.next ≤ x.2.id) = false := d3
     have HLT := hid (decide_eq_true k2)
     clear k2
     by_cases k3 : j = 0
     ·have z7 : decide (0 < j) = false := decide_eq_false (by omega)
      have z4 : decide ((0 : Int) < (j : Int)) = false := decide_eq_false (by omega)
      have z5 : decide ((j : Int) > 0) = false := z4
      have HJ := hid k3
      clear k3
      go_wp2_with (first | go_big_skip | go_big_guard | (refine wl_loadE rfl rfl rfl ?_; first | refine ⟨_, Loads.at [] hst rfl, ?_⟩) | (refine wl_index rfl rfl rfl rfl hlt ?_) | (refine wl_loadE rfl rfl rfl ?_; first | refine ⟨_, Loads.oldA (cs := cellsR x) hst HL.out HWR.out, ?_⟩) | (refine wl_alloc hst rfl rfl ?_; intro gx w2 hst2; clear hst) | (refine wl_storeA [] hst2 rfl rfl rfl rfl (by exact HL.out) (cellsR_ones HIN.out) rfl ?_; intro w3 hst3; clear hst2))
      have hX := hst3.drew
      clear hst3
      refine wp_region_held_drew (S := (fun w' => (loadVarH 53 ⟨gx, 0, none⟩).run Tryz.prog w' = .ok (.agg (List.toArray (cellsR x))) w' ∧ (loadVarH 3 ⟨gx, 0, none⟩).run Tryz.prog w' = .ok (.int .i64 x.2.id) w' ∧ (loadVarH 3 ⟨g1, 0, none⟩).run Tryz.prog w' = .ok (.int .i64 t.next) w')) (by kernel_rfl) (by exact ⟨ldA (cellsR x) [] hX (HL.out) (by simp), ldS [] hX rfl, ldS [_] hX rfl⟩) (fun hHeld => ?_)
      refine tq 0 18 ?_
      refine wpAnyH_ready (rs := [1]) (by kernel_rfl) (by simp) ?_
      refine (AllReadyH.cons (o := ⟨some 19, _, _, _, _, _⟩) rfl (fun K hK => ?_) AllReadyH.nil)
      rw [if_pos (by rfl)]
      go_simp
      go_at_call 135
      refine (may_any_r x _ (RC.In.old hX HIN.out)).mono ?_
      rw [← HQ.out]
      rintro _ w4 ⟨rfl, h4⟩
      have hA1 := St.call0 hX h4
      clear h4
      refine hK.out _ _ ?_ (fun hHeld => ?_)
      ·exact ⟨ldA (cellsR x) [] hA1 (HL.out) (by simp), ldS [] hA1 rfl, ldS [_] hA1 rfl⟩
      clear hK K
      (try simp only [Act.put, List.setIfInBounds_toArray, List.set_cons_zero, List.set_cons_succ])
      refine tq 2 20 ?_
      refine tq 3 21 ?_
      refine tq 4 22 ?_
      refine tq 6 24 ?_
      refine tq 5 23 ?_
      refine tq 7 25 ?_
      refine tq 8 26 ?_
      refine tq 9 27 ?_
      refine tq 10 28 ?_
      refine tq 11 29 ?_
      refine tq 12 30 ?_
      refine tq 13 31 ?_
      refine tu 14 32 ?_
      refine tu 16 34 ?_
      refine tu 21 39 ?_
      refine tu 15 33 ?_
      refine tu 17 35 ?_
      refine tu 22 40 ?_
      refine tu 18 36 ?_
      refine tu 19 37 ?_
      refine tu 20 38 ?_
      refine wpAnyH_ready (rs := [23]) (by kernel_rfl) (by simp) ?_
      refine (AllReadyH.cons (o := ⟨some 41, _, _, _, _, _⟩) rfl (fun K hK => ?_) AllReadyH.nil)
      rw [if_neg (by rw [show Region.wanted _ _ = false from rfl]; exact Bool.false_ne_true)]
      refine hK.out _ _ ?_ (fun hHeld => ?_)
      ·exact ⟨ldA (cellsR x) [] hA1 (HL.out) (by simp), ldS [] hA1 rfl, ldS [_] hA1 rfl⟩
      clear hK K
      (try simp only [Act.put, List.setIfInBounds_toArray, List.set_cons_zero, List.set_cons_succ])
      refine tu 24 42 ?_
      refine tq 25 43 ?_
      refine tq 26 44 ?_
      refine wpAnyH_done (by kernel_rfl) ?_ _
      clear hHeld
      go_wp2_with (first | go_big_skip | go_big_guard | fail)
      go_loopw [5] (fun i wr => ∃ m : Nat, m ≤ j ∧ i = .int .i64 (m : Int) ∧ St w [] wr [.blk gx 53 (cellsR x), .blk g1 27 (tabC t (.slice (some ⟨lb, lo, none⟩) nr cr) lv)] ∧ Hid (((xs.take m).map (·.2)).any (fun y => y.id == x.2.id) = false)) (fun i _ => j - (intOf i).toNat)
      case atStart => exact ⟨0, Nat.zero_le _, rfl, hA1, hid rfl⟩
      case round =>
       clear hA1
       obtain ⟨m, hm, rfl, hsm, HM⟩ := hrel
       by_cases hmj : m < j
       ·have f1 : decide ((m : Int) < (j : Int)) = true := decide_eq_true (by omega)
        have y1 : IntKind.i64.wrap ((m : Int) + 1) = (m : Int) + 1 := IntWalk.i64_in _ (by omega)
        have hltm : m < nr := by omega
        obtain ⟨z, b', o', hz', he, hinz, hrz⟩ := RecsIn.at HR.out hltm
        cases he
        have HZ := hid hz'
        have HZI := hid (show w.cell? ⟨lb, lo + m * 44, none⟩ = some (.int .i64 z.2.id) from hrz 0 _ rfl)
        clear hz' hinz hrz
        cases c1 : (z.2.id == x.2.id)
        ·go_wp2_with (first | go_big_skip | go_big_guard | fail)
         have hY := hsm.drew
         clear hsm
         refine wp_region_held_drew (S := (fun w' => (loadVarH 22 ⟨g1, 1, none⟩).run Tryz.prog w' = .ok (.slice (some ⟨lb, lo, none⟩) nr cr) w' ∧ (loadVarH 3 ⟨gx, 0, none⟩).run Tryz.prog w' = .ok (.int .i64 x.2.id) w' ∧ (loadVarH 3 ⟨lb, lo + m * 44, none⟩).run Tryz.prog w' = .ok (.int .i64 z.2.id) w')) (by kernel_rfl) (by exact ⟨ldS [_] hY rfl, ldS [] hY rfl, ldO hY (HZI.out)⟩) (fun hHeld => ?_)
         refine tq 0 50 ?_
         refine tq 2 52 ?_
         refine tq 6 56 ?_
         refine tq 1 51 ?_
         refine tq 7 57 ?_
         refine tq 3 53 ?_
         refine tq 4 54 ?_
         refine tq 5 55 ?_
         refine tq 8 58 ?_
         refine wpAnyH_done (by kernel_rfl) ?_ _
         clear hHeld
         go_wp2_with (first | go_big_skip | go_big_guard | fail)
         go_roundw
         case rel => exact ⟨m + 1, by omega, rfl, hY, hid (by rw [any_step HZ.out, HM.out, c1]; rfl)⟩
         case measure => simp [intOf]; omega
        ·go_wp2_with (first | go_big_skip | go_big_guard | fail)
         have hY := hsm.drew
         clear hsm
         refine wp_region_held_drew (S := (fun w' => (loadVarH 22 ⟨g1, 1, none⟩).run Tryz.prog w' = .ok (.slice (some ⟨lb, lo, none⟩) nr cr) w' ∧ (loadVarH 3 ⟨gx, 0, none⟩).run Tryz.prog w' = .ok (.int .i64 x.2.id) w' ∧ (loadVarH 3 ⟨lb, lo + m * 44, none⟩).run Tryz.prog w' = .ok (.int .i64 z.2.id) w')) (by kernel_rfl) (by exact ⟨ldS [_] hY rfl, ldS [] hY rfl, ldO hY (HZI.out)⟩) (fun hHeld => ?_)
         refine tq 0 50 ?_
         refine tq 2 52 ?_
         refine tq 6 56 ?_
         refine tq 1 51 ?_
         refine tq 7 57 ?_
         refine tq 3 53 ?_
         refine tq 4 54 ?_
         refine tq 5 55 ?_
         refine tq 8 58 ?_
         refine wpAnyH_done (by kernel_rfl) ?_ _
         clear hHeld
         have hv : E = false := by rw [HE.out]; exact allAt_no (map_at HXJ.out) (by unfold bothB eachB relB; rw [List.any_eq_true.2 ⟨z.2, by rw [← List.map_take]; exact List.mem_map_of_mem (List.mem_take_iff_getElem.2 ⟨m, by have := HR.out.len; omega, (List.getElem?_eq_some_iff.1 HZ.out).2⟩), c1⟩]; simp)
         have HV := hid hv
         clear hv
         go_wp2_with (first | go_big_skip | go_big_guard | fail)
         go_ret
         exact ⟨by have h := HV.out; subst h; rfl, hY.nil⟩
       ·have f1 : decide ((m : Int) < (j : Int)) = false := decide_eq_false (by omega)
        obtain rfl : m = j := by omega
        obtain ⟨c, hc⟩ : ∃ c, c = kinB (xs.map (·.2)) x.2 := ⟨_, rfl⟩
        have HK := hid hc
        have HRE := hid (show relB t.next (xs.map (·.2)) m x.2 = c by unfold relB; rw [← List.map_take, HM.out, HLT.out, hc]; rfl)
        clear hc
        cases c
        ·have hv : E = false := by rw [HE.out]; exact allAt_no (map_at HXJ.out) (by unfold bothB; rw [HRE.out, Bool.and_false])
         have HV := hid hv
         clear hv
         go_wp2_with (first | go_big_skip | go_big_guard | (refine wl_loadE rfl rfl rfl ?_; first | refine ⟨_, Loads.atA (tabC t (.slice (some ⟨lb, lo, none⟩) nr cr) lv) [_] hsm rfl rfl, ?_⟩ | refine ⟨_, Loads.atA (cellsR x) [] hsm HL.out (by simp), ?_⟩) | (go_at_call 136; refine (kin_any_r t lv (some ⟨lb, lo, none⟩) nr cr xs _ (HR.out.old hsm) hb x (RC.In.old hsm HIN.out)).mono ?_; rw [← HK.out]; rintro _ w9 ⟨rfl, h4⟩; replace hsm := St.call0 hsm h4; clear h4))
         go_ret
         exact ⟨by have h := HV.out; subst h; rfl, hsm.nil⟩
        ·go_wp2_with (first | go_big_skip | go_big_guard | (refine wl_loadE rfl rfl rfl ?_; first | refine ⟨_, Loads.atA (tabC t (.slice (some ⟨lb, lo, none⟩) nr cr) lv) [_] hsm rfl rfl, ?_⟩ | refine ⟨_, Loads.atA (cellsR x) [] hsm HL.out (by simp), ?_⟩) | (go_at_call 136; refine (kin_any_r t lv (some ⟨lb, lo, none⟩) nr cr xs _ (HR.out.old hsm) hb x (RC.In.old hsm HIN.out)).mono ?_; rw [← HK.out]; rintro _ w9 ⟨rfl, h4⟩; replace hsm := St.call0 hsm h4; clear h4))
         go_roundw
         case rel => exact ⟨m + 1, by omega, rfl, St.drop (L1 := []) hsm, hid (all_steps HP.out HXJ.out (by unfold bothB eachB; rw [HRE.out, ← HQ.out, (show lessAt (xs.map (·.2)) m x.2 = true by rw [HJ.out]; rfl)]; rfl))⟩
         case measure => simp [intOf]; omega
     ·obtain ⟨k, hk⟩ : ∃ k, j = k + 1 := ⟨j - 1, by omega⟩
      obtain ⟨y, b', o', hy', he, hiny, hry⟩ := RecsIn.at HR.out (k := k) (by omega)
      cases he
      have HYK := hid hy'
      have HINY := hid hiny
      have HY := hid (show w.cell? ⟨lb, lo + k * 44 + 1, none⟩ = some (.string ⟨y.2.name.toArray⟩) from hry 1 _ rfl)
      clear hy' hiny hry
      have z2 : IntKind.i64.wrap ((j : Int) - 1) = (k : Int) := by rw [IntWalk.i64_in _ (by omega)]; omega
      have z6 : IntKind.i64.wrap (k : Int) = (k : Int) := IntWalk.i64_in _ (by omega)
      have z7 : decide (0 < j) = true := decide_eq_true (by omega)
      have z4 : decide ((0 : Int) < (j : Int)) = true := decide_eq_true (by omega)
      have z5 : decide ((j : Int) > 0) = true := z4
      have hltk : k < nr := by omega
      obtain ⟨r, hr⟩ : ∃ r, r = lessL y.2.name x.2.name := ⟨_, rfl⟩
      have HLE := hid hr
      have HLA := hid (show lessAt (xs.map (·.2)) j x.2 = lessL y.2.name x.2.name by rw [hk]; exact less_at HYK.out)
      clear hr hk k3
      cases r
      ·go_wp2_with (first | go_big_skip | go_big_guard | (refine wl_loadE rfl rfl rfl ?_; first | refine ⟨_, Loads.at [] hst rfl, ?_⟩) | (refine wl_index rfl rfl rfl rfl hlt ?_) | (refine wl_loadE rfl rfl rfl ?_; first | refine ⟨_, Loads.oldA (cs := cellsR x) hst HL.out HWR.out, ?_⟩) | (refine wl_alloc hst rfl rfl ?_; intro gx w2 hst2; clear hst) | (refine wl_storeA [] hst2 rfl rfl rfl rfl (by exact HL.out) (cellsR_ones HIN.out) rfl ?_; intro w3 hst3; clear hst2))
       have hX := hst3.drew
       clear hst3
       refine wp_region_held_drew (S := (fun w' => (loadVarH 53 ⟨gx, 0, none⟩).run Tryz.prog w' = .ok (.agg (List.toArray (cellsR x))) w' ∧ (loadVarH 3 ⟨gx, 0, none⟩).run Tryz.prog w' = .ok (.int .i64 x.2.id) w' ∧ (loadVarH 3 ⟨g1, 0, none⟩).run Tryz.prog w' = .ok (.int .i64 t.next) w' ∧ (loadVarH 22 ⟨g1, 1, none⟩).run Tryz.prog w' = .ok (.slice (some ⟨lb, lo, none⟩) nr cr) w' ∧ (loadVarH 9 ⟨gx, 1, none⟩).run Tryz.prog w' = .ok (.string ⟨x.2.name.toArray⟩) w' ∧ (loadVarH 9 ⟨lb, lo + k * 44 + 1, none⟩).run Tryz.prog w' = .ok (.string ⟨y.2.name.toArray⟩) w')) (by kernel_rfl) (by exact ⟨ldA (cellsR x) [] hX (HL.out) (by simp), ldS [] hX rfl, ldS [_] hX rfl, ldS [_] hX rfl, ldS [] hX rfl, ldO hX (HY.out)⟩) (fun hHeld => ?_)
       refine tq 0 18 ?_
       refine wpAnyH_ready (rs := [1]) (by kernel_rfl) (by simp) ?_
       refine (AllReadyH.cons (o := ⟨some 19, _, _, _, _, _⟩) rfl (fun K hK => ?_) AllReadyH.nil)
       rw [if_pos (by rfl)]
       go_simp
       go_at_call 135
       refine (may_any_r x _ (RC.In.old hX HIN.out)).mono ?_
       rw [← HQ.out]
       rintro _ w4 ⟨rfl, h4⟩
       have hA1 := St.call0 hX h4
       clear h4
       refine hK.out _ _ ?_ (fun hHeld => ?_)
       ·exact ⟨ldA (cellsR x) [] hA1 (HL.out) (by simp), ldS [] hA1 rfl, ldS [_] hA1 rfl, ldS [_] hA1 rfl, ldS [] hA1 rfl, ldO hA1 (HY.out)⟩
       clear hK K
       (try simp only [Act.put, List.setIfInBounds_toArray, List.set_cons_zero, List.set_cons_succ])
       refine tq 2 20 ?_
       refine tq 3 21 ?_
       refine tq 4 22 ?_
       refine tq 6 24 ?_
       refine tq 5 23 ?_
       refine tq 7 25 ?_
       refine tq 8 26 ?_
       refine tq 9 27 ?_
       refine tq 10 28 ?_
       refine tq 11 29 ?_
       refine tq 12 30 ?_
       refine tq 13 31 ?_
       refine tq 14 32 ?_
       refine tq 16 34 ?_
       refine tq 21 39 ?_
       refine tq 15 33 ?_
       refine tq 17 35 ?_
       refine tq 22 40 ?_
       refine tq 18 36 ?_
       refine tq 19 37 ?_
       refine tq 20 38 ?_
       refine wpAnyH_ready (rs := [23]) (by kernel_rfl) (by simp) ?_
       refine (AllReadyH.cons (o := ⟨some 41, _, _, _, _, _⟩) rfl (fun K hK => ?_) AllReadyH.nil)
       rw [if_pos (by rfl)]
       go_simp
       go_at_call 127
       refine (refLess_any y.2.name x.2.name _ HINY.out.2 HIN.out.2).mono ?_
       rw [← HLE.out]
       rintro _ w5 ⟨rfl, h4⟩
       have hA2 := St.call0 hA1 h4
       clear h4
       refine hK.out _ _ ?_ (fun hHeld => ?_)
       ·exact ⟨ldA (cellsR x) [] hA2 (HL.out) (by simp), ldS [] hA2 rfl, ldS [_] hA2 rfl, ldS [_] hA2 rfl, ldS [] hA2 rfl, ldO hA2 (HY.out)⟩
       clear hK K
       (try simp only [Act.put, List.setIfInBounds_toArray, List.set_cons_zero, List.set_cons_succ])
       refine tq 24 42 ?_
       refine tq 25 43 ?_
       refine tq 26 44 ?_
       refine wpAnyH_done (by kernel_rfl) ?_ _
       clear hHeld
       have hv : E = false := by rw [HE.out]; exact allAt_no (map_at HXJ.out) (by unfold bothB eachB relB; rw [HLA.out, ← HLE.out]; simp)
       have HV := hid hv
       clear hv
       go_wp2_with (first | go_big_skip | go_big_guard | fail)
       go_ret
       exact ⟨by have h := HV.out; subst h; rfl, hA2.nil⟩
      ·go_wp2_with (first | go_big_skip | go_big_guard | (refine wl_loadE rfl rfl rfl ?_; first | refine ⟨_, Loads.at [] hst rfl, ?_⟩) | (refine wl_index rfl rfl rfl rfl hlt ?_) | (refine wl_loadE rfl rfl rfl ?_; first | refine ⟨_, Loads.oldA (cs := cellsR x) hst HL.out HWR.out, ?_⟩) | (refine wl_alloc hst rfl rfl ?_; intro gx w2 hst2; clear hst) | (refine wl_storeA [] hst2 rfl rfl rfl rfl (by exact HL.out) (cellsR_ones HIN.out) rfl ?_; intro w3 hst3; clear hst2))
       have hX := hst3.drew
       clear hst3
       refine wp_region_held_drew (S := (fun w' => (loadVarH 53 ⟨gx, 0, none⟩).run Tryz.prog w' = .ok (.agg (List.toArray (cellsR x))) w' ∧ (loadVarH 3 ⟨gx, 0, none⟩).run Tryz.prog w' = .ok (.int .i64 x.2.id) w' ∧ (loadVarH 3 ⟨g1, 0, none⟩).run Tryz.prog w' = .ok (.int .i64 t.next) w' ∧ (loadVarH 22 ⟨g1, 1, none⟩).run Tryz.prog w' = .ok (.slice (some ⟨lb, lo, none⟩) nr cr) w' ∧ (loadVarH 9 ⟨gx, 1, none⟩).run Tryz.prog w' = .ok (.string ⟨x.2.name.toArray⟩) w' ∧ (loadVarH 9 ⟨lb, lo + k * 44 + 1, none⟩).run Tryz.prog w' = .ok (.string ⟨y.2.name.toArray⟩) w')) (by kernel_rfl) (by exact ⟨ldA (cellsR x) [] hX (HL.out) (by simp), ldS [] hX rfl, ldS [_] hX rfl, ldS [_] hX rfl, ldS [] hX rfl, ldO hX (HY.out)⟩) (fun hHeld => ?_)
       refine tq 0 18 ?_
       refine wpAnyH_ready (rs := [1]) (by kernel_rfl) (by simp) ?_
       refine (AllReadyH.cons (o := ⟨some 19, _, _, _, _, _⟩) rfl (fun K hK => ?_) AllReadyH.nil)
       rw [if_pos (by rfl)]
       go_simp
       go_at_call 135
       refine (may_any_r x _ (RC.In.old hX HIN.out)).mono ?_
       rw [← HQ.out]
       rintro _ w4 ⟨rfl, h4⟩
       have hA1 := St.call0 hX h4
       clear h4
       refine hK.out _ _ ?_ (fun hHeld => ?_)
       ·exact ⟨ldA (cellsR x) [] hA1 (HL.out) (by simp), ldS [] hA1 rfl, ldS [_] hA1 rfl, ldS [_] hA1 rfl, ldS [] hA1 rfl, ldO hA1 (HY.out)⟩
       clear hK K
       (try simp only [Act.put, List.setIfInBounds_toArray, List.set_cons_zero, List.set_cons_succ])
       refine tq 2 20 ?_
       refine tq 3 21 ?_
       refine tq 4 22 ?_
       refine tq 6 24 ?_
       refine tq 5 23 ?_
       refine tq 7 25 ?_
       refine tq 8 26 ?_
       refine tq 9 27 ?_
       refine tq 10 28 ?_
       refine tq 11 29 ?_
       refine tq 12 30 ?_
       refine tq 13 31 ?_
       refine tq 14 32 ?_
       refine tq 16 34 ?_
       refine tq 21 39 ?_
       refine tq 15 33 ?_
       refine tq 17 35 ?_
       refine tq 22 40 ?_
       refine tq 18 36 ?_
       refine tq 19 37 ?_
       refine tq 20 38 ?_
       refine wpAnyH_ready (rs := [23]) (by kernel_rfl) (by simp) ?_
       refine (AllReadyH.cons (o := ⟨some 41, _, _, _, _, _⟩) rfl (fun K hK => ?_) AllReadyH.nil)
       rw [if_pos (by rfl)]
       go_simp
       go_at_call 127
       refine (refLess_any y.2.name x.2.name _ HINY.out.2 HIN.out.2).mono ?_
       rw [← HLE.out]
       rintro _ w5 ⟨rfl, h4⟩
       have hA2 := St.call0 hA1 h4
       clear h4
       refine hK.out _ _ ?_ (fun hHeld => ?_)
       ·exact ⟨ldA (cellsR x) [] hA2 (HL.out) (by simp), ldS [] hA2 rfl, ldS [_] hA2 rfl, ldS [_] hA2 rfl, ldS [] hA2 rfl, ldO hA2 (HY.out)⟩
       clear hK K
       (try simp only [Act.put, List.setIfInBounds_toArray, List.set_cons_zero, List.set_cons_succ])
       refine tq 24 42 ?_
       refine tq 25 43 ?_
       refine tq 26 44 ?_
       refine wpAnyH_done (by kernel_rfl) ?_ _
       clear hHeld
       go_wp2_with (first | go_big_skip | go_big_guard | fail)
       go_loopw [5] (fun i wr => ∃ m : Nat, m ≤ j ∧ i = .int .i64 (m : Int) ∧ St w [] wr [.blk gx 53 (cellsR x), .blk g1 27 (tabC t (.slice (some ⟨lb, lo, none⟩) nr cr) lv)] ∧ Hid (((xs.take m).map (·.2)).any (fun y => y.id == x.2.id) = false)) (fun i _ => j - (intOf i).toNat)
       case atStart => exact ⟨0, Nat.zero_le _, rfl, hA2, hid rfl⟩
       case round =>
        clear hA2
        obtain ⟨m, hm, rfl, hsm, HM⟩ := hrel
        by_cases hmj : m < j
        ·have f1 : decide ((m : Int) < (j : Int)) = true := decide_eq_true (by omega)
         have y1 : IntKind.i64.wrap ((m : Int) + 1) = (m : Int) + 1 := IntWalk.i64_in _ (by omega)
         have hltm : m < nr := by omega
         obtain ⟨z, b', o', hz', he, hinz, hrz⟩ := RecsIn.at HR.out hltm
         cases he
         have HZ := hid hz'
         have HZI := hid (show w.cell? ⟨lb, lo + m * 44, none⟩ = some (.int .i64 z.2.id) from hrz 0 _ rfl)
         clear hz' hinz hrz
         cases c1 : (z.2.id == x.2.id)
         ·go_wp2_with (first | go_big_skip | go_big_guard | fail)
          have hY := hsm.drew
          clear hsm
          refine wp_region_held_drew (S := (fun w' => (loadVarH 22 ⟨g1, 1, none⟩).run Tryz.prog w' = .ok (.slice (some ⟨lb, lo, none⟩) nr cr) w' ∧ (loadVarH 3 ⟨gx, 0, none⟩).run Tryz.prog w' = .ok (.int .i64 x.2.id) w' ∧ (loadVarH 3 ⟨lb, lo + m * 44, none⟩).run Tryz.prog w' = .ok (.int .i64 z.2.id) w')) (by kernel_rfl) (by exact ⟨ldS [_] hY rfl, ldS [] hY rfl, ldO hY (HZI.out)⟩) (fun hHeld => ?_)
          refine tq 0 50 ?_
          refine tq 2 52 ?_
          refine tq 6 56 ?_
          refine tq 1 51 ?_
          refine tq 7 57 ?_
          refine tq 3 53 ?_
          refine tq 4 54 ?_
          refine tq 5 55 ?_
          refine tq 8 58 ?_
          refine wpAnyH_done (by kernel_rfl) ?_ _
          clear hHeld
          go_wp2_with (first | go_big_skip | go_big_guard | fail)
          go_roundw
          case rel => exact ⟨m + 1, by omega, rfl, hY, hid (by rw [any_step HZ.out, HM.out, c1]; rfl)⟩
          case measure => simp [intOf]; omega
         ·go_wp2_with (first | go_big_skip | go_big_guard | fail)
          have hY := hsm.drew
          clear hsm
          refine wp_region_held_drew (S := (fun w' => (loadVarH 22 ⟨g1, 1, none⟩).run Tryz.prog w' = .ok (.slice (some ⟨lb, lo, none⟩) nr cr) w' ∧ (loadVarH 3 ⟨gx, 0, none⟩).run Tryz.prog w' = .ok (.int .i64 x.2.id) w' ∧ (loadVarH 3 ⟨lb, lo + m * 44, none⟩).run Tryz.prog w' = .ok (.int .i64 z.2.id) w')) (by kernel_rfl) (by exact ⟨ldS [_] hY rfl, ldS [] hY rfl, ldO hY (HZI.out)⟩) (fun hHeld => ?_)
          refine tq 0 50 ?_
          refine tq 2 52 ?_
          refine tq 6 56 ?_
          refine tq 1 51 ?_
          refine tq 7 57 ?_
          refine tq 3 53 ?_
          refine tq 4 54 ?_
          refine tq 5 55 ?_
          refine tq 8 58 ?_
          refine wpAnyH_done (by kernel_rfl) ?_ _
          clear hHeld
          have hv : E = false := by rw [HE.out]; exact allAt_no (map_at HXJ.out) (by unfold bothB eachB relB; rw [List.any_eq_true.2 ⟨z.2, by rw [← List.map_take]; exact List.mem_map_of_mem (List.mem_take_iff_getElem.2 ⟨m, by have := HR.out.len; omega, (List.getElem?_eq_some_iff.1 HZ.out).2⟩), c1⟩]; simp)
          have HV := hid hv
          clear hv
          go_wp2_with (first | go_big_skip | go_big_guard | fail)
          go_ret
          exact ⟨by have h := HV.out; subst h; rfl, hY.nil⟩
        ·have f1 : decide ((m : Int) < (j : Int)) = false := decide_eq_false (by omega)
         obtain rfl : m = j := by omega
         obtain ⟨c, hc⟩ : ∃ c, c = kinB (xs.map (·.2)) x.2 := ⟨_, rfl⟩
         have HK := hid hc
         have HRE := hid (show relB t.next (xs.map (·.2)) m x.2 = c by unfold relB; rw [← List.map_take, HM.out, HLT.out, hc]; rfl)
         clear hc
         cases c
         ·have hv : E = false := by rw [HE.out]; exact allAt_no (map_at HXJ.out) (by unfold bothB; rw [HRE.out, Bool.and_false])
          have HV := hid hv
          clear hv
          go_wp2_with (first | go_big_skip | go_big_guard | (refine wl_loadE rfl rfl rfl ?_; first | refine ⟨_, Loads.atA (tabC t (.slice (some ⟨lb, lo, none⟩) nr cr) lv) [_] hsm rfl rfl, ?_⟩ | refine ⟨_, Loads.atA (cellsR x) [] hsm HL.out (by simp), ?_⟩) | (go_at_call 136; refine (kin_any_r t lv (some ⟨lb, lo, none⟩) nr cr xs _ (HR.out.old hsm) hb x (RC.In.old hsm HIN.out)).mono ?_; rw [← HK.out]; rintro _ w9 ⟨rfl, h4⟩; replace hsm := St.call0 hsm h4; clear h4))
          go_ret
          exact ⟨by have h := HV.out; subst h; rfl, hsm.nil⟩
         ·go_wp2_with (first | go_big_skip | go_big_guard | (refine wl_loadE rfl rfl rfl ?_; first | refine ⟨_, Loads.atA (tabC t (.slice (some ⟨lb, lo, none⟩) nr cr) lv) [_] hsm rfl rfl, ?_⟩ | refine ⟨_, Loads.atA (cellsR x) [] hsm HL.out (by simp), ?_⟩) | (go_at_call 136; refine (kin_any_r t lv (some ⟨lb, lo, none⟩) nr cr xs _ (HR.out.old hsm) hb x (RC.In.old hsm HIN.out)).mono ?_; rw [← HK.out]; rintro _ w9 ⟨rfl, h4⟩; replace hsm := St.call0 hsm h4; clear h4))
          go_roundw
          case rel => exact ⟨m + 1, by omega, rfl, St.drop (L1 := []) hsm, hid (all_steps HP.out HXJ.out (by unfold bothB eachB; rw [HRE.out, ← HQ.out, HLA.out, ← HLE.out]; rfl))⟩
          case measure => simp [intOf]; omega
    ·have d3 : decide (x.2.id ≥ t.next) = true := decide_eq_true (by omega)
     have d4 : decide (t.next ≤ x.2.id) = true := d3
     have HNL := hid (decide_eq_false k2)
     clear k2
     go_wp2_with (first | go_big_skip | go_big_guard | (refine wl_loadE rfl rfl rfl ?_; first | refine ⟨_, Loads.at [] hst rfl, ?_⟩) | (refine wl_index rfl rfl rfl rfl hlt ?_) | (refine wl_loadE rfl rfl rfl ?_; first | refine ⟨_, Loads.oldA (cs := cellsR x) hst HL.out HWR.out, ?_⟩) | (refine wl_alloc hst rfl rfl ?_; intro gx w2 hst2; clear hst) | (refine wl_storeA [] hst2 rfl rfl rfl rfl (by exact HL.out) (cellsR_ones HIN.out) rfl ?_; intro w3 hst3; clear hst2))
     have hX := hst3.drew
     clear hst3
     refine wp_region_held_drew (S := (fun w' => (loadVarH 53 ⟨gx, 0, none⟩).run Tryz.prog w' = .ok (.agg (List.toArray (cellsR x))) w' ∧ (loadVarH 3 ⟨gx, 0, none⟩).run Tryz.prog w' = .ok (.int .i64 x.2.id) w' ∧ (loadVarH 3 ⟨g1, 0, none⟩).run Tryz.prog w' = .ok (.int .i64 t.next) w')) (by kernel_rfl) (by exact ⟨ldA (cellsR x) [] hX (HL.out) (by simp), ldS [] hX rfl, ldS [_] hX rfl⟩) (fun hHeld => ?_)
     refine tq 0 18 ?_
     refine wpAnyH_ready (rs := [1]) (by kernel_rfl) (by simp) ?_
     refine (AllReadyH.cons (o := ⟨some 19, _, _, _, _, _⟩) rfl (fun K hK => ?_) AllReadyH.nil)
     rw [if_pos (by rfl)]
     go_simp
     go_at_call 135
     refine (may_any_r x _ (RC.In.old hX HIN.out)).mono ?_
     rw [← HQ.out]
     rintro _ w4 ⟨rfl, h4⟩
     have hA1 := St.call0 hX h4
     clear h4
     refine hK.out _ _ ?_ (fun hHeld => ?_)
     ·exact ⟨ldA (cellsR x) [] hA1 (HL.out) (by simp), ldS [] hA1 rfl, ldS [_] hA1 rfl⟩
     clear hK K
     (try simp only [Act.put, List.setIfInBounds_toArray, List.set_cons_zero, List.set_cons_succ])
     refine tq 2 20 ?_
     refine tq 3 21 ?_
     refine tq 4 22 ?_
     refine tq 6 24 ?_
     refine tq 5 23 ?_
     refine tq 7 25 ?_
     refine tq 8 26 ?_
     refine tq 9 27 ?_
     refine tq 10 28 ?_
     refine tu 11 29 ?_
     refine tu 12 30 ?_
     refine tu 13 31 ?_
     refine tu 14 32 ?_
     refine tu 16 34 ?_
     refine tu 21 39 ?_
     refine tu 15 33 ?_
     refine tu 17 35 ?_
     refine tu 22 40 ?_
     refine tu 18 36 ?_
     refine tu 19 37 ?_
     refine tu 20 38 ?_
     refine wpAnyH_ready (rs := [23]) (by kernel_rfl) (by simp) ?_
     refine (AllReadyH.cons (o := ⟨some 41, _, _, _, _, _⟩) rfl (fun K hK => ?_) AllReadyH.nil)
     rw [if_neg (by rw [show Region.wanted _ _ = false from rfl]; exact Bool.false_ne_true)]
     refine hK.out _ _ ?_ (fun hHeld => ?_)
     ·exact ⟨ldA (cellsR x) [] hA1 (HL.out) (by simp), ldS [] hA1 rfl, ldS [_] hA1 rfl⟩
     clear hK K
     (try simp only [Act.put, List.setIfInBounds_toArray, List.set_cons_zero, List.set_cons_succ])
     refine tu 24 42 ?_
     refine tu 25 43 ?_
     refine tq 26 44 ?_
     refine wpAnyH_done (by kernel_rfl) ?_ _
     clear hHeld
     have hv : E = false := by rw [HE.out]; exact allAt_no (map_at HXJ.out) (by unfold bothB eachB relB; rw [HNL.out]; simp)
     have HV := hid hv
     clear hv
     go_wp2_with (first | go_big_skip | go_big_guard | fail)
     go_ret
     exact ⟨by have h := HV.out; subst h; rfl, hA1.nil⟩
  ·have e1 : decide ((j : Int) < (nr : Int)) = false := decide_eq_false (by omega)
   have hv : E = true := by rw [HE.out]; exact all_end (fun i y hi hy => HP.out i y (by have := HR.out.len; omega) hy)
   have HV := hid hv
   clear hv
   go_wp2_with (first | go_big_skip | go_big_guard | (refine wl_loadE rfl rfl rfl ?_; first | refine ⟨_, Loads.at [] hst rfl, ?_⟩))
   go_ret
   exact ⟨by have h := HV.out; subst h; rfl, hst.nil⟩
end Go.Proofs.YtifajcblbedcoaaGreat
namespace Go.Proofs.YtifajcblbedcoaaGreat
set_option linter.unusedVariables false
set_option linter.unusedSimpArgs false
open Go.RowKit Hp
attribute [local irreducible] Go.Calls
set_option maxRecDepth 100000
set_option maxHeartbeats 4000000
theorem lives_no {l : List Int} {j : Nat} {x : Int} (h : l[j]? = some x) (hx : inB x 0 2147483647 = false) : (l.all fun n => inB n 0 2147483647) = false := by
 rw [List.all_eq_false]
 exact ⟨x, List.mem_of_getElem? h, by rw [hx]; simp⟩
theorem lives_all {l : List Int} (h : ∀ (i : Nat) (x : Int), l[i]? = some x → inB x 0 2147483647 = true) : (l.all fun n => inB n 0 2147483647) = true := by
 rw [List.all_eq_true]
 intro x hx
 obtain ⟨i, hi⟩ := List.getElem?_of_mem hx
 exact h i x hi
theorem refCheck12_any (t : TC) (ar al : Option Addr) (nr cr nl cl : Nat) (xs : List (Value × RC)) (w : World) (hR : RecsIn w (.slice ar nr cr) nr xs) (hx : xs.map (·.2) = t.recs) (hb : nr ≤ 1000000) (hl : Rd w (.slice al nl cl) 1 nl (numsV t.lives)) (hnl : t.lives.length = nl) (hbl : nl ≤ 1000000) :
  Calls Tryz.prog 86 #[.agg (tabC t (.slice ar nr cr) (.slice al nl cl)).toArray] w fun e w' => e = .returned (.int .i64 t.err) ∧ St w [] w' [] := by
 have hst0 := St.refl w
 have HR := hid hR
 have HX := hid hx
 have HLV := hid hl
 have HNL := hid hnl
 have hlen : t.recs.length = nr := by rw [← hx, List.length_map, hR.len]
 have HLN := hid hlen
 obtain ⟨E, hE⟩ : ∃ E, E = t.err := ⟨_, rfl⟩
 rw [← hE]
 have HE := hid hE
 have hsz : t.sizeB = ((inB t.next 1 2147483648 && decide ((nr : Int) ≤ 16)) && inB (nl : Int) 2 8) := by unfold TC.sizeB; rw [hlen, hnl]
 have HSZ := hid hsz
 have hrec : allAt (bothB t.next (xs.map (·.2))) (xs.map (·.2)) = (allAt (eachB t.recs) t.recs && allAt (relB t.next t.recs) t.recs) := by rw [both_all, hx]
 clear hR hx hl hnl hlen hE hsz
 obtain ⟨R, hRR⟩ : ∃ R, R = allAt (bothB t.next (xs.map (·.2))) (xs.map (·.2)) := ⟨_, rfl⟩
 have HRR := hid hRR
 rw [← hRR] at hrec
 have HREC := hid hrec
 clear hRR hrec
 cases d1 : inB t.next 1 2147483648
 ·skip
  have hv : E = 2 := by rw [HE.out]; exact err_no (ok_size (by rw [HSZ.out, d1]; rfl))
  rw [hv]
  clear hv
  go_enter Tryz.func86, Tryz.ntmps86
  go_wp2_with (first | go_big_skip | go_big_guard | (refine wl_boxA hst0 rfl rfl rfl ?_; intro g1 w1 hst; clear hst0) | (refine wl_loadE rfl rfl rfl ?_; first | refine ⟨_, Loads.at [] hst rfl, ?_⟩ | refine ⟨_, Loads.atA (tabC t (.slice ar nr cr) (.slice al nl cl)) [] hst rfl rfl, ?_⟩ | refine ⟨_, Loads.atA [.int .i64 t.kind, .int .i64 t.dev, .int .i64 t.at_, .int .i64 t.txg] [] hst rfl rfl, ?_⟩) | (go_at_call 122; refine (refWithin_any _ _ _ _).mono ?_; rintro _ w9 ⟨rfl, h4⟩; replace hst := St.call0 hst h4; clear h4))
  go_ret
  exact ⟨rfl, hst.nil⟩
 ·by_cases k2 : (16 : Int) < (nr : Int)
  ·have d2 : decide ((16 : Int) < (nr : Int)) = true := decide_eq_true k2
   have d2' : decide ((nr : Int) > 16) = true := d2
   have hv : E = 2 := by rw [HE.out]; exact err_no (ok_size (by rw [HSZ.out, d1, decide_eq_false (by omega)]; rfl))
   rw [hv]
   clear hv
   go_enter Tryz.func86, Tryz.ntmps86
   go_wp2_with (first | go_big_skip | go_big_guard | (refine wl_boxA hst0 rfl rfl rfl ?_; intro g1 w1 hst; clear hst0) | (refine wl_loadE rfl rfl rfl ?_; first | refine ⟨_, Loads.at [] hst rfl, ?_⟩ | refine ⟨_, Loads.atA (tabC t (.slice ar nr cr) (.slice al nl cl)) [] hst rfl rfl, ?_⟩ | refine ⟨_, Loads.atA [.int .i64 t.kind, .int .i64 t.dev, .int .i64 t.at_, .int .i64 t.txg] [] hst rfl rfl, ?_⟩) | (go_at_call 122; refine (refWithin_any _ _ _ _).mono ?_; rintro _ w9 ⟨rfl, h4⟩; replace hst := St.call0 hst h4; clear h4))
   go_ret
   exact ⟨rfl, hst.nil⟩
  ·have d2 : decide ((16 : Int) < (nr : Int)) = false := decide_eq_false k2
   have d2' : decide ((nr : Int) > 16) = false := d2
   have d3 : decide ((nr : Int) ≤ 16) = true := decide_eq_true (by omega)
   cases d4 : inB (nl : Int) 2 8
   ·skip
    have hv : E = 2 := by rw [HE.out]; exact err_no (ok_size (by rw [HSZ.out, d1, d3, d4]; rfl))
    rw [hv]
    clear hv
    go_enter Tryz.func86, Tryz.ntmps86
    go_wp2_with (first | go_big_skip | go_big_guard | (refine wl_boxA hst0 rfl rfl rfl ?_; intro g1 w1 hst; clear hst0) | (refine wl_loadE rfl rfl rfl ?_; first | refine ⟨_, Loads.at [] hst rfl, ?_⟩ | refine ⟨_, Loads.atA (tabC t (.slice ar nr cr) (.slice al nl cl)) [] hst rfl rfl, ?_⟩ | refine ⟨_, Loads.atA [.int .i64 t.kind, .int .i64 t.dev, .int .i64 t.at_, .int .i64 t.txg] [] hst rfl rfl, ?_⟩) | (go_at_call 122; refine (refWithin_any _ _ _ _).mono ?_; rintro _ w9 ⟨rfl, h4⟩; replace hst := St.call0 hst h4; clear h4))
    go_ret
    exact ⟨rfl, hst.nil⟩
   ·have HSZ1 : Hid (t.sizeB = true) := hid (by rw [HSZ.out, d1, d3, d4]; rfl)
    go_enter Tryz.func86, Tryz.ntmps86
    go_wp2_with (first | go_big_skip | go_big_guard | (refine wl_boxA hst0 rfl rfl rfl ?_; intro g1 w1 hst; clear hst0) | (refine wl_loadE rfl rfl rfl ?_; first | refine ⟨_, Loads.at [] hst rfl, ?_⟩ | refine ⟨_, Loads.atA (tabC t (.slice ar nr cr) (.slice al nl cl)) [] hst rfl rfl, ?_⟩ | refine ⟨_, Loads.atA [.int .i64 t.kind, .int .i64 t.dev, .int .i64 t.at_, .int .i64 t.txg] [] hst rfl rfl, ?_⟩) | (go_at_call 122; refine (refWithin_any _ _ _ _).mono ?_; rintro _ w9 ⟨rfl, h4⟩; replace hst := St.call0 hst h4; clear h4))
    go_loopw [3] (fun i wr => ∃ j : Nat, j ≤ nl ∧ i = .int .i64 (j : Int) ∧ St w [] wr [.blk g1 27 (tabC t (.slice ar nr cr) (.slice al nl cl))] ∧ Hid (∀ i x, i < j → t.lives[i]? = some x → inB x 0 2147483647 = true)) (fun i _ => nl - (intOf i).toNat)
    case atStart => exact ⟨0, Nat.zero_le _, rfl, hst, hid (fun i y hi _ => by omega)⟩
    case round =>
     clear hst
     obtain ⟨j, hj, rfl, hst, HP⟩ := hrel
     by_cases hlt : j < nl
     ·have e1 : decide ((j : Int) < (nl : Int)) = true := decide_eq_true (by omega)
      have z1 : IntKind.i64.wrap ((j : Int) + 1) = (j : Int) + 1 := IntWalk.i64_in _ (by omega)
      obtain ⟨x, hx⟩ : ∃ x, t.lives[j]? = some x := ⟨_, List.getElem?_eq_getElem (by rw [HNL.out]; exact hlt)⟩
      have HXJ := hid hx
      obtain ⟨lb, lo, rfl, hr⟩ := Rd.at HLV.out hlt
      have HC := hid (hr j _ (numsV_get hx))
      clear hx hr
      cases k4 : inB x 0 2147483647
      ·have HV : Hid (E = 2) := hid (by rw [HE.out]; exact err_no (ok_lives (lives_no HXJ.out k4)))
       go_wp2_with (first | go_big_skip | go_big_guard | (refine wl_index rfl rfl rfl rfl hlt ?_) | (refine wl_loadE rfl rfl rfl ?_; first | refine ⟨_, Loads.old hst (by rw [Nat.mul_one]; exact HC.out), ?_⟩ | refine ⟨_, Loads.at [] hst rfl, ?_⟩) | (go_at_call 122; refine (refWithin_any _ _ _ _).mono ?_; rintro _ w9 ⟨rfl, h4⟩; replace hst := St.call0 hst h4; clear h4))
       go_ret
       exact ⟨by have h := HV.out; subst h; rfl, hst.nil⟩
      ·go_wp2_with (first | go_big_skip | go_big_guard | (refine wl_index rfl rfl rfl rfl hlt ?_) | (refine wl_loadE rfl rfl rfl ?_; first | refine ⟨_, Loads.old hst (by rw [Nat.mul_one]; exact HC.out), ?_⟩ | refine ⟨_, Loads.at [] hst rfl, ?_⟩) | (go_at_call 122; refine (refWithin_any _ _ _ _).mono ?_; rintro _ w9 ⟨rfl, h4⟩; replace hst := St.call0 hst h4; clear h4))
       go_roundw
       case rel =>
        refine ⟨j + 1, by omega, rfl, hst, hid (fun i y hi hy => ?_)⟩
        by_cases e : i = j
        ·subst e
         rw [HXJ.out] at hy
         cases hy
         exact k4
        ·exact HP.out i y (by omega) hy
       case measure => simp [intOf]; omega
     ·have e1 : decide ((j : Int) < (nl : Int)) = false := decide_eq_false (by omega)
      have HL1 : Hid (t.livesB = true) := hid (lives_all fun i x hi => HP.out i x (by have := (List.getElem?_eq_some_iff.1 hi).1; have := HNL.out; omega) hi)
      clear HP
      cases R
      ·have hrec := HREC.out
       have hk : t.ok = false := by
        unfold TC.ok
        rw [Bool.and_assoc _ _ (allAt (relB t.next t.recs) t.recs), ← hrec, Bool.and_false]
       clear hrec
       have HV : Hid (E = 2) := hid (by rw [HE.out]; exact err_no hk)
       go_wp2_with (first | go_big_skip | go_big_guard | (refine wl_loadE rfl rfl rfl ?_; first | refine ⟨_, Loads.at [] hst rfl, ?_⟩ | refine ⟨_, Loads.atA (tabC t (.slice ar nr cr) (.slice al nl cl)) [] hst rfl rfl, ?_⟩ | refine ⟨_, Loads.atA [.int .i64 t.kind, .int .i64 t.dev, .int .i64 t.at_, .int .i64 t.txg] [] hst rfl rfl, ?_⟩) | (go_at_call 123; refine (records_any_r t (.slice al nl cl) ar nr cr xs _ (HR.out.old hst) hb).mono ?_; rw [← HRR.out]; rintro _ w9 ⟨rfl, h4⟩; replace hst := St.call0 hst h4; clear h4) | (go_at_call 124; refine (refCursor_any t nl HNL.out hbl _).mono ?_; rintro _ w9 ⟨rfl, h4⟩; replace hst := St.call0 hst h4; clear h4))
       go_ret
       exact ⟨by have h := HV.out; subst h; rfl, hst.nil⟩
      ·cases k5 : t.curB
       ·skip
        have HV : Hid (E = 2) := hid (by rw [HE.out]; exact err_no (ok_cur k5))
        go_wp2_with (first | go_big_skip | go_big_guard | (refine wl_loadE rfl rfl rfl ?_; first | refine ⟨_, Loads.at [] hst rfl, ?_⟩ | refine ⟨_, Loads.atA (tabC t (.slice ar nr cr) (.slice al nl cl)) [] hst rfl rfl, ?_⟩ | refine ⟨_, Loads.atA [.int .i64 t.kind, .int .i64 t.dev, .int .i64 t.at_, .int .i64 t.txg] [] hst rfl rfl, ?_⟩) | (go_at_call 123; refine (records_any_r t (.slice al nl cl) ar nr cr xs _ (HR.out.old hst) hb).mono ?_; rw [← HRR.out]; rintro _ w9 ⟨rfl, h4⟩; replace hst := St.call0 hst h4; clear h4) | (go_at_call 124; refine (refCursor_any t nl HNL.out hbl _).mono ?_; rintro _ w9 ⟨rfl, h4⟩; replace hst := St.call0 hst h4; clear h4))
        go_ret
        exact ⟨by have h := HV.out; subst h; rfl, hst.nil⟩
       ·have hrec := Bool.and_eq_true_iff.1 HREC.out.symm
        have HV : Hid (E = 0) := hid (by rw [HE.out]; exact err_yes (ok_all HSZ1.out k5 HL1.out hrec.1 hrec.2))
        clear hrec
        go_wp2_with (first | go_big_skip | go_big_guard | (refine wl_loadE rfl rfl rfl ?_; first | refine ⟨_, Loads.at [] hst rfl, ?_⟩ | refine ⟨_, Loads.atA (tabC t (.slice ar nr cr) (.slice al nl cl)) [] hst rfl rfl, ?_⟩ | refine ⟨_, Loads.atA [.int .i64 t.kind, .int .i64 t.dev, .int .i64 t.at_, .int .i64 t.txg] [] hst rfl rfl, ?_⟩) | (go_at_call 123; refine (records_any_r t (.slice al nl cl) ar nr cr xs _ (HR.out.old hst) hb).mono ?_; rw [← HRR.out]; rintro _ w9 ⟨rfl, h4⟩; replace hst := St.call0 hst h4; clear h4) | (go_at_call 124; refine (refCursor_any t nl HNL.out hbl _).mono ?_; rintro _ w9 ⟨rfl, h4⟩; replace hst := St.call0 hst h4; clear h4))
        go_ret
        exact ⟨by have h := HV.out; subst h; rfl, hst.nil⟩
end Go.Proofs.YtifajcblbedcoaaGreat
namespace Go.Proofs.YtifajcblbedcoaaGreat
set_option linter.unusedVariables false
set_option linter.unusedSimpArgs false
open Go.RowKit Hp
def noT : TC := ⟨0, [], 0, 0, 0, 0, []⟩
theorem noIn (w : World) : TabIn w noT none 0 0 none 0 0 [] := ⟨⟨Rd.nil _ _, rfl, fun _ h => by cases h⟩, rfl, Rd.nil _ _, rfl, by decide, by decide⟩
end Go.Proofs.YtifajcblbedcoaaGreat
