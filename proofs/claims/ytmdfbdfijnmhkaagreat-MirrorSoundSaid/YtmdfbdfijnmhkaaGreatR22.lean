import Derived.Test.YtmdfbdfijnmhkaaGreatR21
namespace Go.Proofs.YtmdfbdfijnmhkaaGreat
set_option linter.unusedVariables false
set_option linter.unusedSimpArgs false
open Go.RowKit Hp
set_option maxRecDepth 100000
def setF (p : Nat) (b : List UInt8) (d : DV) : DV := { d with firm := d.firm.set p b }
def tornF (p : Nat) (b : List UInt8) (t : Nat) (d : DV) : DV := { d with firm := d.firm.set p (b.take t ++ (d.firm.getD p []).drop t) }
def crashF (t : Nat) (s : AR × Bool) (w : LW) (keep : Bool) : AR × Bool :=
  if keep then (s.1.upd (w.dev : Int) (setF w.pl w.b), s.2) else if s.2 then (s.1.upd (w.dev : Int) (tornF w.pl w.b t), false) else s
def crashN (a : AR) (keep : List Bool) (t : Nat) : Nat → AR × Bool
  | 0 => (a, true)
  | j + 1 => match a.loose[j]? with
    | none => crashN a keep t j
    | some w => crashF t (crashN a keep t j) w (keep.getD j false)
def clean (d : DV) : DV := { d with lo := false, st := false, fail := 0 }
def AR.crashed (a : AR) (keep : List Bool) (t : Nat) : AR := ⟨(crashN a keep t a.loose.length).1.devs.map clean, [], -1, false, a.steps⟩
def AR.crashE (a : AR) (torn : Int) : Int := if a.devs = [] then 1 else orE (decide (0 ≤ torn) && decide (torn < 256)) 2
def AR.crash (a : AR) (keep : List Bool) (torn : Int) : AR := if a.crashE torn = 0 then a.crashed keep torn.toNat else a
structure Good (a b : AR) : Prop where
  len : b.devs.length = a.devs.length
  cel : devC b = devC a
  fm : ∀ d ∈ b.devs, d.firm.length = a.secs ∧ ∀ s ∈ d.firm, s.length = 256
theorem Good.inD {a b : AR} (h : Good a b) (dev : Int) : b.inD dev = a.inD dev := by unfold AR.inD; rw [h.len]
theorem Good.refl {a : AR} (ok : a.Ok) : Good a a := ⟨rfl, rfl, fun d hd => ⟨(ok.fm d hd).1, (ok.fm d hd).2.1⟩⟩
theorem Good.upd {a b : AR} (h : Good a b) {k : Nat} (hk : a.inD (k : Int) = true) {f : DV → DV} (hf : ∀ d, (f d).g = d.g ∧ (f d).gone = d.gone ∧ (f d).lo = d.lo ∧ (f d).st = d.st ∧ (f d).to = d.to ∧ (f d).fail = d.fail ∧ (f d).firm.length = d.firm.length)
    (hs : ∀ s ∈ (f (b.dv (k : Int))).firm, s.length = 256) : Good a (b.upd (k : Int) f) := by
  have hin : b.inD (k : Int) = true := by rw [h.inD]; exact hk
  refine ⟨by rw [upd_len, h.len], ?_, fun d hd => ?_⟩
  · rw [devC_firm (k : Int) (fun d => ?_), h.cel]
    obtain ⟨h1, h2, h3, h4, h5, h6, h7⟩ := hf d
    unfold DV.cells DV.nx
    rw [h1, h2, h3, h4, h5, h6, h7]
  · have hm : d ∈ b.devs.modify k f := by unfold AR.upd at hd; rwa [Int.toNat_natCast] at hd
    obtain ⟨j, hj, rfl⟩ := List.getElem_of_mem hm
    have hj2 : (b.devs.modify k f)[j]? = some (b.devs.modify k f)[j] := List.getElem?_eq_getElem hj
    rw [modify_get] at hj2
    have hd0 := devs_get hin
    rw [Int.toNat_natCast] at hd0
    by_cases hkj : k = j
    · subst hkj
      rw [if_pos rfl, hd0, Option.map_some] at hj2
      have e := Option.some.inj hj2
      rw [← e]
      exact ⟨by rw [(hf _).2.2.2.2.2.2]; exact (h.fm _ (List.mem_of_getElem? hd0)).1, hs⟩
    · rw [if_neg hkj] at hj2
      exact h.fm _ (List.mem_of_getElem? hj2)
theorem setF_same (p : Nat) (b : List UInt8) (d : DV) : (setF p b d).g = d.g ∧ (setF p b d).gone = d.gone ∧ (setF p b d).lo = d.lo ∧ (setF p b d).st = d.st ∧ (setF p b d).to = d.to ∧ (setF p b d).fail = d.fail ∧ (setF p b d).firm.length = d.firm.length := ⟨rfl, rfl, rfl, rfl, rfl, rfl, by simp [setF]⟩
theorem tornF_same (p : Nat) (b : List UInt8) (t : Nat) (d : DV) : (tornF p b t d).g = d.g ∧ (tornF p b t d).gone = d.gone ∧ (tornF p b t d).lo = d.lo ∧ (tornF p b t d).st = d.st ∧ (tornF p b t d).to = d.to ∧ (tornF p b t d).fail = d.fail ∧ (tornF p b t d).firm.length = d.firm.length := ⟨rfl, rfl, rfl, rfl, rfl, rfl, by simp [tornF]⟩
theorem torn_len {l : List (List UInt8)} {p t : Nat} {b : List UInt8} (hl : ∀ s ∈ l, s.length = 256) (hb : b.length = 256) (hp : p < l.length) (ht : t ≤ 256) : (b.take t ++ (l.getD p []).drop t).length = 256 := by
  have h1 : (l.getD p []).length = 256 := by
    rw [List.getD_eq_getElem?_getD, List.getElem?_eq_getElem hp]
    exact hl _ (List.getElem_mem hp)
  rw [List.length_append, List.length_take, List.length_drop, h1, hb]
  omega
theorem Good.step {a b : AR} (h : Good a b) {w : LW} {t : Nat} {first keep : Bool} (hw : w.dev < a.devs.length ∧ w.pl < a.secs ∧ w.b.length = 256) (ht : t ≤ 256) : Good a (crashF t (b, first) w keep).1 := by
  have hk : a.inD (w.dev : Int) = true := by
    unfold AR.inD
    simp only [Bool.and_eq_true, decide_eq_true_eq]
    omega
  have hin : b.inD (w.dev : Int) = true := by rw [h.inD]; exact hk
  have hd := h.fm _ (List.mem_of_getElem? (devs_get hin))
  unfold crashF
  cases keep
  · rw [if_neg (by decide)]
    cases first
    · exact h
    · exact h.upd hk (tornF_same _ _ _) fun s hs => by
        rcases List.mem_or_eq_of_mem_set hs with h1 | rfl
        · exact hd.2 s h1
        · exact torn_len hd.2 hw.2.2 (by rw [hd.1]; exact hw.2.1) ht
  · exact h.upd hk (setF_same _ _) fun s hs => by
      rcases List.mem_or_eq_of_mem_set hs with h1 | rfl
      · exact hd.2 s h1
      · exact hw.2.2
theorem crashN_good {a : AR} (ok : a.Ok) (keep : List Bool) {t : Nat} (ht : t ≤ 256) : ∀ j, Good a (crashN a keep t j).1
  | 0 => Good.refl ok
  | j + 1 => by
    have ih := crashN_good ok keep ht j
    unfold crashN
    cases hw : a.loose[j]? with
    | none => exact ih
    | some w => exact ih.step (ok.lw w (List.mem_of_getElem? hw)) ht
theorem crashN_succ {a : AR} {keep : List Bool} {t j : Nat} {w : LW} (h : a.loose[j]? = some w) : crashN a keep t (j + 1) = crashF t (crashN a keep t j) w (keep.getD j false) := by
  show (match a.loose[j]? with | none => _ | some w => _) = _
  rw [h]
theorem secs_part {l : List (List UInt8)} {p t : Nat} {b : List UInt8} (hl : ∀ s ∈ l, s.length = 256) (hb : b.length = 256) (hp : p < l.length) (ht : t ≤ 256) : putAt (secsV l) (p * 256) (bytesV (b.take t)) = secsV (l.set p (b.take t ++ (l.getD p []).drop t)) := by
  have hbt : (bytesV (b.take t)).length = t := by rw [length_bytesV, List.length_take, hb]; omega
  rw [putAt_many, hbt]
  induction l generalizing p with
  | nil => simp at hp
  | cons s l ih =>
    have hs : (bytesV s).length = 256 := by rw [length_bytesV]; exact hl s (.head _)
    unfold secsV at ih ⊢
    cases p with
    | zero =>
      rw [List.set_cons_zero, List.flatMap_cons, List.flatMap_cons, Nat.zero_mul, List.take_zero, List.nil_append, Nat.zero_add, List.drop_append_of_le_length (by omega)]
      show _ = bytesV (b.take t ++ s.drop t) ++ _
      rw [← List.append_assoc]
      congr 1
      unfold bytesV
      rw [List.map_append, List.map_drop]
    | succ p =>
      have := ih (p := p) (fun s hs => hl s (.tail _ hs)) (by simpa using hp)
      rw [List.set_cons_succ, List.flatMap_cons, List.flatMap_cons, List.getD_cons_succ, ← this, show (p + 1) * 256 = 256 + p * 256 by omega, List.take_append, List.take_of_length_le (by omega), hs, show 256 + p * 256 - 256 = p * 256 by omega, List.append_assoc]
      congr 3
      rw [List.drop_append, List.drop_of_length_le (by omega), List.nil_append, hs, show 256 + p * 256 + t - 256 = p * 256 + t by omega]
def cleanN (b : AR) (j : Nat) : AR := { b with devs := (b.devs.take j).map clean ++ b.devs.drop j }
theorem cleanN_zero (b : AR) : cleanN b 0 = b := by unfold cleanN; simp
theorem cleanN_len (b : AR) (j : Nat) : (cleanN b j).devs.length = b.devs.length := by
  unfold cleanN
  simp
  omega
theorem cleanN_all (b : AR) : (cleanN b b.devs.length).devs = b.devs.map clean := by unfold cleanN; simp
theorem modify_mid {α : Type} (T R : List α) (D : α) (f : α → α) : (T ++ D :: R).modify T.length f = T ++ f D :: R := by
  apply List.ext_getElem?
  intro i
  rw [modify_get]
  by_cases hi : T.length = i
  · subst hi
    rw [if_pos rfl, List.getElem?_append_right (Nat.le_refl _), List.getElem?_append_right (Nat.le_refl _), Nat.sub_self]
    rfl
  · rw [if_neg hi]
    by_cases hlt : i < T.length
    · rw [List.getElem?_append_left hlt, List.getElem?_append_left hlt]
    · rw [List.getElem?_append_right (by omega), List.getElem?_append_right (by omega), show i - T.length = (i - T.length - 1) + 1 by omega]
      rfl
theorem cleanN_succ {b : AR} {j : Nat} (hj : j < b.devs.length) : cleanN b (j + 1) = (cleanN b j).upd (j : Int) clean := by
  have h1 : b.devs.drop j = b.devs[j] :: b.devs.drop (j + 1) := List.drop_eq_getElem_cons hj
  have hl : ((b.devs.take j).map clean).length = j := by simp; omega
  have h2 := modify_mid ((b.devs.take j).map clean) (b.devs.drop (j + 1)) b.devs[j] clean
  rw [hl] at h2
  unfold cleanN AR.upd
  congr 1
  show _ = ((b.devs.take j).map clean ++ b.devs.drop j).modify (j : Int).toNat clean
  rw [Int.toNat_natCast, h1, h2, List.take_add_one, List.getElem?_eq_getElem hj, List.map_append, List.append_assoc]
  rfl
theorem blk_clean (l : List DV) : (l.map clean).map blkD = l.map blkD := by
  rw [List.map_map]
  rfl
end Go.Proofs.YtmdfbdfijnmhkaaGreat
