import Derived.Test.YtmdfbdfijnmhkaaGreatR21
namespace Go.Proofs.YtmdfbdfijnmhkaaGreat
set_option linter.unusedVariables false
set_option linter.unusedSimpArgs false
open Go.RowKit Hp
set_option maxRecDepth 100000
def setF (p : Nat) (b : List UInt8) (d : DV) : DV := { d with firm := d.firm.set p b }
def tornF (p : Nat) (b : List UInt8) (t : Nat) (d : DV) : DV := { d with firm := d.firm.set p (b.take t ++ (d.firm.getD p []).drop t) }
def crashF (t : Nat) (s : AR × Bool) (w : LW) (keep : Bool) : AR × Bool :=
  if keep then (s.1.upd (w.dev : Int) (setF w.pl w.b), s.2) else if s.2 then (s.1.upd (w.dev : Int) (tornF w.pl w.b t), false) else s
structure Good (a b : AR) : Prop where
  len : b.devs.length = a.devs.length
  cel : devC b = devC a
  fm : ∀ d ∈ b.devs, d.firm.length = a.secs ∧ ∀ s ∈ d.firm, s.length = 256
theorem Good.inD {a b : AR} (h : Good a b) (dev : Int) : b.inD dev = a.inD dev := by unfold AR.inD; rw [h.len]
theorem Good.refl {a : AR} (ok : a.Ok) : Good a a := ⟨rfl, rfl, fun d hd => ⟨(ok.fm d hd).1, (ok.fm d hd).2.1⟩⟩
theorem Good.upd {a b : AR} (h : Good a b) {k : Nat} (hk : a.inD (k : Int) = true) {f : DV → DV} (hf : ∀ d, (f d).g = d.g ∧ (f d).gone = d.gone ∧ (f d).lo = d.lo ∧ (f d).st = d.st ∧ (f d).to = d.to ∧ (f d).fail = d.fail ∧ (f d).firm.length = d.firm.length)
    (hs : ∀ s ∈ (f (b.dv (k : Int))).firm, s.length = 256) : Good a (b.upd (k : Int) f) := by
  have hin : b.inD (k : Int) = true := by rw [h.inD]; exact hk
  refine ⟨by rw [upd_len, h.len], ?_, fun d hd => ?_⟩
  · rw [devC_firm (k : Int) (fun d => ?_), h.cel]
    obtain ⟨h1, h2, h3, h4, h5, h6, h7⟩ := hf d
    unfold DV.cells DV.nx
    rw [h1, h2, h3, h4, h5, h6, h7]
  · have hm : d ∈ b.devs.modify k f := by unfold AR.upd at hd; rwa [Int.toNat_natCast] at hd
    obtain ⟨j, hj, rfl⟩ := List.getElem_of_mem hm
    have hj2 : (b.devs.modify k f)[j]? = some (b.devs.modify k f)[j] := List.getElem?_eq_getElem hj
    rw [modify_get] at hj2
    have hd0 := devs_get hin
    rw [Int.toNat_natCast] at hd0
    by_cases hkj : k = j
    · subst hkj
      rw [if_pos rfl, hd0, Option.map_some] at hj2
      have e := Option.some.inj hj2
      rw [← e]
      exact ⟨by rw [(hf _).2.2.2.2.2.2]; exact (h.fm _ (List.mem_of_getElem? hd0)).1, hs⟩
    · rw [if_neg hkj] at hj2
      exact h.fm _ (List.mem_of_getElem? hj2)
theorem setF_same (p : Nat) (b : List UInt8) (d : DV) : (setF p b d).g = d.g ∧ (setF p b d).gone = d.gone ∧ (setF p b d).lo = d.lo ∧ (setF p b d).st = d.st ∧ (setF p b d).to = d.to ∧ (setF p b d).fail = d.fail ∧ (setF p b d).firm.length = d.firm.length := ⟨rfl, rfl, rfl, rfl, rfl, rfl, by simp [setF]⟩
theorem tornF_same (p : Nat) (b : List UInt8) (t : Nat) (d : DV) : (tornF p b t d).g = d.g ∧ (tornF p b t d).gone = d.gone ∧ (tornF p b t d).lo = d.lo ∧ (tornF p b t d).st = d.st ∧ (tornF p b t d).to = d.to ∧ (tornF p b t d).fail = d.fail ∧ (tornF p b t d).firm.length = d.firm.length := ⟨rfl, rfl, rfl, rfl, rfl, rfl, by simp [tornF]⟩
theorem torn_len {l : List (List UInt8)} {p t : Nat} {b : List UInt8} (hl : ∀ s ∈ l, s.length = 256) (hb : b.length = 256) (hp : p < l.length) (ht : t ≤ 256) : (b.take t ++ (l.getD p []).drop t).length = 256 := by
  have h1 : (l.getD p []).length = 256 := by
    rw [List.getD_eq_getElem?_getD, List.getElem?_eq_getElem hp]
    exact hl _ (List.getElem_mem hp)
  rw [List.length_append, List.length_take, List.length_drop, h1, hb]
  omega
theorem Good.step {a b : AR} (h : Good a b) {w : LW} {t : Nat} {first keep : Bool} (hw : w.dev < a.devs.length ∧ w.pl < a.secs ∧ w.b.length = 256) (ht : t ≤ 256) : Good a (crashF t (b, first) w keep).1 := by
  have hk : a.inD (w.dev : Int) = true := by
    unfold AR.inD
    simp only [Bool.and_eq_true, decide_eq_true_eq]
    omega
  have hin : b.inD (w.dev : Int) = true := by rw [h.inD]; exact hk
  have hd := h.fm _ (List.mem_of_getElem? (devs_get hin))
  unfold crashF
  cases keep
  · rw [if_neg (by decide)]
    cases first
    · exact h
    · exact h.upd hk (tornF_same _ _ _) fun s hs => by
        rcases List.mem_or_eq_of_mem_set hs with h1 | rfl
        · exact hd.2 s h1
        · exact torn_len hd.2 hw.2.2 (by rw [hd.1]; exact hw.2.1) ht
  · exact h.upd hk (setF_same _ _) fun s hs => by
      rcases List.mem_or_eq_of_mem_set hs with h1 | rfl
      · exact hd.2 s h1
      · exact hw.2.2
end Go.Proofs.YtmdfbdfijnmhkaaGreat
