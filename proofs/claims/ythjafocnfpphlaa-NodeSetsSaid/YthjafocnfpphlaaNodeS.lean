/- A node with another pointer, as plain data. No walk in sight. -/
import Derived.Test.YthjafocnfpphlaaNodeB
import Derived.Test.YthjafocnfpphlaaT32
namespace Go.Proofs.Ythjafocnfpphlaa
open Go.RowKit Hp
theorem PV.eqd.refl (p : PV) : p.eqd p := ⟨rfl, rfl, rfl, rfl⟩
theorem set_unfit {x : NV} {p : PV} {k : Nat} (hc : x.ok = true) (hk : k < 4) (hc2 : (x.set k p).ok = false) : p.fits x.lv = false := by
  by_cases hf : p.fits x.lv = true
  · exfalso
    have h := hc
    simp only [NV.ok, Bool.and_eq_true, decide_eq_true_eq] at h
    have hall := (all4 (f := fun p => p.fits x.lv)).1 h.2
    have hne : (x.set k p).ok = true := by
      simp only [NV.ok, Bool.and_eq_true, decide_eq_true_eq, NV.lv_set]
      refine ⟨h.1, ?_⟩
      have := (all4 (f := fun p => p.fits x.lv) (x := x.set k p)).2 (fun j hj => by
        by_cases e : j = k
        · subst e; rw [NV.get_set_same x hk]; exact hf
        · rw [NV.get_set_other x hk hj e]; exact hall j hj)
      rw [NV.fitsAll, NV.lv_set]
      exact this
    rw [hne] at hc2
    cases hc2
  · simpa using hf
/-- what the law asks where the setting was refused -/
theorem set_why {x : NV} {p : PV} (h : p.fits x.lv = false) (hp : p.ok = true) : p.hole = false ∧ p.v ≠ x.lv - 1 := by
  simp only [PV.fits, hp, Bool.true_and, Bool.or_eq_false_iff, decide_eq_false_iff_not] at h
  exact h
theorem isO_other {E : TypeId} {x y : NV} {p : PV} {R : List HA} {k j : Nat} (hk : k < 4) (hO : y.isO E (x.set k p) R 4) (hj : j < 4) (e : j ≠ k) : (y.get j).eqd (x.get j) := by
  have h := (hO j hj).1
  rwa [NV.get_set_other x hk hj e] at h
theorem isO_same {E : TypeId} {x y : NV} {p : PV} {R : List HA} {k : Nat} (hk : k < 4) (hO : y.isO E (x.set k p) R 4) : (y.get k).eqd p := by
  have h := (hO k hk).1
  rwa [NV.get_set_same x hk] at h
theorem isO_ok {E : TypeId} {x y : NV} {R : List HA} (hl : y.lv = x.lv) (hO : y.isO E x R 4) : y.ok = x.ok := (NV.eqd hl fun j hj => (hO j hj).1).1
theorem back_eqd {E : TypeId} {x y : NV} {p : PV} {R : List HA} {k : Nat} (hk : k < 4) (hO : y.isO E (x.set k p) R 4) : ∀ j, j < 4 → ((y.set k (x.get k)).get j).eqd (x.get j) := by
  intro j hj
  by_cases e : j = k
  · subst e; rw [NV.get_set_same y hk]; exact PV.eqd.refl _
  · rw [NV.get_set_other y hk hj e]; exact isO_other hk hO hj e
theorem back_ok {E : TypeId} {x y : NV} {p : PV} {R : List HA} {k : Nat} (hk : k < 4) (hl : y.lv = x.lv) (hO : y.isO E (x.set k p) R 4) : (y.set k (x.get k)).ok = x.ok :=
  (NV.eqd (by rw [NV.lv_set, hl]) (back_eqd hk hO)).1
theorem back_same {E : TypeId} {x y z : NV} {p : PV} {R Q : List HA} {k : Nat} (hk : k < 4) (hl : y.lv = x.lv) (hO : y.isO E (x.set k p) R 4) (hz : z.lv = y.lv) (hZ : z.isO E (y.set k (x.get k)) Q 4) : z.same x = true :=
  NV.same_of (hz.trans hl) fun j hj => (hZ j hj).1.trans (back_eqd hk hO j hj)
end Go.Proofs.Ythjafocnfpphlaa
