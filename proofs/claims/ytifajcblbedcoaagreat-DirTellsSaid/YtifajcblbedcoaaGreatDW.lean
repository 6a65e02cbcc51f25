import Derived.Test.YtifajcblbedcoaaGreatD0
namespace Go.Proofs.YtifajcblbedcoaaGreat
set_option linter.unusedVariables false
set_option linter.unusedSimpArgs false
open Go.RowKit Hp
def RC.sameB (x y : RC) : Bool := (((((((((x.id == y.id) && (x.name == y.name)) && (x.kind == y.kind)) && (x.size == y.size)) && (x.pv undef).same (y.pv undef)) && (x.made == y.made)) && (x.own == y.own)) && (x.origin == y.origin)) && (x.quota == y.quota)) && (x.reserve == y.reserve)
def recsB : List RC → List RC → Bool
  | [], [] => true
  | x :: l, y :: k => x.sameB y && recsB l k
  | _, _ => false
def TC.curL (t : TC) : List Int := [t.kind, t.dev, t.at_, t.txg]
def TC.sameB (t u : TC) : Bool := (((t.next == u.next) && (t.curL == u.curL)) && (t.lives == u.lives)) && recsB t.recs u.recs
theorem RC.sameB_iff {x y : RC} : x.sameB y = true ↔ x = y := by
  constructor
  · intro h
    unfold RC.sameB at h
    simp only [Bool.and_eq_true, beq_iff_eq] at h
    obtain ⟨⟨⟨⟨⟨⟨⟨⟨⟨h1, h2⟩, h3⟩, h4⟩, h5⟩, h6⟩, h7⟩, h8⟩, h9⟩, h10⟩ := h
    unfold PV.same Go.Proofs.YtifajcblbedcoaaGreat.sameB at h5
    simp only [Bool.and_eq_true, beq_iff_eq, decide_eq_true_eq] at h5
    obtain ⟨a1, a2, a3, a4⟩ := h5
    cases x; cases y
    simp only [RC.pv] at *
    subst h1 h2 h3 h4 h6 h7 h8 h9 h10 a1 a2 a3 a4
    rfl
  · rintro rfl
    unfold RC.sameB
    simp [PV.same, Go.Proofs.YtifajcblbedcoaaGreat.sameB]
theorem recsB_iff : ∀ {l k : List RC}, recsB l k = true ↔ l = k
  | [], [] => by simp [recsB]
  | [], y :: k => by simp [recsB]
  | x :: l, [] => by simp [recsB]
  | x :: l, y :: k => by
    rw [recsB, Bool.and_eq_true, RC.sameB_iff, recsB_iff]
    constructor
    · rintro ⟨rfl, rfl⟩; rfl
    · intro h
      cases h
      exact ⟨rfl, rfl⟩
theorem TC.sameB_iff {t u : TC} : t.sameB u = true ↔ t = u := by
  unfold TC.sameB
  rw [Bool.and_eq_true, Bool.and_eq_true, Bool.and_eq_true, recsB_iff, beq_iff_eq, beq_iff_eq, beq_iff_eq]
  constructor
  · rintro ⟨⟨⟨h1, h2⟩, h3⟩, h4⟩
    unfold TC.curL at h2
    simp at h2
    obtain ⟨a1, a2, a3, a4⟩ := h2
    cases t; cases u
    simp only at *
    subst h1 h3 h4 a1 a2 a3 a4
    rfl
  · rintro rfl
    exact ⟨⟨⟨rfl, rfl⟩, rfl⟩, rfl⟩
theorem recsB_len {l k : List RC} (h : l.length ≠ k.length) : recsB l k = false := by
  cases hh : recsB l k with
  | false => rfl
  | true => exact absurd (congrArg List.length (recsB_iff.1 hh)) h
theorem recsB_no {l k : List RC} {j : Nat} {x y : RC} (hx : l[j]? = some x) (hy : k[j]? = some y) (h : x.sameB y = false) : recsB l k = false := by
  cases hh : recsB l k with
  | false => rfl
  | true =>
    have := recsB_iff.1 hh
    subst this
    rw [hx] at hy
    cases hy
    rw [RC.sameB_iff.2 rfl] at h
    cases h
theorem recsB_all {l k : List RC} (hl : l.length = k.length) (h : ∀ (j : Nat) (x y : RC), l[j]? = some x → k[j]? = some y → x.sameB y = true) : recsB l k = true := by
  rw [recsB_iff]
  apply List.ext_getElem hl
  intro j h1 h2
  exact RC.sameB_iff.1 (h j _ _ (List.getElem?_eq_getElem h1) (List.getElem?_eq_getElem h2))
theorem RC.sameB_pv (x y : RC) (sv sv' : Value) : x.sameB y = ((((((((((x.id == y.id) && (x.name == y.name)) && (x.kind == y.kind)) && (x.size == y.size)) && (x.pv sv).same (y.pv sv')) && (x.made == y.made)) && (x.own == y.own)) && (x.origin == y.origin)) && (x.quota == y.quota)) && (x.reserve == y.reserve)) := rfl
theorem ints_len {l k : List Int} (h : l.length ≠ k.length) : (l == k) = false := by
  rw [beq_eq_false_iff_ne]
  exact fun e => h (by rw [e])
theorem ints_no {l k : List Int} {j : Nat} {x y : Int} (hx : l[j]? = some x) (hy : k[j]? = some y) (h : x ≠ y) : (l == k) = false := by
  rw [beq_eq_false_iff_ne]
  rintro rfl
  rw [hx] at hy
  exact h (Option.some.inj hy)
theorem ints_all {l k : List Int} (hl : l.length = k.length) (h : ∀ (j : Nat) (x y : Int), l[j]? = some x → k[j]? = some y → x = y) : (l == k) = true := by
  rw [beq_iff_eq]
  apply List.ext_getElem hl
  intro j h1 h2
  exact h j _ _ (List.getElem?_eq_getElem h1) (List.getElem?_eq_getElem h2)
theorem TC.same1 {t u : TC} (h : (t.next == u.next) = false) : t.sameB u = false := by unfold TC.sameB; rw [h]; rfl
theorem TC.same2 {t u : TC} (h : (t.curL == u.curL) = false) : t.sameB u = false := by unfold TC.sameB; rw [h]; simp
theorem TC.same3 {t u : TC} (h : (t.lives == u.lives) = false) : t.sameB u = false := by unfold TC.sameB; rw [h]; simp
theorem TC.same4 {t u : TC} (h : recsB t.recs u.recs = false) : t.sameB u = false := by unfold TC.sameB; rw [h]; simp
theorem TC.same0 {t u : TC} (h1 : (t.next == u.next) = true) (h2 : (t.curL == u.curL) = true) (h3 : (t.lives == u.lives) = true) (h4 : recsB t.recs u.recs = true) : t.sameB u = true := by unfold TC.sameB; rw [h1, h2, h3, h4]; rfl
end Go.Proofs.YtifajcblbedcoaaGreat
