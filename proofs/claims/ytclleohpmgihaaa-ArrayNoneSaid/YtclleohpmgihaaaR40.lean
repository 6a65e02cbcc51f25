/- Writes that are laid on two devices of eight sectors, each of one byte: plain data. -/
import Derived.Test.YtclleohpmgihaaaR26
import Derived.Test.YtclleohpmgihaaaR29
namespace Go.Proofs.Ytclleohpmgihaaa
set_option linter.unusedVariables false
set_option linter.unusedSimpArgs false
open Go.RowKit Hp
set_option maxRecDepth 100000
/-- What is firm (F) and what is told (L), device by device, a byte a sector. -/
structure Laid (a : AR) (F L : List UInt8) : Prop where
  ok : a.Ok
  len : a.devs.length = 2
  sec : a.secs = 8
  fl : F.length = 16
  ll : L.length = 16
  live : ∀ d : Nat, d < 2 → (a.dv d).gone = false ∧ (a.dv d).lo = false ∧ (a.dv d).st = false ∧ (a.dv d).fail = 0
  fm : ∀ d s : Nat, d < 2 → s < 8 → (a.dv d).firm.getD s [] = BB (F.getD (d * 8 + s) 0)
  tl : ∀ d s : Nat, d < 2 → s < 8 → a.tells d s = BB (L.getD (d * 8 + s) 0)
theorem Laid.inD {a : AR} {F L : List UInt8} (h : Laid a F L) {d : Nat} (hd : d < 2) : a.inD (d : Int) = true := by
  unfold AR.inD
  rw [h.len]
  simp only [Bool.and_eq_true, decide_eq_true_eq]
  omega
theorem Laid.inS {a : AR} {F L : List UInt8} (h : Laid a F L) {d s : Nat} (hd : d < 2) (hs : s < 8) : a.inS (d : Int) (s : Int) = true := by
  unfold AR.inS
  rw [h.inD hd, h.sec, Bool.true_and]
  simp only [Bool.and_eq_true, decide_eq_true_eq]
  omega
theorem Laid.same {a b : AR} {F L : List UInt8} (h : Laid a F L) (hd : b.devs = a.devs) (hl : b.loose = a.loose) (hf : -1 ≤ b.fuse ∧ b.fuse ≤ 9223372036854775807) : Laid b F L := by
  obtain ⟨bd, bl, bf, bo, bs⟩ := b
  cases hd
  cases hl
  exact ⟨⟨h.ok.d0, h.ok.dn, h.ok.sn, h.ok.fm, h.ok.lw, hf⟩, h.len, h.sec, h.fl, h.ll, h.live, h.fm, h.tl⟩
theorem rep16 (i : Nat) : (List.replicate 16 (0 : UInt8)).getD i 0 = 0 := by
  rw [List.getD_eq_getElem?_getD, List.getElem?_replicate]
  split <;> rfl
theorem Laid.start (p q : Nat) : Laid (K0 p q) (List.replicate 16 0) (List.replicate 16 0) := by
  refine ⟨K0_ok p q, rfl, rfl, rfl, rfl, fun d hd => ?_, fun d s hd hs => ?_, fun d s hd hs => ?_⟩
  · obtain rfl | rfl : d = 0 ∨ d = 1 := by omega
    · exact ⟨rfl, rfl, rfl, rfl⟩
    · exact ⟨rfl, rfl, rfl, rfl⟩
  · rw [rep16]
    have key : ((K0 p q).dv (d : Int)).firm = List.replicate 8 (BB 0) := by
      obtain rfl | rfl : d = 0 ∨ d = 1 := by omega
      · rfl
      · rfl
    rw [key, List.getD_eq_getElem?_getD, List.getElem?_replicate, if_pos hs]
    rfl
  · rw [rep16]
    have key : ((K0 p q).dv (d : Int)).firm = List.replicate 8 (BB 0) := by
      obtain rfl | rfl : d = 0 ∨ d = 1 := by omega
      · rfl
      · rfl
    show ((K0 p q).dv (d : Int)).firm.getD s [] = _
    rw [key, List.getD_eq_getElem?_getD, List.getElem?_replicate, if_pos hs]
    rfl
/-- A step that is done. -/
def fuseS (f : Int) : Int := if 0 < f then f - 1 else f
theorem fuseS_in {f : Int} (h : -1 ≤ f ∧ f ≤ 9223372036854775807) (h0 : f ≠ 0) : -1 ≤ fuseS f ∧ fuseS f ≤ 9223372036854775807 := by unfold fuseS; split <;> omega
theorem Laid.write_eq {a : AR} {F L : List UInt8} (h : Laid a F L) {d s : Nat} (hd : d < 2) (hs : s < 8) (hf : a.fuse ≠ 0) (ho : a.out = false) (b : UInt8) :
    a.writeE d s (BB b) = 0 ∧ a.write d s (BB b) = ⟨a.devs, a.loose ++ [⟨d, s, BB b⟩], fuseS a.fuse, false, a.steps + 1⟩ := by
  obtain ⟨hg, hlo, hst, _⟩ := h.live d hd
  have h0 := h.ok.d0
  have hl : ¬ (BB b).length ≠ 256 := fun hne => hne (BB_len b)
  constructor
  · unfold AR.writeE AR.stepE
    rw [if_neg h0, ho, if_neg (by decide), h.inS hd hs, if_neg (by decide), if_neg hl, hg, if_neg (by decide), if_neg hf]
  · unfold AR.write
    rw [if_neg (fun hh => by
      rcases hh with h1 | h1 | h1 | h1 | h1
      · exact h0 h1
      · rw [ho] at h1; cases h1
      · rw [h.inS hd hs] at h1; cases h1
      · exact hl h1
      · rw [hg] at h1; cases h1), if_neg hf]
    have hs1 : a.step = ⟨a.devs, a.loose, fuseS a.fuse, false, a.steps + 1⟩ := by
      unfold AR.step fuseS
      rw [if_neg hf, ← ho]
    rw [hs1]
    unfold AR.lay
    have hdv : (⟨a.devs, a.loose, fuseS a.fuse, false, a.steps + 1⟩ : AR).dv (d : Int) = a.dv (d : Int) := rfl
    rw [hdv, hlo, if_neg (by decide), hst, if_neg (by decide)]
    simp only [Int.toNat_natCast]
theorem getD_set {α : Type} (l : List α) (i j : Nat) (x z : α) (hi : i < l.length) : (l.set i x).getD j z = if i = j then x else l.getD j z := by
  rw [List.getD_eq_getElem?_getD, List.getElem?_set]
  by_cases h : i = j
  · subst h; rw [if_pos rfl, if_pos rfl, if_pos hi]; rfl
  · rw [if_neg h, if_neg h, List.getD_eq_getElem?_getD]
theorem Laid.write {a : AR} {F L : List UInt8} (h : Laid a F L) {d s : Nat} (hd : d < 2) (hs : s < 8) (hf : a.fuse ≠ 0) (ho : a.out = false) (b : UInt8) : Laid (a.write d s (BB b)) F (L.set (d * 8 + s) b) := by
  have ok := h.ok.write d s (BB b)
  rw [(h.write_eq hd hs hf ho b).2] at ok ⊢
  refine ⟨ok, h.len, h.sec, h.fl, by rw [List.length_set]; exact h.ll, h.live, h.fm, fun e t he ht => ?_⟩
  have := h.tl e t he ht
  unfold AR.tells at this ⊢
  show (a.loose ++ [_]).foldl _ ((a.dv (e : Int)).firm.getD _ []) = _
  rw [List.foldl_append, this, getD_set _ _ _ _ _ (by rw [h.ll]; omega)]
  simp only [List.foldl_cons, List.foldl_nil, pickW, Int.toNat_natCast]
  by_cases hc : d = e ∧ s = t
  · rw [if_pos hc, if_pos (by omega)]
  · rw [if_neg hc, if_neg (by omega)]
theorem Laid.write_no {a : AR} {F L : List UInt8} (h : Laid a F L) {d s : Nat} (hd : d < 2) (hs : s < 8) (hf : a.out = true ∨ a.fuse = 0) (b : UInt8) :
    a.writeE d s (BB b) = 10 ∧ Laid (a.write d s (BB b)) F L ∧ (a.write d s (BB b)).fuse = a.fuse ∧ (a.write d s (BB b)).steps = a.steps ∧ (a.write d s (BB b)).loose = a.loose := by
  obtain ⟨hg, hlo, hst, _⟩ := h.live d hd
  have h0 := h.ok.d0
  have hl : ¬ (BB b).length ≠ 256 := fun hne => hne (BB_len b)
  cases ho : a.out
  · have hf0 : a.fuse = 0 := by rcases hf with h1 | h1; · rw [ho] at h1; cases h1
                                · exact h1
    constructor
    · unfold AR.writeE AR.stepE
      rw [if_neg h0, ho, if_neg (by decide), h.inS hd hs, if_neg (by decide), if_neg hl, hg, if_neg (by decide), if_pos hf0]
    · have hw : a.write d s (BB b) = { a with out := true } := by
        unfold AR.write
        rw [if_neg (fun hh => by
          rcases hh with h1 | h1 | h1 | h1 | h1
          · exact h0 h1
          · rw [ho] at h1; cases h1
          · rw [h.inS hd hs] at h1; cases h1
          · exact hl h1
          · rw [hg] at h1; cases h1), if_pos hf0]
        unfold AR.step
        rw [if_pos hf0]
      rw [hw]
      exact ⟨h.same rfl rfl h.ok.fu, rfl, rfl, rfl⟩
  · constructor
    · unfold AR.writeE
      rw [if_neg h0, ho, if_pos rfl]
    · have hw : a.write d s (BB b) = a := by
        unfold AR.write
        rw [if_pos (.inr (.inl ho))]
      rw [hw]
      exact ⟨h, rfl, rfl, rfl⟩
theorem foldP_filter (d s : Nat) (l : List LW) (x : List UInt8) : l.foldl (pickW d s) x = (l.filter fun w => w.dev == d).foldl (pickW d s) x := by
  induction l generalizing x with
  | nil => rfl
  | cons w l ih =>
    rw [List.foldl_cons, ih]
    by_cases hw : w.dev = d
    · rw [List.filter_cons_of_pos (by simpa using hw), List.foldl_cons]
    · rw [List.filter_cons_of_neg (by simpa using hw)]
      congr 1
      unfold pickW
      rw [if_neg (fun h => hw h.1)]
theorem foldS_get (d s : Nat) (l : List LW) (f : List (List UInt8)) (hl : ∀ w ∈ l, w.dev = d) (hs : s < f.length) : (l.foldl setS f).getD s [] = l.foldl (pickW d s) (f.getD s []) := by
  induction l generalizing f with
  | nil => rfl
  | cons w l ih =>
    rw [List.foldl_cons, List.foldl_cons, ih _ (fun v hv => hl v (.tail _ hv)) (by unfold setS; rw [List.length_set]; exact hs)]
    congr 1
    unfold setS pickW
    rw [List.getD_eq_getElem?_getD, List.getElem?_set]
    by_cases hp : w.pl = s
    · rw [if_pos hp, if_pos (by rw [hp]; exact hs), if_pos ⟨hl w (.head _), hp⟩]; rfl
    · rw [if_neg hp, if_neg (fun h => hp h.2), List.getD_eq_getElem?_getD]
/-- A device's row is that of another list. -/
def rowput (F L : List UInt8) (d : Nat) : List UInt8 := F.take (d * 8) ++ ((L.drop (d * 8)).take 8 ++ F.drop (d * 8 + 8))
theorem rowput_len {F L : List UInt8} {d : Nat} (hF : F.length = 16) (hL : L.length = 16) (hd : d < 2) : (rowput F L d).length = 16 := by
  unfold rowput
  rw [List.length_append, List.length_append, List.length_take, List.length_take, List.length_drop, List.length_drop]
  omega
theorem rowput_get {F L : List UInt8} {d e s : Nat} (hF : F.length = 16) (hL : L.length = 16) (hd : d < 2) (he : e < 2) (hs : s < 8) : (rowput F L d).getD (e * 8 + s) 0 = if e = d then L.getD (e * 8 + s) 0 else F.getD (e * 8 + s) 0 := by
  unfold rowput
  have h1 : (F.take (d * 8)).length = d * 8 := by rw [List.length_take]; omega
  have h2 : ((L.drop (d * 8)).take 8).length = 8 := by rw [List.length_take, List.length_drop]; omega
  simp only [List.getD_eq_getElem?_getD]
  by_cases hed : e = d
  · subst hed
    rw [if_pos rfl, List.getElem?_append_right (by omega), h1, List.getElem?_append_left (by omega), List.getElem?_take, if_pos (by omega), List.getElem?_drop]
    congr 2
    omega
  · rw [if_neg hed]
    by_cases hlt : e < d
    · rw [List.getElem?_append_left (by omega), List.getElem?_take, if_pos (by omega)]
    · rw [List.getElem?_append_right (by omega), h1, List.getElem?_append_right (by omega), h2, List.getElem?_drop]
      congr 2
      omega
theorem dv_modify {a : AR} {d e : Nat} {f : DV → DV} (hd : d < a.devs.length) : (a.upd (d : Int) f).dv (e : Int) = if d = e then f (a.dv (d : Int)) else a.dv (e : Int) := by
  unfold AR.dv AR.upd
  simp only [Int.toNat_natCast, List.getD_eq_getElem?_getD, modify_get]
  by_cases h : d = e
  · subst h
    rw [if_pos rfl, if_pos rfl, List.getElem?_eq_getElem hd]
    rfl
  · rw [if_neg h, if_neg h]
theorem Laid.firmlen {a : AR} {F L : List UInt8} (h : Laid a F L) {d : Nat} (hd : d < 2) : (a.dv (d : Int)).firm.length = 8 := by
  rw [(h.ok.dv (h.inD hd)).1, h.sec]
theorem Laid.flush_eq {a : AR} {F L : List UInt8} (h : Laid a F L) {d : Nat} (hd : d < 2) (hf : a.fuse ≠ 0) (ho : a.out = false) :
    a.flushE d = 0 ∧ a.flush d = (⟨a.devs, a.loose, fuseS a.fuse, false, a.steps + 1⟩ : AR).firms d := by
  obtain ⟨hg, hlo, hst, _⟩ := h.live d hd
  have h0 := h.ok.d0
  constructor
  · unfold AR.flushE AR.stepE
    rw [if_neg h0, ho, if_neg (by decide), h.inD hd, if_neg (by decide), hg, if_neg (by decide), if_neg hf]
  · unfold AR.flush
    rw [if_neg (fun hh => by
      rcases hh with h1 | h1 | h1 | h1
      · exact h0 h1
      · rw [ho] at h1; cases h1
      · rw [h.inD hd] at h1; cases h1
      · rw [hg] at h1; cases h1), if_neg hf, Int.toNat_natCast]
    have hs1 : a.step = ⟨a.devs, a.loose, fuseS a.fuse, false, a.steps + 1⟩ := by
      unfold AR.step fuseS
      rw [if_neg hf, ← ho]
    rw [hs1]
theorem Laid.flush {a : AR} {F L : List UInt8} (h : Laid a F L) {d : Nat} (hd : d < 2) (hf : a.fuse ≠ 0) (ho : a.out = false) : Laid (a.flush d) (rowput F L d) L := by
  have ok := h.ok.flush (d : Int)
  rw [(h.flush_eq hd hf ho).2] at ok ⊢
  have hdl : d < a.devs.length := by rw [h.len]; exact hd
  have hdv : ∀ e : Nat, ((⟨a.devs, a.loose, fuseS a.fuse, false, a.steps + 1⟩ : AR).firms d).dv (e : Int) = if d = e then { a.dv (d : Int) with firm := (a.loose.filter fun w => w.dev == d).foldl setS (a.dv (d : Int)).firm } else a.dv (e : Int) := fun e =>
    dv_modify (a := ⟨a.devs, a.loose, fuseS a.fuse, false, a.steps + 1⟩) (f := fun x => { x with firm := (a.loose.filter fun w => w.dev == d).foldl setS x.firm }) hdl
  have hfm : ∀ s, s < 8 → ((a.loose.filter fun w => w.dev == d).foldl setS (a.dv (d : Int)).firm).getD s [] = BB (L.getD (d * 8 + s) 0) := by
    intro s hs
    rw [foldS_get d s _ _ (fun w hw => by simpa using (List.mem_filter.1 hw).2) (by rw [h.firmlen hd]; exact hs), ← foldP_filter, ← h.tl d s hd hs]
    rfl
  refine ⟨ok, ?_, ?_, rowput_len h.fl h.ll hd, h.ll, fun e he => ?_, fun e s he hs => ?_, fun e s he hs => ?_⟩
  · exact (upd_len _ _ _).trans h.len
  · refine (upd_secs (a := ⟨a.devs, a.loose, fuseS a.fuse, false, a.steps + 1⟩) (dev := (d : Int)) (f := fun x => { x with firm := (a.loose.filter fun w => w.dev == d).foldl setS x.firm }) (h.inD hd) ?_).trans h.sec
    exact foldS_len _ _
  · rw [hdv]
    split
    · subst_vars
      exact h.live _ he
    · exact h.live _ he
  · rw [hdv, rowput_get h.fl h.ll hd he hs]
    by_cases hde : d = e
    · subst hde
      rw [if_pos rfl, if_pos rfl]
      exact hfm s hs
    · rw [if_neg hde, if_neg (fun hh => hde hh.symm)]
      exact h.fm e s he hs
  · unfold AR.tells
    rw [hdv]
    show (a.loose.filter fun w => w.dev != d).foldl (pickW e s) _ = _
    by_cases hde : d = e
    · subst hde
      rw [if_pos rfl, foldP_filter, List.filter_filter]
      have he0 : (a.loose.filter fun w => (w.dev == d) && (w.dev != d)) = [] := by
        rw [List.filter_eq_nil_iff]
        intro w _
        cases hq : (w.dev == d) <;> simp [bne, hq]
      rw [he0]
      exact hfm s hs
    · rw [if_neg hde, foldP_filter, List.filter_filter]
      have he0 : (a.loose.filter fun w => (w.dev == e) && (w.dev != d)) = a.loose.filter fun w => w.dev == e := by
        apply List.filter_congr
        intro w _
        by_cases hq : w.dev = e
        · have : ¬ w.dev = d := fun h1 => hde (h1.symm.trans hq)
          simp [hq]
          omega
        · simp [hq]
      rw [he0, ← h.tl e s he hs]
      unfold AR.tells
      rw [foldP_filter (e : Int).toNat]
      rfl
theorem Laid.flush_no {a : AR} {F L : List UInt8} (h : Laid a F L) {d : Nat} (hd : d < 2) (hf : a.out = true ∨ a.fuse = 0) :
    a.flushE d = 10 ∧ Laid (a.flush d) F L ∧ (a.flush d).fuse = a.fuse ∧ (a.flush d).steps = a.steps ∧ (a.flush d).loose = a.loose := by
  obtain ⟨hg, hlo, hst, _⟩ := h.live d hd
  have h0 := h.ok.d0
  cases ho : a.out
  · have hf0 : a.fuse = 0 := by rcases hf with h1 | h1; · rw [ho] at h1; cases h1
                                · exact h1
    constructor
    · unfold AR.flushE AR.stepE
      rw [if_neg h0, ho, if_neg (by decide), h.inD hd, if_neg (by decide), hg, if_neg (by decide), if_pos hf0]
    · have hw : a.flush d = { a with out := true } := by
        unfold AR.flush
        rw [if_neg (fun hh => by
          rcases hh with h1 | h1 | h1 | h1
          · exact h0 h1
          · rw [ho] at h1; cases h1
          · rw [h.inD hd] at h1; cases h1
          · rw [hg] at h1; cases h1), if_pos hf0]
        unfold AR.step
        rw [if_pos hf0]
      rw [hw]
      exact ⟨h.same rfl rfl h.ok.fu, rfl, rfl, rfl⟩
  · constructor
    · unfold AR.flushE
      rw [if_neg h0, ho, if_pos rfl]
    · have hw : a.flush d = a := by
        unfold AR.flush
        rw [if_pos (.inr (.inl ho))]
      rw [hw]
      exact ⟨h, rfl, rfl, rfl⟩
end Go.Proofs.Ytclleohpmgihaaa
