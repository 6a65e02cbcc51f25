/- Writes that are laid, and a crash behind them: plain data. -/
import Derived.Test.YtclleohpmgihaaaR40
namespace Go.Proofs.Ytclleohpmgihaaa
set_option linter.unusedVariables false
set_option linter.unusedSimpArgs false
open Go.RowKit Hp
set_option maxRecDepth 100000
theorem secs_dv {a : AR} (h : a.devs ≠ []) : a.secs = (a.dv 0).firm.length := by
  unfold AR.secs AR.dv
  cases hd : a.devs with
  | nil => exact absurd hd h
  | cons d l => rfl
/-- The first loose writes, all kept. -/
theorem crash_keeps {a : AR} {F L : List UInt8} (h : Laid a F L) {keep : List Bool} {t : Nat} (hk : ∀ j, j < a.loose.length → keep.getD j false = true) : ∀ j, j ≤ a.loose.length →
    (crashN a keep t j).1.devs.length = 2 ∧ ∀ e : Nat, e < 2 → (crashN a keep t j).1.dv (e : Int) = { a.dv (e : Int) with firm := ((a.loose.take j).filter fun w => w.dev == e).foldl setS (a.dv (e : Int)).firm }
  | 0, _ => ⟨h.len, fun e _ => rfl⟩
  | j + 1, hj => by
    obtain ⟨h1, h2⟩ := crash_keeps h (t := t) hk j (by omega)
    have hw : a.loose[j]? = some (a.loose[j]'(by omega)) := List.getElem?_eq_getElem (by omega)
    obtain ⟨v, hv⟩ : ∃ v, v = a.loose[j]'(by omega) := ⟨_, rfl⟩
    rw [← hv] at hw
    have hvd := (h.ok.lw v (List.mem_of_getElem? hw)).1
    rw [h.len] at hvd
    rw [crashN_succ hw, hk j (by omega)]
    have hc : crashF t (crashN a keep t j) v true = ((crashN a keep t j).1.upd (v.dev : Int) (setF v.pl v.b), (crashN a keep t j).2) := rfl
    rw [hc]
    refine ⟨(upd_len _ _ _).trans h1, fun e he => ?_⟩
    show ((crashN a keep t j).1.upd (v.dev : Int) (setF v.pl v.b)).dv (e : Int) = _
    rw [dv_modify (by omega), List.take_add_one, hw, List.filter_append]
    by_cases hde : v.dev = e
    · subst hde
      rw [if_pos rfl, h2 _ he, List.foldl_append]
      have : (([v] : List LW).filter fun w => w.dev == v.dev) = [v] := by simp
      show setF v.pl v.b _ = ({ a.dv (v.dev : Int) with firm := (([v] : List LW).filter fun w => w.dev == v.dev).foldl setS _ } : DV)
      rw [this]
      rfl
    · rw [if_neg hde, h2 _ he]
      have : ((some v).toList.filter fun w => w.dev == e) = [] := by simp [hde]
      rw [this, List.append_nil]
theorem dv_clean {l : List DV} {fu : Int} {o : Bool} {lo : List LW} {st : Int} {e : Nat} (he : e < l.length) : (⟨l.map clean, lo, fu, o, st⟩ : AR).dv (e : Int) = clean (l.getD e DV.zero) := by
  unfold AR.dv
  simp only [Int.toNat_natCast, List.getD_eq_getElem?_getD, List.getElem?_map, List.getElem?_eq_getElem he]
  rfl
theorem Laid.crashE {a : AR} {F L : List UInt8} (h : Laid a F L) {t : Nat} (ht : t < 256) : a.crashE (t : Int) = 0 := by
  unfold AR.crashE
  rw [if_neg h.ok.d0, decide_eq_true (by omega), decide_eq_true (by omega)]
  rfl
theorem Laid.crash_eq {a : AR} {F L : List UInt8} (h : Laid a F L) (keep : List Bool) {t : Nat} (ht : t < 256) : a.crash keep (t : Int) = a.crashed keep t := by
  unfold AR.crash
  rw [if_pos (h.crashE ht), Int.toNat_natCast]
theorem Laid.crash_all {a : AR} {F L : List UInt8} (h : Laid a F L) {keep : List Bool} (hk : ∀ j, j < a.loose.length → keep.getD j false = true) {t : Nat} (ht : t < 256) : Laid (a.crash keep (t : Int)) L L := by
  have ok := h.ok.crash keep (t : Int)
  rw [h.crash_eq keep ht] at ok ⊢
  obtain ⟨h1, h2⟩ := crash_keeps h (t := t) hk a.loose.length (Nat.le_refl _)
  rw [List.take_length] at h2
  have hdv : ∀ e : Nat, e < 2 → (a.crashed keep t).dv (e : Int) = clean { a.dv (e : Int) with firm := (a.loose.filter fun w => w.dev == e).foldl setS (a.dv (e : Int)).firm } := by
    intro e he
    unfold AR.crashed
    rw [dv_clean (by omega), ← h2 e he]
    rfl
  have hfm : ∀ e s : Nat, e < 2 → s < 8 → ((a.crashed keep t).dv (e : Int)).firm.getD s [] = BB (L.getD (e * 8 + s) 0) := by
    intro e s he hs
    rw [hdv e he, ← h.tl e s he hs]
    show (List.foldl setS _ _).getD s [] = _
    rw [foldS_get e s _ _ (fun w hw => by simpa using (List.mem_filter.1 hw).2) (by rw [h.firmlen he]; exact hs), ← foldP_filter]
    rfl
  refine ⟨ok, ?_, ?_, h.ll, h.ll, fun e he => ?_, hfm, hfm⟩
  · show ((crashN a keep t a.loose.length).1.devs.map clean).length = 2
    rw [List.length_map, h1]
  · rw [secs_dv ok.d0]
    show ((a.crashed keep t).dv ((0 : Nat) : Int)).firm.length = 8
    rw [hdv 0 (by decide)]
    show (List.foldl setS _ _).length = 8
    rw [foldS_len, h.firmlen (by decide)]
  · rw [hdv e he]
    exact ⟨(h.live e he).1, rfl, rfl, rfl⟩
theorem crashed_loose (a : AR) (keep : List Bool) (t : Nat) : (a.crashed keep t).loose = [] := rfl
theorem crashed_out (a : AR) (keep : List Bool) (t : Nat) : (a.crashed keep t).out = false := rfl
theorem Laid.up {a : AR} {F L : List UInt8} (h : Laid a F L) (ho : a.out = false) {d : Nat} (hd : d < 2) : a.up (d : Int) = true := by
  unfold AR.up
  rw [ho, h.inD hd, (h.live d hd).1]
  rfl
theorem Laid.peek {a : AR} {F L : List UInt8} (h : Laid a F L) (ho : a.out = false) {d s : Nat} (hd : d < 2) (hs : s < 8) : (a.peekB d s && a.peekL d s == BB (L.getD (d * 8 + s) 0)) = true := by
  have hB : a.peekB d s = true := by
    unfold AR.peekB
    rw [h.up ho hd, h.inS hd hs]
    rfl
  unfold AR.peekL
  rw [hB, if_pos rfl, h.tl d s hd hs, beq_self_eq_true]
  rfl
theorem Laid.reads {a : AR} {F L : List UInt8} (h : Laid a F L) (ho : a.out = false) {d s : Nat} (hd : d < 2) (hs : s < 8) : a.readE d s = 0 ∧ a.read d s = a ∧ a.readB d s = BB (L.getD (d * 8 + s) 0) := by
  have hE : a.readE d s = 0 := by
    unfold AR.readE
    rw [if_neg h.ok.d0, ho, if_neg (by decide), h.inS hd hs, if_neg (by decide), (h.live d hd).1, if_neg (by decide), (h.live d hd).2.2.2, if_neg (by decide)]
  refine ⟨hE, ?_, ?_⟩
  · unfold AR.read
    rw [hE]
    rfl
  · unfold AR.readB
    rw [hE, if_pos rfl, h.tl d s hd hs]
/-- So many steps of a fuse are done. -/
structure Fz (a : AR) (n k : Nat) : Prop where
  fu : a.fuse = (n : Int) - (k : Int)
  st : a.steps = (k : Int)
  le : k ≤ n
  ou : a.out = true → k = n
theorem Fz.live {a : AR} {n k : Nat} (z : Fz a n k) (h : k < n) : a.fuse ≠ 0 ∧ a.out = false := by
  refine ⟨by rw [z.fu]; omega, ?_⟩
  cases ho : a.out
  · rfl
  · have := z.ou ho
    omega
theorem Fz.dead {a : AR} {n k : Nat} (z : Fz a n k) (h : ¬ k < n) : a.out = true ∨ a.fuse = 0 := .inr (by rw [z.fu]; have := z.le; omega)
theorem Fz.next {a b : AR} {n k : Nat} (z : Fz a n k) (h : k < n) (hf : b.fuse = fuseS a.fuse) (hs : b.steps = a.steps + 1) (ho : b.out = false) : Fz b n (k + 1) := by
  refine ⟨?_, ?_, h, fun h1 => by rw [ho] at h1; cases h1⟩
  · rw [hf, z.fu]
    unfold fuseS
    rw [if_pos (by omega)]
    omega
  · rw [hs, z.st]; rfl
theorem Fz.same {a b : AR} {n k : Nat} (z : Fz a n k) (h : ¬ k < n) (hf : b.fuse = a.fuse) (hs : b.steps = a.steps) : Fz b n k := ⟨by rw [hf, z.fu], by rw [hs, z.st], z.le, fun _ => by have := z.le; omega⟩
theorem bytesV_set {L : List UInt8} {i : Nat} (b : UInt8) (hi : i < L.length) : putAt (bytesV L) i [.int .u8 b.toNat] = bytesV (L.set i b) := by
  have h1 : (bytesV L).length = L.length := length_bytesV L
  rw [putAt_many]
  unfold bytesV at h1 ⊢
  rw [List.map_set, List.set_eq_take_append_cons_drop, if_pos (by rw [h1]; exact hi)]
  rfl
theorem bytesV_row {F L : List UInt8} {d : Nat} (hF : F.length = 16) (hL : L.length = 16) (hd : d < 2) : putAt (bytesV F) (d * 8) (bytesV ((L.drop (d * 8)).take 8)) = bytesV (rowput F L d) := by
  have h2 : (bytesV ((L.drop (d * 8)).take 8)).length = 8 := by rw [length_bytesV, List.length_take, List.length_drop]; omega
  rw [putAt_many, h2]
  unfold rowput bytesV
  simp only [List.map_append, List.map_take, List.map_drop]
theorem bytesV_getD {L : List UInt8} {i : Nat} (hi : i < L.length) : (bytesV L)[i]? = some (.int .u8 (L.getD i 0).toNat) := by
  unfold bytesV
  rw [List.getElem?_map, List.getElem?_eq_getElem hi, List.getD_eq_getElem?_getD, List.getElem?_eq_getElem hi]
  rfl
end Go.Proofs.Ytclleohpmgihaaa
