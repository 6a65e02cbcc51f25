import Derived.Test.YtmdfbdfijnmhkaaGreatR30
namespace Go.Proofs.YtmdfbdfijnmhkaaGreat
set_option linter.unusedVariables false
set_option linter.unusedSimpArgs false
open Go.RowKit Hp
attribute [local irreducible] Go.Calls Go.wpList
set_option maxRecDepth 100000
set_option maxHeartbeats 4000000
theorem drop1_any {w : World} {g3 : Nat} {d : Int} (h0 : w.cell? ⟨g3, 0, none⟩ = some (.int .i64 d)) (v : LW) : Calls Tryz.prog 92 #[.agg (List.toArray v.cells), .pointer (some ⟨g3, 0, none⟩)] w fun e w' => e = .returned (.bool ((v.dev : Int) == d)) ∧ St w [] w' [] := by
  have hst0 := St.refl w
  have H0 := hid h0
  clear h0
  obtain ⟨q, hq⟩ : ∃ q, q = ((v.dev : Int) == d) := ⟨_, rfl⟩
  have d1 : ((v.dev : Int) == d) = q := hq.symm
  rw [d1]
  clear hq
  go_enter Tryz.func92, Tryz.ntmps92
  go_wp2_with (first | go_big_skip | go_big_guard | (refine wl_boxA hst0 rfl rfl rfl ?_; intro g4 w1 hst1; clear hst0) | (refine wl_loadE rfl rfl rfl ?_; first | refine ⟨_, Loads.at [] hst1 rfl, ?_⟩ | refine ⟨_, Loads.old hst1 H0.out, ?_⟩))
  go_ret
  exact ⟨rfl, hst1.nil⟩
def firstW (k : Nat) (l : List LW) : Int := match l.findIdx? (fun w => w.dev == k) with
  | some i => (i : Int)
  | none => -1
theorem firstW_none {k : Nat} {l : List LW} (h : ∀ w ∈ l, (w.dev == k) = false) : firstW k l = -1 := by
  unfold firstW
  rw [List.findIdx?_eq_none_iff.2 (fun x hx => by rw [h x hx])]
theorem firstW_at {k j : Nat} {l : List LW} {v : LW} (h : ∀ i w, i < j → l[i]? = some w → (w.dev == k) = false) (hj : l[j]? = some v) (hv : (v.dev == k) = true) : firstW k l = (j : Int) := by
  unfold firstW
  have e : l.findIdx? (fun w => w.dev == k) = some j := by
    rw [List.findIdx?_eq_some_iff_getElem]
    obtain ⟨hlt, hg⟩ := List.getElem?_eq_some_iff.1 hj
    refine ⟨hlt, by rw [hg]; exact hv, fun i hi => ?_⟩
    have := h i _ hi (List.getElem?_eq_getElem (by omega))
    simp [this]
  rw [e]
theorem indexW_any {w : World} {g3 k : Nat} (h0 : w.cell? ⟨g3, 0, none⟩ = some (.int .i64 (k : Int))) (l : List LW) (ao : Option Addr) (n c : Nat) (hr : Rd w (.slice ao n c) 258 n (looV l)) (hn : l.length = n) (hb : ∀ v ∈ l, v.b.length = 256) (hbd : n < 1000000) :
    Calls Tryz.prog 140 #[.slice ao n c, cloV 92 [ptrV g3]] w fun e w' => e = .returned (.int .i64 (firstW k l)) ∧ St w [] w' [] := by
  have hst0 := St.refl w
  have H0 := hid h0
  have HR := hid hr
  have HN := hid hn
  have HB := hid hb
  obtain ⟨R, hR⟩ : ∃ R, R = firstW k l := ⟨_, rfl⟩
  have HRR := hid hR
  rw [← hR]
  clear h0 hr hn hb hR
  unfold cloV ptrV
  go_enter Tryz.func140, Tryz.ntmps140
  go_wp2_with (first | go_big_skip | go_big_guard | fail)
  go_loopw [8] (fun i wr => ∃ j : Nat, j ≤ n ∧ i = .int .i64 (j : Int) ∧ St w [] wr [] ∧ Hid (∀ i v, i < j → l[i]? = some v → (v.dev == k) = false)) (fun i _ => n - (intOf i).toNat)
  case atStart => exact ⟨0, Nat.zero_le _, rfl, hst0, hid (fun i v hi => by omega)⟩
  case round =>
    clear hst0
    obtain ⟨j, hj, rfl, hst, HP⟩ := hrel
    by_cases hlj : j < n
    · have d1 : decide ((j : Int) < (n : Int)) = true := decide_eq_true (by omega)
      have z1 : IntKind.i64.wrap ((j : Int) + 1) = (j : Int) + 1 := IntWalk.i64_in _ (by omega)
      obtain ⟨v, hv⟩ : ∃ v, l[j]? = some v := ⟨_, List.getElem?_eq_getElem (by rw [HN.out]; exact hlj)⟩
      have HV := hid hv
      have hvb := HB.out v (List.mem_of_getElem? hv)
      obtain ⟨lb, lo, rfl, hlr⟩ := Rd.at HR.out hlj
      have HWR := hid (range_flat (sz := 258) (f := LW.cells) (fun d hd => LW.cells_len (HB.out d hd)) hv hlr)
      have HV258 := hid (LW.cells_len hvb)
      clear hv hvb hlr
      by_cases k1 : v.dev = k
      · have d2 : ((v.dev : Int) == (k : Int)) = true := by simp [k1]
        have KK := hid k1
        clear k1
        go_wp2_with (first | go_big_skip | go_big_guard | (refine wl_index (k := j) rfl rfl rfl rfl hlj ?_) | (refine wl_loadE rfl rfl rfl ?_; refine ⟨_, Loads.oldA (cs := v.cells) hst HV258.out HWR.out, ?_⟩) | (go_at_call 92; refine (drop1_any (St.old_cell hst H0.out (by simp)) v).mono ?_; rintro _ w8 ⟨rfl, h4⟩; replace hst := St.call0 hst h4; clear h4))
        go_ret
        refine ⟨congrArg (fun z => Ending.returned (Value.int .i64 z)) (?_ : (_ : Int) = R), hst⟩
        rw [HRR.out]
        exact (firstW_at HP.out HV.out (by simpa using KK.out)).symm
      · have d2 : ((v.dev : Int) == (k : Int)) = false := by simp; omega
        have KK := hid k1
        clear k1
        go_wp2_with (first | go_big_skip | go_big_guard | (refine wl_index (k := j) rfl rfl rfl rfl hlj ?_) | (refine wl_loadE rfl rfl rfl ?_; refine ⟨_, Loads.oldA (cs := v.cells) hst HV258.out HWR.out, ?_⟩) | (go_at_call 92; refine (drop1_any (St.old_cell hst H0.out (by simp)) v).mono ?_; rintro _ w8 ⟨rfl, h4⟩; replace hst := St.call0 hst h4; clear h4))
        go_roundw
        case rel =>
          refine ⟨j + 1, by omega, rfl, hst, hid (fun i u hi hu => ?_)⟩
          by_cases hij : i < j
          · exact HP.out i u hij hu
          · have e : i = j := by omega
            subst e
            rw [HV.out] at hu
            cases hu
            simpa using KK.out
        case measure => simp [intOf]; omega
    · have d1 : decide ((j : Int) < (n : Int)) = false := decide_eq_false (by omega)
      go_wp2_with (first | go_big_skip | go_big_guard | fail)
      go_ret
      refine ⟨congrArg (fun z => Ending.returned (Value.int .i64 z)) (?_ : (_ : Int) = R), hst⟩
      rw [HRR.out]
      refine (firstW_none fun v hv => ?_).symm
      obtain ⟨i, hi⟩ := List.getElem?_of_mem hv
      have := (List.getElem?_eq_some_iff.1 hi).1
      exact HP.out i v (by have := HN.out; omega) hi
end Go.Proofs.YtmdfbdfijnmhkaaGreat
