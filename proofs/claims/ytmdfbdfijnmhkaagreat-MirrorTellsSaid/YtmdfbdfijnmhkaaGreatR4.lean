import Derived.Test.YtmdfbdfijnmhkaaGreatR3
namespace Go.Proofs.YtmdfbdfijnmhkaaGreat
set_option linter.unusedVariables false
set_option linter.unusedSimpArgs false
open Go.RowKit Hp
attribute [local irreducible] Go.Calls Go.wpList
set_option maxRecDepth 100000
set_option maxHeartbeats 4000000
def b2i (b : Bool) (n : Int) : Int := if b then n else 0
def DV.nx (d : DV) : Int := b2i d.lo 1 + b2i d.st 2
def DV.cells (d : DV) : List Value := [.slice (some ⟨d.g, 0, none⟩) d.firm.length d.firm.length, .bool d.gone, .int .u8 d.nx, .int .i64 d.to, .int .i64 d.fail]
def LW.cells (w : LW) : List Value := .int .i64 w.dev :: .int .i64 w.pl :: bytesV w.b
def secsV (l : List (List UInt8)) : List Value := l.flatMap bytesV
structure GA where
  gd : Nat
  cd : Nat
  rest : List Value
  lv : Value
def arrC (x : GA) (a : AR) : List Value := [.slice (some ⟨x.gd, 0, none⟩) a.devs.length x.cd, x.lv, .int .i64 a.fuse, .bool a.out, .int .i64 a.steps]
def devC (a : AR) : List Value := a.devs.flatMap DV.cells
def looC (a : AR) : List Value := a.loose.flatMap LW.cells
def arP (ga : Nat) (x : GA) (a : AR) : List HA := .blk ga 109 (arrC x a) :: .blk x.gd 89 (devC a ++ x.rest) :: .row x.lv 149 258 a.loose.length (looC a) :: a.devs.map (fun d => .blk d.g 144 (secsV d.firm))
structure ArrAt (w : World) (ga : Nat) (x : GA) (a : AR) : Prop where
  hdr : w.rangeAt ga 0 (arrC x a)
  dev : w.rangeAt x.gd 0 (devC a)
  n0 : a.devs ≠ []
theorem ArrAt.of {w0 w : World} {M : List Nat} {L : List HA} {ga : Nat} {x : GA} {a : AR} (h : St w0 M w L) (hm : ∀ p ∈ arP ga x a, p ∈ L) (hn : a.devs ≠ []) : ArrAt w ga x a := by
  refine ⟨?_, ?_, hn⟩
  · have := h.range (off := 0) (hm (.blk ga 109 (arrC x a)) (by simp [arP]))
    rwa [List.drop_zero] at this
  · have := h.range (off := 0) (hm (.blk x.gd 89 (devC a ++ x.rest)) (by simp [arP]))
    rw [List.drop_zero] at this
    have h2 := rangeAt_take (n := (devC a).length) this
    rwa [List.take_left] at h2
section
variable {w : World} {ga : Nat} {x : GA} {a : AR} (h : ArrAt w ga x a)
include h
theorem ArrAt.c0 : w.cell? ⟨ga, 0, none⟩ = some (.slice (some ⟨x.gd, 0, none⟩) a.devs.length x.cd) := h.hdr 0 _ rfl
theorem ArrAt.c1 : w.cell? ⟨ga, 1, none⟩ = some x.lv := h.hdr 1 _ rfl
theorem ArrAt.c2 : w.cell? ⟨ga, 2, none⟩ = some (.int .i64 a.fuse) := h.hdr 2 _ rfl
theorem ArrAt.c3 : w.cell? ⟨ga, 3, none⟩ = some (.bool a.out) := h.hdr 3 _ rfl
theorem ArrAt.c4 : w.cell? ⟨ga, 4, none⟩ = some (.int .i64 a.steps) := h.hdr 4 _ rfl
end
theorem ArrAt.later {w0 w : World} {L : List HA} {ga : Nat} {x : GA} {a : AR} (hst : St w0 [] w L) (h : ArrAt w0 ga x a) : ArrAt w ga x a :=
  ⟨fun j v hj => hst.old_cell (h.hdr j v hj) (by simp), fun j v hj => hst.old_cell (h.dev j v hj) (by simp), h.n0⟩
theorem devs_get {a : AR} {dev : Int} (h : a.inD dev = true) : a.devs[dev.toNat]? = some (a.dv dev) := by
  unfold AR.inD at h
  simp only [Bool.and_eq_true, decide_eq_true_eq] at h
  unfold AR.dv
  rw [List.getD_eq_getElem?_getD, List.getElem?_eq_getElem (by omega)]
  rfl
theorem flat_get {α : Type} {f : α → List Value} {sz : Nat} {l : List α} {k : Nat} {d : α} (hf : ∀ d, (f d).length = sz) (h : l[k]? = some d) (i : Nat) (hi : i < sz) : (l.flatMap f)[k * sz + i]? = (f d)[i]? := by
  induction l generalizing k with
  | nil => simp at h
  | cons q l ih =>
    rw [List.flatMap_cons]
    cases k with
    | zero =>
      simp at h
      subst h
      rw [List.getElem?_append_left (by rw [hf]; omega)]
      congr 1; omega
    | succ k =>
      rw [List.getElem?_append_right (by rw [hf, Nat.add_mul]; omega), hf, show (k + 1) * sz + i - sz = k * sz + i by rw [Nat.add_mul]; omega]
      exact ih (by simpa using h)
theorem ArrAt.dcell {w : World} {ga : Nat} {x : GA} {a : AR} (h : ArrAt w ga x a) {k : Nat} {d : DV} (hd : a.devs[k]? = some d) {i : Nat} {v : Value} (hv : d.cells[i]? = some v) (hi : i < 5) : w.cell? ⟨x.gd, k * 5 + i, none⟩ = some v := by
  have := h.dev (k * 5 + i) v (by rw [devC, flat_get (sz := 5) (fun d => rfl) hd i hi]; exact hv)
  rwa [Nat.zero_add] at this
theorem unless_any (b : Bool) (e : Int) (w : World) : Calls Tryz.prog 85 #[.bool b, .int .i64 e] w fun x w' => x = .returned (.int .i64 (orE b e)) ∧ St w [] w' [] := by
  have hst := St.refl w
  cases b
  · go_enter Tryz.func85, Tryz.ntmps85
    go_wp2_with (first | go_big_skip | go_big_guard | fail)
    go_ret
    exact ⟨rfl, hst⟩
  · go_enter Tryz.func85, Tryz.ntmps85
    go_wp2_with (first | go_big_skip | go_big_guard | fail)
    go_ret
    exact ⟨rfl, hst⟩
theorem none_any {w : World} {ga : Nat} {x : GA} {a : AR} (h : ArrAt w ga x a) : Calls Tryz.prog 51 #[.pointer (some ⟨ga, 0, none⟩)] w fun e w' => e = .returned (.bool false) ∧ St w [] w' [] := by
  have hst := St.refl w
  have h0 := hid h.c0
  have dn : ((a.devs.length : Int) == 0) = false := by
    have := h.n0
    cases hd : a.devs with
    | nil => exact absurd hd this
    | cons d l => simp; omega
  clear h
  go_enter Tryz.func51, Tryz.ntmps51
  go_wp2_with (first | go_big_skip | go_big_guard | (refine wl_loadE rfl rfl rfl ?_; first | refine ⟨_, Loads.old hst h0.out, ?_⟩))
  go_ret
  exact ⟨rfl, hst⟩
theorem made_any {w : World} {ga : Nat} {x : GA} {a : AR} (h : ArrAt w ga x a) : Calls Tryz.prog 46 #[.pointer (some ⟨ga, 0, none⟩)] w fun e w' => e = .returned (.int .i64 0) ∧ St w [] w' [] := by
  have hst := St.refl w
  have H := hid h
  clear h
  go_enter Tryz.func46, Tryz.ntmps46
  go_wp2_with (first | go_big_skip | go_big_guard | (go_at_call 51; refine (none_any (ArrAt.later hst H.out)).mono ?_; rintro _ w9 ⟨rfl, h4⟩; replace hst := St.call0 hst h4; clear h4) | (go_at_call 85; refine (unless_any _ _ _).mono ?_; rintro _ w9 ⟨rfl, h4⟩; replace hst := St.call0 hst h4; clear h4))
  go_ret
  exact ⟨rfl, hst⟩
theorem runs_any {w : World} {ga : Nat} {x : GA} {a : AR} (h : ArrAt w ga x a) : Calls Tryz.prog 88 #[.pointer (some ⟨ga, 0, none⟩)] w fun e w' => e = .returned (.int .i64 (orE (!a.out) 10)) ∧ St w [] w' [] := by
  have hst := St.refl w
  have h3 := hid h.c3
  clear h
  go_enter Tryz.func88, Tryz.ntmps88
  go_wp2_with (first | go_big_skip | go_big_guard | (refine wl_loadE rfl rfl rfl ?_; first | refine ⟨_, Loads.old hst h3.out, ?_⟩) | (go_at_call 85; refine (unless_any _ _ _).mono ?_; rintro _ w9 ⟨rfl, h4⟩; replace hst := St.call0 hst h4; clear h4))
  go_ret
  exact ⟨rfl, hst⟩
theorem devs_any {w : World} {ga : Nat} {x : GA} {a : AR} (h : ArrAt w ga x a) : Calls Tryz.prog 67 #[.pointer (some ⟨ga, 0, none⟩)] w fun e w' => e = .returned (.int .i64 a.devs.length) ∧ St w [] w' [] := by
  have hst := St.refl w
  have H := hid h
  have h0 := hid h.c0
  clear h
  go_enter Tryz.func67, Tryz.ntmps67
  go_wp2_with (first | go_big_skip | go_big_guard | (go_at_call 51; refine (none_any (ArrAt.later hst H.out)).mono ?_; rintro _ w9 ⟨rfl, h4⟩; replace hst := St.call0 hst h4; clear h4) | (refine wl_loadE rfl rfl rfl ?_; first | refine ⟨_, Loads.old hst h0.out, ?_⟩))
  go_ret
  exact ⟨rfl, hst⟩
theorem device_any {w : World} {ga : Nat} {x : GA} {a : AR} (h : ArrAt w ga x a) (dev : Int) : Calls Tryz.prog 94 #[.pointer (some ⟨ga, 0, none⟩), .int .i64 dev] w fun e w' => e = .returned (.bool (a.inD dev)) ∧ St w [] w' [] := by
  have hst := St.refl w
  have h0 := hid h.c0
  clear h
  unfold AR.inD
  obtain ⟨nd, hnd⟩ : ∃ nd, nd = a.devs.length := ⟨_, rfl⟩
  rw [← hnd] at h0 ⊢
  clear hnd
  by_cases k1 : 0 ≤ dev
  · have d1 : decide (dev ≥ 0) = true := decide_eq_true k1
    have d2 : decide (0 ≤ dev) = true := d1
    obtain ⟨q, hq⟩ : ∃ q, q = decide (dev < (nd : Int)) := ⟨_, rfl⟩
    have d3 : decide (dev < (nd : Int)) = q := hq.symm
    rw [d2, d3, Bool.true_and]
    clear k1 hq
    go_enter Tryz.func94, Tryz.ntmps94
    go_wp2_with (first | go_big_skip | go_big_guard | (refine wl_loadE rfl rfl rfl ?_; first | refine ⟨_, Loads.old hst h0.out, ?_⟩))
    go_ret
    exact ⟨rfl, hst⟩
  · have d1 : decide (dev ≥ 0) = false := decide_eq_false k1
    have d2 : decide (0 ≤ dev) = false := d1
    rw [d2, Bool.false_and]
    clear k1
    go_enter Tryz.func94, Tryz.ntmps94
    go_wp2_with (first | go_big_skip | go_big_guard | (refine wl_loadE rfl rfl rfl ?_; first | refine ⟨_, Loads.old hst h0.out, ?_⟩))
    go_ret
    exact ⟨rfl, hst⟩
theorem sectors_any {w : World} {ga : Nat} {x : GA} {a : AR} (h : ArrAt w ga x a) : Calls Tryz.prog 48 #[.pointer (some ⟨ga, 0, none⟩)] w fun e w' => e = .returned (.int .i64 a.secs) ∧ St w [] w' [] := by
  have hst := St.refl w
  have H := hid h
  have h0 := hid h.c0
  obtain ⟨d, l, hd⟩ : ∃ d l, a.devs = d :: l := by
    cases hd : a.devs with
    | nil => exact absurd hd h.n0
    | cons d l => exact ⟨d, l, rfl⟩
  have h1 := hid (show w.cell? ⟨x.gd, 0, none⟩ = some (.slice (some ⟨d.g, 0, none⟩) a.secs a.secs) from by
    have hs : a.secs = d.firm.length := by unfold AR.secs; rw [hd]
    rw [hs]
    exact h.dcell (k := 0) (by rw [hd]; rfl) (i := 0) rfl (by decide))
  have hlt : 0 < a.devs.length := by rw [hd]; exact Nat.succ_pos _
  clear h hd
  go_enter Tryz.func48, Tryz.ntmps48
  go_wp2_with (first | go_big_skip | go_big_guard | (go_at_call 51; refine (none_any (ArrAt.later hst H.out)).mono ?_; rintro _ w9 ⟨rfl, h4⟩; replace hst := St.call0 hst h4; clear h4) | (refine wl_loadE rfl rfl rfl ?_; first | refine ⟨_, Loads.old hst h0.out, ?_⟩ | refine ⟨_, Loads.old hst h1.out, ?_⟩) | (refine wl_index (k := 0) rfl rfl rfl rfl hlt ?_))
  go_ret
  exact ⟨rfl, hst⟩
theorem sector_any {w : World} {ga : Nat} {x : GA} {a : AR} (h : ArrAt w ga x a) (dev pl : Int) : Calls Tryz.prog 49 #[.pointer (some ⟨ga, 0, none⟩), .int .i64 dev, .int .i64 pl] w fun e w' => e = .returned (.bool (a.inS dev pl)) ∧ St w [] w' [] := by
  have hst := St.refl w
  have H := hid h
  clear h
  unfold AR.inS
  obtain ⟨q1, hq1⟩ : ∃ q, q = a.inD dev := ⟨_, rfl⟩
  have H1 := hid hq1
  rw [← hq1]
  clear hq1
  obtain ⟨ns, hns⟩ : ∃ ns, ns = a.secs := ⟨_, rfl⟩
  have HS := hid hns
  rw [← hns]
  clear hns
  cases q1
  · rw [Bool.false_and, Bool.false_and]
    go_enter Tryz.func49, Tryz.ntmps49
    go_wp2_with (first | go_big_skip | go_big_guard | (go_at_call 94; have HD := device_any (ArrAt.later hst H.out) dev; rw [← H1.out] at HD; refine HD.mono ?_; rintro _ w9 ⟨rfl, h4⟩; replace hst := St.call0 hst h4; clear h4))
    go_ret
    exact ⟨rfl, hst⟩
  · by_cases k1 : 0 ≤ pl
    · have d1 : decide (pl ≥ 0) = true := decide_eq_true k1
      have d2 : decide (0 ≤ pl) = true := d1
      obtain ⟨q, hq⟩ : ∃ q, q = decide (pl < (ns : Int)) := ⟨_, rfl⟩
      have d3 : decide (pl < (ns : Int)) = q := hq.symm
      rw [d2, d3, Bool.true_and, Bool.true_and]
      clear k1 hq
      go_enter Tryz.func49, Tryz.ntmps49
      go_wp2_with (first | go_big_skip | go_big_guard | (go_at_call 94; have HD := device_any (ArrAt.later hst H.out) dev; rw [← H1.out] at HD; refine HD.mono ?_; rintro _ w9 ⟨rfl, h4⟩; replace hst := St.call0 hst h4; clear h4) | (go_at_call 48; have HD := sectors_any (ArrAt.later hst H.out); rw [← HS.out] at HD; refine HD.mono ?_; rintro _ w9 ⟨rfl, h4⟩; replace hst := St.call0 hst h4; clear h4))
      go_ret
      exact ⟨rfl, hst⟩
    · have d1 : decide (pl ≥ 0) = false := decide_eq_false k1
      have d2 : decide (0 ≤ pl) = false := d1
      rw [d2, Bool.and_false, Bool.false_and]
      clear k1
      go_enter Tryz.func49, Tryz.ntmps49
      go_wp2_with (first | go_big_skip | go_big_guard | (go_at_call 94; have HD := device_any (ArrAt.later hst H.out) dev; rw [← H1.out] at HD; refine HD.mono ?_; rintro _ w9 ⟨rfl, h4⟩; replace hst := St.call0 hst h4; clear h4))
      go_ret
      exact ⟨rfl, hst⟩
end Go.Proofs.YtmdfbdfijnmhkaaGreat
