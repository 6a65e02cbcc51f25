import Derived.Test.YtmdfbdfijnmhkaaGreatJMirrorTellsd
import Derived.Test.YtmdfbdfijnmhkaaGreatJMirrorTellsc
import Derived.RangeFuncFrom
import Derived.Sort.CutIn
import Derived.Test.YtmdfbdfijnmhkaaGreatJMirrorTellsa
namespace Go.Proofs.YtmdfbdfijnmhkaaGreat
set_option linter.unusedVariables false
set_option linter.unusedSimpArgs false
open Go.RowKit Hp
attribute [local irreducible] Go.Calls Go.wpList
set_option maxRecDepth 100000
set_option maxHeartbeats 4000000
theorem apart16_any (ao : Option Addr) (n c : Nat) (l : List (Int × Int)) (w : World) (hA : Rd w (.slice ao n c) 2 n (addrsV l)) (hn : l.length = n) :
    Calls Tryz.prog 64 #[.slice ao n c] w fun e w' => e = .returned (.bool (apartB l)) ∧ St w [] w' [] := by
  have hst := St.refl w
  have hbd := hA.bd
  have hbd1 := hbd.1
  have hbd2 := hbd.2.1
  clear hbd
  have Hn := hid hn
  clear hn
  go_enter Tryz.func64, Tryz.ntmps64
  go_wp2_with (first | go_big_skip | go_big_guard | fail)
  go_loopw [9] (fun i wr => ∃ k : Nat, k ≤ n ∧ i = .int .i64 k ∧ Hid (∀ i j, i < k → j < i → (l.getD i (0, 0)).1 ≠ (l.getD j (0, 0)).1) ∧ St w [] wr []) (fun i _ => n - (intOf i).toNat)
  case atStart => exact ⟨0, Nat.zero_le _, rfl, hid (fun i j hi => by omega), hst⟩
  case round =>
    clear hst
    obtain ⟨k, hk, rfl, hq, hst2⟩ := hrel
    by_cases hlt : k < n
    · obtain ⟨b, off, rfl, hr⟩ := hA.at hlt
      obtain ⟨z, hz⟩ : ∃ z, z = l.getD k (0, 0) := ⟨_, rfl⟩
      have hb := addr_both hr (k := k) (by rw [Hn.out]; exact hlt)
      rw [← hz] at hb
      have Hz := hid hz
      have HB := hid hb
      have HR := hid hr
      have HQ := hid hq
      clear hz hb hq
      have d0 : decide ((k : Int) < (n : Int)) = true := decide_eq_true (by omega)
      have d9 : (0 : Int) ≤ (k : Int) := by omega
      have d8 : (k : Int) ≤ (c : Int) := by omega
      go_wp2_with (first | go_big_skip | go_big_guard | (refine wl_index rfl rfl rfl rfl (hlt) ?_) | (refine wl_loadE rfl rfl rfl ?_; first | refine ⟨_, Loads.oldA hst2 rfl (HB.out), ?_⟩) | (refine wl_alloc hst2 rfl rfl ?_; intro g4 w3 hst3; clear hst2) | (refine wl_store [] hst3 rfl rfl rfl (v := .agg (List.toArray _)) rfl rfl rfl ?_ ?_; (exact Nat.le_refl _); intro w4 hst4; clear hst3; (simp [putAt] at hst4)))
      go_loopw [18] (fun j wr => ∃ q : Nat, q ≤ k ∧ j = .int .i64 q ∧ Hid (∀ r, r < q → z.1 ≠ (l.getD r (0, 0)).1) ∧ St w [] wr [.blk g4 83 [.int .i64 z.1, .int .i64 z.2]]) (fun j _ => k - (intOf j).toNat)
      case atStart => exact ⟨0, Nat.zero_le _, rfl, hid (fun r hr => by omega), hst4⟩
      case round =>
        clear hst4
        obtain ⟨q, hqk, rfl, hne, hst5⟩ := hrel
        by_cases hlq : q < k
        · obtain ⟨y, hy⟩ : ∃ y, y = l.getD q (0, 0) := ⟨_, rfl⟩
          have hc := addr_both HR.out (k := q) (by rw [Hn.out]; omega)
          rw [← hy] at hc
          have Hy := hid hy
          have HC := hid hc
          have HNE := hid hne
          clear hy hc hne
          have d1 : decide ((q : Int) < (k : Int)) = true := decide_eq_true (by omega)
          by_cases he : z.1 = y.1
          · have d2 : (z.1 == y.1) = true := by simpa using he
            go_wp2_with (first | go_big_skip | go_big_guard | (refine wl_index rfl rfl rfl rfl (hlq) ?_) | (refine wl_loadE rfl rfl rfl ?_; first | refine ⟨_, Loads.oldA hst5 rfl (HC.out), ?_⟩) | (refine wl_alloc hst5 rfl rfl ?_; intro g6 w5 hst6; clear hst5) | (refine wl_store [] hst6 rfl rfl rfl (v := .agg (List.toArray _)) rfl rfl rfl ?_ ?_; (exact Nat.le_refl _); intro w6 hst7; clear hst6; (simp [putAt] at hst7)) | (refine wl_loadE rfl rfl rfl ?_; first | refine ⟨_, Loads.at (P := Tryz.prog) [] hst7 rfl, ?_⟩ | refine ⟨_, Loads.at (P := Tryz.prog) [_] hst7 rfl, ?_⟩))
            go_ret
            exact ⟨ret_bool (apart_no (i := k) (j := q) (by rw [Hn.out]; exact hlt) hlq (by rw [← Hz.out, ← Hy.out]; exact he)).symm, hst7.nil⟩
          · have d2 : (z.1 == y.1) = false := by simpa using he
            have HE := hid he
            clear he
            go_wp2_with (first | go_big_skip | go_big_guard | (refine wl_index rfl rfl rfl rfl (hlq) ?_) | (refine wl_loadE rfl rfl rfl ?_; first | refine ⟨_, Loads.oldA hst5 rfl (HC.out), ?_⟩) | (refine wl_alloc hst5 rfl rfl ?_; intro g6 w5 hst6; clear hst5) | (refine wl_store [] hst6 rfl rfl rfl (v := .agg (List.toArray _)) rfl rfl rfl ?_ ?_; (exact Nat.le_refl _); intro w6 hst7; clear hst6; (simp [putAt] at hst7)) | (refine wl_loadE rfl rfl rfl ?_; first | refine ⟨_, Loads.at (P := Tryz.prog) [] hst7 rfl, ?_⟩ | refine ⟨_, Loads.at (P := Tryz.prog) [_] hst7 rfl, ?_⟩))
            have hne2 : Hid (∀ r, r < q + 1 → z.1 ≠ (l.getD r (0, 0)).1) := hid (fun r hr => by
              by_cases e : r = q
              · rw [e, ← Hy.out]; exact HE.out
              · exact HNE.out r (by omega))
            go_roundw
            case rel => exact ⟨q + 1, by omega, by go_num, hne2, St.sub hst7 (.cons _ (List.Sublist.refl _))⟩
            case measure => simp [intOf]; omega
        · have d1 : decide ((q : Int) < (k : Int)) = false := decide_eq_false (by omega)
          obtain rfl : q = k := by omega
          have hq2 : Hid (∀ i j, i < q + 1 → j < i → (l.getD i (0, 0)).1 ≠ (l.getD j (0, 0)).1) := hid (fun i j hi hj => by
            by_cases e : i = q
            · rw [e, ← Hz.out]; exact hne.out j (by omega)
            · exact HQ.out i j (by omega) hj)
          clear hne
          go_wp2_with (first | go_big_skip | go_big_guard | fail)
          go_roundw
          case rel => exact ⟨q + 1, by omega, by go_num, hq2, hst5.nil⟩
          case measure => simp [intOf]; omega
    · have d0 : decide ((k : Int) < (n : Int)) = false := decide_eq_false (by omega)
      have HY := hid (apart_yes (l := l) fun i j hi hj => hq.out i j (by rw [Hn.out] at hi; omega) hj)
      clear hq
      go_wp2_with (first | go_big_skip | go_big_guard | fail)
      go_ret
      exact ⟨ret_bool HY.out.symm, hst2⟩
theorem mirC_range {w0 w : World} {M : List Nat} {R : List HA} {gm ga : Nat} {x : GA} {m : MV} {N : Nat} (hS : St w0 M w (mP gm ga x m ++ R)) (hg : MGood m N) {k : Nat} (hk : k < m.a.devs.length) : w.rangeAt gm (1 + k * 3) (m.er (k : Int)).cells := by
  intro j v hj
  have hj3 : j < 3 := (List.getElem?_eq_some_iff.1 hj).1
  exact hS.cell (T := 97) (cs := mirC ga m) (.head _) (mirC_get (er_get hg hk) hj hj3)
theorem errs_lo {w0 w : World} {M : List Nat} {R : List HA} {gm ga : Nat} {x : GA} {m : MV} {N : Nat} (hS : St w0 M w (mP gm ga x m ++ R)) (hg : MGood m N) (dev : Int) (h : dev < 0) :
    Calls Tryz.prog 31 #[PM gm, .int .i64 dev] w fun e w' => e = .returned (.agg (List.toArray (m.errs dev).cells)) ∧ St w [] w' [] := by
  have hin : m.a.inD dev = false := by unfold AR.inD; rw [decide_eq_false (by omega), Bool.false_and]
  have hs : m.errs dev = ⟨0, 0, 0⟩ := by unfold MV.errs; rw [hin]; rfl
  rw [hs]
  have hst := St.refl w
  have H := hid (St.mat hS hg.sc.ok.d0)
  obtain ⟨nd, hnd⟩ : ∃ nd, nd = m.a.devs.length := ⟨_, rfl⟩
  have Hnd := hid hnd
  have d1 : decide (dev < 0) = true := decide_eq_true h
  clear hS hg hin hs hnd
  unfold PM
  go_enter Tryz.func31, Tryz.ntmps31
  go_wp2_with (first | go_big_skip | go_big_guard | (refine wl_alloc (T := 71) hst rfl rfl ?_; intro g4 w1 hst1; clear hst) | (go_at_call 62; refine (mirNone_any (MirAt.later hst1 H.out)).mono ?_; rintro _ w2 ⟨rfl, h4⟩; have hst2 := St.call0 hst1 h4; clear h4 hst1) | (refine wl_build0 rfl rfl ?_) | (refine wl_storeA [] hst2 rfl rfl rfl rfl rfl rfl rfl ?_; intro _ hst6; clear hst2))
  have hl := Loads.atA (P := Tryz.prog) (off := 0) (T := 71) ([.int .i64 0, .int .i64 0, .int .i64 0]) [] hst6 rfl rfl
  refine bodyPost_ret (results_cellL rfl rfl hl) rfl ⟨rfl, hst6.nil⟩
theorem errs_hi {w0 w : World} {M : List Nat} {R : List HA} {gm ga : Nat} {x : GA} {m : MV} {N : Nat} (hS : St w0 M w (mP gm ga x m ++ R)) (hg : MGood m N) (dev : Int) (h0 : ¬ dev < 0) (h : (m.a.devs.length : Int) ≤ dev) :
    Calls Tryz.prog 31 #[PM gm, .int .i64 dev] w fun e w' => e = .returned (.agg (List.toArray (m.errs dev).cells)) ∧ St w [] w' [] := by
  have hin : m.a.inD dev = false := by unfold AR.inD; rw [decide_eq_false (p := dev < _) (by omega), Bool.and_false]
  have hs : m.errs dev = ⟨0, 0, 0⟩ := by unfold MV.errs; rw [hin]; rfl
  rw [hs]
  have hst := St.refl w
  have H := hid (St.mat hS hg.sc.ok.d0)
  obtain ⟨nd, hnd⟩ : ∃ nd, nd = m.a.devs.length := ⟨_, rfl⟩
  have Hnd := hid hnd
  rw [← hnd] at h
  have d1 : decide (dev < 0) = false := decide_eq_false (by omega)
  have d2 : decide (dev ≥ (nd : Int)) = true := decide_eq_true (by omega)
  clear hS hg hin hs hnd
  unfold PM
  go_enter Tryz.func31, Tryz.ntmps31
  go_wp2_with (first | go_big_skip | go_big_guard | (refine wl_alloc (T := 71) hst rfl rfl ?_; intro g4 w1 hst1; clear hst) | (go_at_call 62; refine (mirNone_any (MirAt.later hst1 H.out)).mono ?_; rintro _ w2 ⟨rfl, h4⟩; have hst2 := St.call0 hst1 h4; clear h4 hst1) | (refine wl_loadE rfl rfl rfl ?_; refine ⟨_, Loads.old (P := Tryz.prog) hst2 H.out.c, ?_⟩) | (go_at_call 67; have HD9 := devs_any (ArrAt.later hst2 H.out.arr.toArrAt); rw [← Hnd.out] at HD9; refine HD9.mono ?_; clear HD9; rintro _ w3 ⟨rfl, h4⟩; have hst3 := St.call0 hst2 h4; clear h4 hst2) | (refine wl_build0 rfl rfl ?_) | (refine wl_storeA [] hst3 rfl rfl rfl rfl rfl rfl rfl ?_; intro _ hst6; clear hst3))
  have hl := Loads.atA (P := Tryz.prog) (off := 0) (T := 71) ([.int .i64 0, .int .i64 0, .int .i64 0]) [] hst6 rfl rfl
  refine bodyPost_ret (results_cellL rfl rfl hl) rfl ⟨rfl, hst6.nil⟩
theorem errs_ok {w0 w : World} {M : List Nat} {R : List HA} {gm ga : Nat} {x : GA} {m : MV} {N : Nat} (hS : St w0 M w (mP gm ga x m ++ R)) (hg : MGood m N) (dev : Int) (h0 : ¬ dev < 0) (h : ¬ (m.a.devs.length : Int) ≤ dev) :
    Calls Tryz.prog 31 #[PM gm, .int .i64 dev] w fun e w' => e = .returned (.agg (List.toArray (m.errs dev).cells)) ∧ St w [] w' [] := by
  have hin : m.a.inD dev = true := by unfold AR.inD; simp; omega
  have hs : m.errs dev = m.er dev := by unfold MV.errs; rw [hin]; rfl
  rw [hs]
  have hst := St.refl w
  have H := hid (St.mat hS hg.sc.ok.d0)
  obtain ⟨nd, hnd⟩ : ∃ nd, nd = m.a.devs.length := ⟨_, rfl⟩
  have Hnd := hid hnd
  obtain ⟨kd, rfl⟩ : ∃ kd : Nat, dev = kd := ⟨dev.toNat, by omega⟩
  have h8 : kd < 8 := by have := hg.sc.ok.dn; omega
  have HRG := hid (mirC_range hS hg (k := kd) (by omega))
  obtain ⟨y, hy⟩ : ∃ y, y = m.er (kd : Int) := ⟨_, rfl⟩
  rw [← hy] at HRG ⊢
  rw [← hnd] at h
  have d1 : decide ((kd : Int) < 0) = false := decide_eq_false (by omega)
  have d2 : decide ((kd : Int) ≥ (nd : Int)) = false := decide_eq_false (by omega)
  clear hS hg hin hs hnd hy
  unfold PM
  go_enter Tryz.func31, Tryz.ntmps31
  go_wp2_with (first | go_big_skip | go_big_guard | (refine wl_alloc (T := 71) hst rfl rfl ?_; intro g4 w1 hst1; clear hst) | (go_at_call 62; refine (mirNone_any (MirAt.later hst1 H.out)).mono ?_; rintro _ w2 ⟨rfl, h4⟩; have hst2 := St.call0 hst1 h4; clear h4 hst1) | (refine wl_loadE rfl rfl rfl ?_; refine ⟨_, Loads.old (P := Tryz.prog) hst2 H.out.c, ?_⟩) | (go_at_call 67; have HD9 := devs_any (ArrAt.later hst2 H.out.arr.toArrAt); rw [← Hnd.out] at HD9; refine HD9.mono ?_; clear HD9; rintro _ w3 ⟨rfl, h4⟩; have hst3 := St.call0 hst2 h4; clear h4 hst2) | (refine wl_loadE rfl rfl rfl ?_; refine ⟨_, Loads.oldA (P := Tryz.prog) (T := 71) (n := 3) hst3 rfl HRG.out, ?_⟩) | (refine wl_storeA [] hst3 rfl rfl rfl rfl rfl rfl rfl ?_; intro _ hst6; clear hst3))
  have hl := Loads.atA (P := Tryz.prog) (off := 0) (T := 71) (y.cells) [] hst6 rfl rfl
  refine bodyPost_ret (results_cellL rfl rfl hl) rfl ⟨rfl, hst6.nil⟩
theorem errs_any {w0 w : World} {M : List Nat} {R : List HA} {gm ga : Nat} {x : GA} {m : MV} {N : Nat} (hS : St w0 M w (mP gm ga x m ++ R)) (hg : MGood m N) (dev : Int) :
    Calls Tryz.prog 31 #[PM gm, .int .i64 dev] w fun e w' => e = .returned (.agg (List.toArray (m.errs dev).cells)) ∧ St w [] w' [] := by
  by_cases h0 : dev < 0
  · exact errs_lo hS hg dev h0
  · by_cases h : (m.a.devs.length : Int) ≤ dev
    · exact errs_hi hS hg dev h0 h
    · exact errs_ok hS hg dev h0 h
end Go.Proofs.YtmdfbdfijnmhkaaGreat
namespace Go.Proofs.YtmdfbdfijnmhkaaGreat
set_option linter.unusedVariables false
set_option linter.unusedSimpArgs false
open Go.RowKit Go.Shelf
namespace Hp
variable {P : Program} {F : Fence} {n : Nat}
def mPost {σ : Type} (I : σ → World → Prop) (N : σ → Prop) (Ix : Code → World → Prop) (W : World) : Exit → Act → World → Prop
  | .normal, _, W' => KeepsOthers W W' ∧ ∃ s, N s ∧ I s W'
  | .ret, _, W' => KeepsOthers W W' ∧ Ix .ret W'
  | .exit id, _, W' => KeepsOthers W W' ∧ Ix (.exit id) W'
  | .goto t, _, W' => KeepsOthers W W' ∧ Ix (.goto t) W'
  | .panic _, _, _ => False
  | .outgrown, _, _ => False
def SeqM {σ ξ : Type} (F : Fence) (n : Nat) (P : Program) (g : Nat) (lb : Array Value) (encs : ξ → Array Value) (I : σ → World → Prop) (Y : ξ → World → Prop) (nx : ξ → σ → Prop) (s0 : σ) (E : σ → Prop) : Prop :=
  ∀ (l : Nat) (R Jx : World → Prop), (∀ W W', R W → KeepsOthers W W' → R W') →
    (∀ x W, Y x W → R W → YieldAt F (n - 1) P l (encs x) W fun e W' => (e = .returned (.bool true) ∧ (∃ s, nx x s ∧ I s W') ∧ R W') ∨ (e = .returned (.bool false) ∧ Jx W')) →
    ∀ W, I s0 W → R W → CallsIn F n P g (#[.func (.yield l) #[] #[]] ++ lb) W fun e W' => (∃ v, e = .returned v) ∧ ((∃ s, E s ∧ I s W' ∧ R W') ∨ Jx W')
theorem wpIn_rangeM {σ ξ : Type} {g : Operand} {ps : Array Tmp} {assign body : Code} {Q : Exit → Act → World → Prop} {a : Act} {w : World}
    (hro : F.round = none) (h1 : 1 ≤ n) {gf : Nat} {lb : Array Value} (hg : a.eval g = .func (.func gf) #[] lb) (hFg : F.fn gf) (eg : ∀ args w, (callFunc gf args).run P w = .ok (.enter gf args) w)
    {encs : ξ → Array Value} (hps : ∀ x, (encs x).size = ps.size) (I : σ → World → Prop) (Y : ξ → World → Prop) (B : ξ → Act → World → Prop) (Ix : Code → World → Prop) (nx : ξ → σ → Prop) (s0 : σ) (E : σ → Prop)
    (hseq : SeqM F (n - 1) P gf lb encs I Y nx s0 E)
    (hI : OwnFrom w.heap.size I) (hB : ∀ x a', OwnFrom w.heap.size (fun (_ : Unit) W => B x a' W)) (hIx : OwnFrom w.heap.size Ix) (h0 : I s0 w)
    (hassign : ∀ (l : Nat) (x : ξ) (W : World) (K : Act → World → Prop), Y x W → (∀ a' W', KeepsOthers W W' → B x a' W' → K a' W') →
      assign.wpIn (F.inRound l) (n - 1 - 1) P (Exit.then K (fun _ _ _ => False)) { tmps := (ps.zip (encs x)).foldl (fun t (p, v) => t.setIfInBounds p v) a.tmps, defers := [] } W)
    (hbody : ∀ (l : Nat) (x : ξ) (a' : Act) (W : World), B x a' W → body.wpIn (F.inRound l) (n - 1 - 1) P (mPost I (nx x) Ix W) a' W)
    (hdone : ∀ (D : Nat) (s : σ) (W : World), w.heap.size ≤ D → E s → I s W → W.heap[D]? = some (.deferred (some [])) → Q .normal { a with defers := { target := .collected D, args := #[] } :: a.defers } W)
    (hstop : ∀ (D : Nat) (c : Code) (W : World), w.heap.size ≤ D → Ix c W → W.heap[D]? = some (.deferred (some [])) → c.wpIn F n P Q { a with defers := { target := .collected D, args := #[] } :: a.defers } W) :
    (Code.rangeFunc g ps assign body).wpIn F n P Q a w := by
  refine wpIn_rangeFunc ?_
  intro fn hfn
  rw [hro]
  obtain ⟨rec, hrec⟩ : ∃ rec : LoopState → Option Code → Loop, rec = fun st pe => { state := st, pending := pe, fn, tmps := a.tmps, params := ps, assign, body, defers := w.heap.size } := ⟨_, rfl⟩
  obtain ⟨W1, hW1⟩ : ∃ W1, (w.alloc (.deferred (some []))).alloc (.loop (rec .ready none)) = W1 := ⟨_, rfl⟩
  have hL1 : W1.heap[w.heap.size + 1]? = some (.loop (rec .ready none)) := by
    rw [← hW1]; have := World.alloc_heap_new (w.alloc (.deferred (some []))) (.loop (rec .ready none)); rwa [World.size_alloc] at this
  have hK1 : W1.heap[w.heap.size]? = some (.deferred (some [])) := by
    rw [← hW1]; exact (Below.heap_alloc _ _ _ (by simp)).trans (World.alloc_heap_new w _)
  have hI1 : I s0 W1 := by rw [← hW1]; exact hI.alloc _ (hI.alloc _ h0)
  refine ⟨w.heap.size + 1, [{ target := .collected w.heap.size, args := #[] }], W1, { target := .fn (.func gf) lb, args := #[.func (.yield (w.heap.size + 1)) #[] #[]] }, W1, gf,
    #[.func (.yield (w.heap.size + 1)) #[] #[]] ++ lb, W1, ?_, ?_, ?_, ?_, fun _ => h1, ?_⟩
  · rw [← hW1, hrec]; exact run_enterLoop_outer _ _ _ _ _
  · simp only [resolve, hg]
    simp [go_sem]
  · intro f' hf'; simp [Target.leads] at hf'; subst hf'; exact hFg
  · simp [invoke, go_sem, eg]
  · refine (hseq (w.heap.size + 1)
      (fun W => W.heap[w.heap.size + 1]? = some (.loop (rec .ready none)) ∧ W.heap[w.heap.size]? = some (.deferred (some [])))
      (fun W => ∃ c, Ix c W ∧ W.heap[w.heap.size + 1]? = some (.loop (rec .done (some c))) ∧ W.heap[w.heap.size]? = some (.deferred (some [])))
      (fun A B hs hk => ⟨hk.same _ _ hs.1 rfl, hk.same _ _ hs.2 rfl⟩) ?_ W1 hI1 ⟨hL1, hK1⟩).mono ?_
    · rintro x W hyx ⟨hl, hk⟩
      have hy := run_yield (P := P) (args := encs x) hl (by rw [hrec]; exact hps x)
      rw [hrec] at hy
      refine ⟨fn, _, assign, body, hy, roundIn_of_wpIn hfn (hassign _ x W _ hyx ?_)⟩
      clear hy
      intro a' Wa hkfa hax
      replace hl := hkfa.same _ _ hl rfl
      replace hk := hkfa.same _ _ hk rfl
      clear hkfa hyx
      obtain ⟨V, rfl⟩ : ∃ V, V = Wa := ⟨_, rfl⟩
      have hlt : w.heap.size + 1 < V.heap.size := (Array.getElem?_eq_some_iff.1 hl).1
      refine ⟨_, run_beginRound hl (by rw [hrec]), ?_⟩
      have hl2 : (V.putObj (w.heap.size + 1) (.loop { rec .ready none with state := .busy })).heap[w.heap.size + 1]? = some (.loop { rec .ready none with state := .busy }) := World.putObj_heap_same hlt
      have hk2 : (V.putObj (w.heap.size + 1) (.loop { rec .ready none with state := .busy })).heap[w.heap.size]? = some (.deferred (some [])) := (World.putObj_heap_other (by omega)).trans hk
      refine wpIn_mono (hbody _ x a' _ ((hB x a').putObj (s := ()) _ hax (by omega) hl rfl)) ?_
      have fin : ∀ (jump : Option Code) (W3 : World), KeepsOthers (V.putObj (w.heap.size + 1) (.loop { rec .ready none with state := .busy })) W3 →
          (Instr.endRound (w.heap.size + 1) jump).run P W3 = .ok (.bool jump.isNone) (W3.putObj (w.heap.size + 1) (.loop (rec (if jump.isNone then .ready else .done) jump))) ∧
          W3.heap[w.heap.size + 1]? = some (.loop { rec .ready none with state := .busy }) ∧
          (W3.putObj (w.heap.size + 1) (.loop (rec (if jump.isNone then .ready else .done) jump))).heap[w.heap.size + 1]? = some (.loop (rec (if jump.isNone then .ready else .done) jump)) ∧
          (W3.putObj (w.heap.size + 1) (.loop (rec (if jump.isNone then .ready else .done) jump))).heap[w.heap.size]? = some (.deferred (some [])) := fun jump W3 hk3 => by
        have hl3 := hk3.same _ _ hl2 rfl
        have := run_endRound (P := P) jump hl3
        rw [hrec] at this ⊢
        exact ⟨this, by rw [hrec] at hl3; exact hl3, World.putObj_heap_same (Array.getElem?_eq_some_iff.1 hl3).1, (World.putObj_heap_other (by omega)).trans (hk3.same _ _ hk2 rfl)⟩
      rintro e a3 W3 hp
      cases e with
      | normal =>
        obtain ⟨hk3, s, hns, hi3⟩ := hp
        obtain ⟨hr, hl3, hl4, hk4⟩ := fin none W3 hk3
        exact ⟨_, _, hr, .inl ⟨rfl, ⟨s, hns, hI.putObj _ hi3 (by omega) hl3 rfl⟩, hl4, hk4⟩⟩
      | ret =>
        obtain ⟨hk3, hi3⟩ := hp
        obtain ⟨hr, hl3, hl4, hk4⟩ := fin (some .ret) W3 hk3
        exact ⟨_, _, hr, .inr ⟨rfl, .ret, hIx.putObj _ hi3 (by omega) hl3 rfl, hl4, hk4⟩⟩
      | exit id =>
        obtain ⟨hk3, hi3⟩ := hp
        obtain ⟨hr, hl3, hl4, hk4⟩ := fin (some (.exit id)) W3 hk3
        exact ⟨_, _, hr, .inr ⟨rfl, .exit id, hIx.putObj _ hi3 (by omega) hl3 rfl, hl4, hk4⟩⟩
      | goto t =>
        obtain ⟨hk3, hi3⟩ := hp
        obtain ⟨hr, hl3, hl4, hk4⟩ := fin (some (.goto t)) W3 hk3
        exact ⟨_, _, hr, .inr ⟨rfl, .goto t, hIx.putObj _ hi3 (by omega) hl3 rfl, hl4, hk4⟩⟩
      | panic ch => exact hp.elim
      | outgrown => exact hp.elim
    · rintro e W2 ⟨⟨v, rfl⟩, (⟨s, hE, hi, hl, hk⟩ | ⟨c, hi, hl, hk⟩)⟩
      · exact ⟨none, _, by have := run_endLoop (P := P) hl (by rw [hrec]; simp); rw [hrec] at this; exact this, hdone _ s _ (Nat.le_refl _) hE (hI.putObj _ hi (by omega) hl rfl) ((World.putObj_heap_other (by omega)).trans hk)⟩
      · exact ⟨some c, _, by have := run_endLoop (P := P) hl (by rw [hrec]; simp); rw [hrec] at this; exact this, hstop _ c _ (Nat.le_refl _) (hIx.putObj _ hi (by omega) hl rfl) ((World.putObj_heap_other (by omega)).trans hk)⟩
theorem wp_rangeM {σ ξ : Type} (p q : Nat) {g : Operand} {assign body : Code} {Q : Exit → Act → World → Prop} {a : Act} {w : World}
    {gf : Nat} {lb : Array Value} (hg : a.eval g = .func (.func gf) #[] lb) (eg : Enters P gf)
    {enc : ξ → Value × Value} (I : σ → World → Prop) (Y : ξ → World → Prop) (B : Act → ξ → Act → World → Prop) (Ix : Code → World → Prop) (nx : ξ → σ → Prop) (s0 : σ) (E : σ → Prop)
    (hseq : SeqM Fence.wide 4 P gf lb (fun x => #[(enc x).1, (enc x).2]) I Y nx s0 E)
    (hI : OwnFrom w.heap.size I) (hB : ∀ x a', OwnFrom w.heap.size (fun (_ : Unit) W => B a x a' W)) (hIx : OwnFrom w.heap.size Ix) (h0 : I s0 w)
    (hassign : ∀ (l : Nat) (x : ξ) (W : World) (K : Act → World → Prop), Y x W → (∀ a' W', KeepsOthers W W' → B a x a' W' → K a' W') →
      assign.wpIn (Fence.wide.inRound l) 3 P (Exit.then K (fun _ _ _ => False)) { tmps := (a.tmps.setIfInBounds p (enc x).1).setIfInBounds q (enc x).2, defers := [] } W)
    (hbody : ∀ (l : Nat) (x : ξ) (a' : Act) (W : World), B a x a' W → body.wpIn (Fence.wide.inRound l) 3 P (mPost I (nx x) Ix W) a' W)
    (hdone : ∀ (D : Nat) (s : σ) (W : World), w.heap.size ≤ D → E s → I s W → W.heap[D]? = some (.deferred (some [])) → Q .normal { a with defers := { target := .collected D, args := #[] } :: a.defers } W)
    (hstop : ∀ (D : Nat) (c : Code) (W : World), w.heap.size ≤ D → Ix c W → W.heap[D]? = some (.deferred (some [])) → c.wp P Q { a with defers := { target := .collected D, args := #[] } :: a.defers } W) :
    (Code.rangeFunc g #[p, q] assign body).wp P Q a w := by
  refine (wpIn_wide (n := 5)).1 ?_
  exact wpIn_rangeM (F := Fence.wide) (n := 5) rfl (by decide) hg trivial eg (fun _ => rfl) I Y (B a) Ix nx s0 E hseq hI hB hIx h0
    (fun l x W K hy hK => by
      have h := hassign l x W K hy hK
      have e : Array.foldl (fun (t : Array Value) (q : Tmp × Value) => match q with | (p, v) => t.setIfInBounds p v) a.tmps (#[p, q].zip #[(enc x).1, (enc x).2]) = (a.tmps.setIfInBounds p (enc x).1).setIfInBounds q (enc x).2 := by simp
      rw [← e] at h
      exact h) hbody hdone (fun D c W hD hi hk => wpIn_wide.2 (hstop D c W hD hi hk))
end Hp
end Go.Proofs.YtmdfbdfijnmhkaaGreat
namespace Go.Proofs.YtmdfbdfijnmhkaaGreat
set_option linter.unusedVariables false
set_option linter.unusedSimpArgs false
open Go.RowKit
namespace Hp
variable {P : Program} {F : Fence} {n : Nat}
def chainB (ops : Array Oper) (o : Oper) : Bool :=
  o.after.all (fun e => decide (e.on < ops.size)) && (
  (List.range ops.size).all (fun j => o.after.any (fun e => Region.binds .any e && e.on == j) || (List.range ops.size).any fun k => decide (j < k) && match ops[k]? with
    | some ok => ok.after.any fun e => Region.binds .any e && e.on == j
    | none => false) &&
  (List.range ops.size).all (fun i => match ops[i]? with
    | some oi => oi.after.all (fun e => decide (e.on < i)) && (match oi.guard with | none => true | some (j, _) => decide (j < ops.size))
    | none => false))
theorem chainB.on {ops : Array Oper} {o : Oper} (h : chainB ops o = true) : ∀ e ∈ o.after, e.on < ops.size := by
  simp only [chainB, Bool.and_eq_true] at h
  intro e he
  have := Array.all_eq_true'.1 h.1 e he
  simpa using this
theorem chainB.back {ops : Array Oper} {o : Oper} (h : chainB ops o = true) {i : Nat} (hi : i < ops.size) : (∀ e ∈ (ops[i]).after, e.on < i) ∧ ∀ j b, (ops[i]).guard = some (j, b) → j < ops.size := by
  simp only [chainB, Bool.and_eq_true, List.all_eq_true, List.mem_range] at h
  have h2 := h.2.2 i hi
  rw [Array.getElem?_eq_getElem hi] at h2
  simp only [Bool.and_eq_true] at h2
  refine ⟨fun e he => ?_, fun j b hg => ?_⟩
  · have := Array.all_eq_true'.1 h2.1 e he
    simpa using this
  · have := h2.2
    rw [hg] at this
    simpa using this
theorem chainB.next {ops : Array Oper} {o : Oper} (h : chainB ops o = true) {j : Nat} (hj : j < ops.size) : (∃ e ∈ o.after, Region.binds .any e = true ∧ e.on = j) ∨ ∃ (k : Nat) (hk : k < ops.size), j < k ∧ ∃ e ∈ (ops[k]).after, Region.binds .any e = true ∧ e.on = j := by
  simp only [chainB, Bool.and_eq_true, List.all_eq_true, List.mem_range] at h
  have h1 := h.2.1 j hj
  rw [Bool.or_eq_true] at h1
  rcases h1 with h1 | h1
  · obtain ⟨e, he, hb⟩ := Array.any_eq_true'.1 h1
    simp only [Bool.and_eq_true, beq_iff_eq] at hb
    exact .inl ⟨e, he, hb.1, hb.2⟩
  · rw [List.any_eq_true] at h1
    obtain ⟨k, hk, hb⟩ := h1
    rw [List.mem_range] at hk
    rw [Array.getElem?_eq_getElem hk, Bool.and_eq_true, decide_eq_true_eq] at hb
    obtain ⟨e, he, hb2⟩ := Array.any_eq_true'.1 hb.2
    simp only [Bool.and_eq_true, beq_iff_eq] at hb2
    exact .inr ⟨k, hk, hb.1, e, he, hb2.1, hb2.2⟩
def Cl (ops : Array Oper) (listed : Array Bool) : Prop := ∀ i (hi : i < ops.size), listed.getD i true = true → ∀ e ∈ (ops[i]).after, Region.binds .any e = true → listed.getD e.on false = true
theorem getD_any {l : Array Bool} {i : Nat} (h : i < l.size) (d d' : Bool) : l.getD i d = l.getD i d' := by
  simp [Array.getD_eq_getD_getElem?, Array.getElem?_eq_getElem h]
theorem Cl.start (ops : Array Oper) : Cl ops (Array.replicate ops.size false) := by
  intro i hi h
  rw [Array.getD_eq_getD_getElem?, Array.getElem?_eq_getElem (by simpa using hi)] at h
  simp at h
theorem Cl.add {ops : Array Oper} {listed : Array Bool} (h : Cl ops listed) (hs : listed.size = ops.size) {i : Nat} (hr : i ∈ Region.ready .any ops listed) : Cl ops (listed.setIfInBounds i true) := by
  obtain ⟨hi, _, ha⟩ := mem_ready.1 hr
  have key : ∀ (j : Nat) (d : Bool), listed.getD j d = true → (listed.setIfInBounds i true).getD j d = true := by
    intro j d hj
    rw [Array.getD_eq_getD_getElem?] at hj ⊢
    by_cases e : i = j
    · subst e
      rw [Array.getElem?_setIfInBounds_self_of_lt (by omega)]
      rfl
    · rw [Array.getElem?_setIfInBounds_ne e]
      exact hj
  intro j hj hl e he hb
  by_cases e1 : i = j
  · subst e1
    exact key _ _ (ha e he hb)
  · refine key _ _ (h j hj ?_ e he hb)
    rw [Array.getD_eq_getD_getElem?, Array.getElem?_setIfInBounds_ne e1] at hl
    rwa [Array.getD_eq_getD_getElem?]
theorem chain_all {ops : Array Oper} {o : Oper} (h : chainB ops o = true) {listed : Array Bool} (hs : listed.size = ops.size) (hc : Cl ops listed) (ha : ∀ e ∈ o.after, Region.binds .any e = true → listed.getD e.on false = true) : ∀ d j, ops.size = j + d → 0 < d → listed.getD j true = true := by
  intro d
  induction d using Nat.strongRecOn with
  | _ d ih =>
    intro j hd h0
    rcases chainB.next h (j := j) (by omega) with ⟨e, he, hb, rfl⟩ | ⟨k, hk, hjk, e, he, hb, rfl⟩
    · rw [getD_any (by omega) true false]
      exact ha e he hb
    · have h1 := ih (ops.size - k) (by omega) k (by omega) (by omega)
      rw [getD_any (by omega) true false]
      exact hc k hk h1 e he hb
def QLI (F : Fence) (n : Nat) (P : Program) (ops : Array Oper) (o : Oper) (Q : Exit → Act → World → Prop) : Exit → Act → World → Prop
  | .normal, a, w => wpOpIn F n P (ops.push o) Q ops.size (fun a' w' => Q .normal a' w') a w
  | e, a, w => Q e a w
theorem QLI.letsOut {ops : Array Oper} {o : Oper} {Q : Exit → Act → World → Prop} (h : LetsOut (QLI F n P ops o Q)) : LetsOut Q := h
theorem Oper.wpIn_swap {o : Oper} {a : Act} {w : World} {K K' : Act → World → Prop} {Q Q' : Exit → Act → World → Prop} (h : ∀ a w, K a w → K' a w) (hp : ∀ c a w, Q (.panic c) a w → Q' (.panic c) a w) (hl : LetsOut Q → LetsOut Q')
    (hh : o.wpIn F n P a w K Q) : o.wpIn F n P a w K' Q' := by
  unfold Oper.wpIn at *
  refine ⟨hh.1, ?_⟩
  have hh := hh.2
  generalize (o.semAt F.round a.eval).run P w = r at *
  cases r with
  | ok x w' =>
    cases x with
    | value v => exact h _ _ hh
    | skip => exact h _ _ hh
    | defer d => exact h _ _ hh
    | enter f args => exact ⟨hh.1, CallsIn.mono hh.2 (fun e w'' he => by cases e <;> first | exact h _ _ he | exact hp _ _ _ he | exact hl he)⟩
    | row r args => exact ⟨hh.1, RowsIn.mono hh.2 (fun _ _ he => h _ _ he)⟩
    | round l f tmps assign body => exact ⟨hh.1, RoundIn.mono hh.2 (fun e w'' he => by cases e <;> first | exact h _ _ he | exact hp _ _ _ he | exact hl he)⟩
    | _ => exact hh
  | halt x w' => cases x <;> first | exact hp _ _ _ hh | exact hh
section
variable {ops : Array Oper} {o : Oper} {Q : Exit → Act → World → Prop}
theorem chainB.wanted (h : chainB ops o = true) {i : Nat} (hi : i < ops.size) (t : Array Value) : Region.wanted ops[i] (yielded (ops.push o) t) = Region.wanted ops[i] (yielded ops t) := by
  unfold Region.wanted
  cases hg : (ops[i]).guard with
  | none => rfl
  | some p =>
    obtain ⟨j, b⟩ := p
    have hj := (chainB.back h hi).2 j b hg
    simp only [yielded, Array.getElem?_push, Nat.ne_of_lt hj, if_false]
theorem ready_pushC (h : chainB ops o = true) {listed : Array Bool} (hs : listed.size = ops.size) (x : Bool) {i : Nat} (hi : i < ops.size) : i ∈ Region.ready .any (ops.push o) (listed.push x) ↔ i ∈ Region.ready .any ops listed := by
  rw [mem_ready, mem_ready]
  have he : (ops.push o)[i]'(by simp; omega) = ops[i] := by simp [Array.getElem_push, hi]
  constructor
  · rintro ⟨hi', hl, ha⟩
    rw [getD_push_lt (by omega)] at hl
    refine ⟨hi, hl, fun e hm hb => ?_⟩
    have h1 := (chainB.back h hi).1 e hm
    have := ha e (by rw [he]; exact hm) hb
    rwa [getD_push_lt (by omega)] at this
  · rintro ⟨hi', hl, ha⟩
    refine ⟨by simp; omega, by rw [getD_push_lt (by omega)]; exact hl, fun e hm hb => ?_⟩
    rw [he] at hm
    have h1 := (chainB.back h hi).1 e hm
    rw [getD_push_lt (by omega)]
    exact ha e hm hb
theorem ready_nilC (h : chainB ops o = true) {listed : Array Bool} (hs : listed.size = ops.size) (hr : Region.ready .any ops listed = []) : ∀ i, i < ops.size → listed.getD i true = true := by
  intro i
  induction i using Nat.strongRecOn with
  | _ i ih =>
    intro hi
    rw [← Bool.not_eq_false]
    intro hf
    have : i ∈ Region.ready .any ops listed := mem_ready.2 ⟨hi, hf, fun e he hb => by
      have h1 := (chainB.back h hi).1 e he
      have h2 := ih e.on h1 (by omega)
      rwa [getD_any (by omega) true false] at h2⟩
    rw [hr] at this
    cases this
theorem wpAnyIn_last (h : chainB ops o = true) : ∀ (fuel : Nat) (listed : Array Bool) (a : Act) (w : World), listed.size = ops.size → Cl ops listed → wpAnyIn F n P .any ops (QLI F n P ops o Q) fuel listed a w → wpAnyIn F n P .any (ops.push o) Q (fuel + 1) (listed.push false) a w := by
  have fin : ∀ (fuel : Nat) (listed : Array Bool) (a : Act) (w : World), listed.size = ops.size → Region.ready .any ops listed = [] → QLI F n P ops o Q .normal a w → wpAnyIn F n P .any (ops.push o) Q (fuel + 1) (listed.push false) a w := by
    intro fuel listed a w hs hr hq
    have hall := ready_nilC h hs hr
    have hn : ops.size ∈ Region.ready .any (ops.push o) (listed.push false) := by
      refine mem_ready.2 ⟨by simp, by rw [← hs]; simp, fun e he hb => ?_⟩
      have he' : (ops.push o)[ops.size]'(by simp) = o := by simp
      rw [he'] at he
      have h1 := chainB.on h e he
      rw [getD_push_lt (by omega)]
      have h2 := hall e.on h1
      rwa [getD_any (by omega) true false] at h2
    refine ⟨fun h0 => ?_, fun i hi => ?_⟩
    · rw [h0] at hn; cases hn
    · have hin : i = ops.size := by
        obtain ⟨h1, _⟩ := mem_ready.1 hi
        simp at h1
        rcases Nat.lt_or_ge i ops.size with h2 | h2
        · have := (ready_pushC h hs false h2).1 hi
          rw [hr] at this; cases this
        · omega
      subst hin
      refine wpOpIn_mono (fun a' w' hq' => ?_) hq
      have hr2 : Region.ready .any (ops.push o) ((listed.push false).setIfInBounds ops.size true) = [] := by
        have e : (listed.push false).setIfInBounds ops.size true = listed.push true := by
          apply Array.ext
          · simp
          · intro i h1 h2
            simp at h1
            rw [Array.getElem_setIfInBounds (by simpa using h1)]
            simp only [Array.getElem_push]
            by_cases hj : i < listed.size
            · rw [dif_pos hj, dif_pos hj, if_neg (by omega)]
            · rw [dif_neg hj, dif_neg hj, if_pos (by omega)]
        rw [e]
        refine List.eq_nil_iff_forall_not_mem.2 fun i hi => ?_
        obtain ⟨h1, h2, _⟩ := mem_ready.1 hi
        simp at h1
        rcases Nat.lt_or_ge i ops.size with h3 | h3
        · have := (ready_pushC h hs true h3).1 hi
          rw [hr] at this; cases this
        · have : i = ops.size := by omega
          subst this
          have h4 : (listed.push true).getD ops.size true = true := by rw [← hs]; simp
          rw [h4] at h2; cases h2
      cases fuel with
      | zero => exact ⟨hr2, hq'⟩
      | succ fuel => exact ⟨fun _ => hq', fun i hi => by rw [hr2] at hi; cases hi⟩
  intro fuel
  induction fuel with
  | zero => intro listed a w hs _ hq; exact fin 0 listed a w hs hq.1 hq.2
  | succ fuel ih =>
    intro listed a w hs hcl hq
    by_cases hr : Region.ready .any ops listed = []
    · exact fin _ listed a w hs hr (hq.1 hr)
    · have hnot : ops.size ∉ Region.ready .any (ops.push o) (listed.push false) := by
        intro hm
        obtain ⟨h1, h2, h3⟩ := mem_ready.1 hm
        have he' : (ops.push o)[ops.size]'(by simp) = o := by simp
        rw [he'] at h3
        have hall := chain_all h hs hcl (fun e he hb => by
          have := h3 e he hb
          rwa [getD_push_lt (by rw [hs]; exact chainB.on h e he)] at this)
        obtain ⟨i, hi⟩ := List.exists_mem_of_ne_nil _ hr
        obtain ⟨hi1, hi2, _⟩ := mem_ready.1 hi
        rw [hall (ops.size - i) i (by omega) (by omega)] at hi2
        cases hi2
      refine ⟨fun h0 => absurd ?_ hr, fun i hi => ?_⟩
      · refine List.eq_nil_iff_forall_not_mem.2 fun i hi => ?_
        obtain ⟨h1, _⟩ := mem_ready.1 hi
        have := (ready_pushC h hs false h1).2 hi
        rw [h0] at this; cases this
      · have hlt : i < ops.size := by
          obtain ⟨h1, _⟩ := mem_ready.1 hi
          simp at h1
          rcases Nat.lt_or_ge i ops.size with h2 | h2
          · exact h2
          · exact absurd (by rwa [show i = ops.size by omega] at hi) hnot
        have hi' := (ready_pushC h hs false hlt).1 hi
        have hw := hq.2 i hi'
        have e : (listed.push false).setIfInBounds i true = (listed.setIfInBounds i true).push false := by
          apply Array.ext
          · simp
          · intro j h1 h2
            simp at h1
            rw [Array.getElem_setIfInBounds (by simpa using h1)]
            simp only [Array.getElem_push, Array.size_setIfInBounds]
            by_cases hj : j < listed.size
            · rw [dif_pos hj, dif_pos hj, Array.getElem_setIfInBounds hj]
            · rw [dif_neg hj, dif_neg hj, if_neg (by omega)]
        rw [e]
        unfold wpOpIn at hw ⊢
        have g1 : (ops.push o)[i]? = some ops[i] := by simp [Array.getElem?_push, Nat.ne_of_lt hlt, hlt]
        rw [g1]
        rw [Array.getElem?_eq_getElem hlt] at hw
        simp only [chainB.wanted h hlt] at hw ⊢
        have hcl2 := hcl.add hs hi'
        split
        · rename_i hwt
          simp only [hwt, if_true] at hw
          exact Oper.wpIn_swap (fun a' w' hk => ih _ a' w' (by simpa using hs) hcl2 hk) (Q := QLI F n P ops o Q) (fun c a w hp => hp) (QLI.letsOut (F := F) (n := n) (P := P) (ops := ops) (o := o)) hw
        · rename_i hwt
          simp only [hwt] at hw
          exact ⟨hw.1, ih _ _ _ (by simpa using hs) hcl2 hw.2⟩
end
theorem op_wide {o : Oper} {a : Act} {w : World} {K : Act → World → Prop} {Q : Exit → Act → World → Prop} (h : o.wp P a w K Q) : o.wpIn Fence.wide n P a w K Q := by
  refine ⟨fun _ _ => trivial, ?_⟩
  rw [show Fence.wide.round = none from rfl, Oper.semAt_none]
  unfold Oper.wp at h
  revert h
  generalize (execOp a.eval o).run P w = r
  intro h
  cases r with
  | ok x w' =>
    cases x <;> simp only [Oper.upon, Oper.uponIn] at h ⊢ <;>
      first
        | exact h
        | exact h.elim
        | exact ⟨fun h => (by cases h), callsIn_wide.2 h⟩
        | exact ⟨fun h => (by cases h), fun c cs _ => let ⟨v, w', r, s⟩ := h c cs; ⟨v, w', r, stepsIn_wide.2 s⟩⟩
  | halt x w' => cases x <;> simp only [Oper.upon, Oper.uponIn] at h ⊢ <;> exact h
theorem any_wide {ops : Array Oper} {Q : Exit → Act → World → Prop} {md : Region.Mode} (hQ : ¬ LetsOut Q) : ∀ (fuel : Nat) (listed : Array Bool) (a : Act) (w : World), wpAny P md ops Q fuel listed a w → wpAnyIn Fence.wide n P md ops Q fuel listed a w
  | 0, _, _, _, h => h
  | fuel + 1, listed, a, w, h => ⟨h.1, fun i hi => by
    have h2 := h.2 i hi
    unfold wpOp at h2
    unfold wpOpIn
    cases ho : ops[i]? with
    | none => rw [ho] at h2; exact any_wide hQ fuel _ a w h2
    | some o =>
      simp only [ho] at h2 ⊢
      split
      · rename_i hw
        simp only [hw, if_true] at h2
        rcases h2 with h2 | h2
        · exact op_wide (Oper.wp_swap (fun a w hh => any_wide hQ fuel _ a w hh) (fun _ _ _ h => h) id h2)
        · exact absurd h2.2 hQ
      · rename_i hw
        simp only [hw] at h2
        exact ⟨fun _ _ => trivial, any_wide hQ fuel _ _ w h2⟩⟩
theorem QLI_intro {ops : Array Oper} {o : Oper} {Q : Exit → Act → World → Prop} {a : Act} {w : World} (h : wpListIn F n P (ops.push o) Q [o] a w) : QLI F n P ops o Q .normal a w := by
  show wpOpIn _ _ _ _ _ _ _ _ _
  unfold wpOpIn
  simp only [Array.getElem?_push_size]
  unfold wpListIn at h
  exact h
def QT (T : Act → World → Prop) : Exit → Act → World → Prop
  | .normal, a, w => T a w
  | _, _, _ => False
theorem QT_intro {T : Act → World → Prop} {a : Act} {w : World} (h : T a w) : QT T .normal a w := h
theorem QT_out {T : Act → World → Prop} : ¬ LetsOut (QT T) := fun ⟨_, _, h⟩ => h
theorem anyIn_QT {ops : Array Oper} {Q : Exit → Act → World → Prop} {md : Region.Mode} : ∀ (fuel : Nat) (listed : Array Bool) (a : Act) (w : World), wpAnyIn F n P md ops (QT (Q .normal)) fuel listed a w → wpAnyIn F n P md ops Q fuel listed a w
  | 0, _, _, _, h => h
  | fuel + 1, listed, a, w, h => ⟨h.1, fun i hi => by
    have h2 := h.2 i hi
    unfold wpOpIn at h2 ⊢
    cases ho : ops[i]? with
    | none => rw [ho] at h2; exact anyIn_QT fuel _ a w h2
    | some o =>
      simp only [ho] at h2 ⊢
      split
      · rename_i hw
        simp only [hw, if_true] at h2
        exact Oper.wpIn_swap (fun a w hh => anyIn_QT fuel _ a w hh) (fun _ _ _ h => h.elim) (fun h => absurd h QT_out) h2
      · rename_i hw
        simp only [hw] at h2
        exact ⟨h2.1, anyIn_QT fuel _ _ w h2.2⟩⟩
theorem listIn_QT {ops : Array Oper} {Q : Exit → Act → World → Prop} : ∀ (L : List Oper) (a : Act) (w : World), wpListIn F n P ops (QT (Q .normal)) L a w → wpListIn F n P ops Q L a w
  | [], _, _, h => h
  | o :: L, a, w, h => by
    unfold wpListIn at h ⊢
    split
    · rename_i hw
      simp only [hw, if_true] at h
      exact Oper.wpIn_swap (fun a w hh => listIn_QT L a w hh) (fun _ _ _ h => h.elim) (fun h => absurd h QT_out) h
    · rename_i hw
      simp only [hw] at h
      exact ⟨h.1, listIn_QT L _ w h.2⟩
theorem list_round {l : Nat} {ops : Array Oper} {Q : Exit → Act → World → Prop} {L : List Oper} {a : Act} {w : World} (hd : noDefer L = true) (h : wpList P ops (QT (Q .normal)) L a w) : wpListIn (Fence.wide.inRound l) n P ops Q L a w :=
  listIn_QT L a w (list_inRound QT_out L a w hd h)
theorem region_round {l id : Nat} {L : Array Oper} {S : World → Prop} {a : Act} {w : World} {Q : Exit → Act → World → Prop} (hm : P.follows .mixedOrders = true) (hd : noDefer L.toList = true) (hS : S w.drew)
    (h : S w.drew → wpAnyH P .any L (QT (Q .normal)) S L.size (Array.replicate L.size false) a w.drew) : (Code.region id L true).wpIn (Fence.wide.inRound l) n P Q a w :=
  wpIn_region_any hm (anyIn_QT _ _ a _ (any_inRound hd QT_out _ _ a _ (wpAny_of_held _ _ _ _ (h hS))))
theorem region_last3 {id : Nat} {L : Array Oper} {o1 o2 o3 : Oper} {S : World → Prop} {a : Act} {w : World} {Q : Exit → Act → World → Prop} (hm : P.follows .mixedOrders = true)
    (e3 : L.back? = some o3) (e2 : L.pop.back? = some o2) (e1 : L.pop.pop.back? = some o1) (h1 : chainB L.pop.pop.pop o1 = true) (h2 : chainB L.pop.pop o2 = true) (h3 : chainB L.pop o3 = true) (hS : S w.drew)
    (h : S w.drew → wpAnyH P .any L.pop.pop.pop (QT (QLI Fence.wide n P L.pop.pop.pop o1 (QLI Fence.wide n P L.pop.pop o2 (QLI Fence.wide n P L.pop o3 Q)) .normal)) S L.pop.pop.pop.size (Array.replicate L.pop.pop.pop.size false) a w.drew) :
    (Code.region id L true).wpIn Fence.wide n P Q a w := by
  have p3 := push_pop e3
  have p2 := push_pop e2
  have p1 := push_pop e1
  obtain ⟨ops, hops⟩ : ∃ ops, ops = L.pop.pop.pop := ⟨_, rfl⟩
  rw [← hops] at h h1 p1
  rw [← p1] at p2 h2 h
  rw [← p2] at p3 h3 h
  rw [← p3]
  refine wpIn_region_any hm ?_
  have hr : ∀ k : Nat, (Array.replicate k false).push false = Array.replicate (k + 1) false := fun k => by rw [Array.replicate_succ]
  have g0 := anyIn_QT _ _ a w.drew (any_wide (n := n) QT_out _ _ a w.drew (wpAny_of_held _ _ _ _ (h hS)))
  have g1 := wpAnyIn_last h1 _ _ a w.drew (by simp) (Cl.start ops) g0
  have g2 := wpAnyIn_last h2 _ _ a w.drew (by simp) (by have := Cl.start (ops.push o1); rw [Array.size_push] at this; rw [hr]; exact this) g1
  have g3 := wpAnyIn_last h3 _ _ a w.drew (by simp) (by have := Cl.start ((ops.push o1).push o2); rw [Array.size_push, Array.size_push] at this; rw [hr, hr]; exact this) g2
  rw [hr, hr, hr] at g3
  simpa using g3
end Hp
end Go.Proofs.YtmdfbdfijnmhkaaGreat
namespace Go.Proofs.YtmdfbdfijnmhkaaGreat
set_option linter.unusedVariables false
set_option linter.unusedSimpArgs false
open Go.RowKit Hp
attribute [local irreducible] Go.Calls Go.wpList
set_option maxRecDepth 100000
set_option maxHeartbeats 4000000
def bxP (g3 g4 g5 gm : Nat) (but : Int) (pc : List Value) : List HA := [.blk g5 3 [.int .i64 but], .blk g4 34 pc, .blk g3 24 [PM gm]]
def copiesV (g3 g4 g5 : Nat) : Array Value := #[.pointer (some ⟨g4, 0, none⟩), .pointer (some ⟨g5, 0, none⟩), .pointer (some ⟨g3, 0, none⟩)]
theorem copies_any {w0 w : World} {M : List Nat} {L : List HA} (hS : St w0 M w L) (gm : Nat) (but : Int) (ao : Option Addr) (n c : Nat) (b v : Int) (S : List UInt8) :
    Calls Tryz.prog 68 #[PM gm, .agg (ptrCells (.slice ao n c) b v S).toArray, .int .i64 but] w fun e w' => ∃ g3 g4 g5, e = .returned (.func (.func 117) #[] (copiesV g3 g4 g5)) ∧ St w0 M w' (bxP g3 g4 g5 gm but (ptrCells (.slice ao n c) b v S) ++ L) := by
  have hst := hS
  clear hS
  unfold PM
  go_enter Tryz.func68, Tryz.ntmps68
  go_wp2_with (first | go_big_skip | go_big_guard | (refine wl_box hst rfl rfl rfl ?_; intro g3 _ hst1; clear hst) | (refine wl_boxA hst1 rfl rfl rfl ?_; intro g4 _ hst2; clear hst1) | (refine wl_box hst2 rfl rfl rfl ?_; intro g5 _ hst3; clear hst2))
  go_ret
  exact ⟨g3, g4, g5, rfl, hst3⟩
structure YV where
  k : Nat
  m : MV
  v : Value
section
variable (w0 : World) (M : List Nat) (gm ga : Nat) (x : GA) (bx : List HA) (l : List (Int × Int)) (but : Int) (S : List UInt8) (N0 : Nat) (Xp : Nat → MV → List HA → Prop)
def cI (s : Nat × MV) (W : World) : Prop := s.1 ≤ l.length ∧ MGood s.2 (N0 + s.1) ∧ ∃ X, Xp s.1 s.2 X ∧ St w0 M W (mP gm ga x s.2 ++ (bx ++ X))
def YV.pl (y : YV) : Int × Int := l.getD y.k (0, 0)
def YV.B (y : YV) : List UInt8 := y.m.lookB (y.pl l).1 (y.pl l).2 S
def YV.next (y : YV) : MV := y.m.looked (y.pl l).1 (y.pl l).2 S
def cY (y : YV) (W : World) : Prop := y.k < l.length ∧ (y.pl l).1 ≠ but ∧ MGood y.m (N0 + y.k) ∧ ∃ X, Xp y.k y.m X ∧ St w0 M W (.rowP isB y.v 5 1 (y.B l S).length (bytesV (y.B l S)) :: (mP gm ga x (y.next l S) ++ (bx ++ X)))
def cE (y : YV) : Value × Value := (.agg #[.int .i64 (y.pl l).1, .int .i64 (y.pl l).2], .agg #[.int .i64 (y.m.kind (y.pl l).1 (y.pl l).2 S), y.v])
def cN (y : YV) (s : Nat × MV) : Prop := s = (y.k + 1, y.next l S)
end
attribute [local go_sem] Oper.semAt_some
theorem loadedIm6 (A : Addr) : loadVar 3 A = loadVarH 3 A := rfl
theorem loadedAd6 (A : Addr) : loadVar 83 A = loadVarH 83 A := rfl
theorem loadedMi6 (A : Addr) : loadVar 24 A = loadVarH 24 A := rfl
theorem loadedID6 (A : Addr) : loadVar 32 A = loadVarH 32 A := rfl
theorem sub_x {w0 w : World} {M : List Nat} {A X : List HA} {p : HA} (h : St w0 M w (A ++ (p :: X))) : St w0 M w (A ++ X) := St.sub h (List.Sublist.append_left (List.sublist_cons_self _ _) _)
section
attribute [local go_sem ↓] loadedIm6 loadedAd6 loadedMi6 loadedID6
theorem copies1_seq {w0 : World} {M : List Nat} {gm ga : Nat} {x : GA} {g3 g4 g5 : Nat} (l : List (Int × Int)) (ao : Option Addr) (n c : Nat) (b v : Int) (S : List UInt8) (but : Int) (N0 : Nat) (m0 : MV) (hL : L32 S) (hn : l.length = n) (hN : N0 + n ≤ 900000) (Xp : Nat → MV → List HA → Prop)
    (hA : ∀ k m X W, Xp k m X → St w0 M W X → Rd W (.slice ao n c) 2 n (addrsV l)) (hskip : ∀ k m X, k < n → (l.getD k (0, 0)).1 = but → Xp k m X → Xp (k + 1) m X) :
    SeqM Fence.wide 4 Tryz.prog 117 (copiesV g3 g4 g5) (fun y => #[(cE l S y).1, (cE l S y).2]) (cI w0 M gm ga x (bxP g3 g4 g5 gm but (ptrCells (.slice ao n c) b v S)) l N0 Xp) (cY w0 M gm ga x (bxP g3 g4 g5 gm but (ptrCells (.slice ao n c) b v S)) l but S N0 Xp) (cN l S) (0, m0) (fun s => s.1 = l.length) := by
  intro lp R Jx hR hY W hI0 hR0
  refine callsIn_of_wp Tryz.func117 rfl trivial ?_ rfl
  simp only [Tryz.ntmps117, copiesV, List.size_toArray, List.length_cons, List.length_nil, Nat.reduceAdd, Nat.reduceSub, Array.replicate_succ, Array.replicate_zero, List.push_toArray, List.append_toArray, List.nil_append, List.cons_append]
  have c1 : W.cell? ⟨g4, 0, none⟩ = some (.slice ao n c) := by
    obtain ⟨_, _, X, _, hst⟩ := hI0
    exact hst.cell (T := 34) (cs := ptrCells (.slice ao n c) b v S) (List.mem_append_right _ (.tail _ (.head _))) rfl
  gi_wp2
  gi_loopw [10] (fun i wr => ∃ (k : Nat) (m : MV), i = .int .i64 k ∧ cI w0 M gm ga x (bxP g3 g4 g5 gm but (ptrCells (.slice ao n c) b v S)) l N0 Xp (k, m) wr ∧ R wr) (fun i _ => n - (intOf i).toNat)
  case atStart => exact ⟨0, m0, rfl, hI0, hR0⟩
  case round =>
    clear c1 hI0 hR0
    obtain ⟨k, m, rfl, hI1, hR1⟩ := hrel
    by_cases hlt : k < n
    · have d0 : decide ((k : Int) < (n : Int)) = true := decide_eq_true (by omega)
      obtain ⟨_, hg, X, hX, hst⟩ := hI1
      obtain ⟨bb, off, rfl, hr⟩ := (hA k m X wr hX (St.sub hst ((List.sublist_append_right _ _).trans (List.sublist_append_right _ _)))).at hlt
      obtain ⟨z, hz⟩ : ∃ z, z = l.getD k (0, 0) := ⟨_, rfl⟩
      have hb := addr_both hr (k := k) (by rw [hn]; exact hlt)
      rw [← hz] at hb
      have HB := hid hb
      have HZ := hid hz
      have HST := hid hst
      have HX := hid hX
      have HG := hid hg
      have HL := hid hL
      have hs := hst.selfM
      gi_upto_region 2 with (fail)
      refine wpIn_wide.2 ?_
      clear hz hb hr hst hX hg
      have HR := hid hR1
      clear hR1
      go_wp2_with (first | go_big_skip | go_big_guard | (refine wl_index rfl rfl rfl rfl (hlt) ?_) | (refine wl_loadE rfl rfl rfl ?_; refine ⟨_, Loads.range (P := Tryz.prog) (cs := [.int .i64 z.1, .int .i64 z.2]) (TyA.out (n := 2)) HB.out, ?_⟩) | (refine wl_alloc hs rfl rfl ?_; intro g6 w3 hs1; clear hs) | (refine wl_storeA [] hs1 rfl rfl rfl rfl rfl rfl rfl ?_; intro w4 hs2; clear hs1))
      have hs3 : St wr _ w4 (mP gm ga x m ++ (.blk g6 83 [.int .i64 z.1, .int .i64 z.2] :: (bxP g3 g4 g5 gm but (ptrCells (.slice (some ⟨bb, off, none⟩) n c) b v S) ++ X))) := St.behind (A := mP gm ga x m) hs2
      clear hs2
      have HN := hid hn
      gi_upto_region 3 with (fail)
      by_cases he : z.1 = but
      · have d1 : (z.1 != but) = false := by simpa using he
        refine wpIn_wide.2 ?_
        have hX := hs3.drew
        clear hs3
        refine wp_region_held_drew (S := (fun w' => (loadVarH 3 ⟨g6, 0, none⟩).run Tryz.prog w' = .ok (.int .i64 z.1) w' ∧ (loadVarH 3 ⟨g5, 0, none⟩).run Tryz.prog w' = .ok (.int .i64 but) w' ∧ (loadVarH 83 ⟨g6, 0, none⟩).run Tryz.prog w' = .ok (.agg (List.toArray [.int .i64 z.1, .int .i64 z.2])) w' ∧ (loadVarH 24 ⟨g3, 0, none⟩).run Tryz.prog w' = .ok (.pointer (some ⟨gm, 0, none⟩)) w' ∧ (loadVarH 32 ⟨g4, 3, none⟩).run Tryz.prog w' = .ok (.agg (List.toArray (bytesV S))) w')) (by kernel_rfl) (by exact ⟨Loads.blk (P := Tryz.prog) (T := 3) hX TyS.out (List.mem_append_right _ (.head _)) rfl, Loads.blk (P := Tryz.prog) (T := 3) hX TyS.out (List.mem_append_right _ (.tail _ (.head _))) rfl, Loads.blkA (P := Tryz.prog) (T := 83) (vs := [.int .i64 z.1, .int .i64 z.2]) hX (TyA.out (n := 2)) (List.mem_append_right _ (.head _)) (rfl), Loads.blk (P := Tryz.prog) (T := 24) hX TyS.out (List.mem_append_right _ (.tail _ (.tail _ (.tail _ (.head _))))) rfl, Loads.blkA (P := Tryz.prog) (T := 32) (vs := bytesV S) hX ((by rw [HL.out.v]; exact TyA.out)) (List.mem_append_right _ (.tail _ (.tail _ (.head _)))) (ptr_sum _ _ _ _)⟩) (fun hHeld => ?_)
        refine tkH 0 14 ?_ rfl (by kernel_rfl) (fun _ _ _ h => h) (by rfl) (by assumption) ?_ ?_
        rotate_left
        · intro w hSw; (try dsimp only at hSw); go_simp; try with_reducible rfl
        (try simp only [pmL, pnL, sc0, sc1])
        refine tkH 2 16 ?_ rfl (by kernel_rfl) (fun _ _ _ h => h) (by rfl) (by assumption) ?_ ?_
        rotate_left
        · intro w hSw; (try dsimp only at hSw); go_simp; try with_reducible rfl
        (try simp only [pmL, pnL, sc0, sc1])
        refine tkH 1 15 ?_ rfl (by kernel_rfl) (fun _ _ _ h => h) (by rfl) (by assumption) ?_ ?_
        rotate_left
        · intro w hSw; (try dsimp only at hSw); go_simp; try with_reducible rfl
        (try simp only [pmL, pnL, sc0, sc1])
        refine tkH 3 17 ?_ rfl (by kernel_rfl) (fun _ _ _ h => h) (by rfl) (by assumption) ?_ ?_
        rotate_left
        · intro w hSw; (try dsimp only at hSw); go_simp; try with_reducible rfl
        (try simp only [pmL, pnL, sc0, sc1])
        refine tkH 4 18 ?_ rfl (by kernel_rfl) (fun _ _ _ h => h) (by rfl) (by assumption) ?_ ?_
        rotate_left
        · intro w hSw; (try dsimp only at hSw); go_simp; try with_reducible rfl
        (try simp only [pmL, pnL, sc0, sc1])
        refine ukH 5 19 rfl (by kernel_rfl) (fun _ _ _ h => h) (by rfl) (by assumption) ?_
        (try simp only [pmL, pnL, sc0, sc1])
        refine ukH 6 20 rfl (by kernel_rfl) (fun _ _ _ h => h) (by rfl) (by assumption) ?_
        (try simp only [pmL, pnL, sc0, sc1])
        refine ukH 7 21 rfl (by kernel_rfl) (fun _ _ _ h => h) (by rfl) (by assumption) ?_
        (try simp only [pmL, pnL, sc0, sc1])
        refine ukH 8 22 rfl (by kernel_rfl) (fun _ _ _ h => h) (by rfl) (by assumption) ?_
        (try simp only [pmL, pnL, sc0, sc1])
        refine ukH 9 23 rfl (by kernel_rfl) (fun _ _ _ h => h) (by rfl) (by assumption) ?_
        (try simp only [pmL, pnL, sc0, sc1])
        refine ukH 10 24 rfl (by kernel_rfl) (fun _ _ _ h => h) (by rfl) (by assumption) ?_
        (try simp only [pmL, pnL, sc0, sc1])
        refine wpAnyH_ready (rs := [11]) (by kernel_rfl) (by simp) ?_
        refine (AllReadyH.cons (o := ⟨some 25, _, _, _, _, _⟩) rfl (fun K hK => ?_) AllReadyH.nil)
        rw [if_neg (by rw [show Region.wanted _ _ = false from rfl]; exact Bool.false_ne_true)]
        refine hK.out _ _ ?_ (fun hHeld => ?_)
        · exact ⟨Loads.blk (P := Tryz.prog) (T := 3) hX TyS.out (List.mem_append_right _ (.head _)) rfl, Loads.blk (P := Tryz.prog) (T := 3) hX TyS.out (List.mem_append_right _ (.tail _ (.head _))) rfl, Loads.blkA (P := Tryz.prog) (T := 83) (vs := [.int .i64 z.1, .int .i64 z.2]) hX (TyA.out (n := 2)) (List.mem_append_right _ (.head _)) (rfl), Loads.blk (P := Tryz.prog) (T := 24) hX TyS.out (List.mem_append_right _ (.tail _ (.tail _ (.tail _ (.head _))))) rfl, Loads.blkA (P := Tryz.prog) (T := 32) (vs := bytesV S) hX ((by rw [HL.out.v]; exact TyA.out)) (List.mem_append_right _ (.tail _ (.tail _ (.head _)))) (ptr_sum _ _ _ _)⟩
        clear hK K
        (try simp only [pmL, pnL, sc0, sc1])
        refine wpAnyH_ready (rs := [12]) (by kernel_rfl) (by simp) ?_
        refine (AllReadyH.cons (o := ⟨some 26, _, _, _, _, _⟩) rfl (fun K hK => ?_) AllReadyH.nil)
        rw [if_neg (by rw [show Region.wanted _ _ = false from rfl]; exact Bool.false_ne_true)]
        refine hK.out _ _ ?_ (fun hHeld => ?_)
        · exact ⟨Loads.blk (P := Tryz.prog) (T := 3) hX TyS.out (List.mem_append_right _ (.head _)) rfl, Loads.blk (P := Tryz.prog) (T := 3) hX TyS.out (List.mem_append_right _ (.tail _ (.head _))) rfl, Loads.blkA (P := Tryz.prog) (T := 83) (vs := [.int .i64 z.1, .int .i64 z.2]) hX (TyA.out (n := 2)) (List.mem_append_right _ (.head _)) (rfl), Loads.blk (P := Tryz.prog) (T := 24) hX TyS.out (List.mem_append_right _ (.tail _ (.tail _ (.tail _ (.head _))))) rfl, Loads.blkA (P := Tryz.prog) (T := 32) (vs := bytesV S) hX ((by rw [HL.out.v]; exact TyA.out)) (List.mem_append_right _ (.tail _ (.tail _ (.head _)))) (ptr_sum _ _ _ _)⟩
        clear hK K
        (try simp only [pmL, pnL, sc0, sc1])
        refine ukH 13 27 rfl (by kernel_rfl) (fun _ _ _ h => h) (by rfl) (by assumption) ?_
        (try simp only [pmL, pnL, sc0, sc1])
        refine tkH 14 28 ?_ rfl (by kernel_rfl) (fun _ _ _ h => h) (by rfl) (by assumption) ?_ ?_
        rotate_left
        · intro w hSw; (try dsimp only at hSw); go_simp; try with_reducible rfl
        (try simp only [pmL, pnL, sc0, sc1])
        refine wpAnyH_done (by kernel_rfl) ?_ _
        clear hHeld
        go_wp2_with (first | go_big_skip | go_big_guard | fail)
        have hI2 : cI w0 M gm ga x (bxP g3 g4 g5 gm but (ptrCells (.slice (some ⟨bb, off, none⟩) n c) b v S)) l N0 Xp (k + 1, m) _ := ⟨by show k + 1 ≤ _; omega, HG.out.mono (by show N0 + k ≤ N0 + (k + 1); omega), X, hskip k m X hlt (by rw [← HZ.out]; exact he) HX.out, sub_x (St.joinAll HST.out hX)⟩
        have hR2 := hR _ _ HR.out (St.keeps HST.out hX)
        gi_wp2
        go_roundw
        case rel => exact ⟨k + 1, m, by go_num, hI2, hR2⟩
        case measure => simp [intOf]; omega
      · have d1 : (z.1 != but) = true := by simpa using he
        have hX := hs3.drew
        clear hs3
        refine region_last3 (S := (fun w' => (loadVarH 3 ⟨g6, 0, none⟩).run Tryz.prog w' = .ok (.int .i64 z.1) w' ∧ (loadVarH 3 ⟨g5, 0, none⟩).run Tryz.prog w' = .ok (.int .i64 but) w' ∧ (loadVarH 83 ⟨g6, 0, none⟩).run Tryz.prog w' = .ok (.agg (List.toArray [.int .i64 z.1, .int .i64 z.2])) w' ∧ (loadVarH 24 ⟨g3, 0, none⟩).run Tryz.prog w' = .ok (.pointer (some ⟨gm, 0, none⟩)) w' ∧ (loadVarH 32 ⟨g4, 3, none⟩).run Tryz.prog w' = .ok (.agg (List.toArray (bytesV S))) w')) (by kernel_rfl) rfl rfl rfl (by kernel_rfl) (by kernel_rfl) (by kernel_rfl) (by exact ⟨Loads.blk (P := Tryz.prog) (T := 3) hX TyS.out (List.mem_append_right _ (.head _)) rfl, Loads.blk (P := Tryz.prog) (T := 3) hX TyS.out (List.mem_append_right _ (.tail _ (.head _))) rfl, Loads.blkA (P := Tryz.prog) (T := 83) (vs := [.int .i64 z.1, .int .i64 z.2]) hX (TyA.out (n := 2)) (List.mem_append_right _ (.head _)) (rfl), Loads.blk (P := Tryz.prog) (T := 24) hX TyS.out (List.mem_append_right _ (.tail _ (.tail _ (.tail _ (.head _))))) rfl, Loads.blkA (P := Tryz.prog) (T := 32) (vs := bytesV S) hX ((by rw [HL.out.v]; exact TyA.out)) (List.mem_append_right _ (.tail _ (.tail _ (.head _)))) (ptr_sum _ _ _ _)⟩) (fun hHeld => ?_)
        simp only [List.pop_toArray, List.dropLast, List.size_toArray, List.length_cons, List.length_nil]
        refine tkH 0 14 ?_ rfl (by kernel_rfl) (fun _ _ _ h => h) (by rfl) (by assumption) ?_ ?_
        rotate_left
        · intro w hSw; (try dsimp only at hSw); go_simp; try with_reducible rfl
        (try simp only [pmL, pnL, sc0, sc1])
        refine tkH 2 16 ?_ rfl (by kernel_rfl) (fun _ _ _ h => h) (by rfl) (by assumption) ?_ ?_
        rotate_left
        · intro w hSw; (try dsimp only at hSw); go_simp; try with_reducible rfl
        (try simp only [pmL, pnL, sc0, sc1])
        refine tkH 1 15 ?_ rfl (by kernel_rfl) (fun _ _ _ h => h) (by rfl) (by assumption) ?_ ?_
        rotate_left
        · intro w hSw; (try dsimp only at hSw); go_simp; try with_reducible rfl
        (try simp only [pmL, pnL, sc0, sc1])
        refine tkH 3 17 ?_ rfl (by kernel_rfl) (fun _ _ _ h => h) (by rfl) (by assumption) ?_ ?_
        rotate_left
        · intro w hSw; (try dsimp only at hSw); go_simp; try with_reducible rfl
        (try simp only [pmL, pnL, sc0, sc1])
        refine tkH 4 18 ?_ rfl (by kernel_rfl) (fun _ _ _ h => h) (by rfl) (by assumption) ?_ ?_
        rotate_left
        · intro w hSw; (try dsimp only at hSw); go_simp; try with_reducible rfl
        (try simp only [pmL, pnL, sc0, sc1])
        refine tkH 5 19 ?_ rfl (by kernel_rfl) (fun _ _ _ h => h) (by rfl) (by assumption) ?_ ?_
        rotate_left
        · intro w hSw; (try dsimp only at hSw); go_simp; try with_reducible rfl
        (try simp only [pmL, pnL, sc0, sc1])
        refine tkH 6 20 ?_ rfl (by kernel_rfl) (fun _ _ _ h => h) (by rfl) (by assumption) ?_ ?_
        rotate_left
        · intro w hSw; (try dsimp only at hSw); go_simp; try with_reducible rfl
        (try simp only [pmL, pnL, sc0, sc1])
        refine tkH 7 21 ?_ rfl (by kernel_rfl) (fun _ _ _ h => h) (by rfl) (by assumption) ?_ ?_
        rotate_left
        · intro w hSw; (try dsimp only at hSw); go_simp; try with_reducible rfl
        (try simp only [pmL, pnL, sc0, sc1])
        refine tkH 8 22 ?_ rfl (by kernel_rfl) (fun _ _ _ h => h) (by rfl) (by assumption) ?_ ?_
        rotate_left
        · intro w hSw; (try dsimp only at hSw); go_simp; try with_reducible rfl
        (try simp only [pmL, pnL, sc0, sc1])
        refine tkH 9 23 ?_ rfl (by kernel_rfl) (fun _ _ _ h => h) (by rfl) (by assumption) ?_ ?_
        rotate_left
        · intro w hSw; (try dsimp only at hSw); go_simp; try with_reducible rfl
        (try simp only [pmL, pnL, sc0, sc1])
        refine tkH 10 24 ?_ rfl (by kernel_rfl) (fun _ _ _ h => h) (by rfl) (by assumption) ?_ ?_
        rotate_left
        · intro w hSw; (try dsimp only at hSw); go_simp; try with_reducible rfl
        (try simp only [pmL, pnL, sc0, sc1])
        refine wpAnyH_ready (rs := [11]) (by kernel_rfl) (by simp) ?_
        refine (AllReadyH.cons (o := ⟨some 25, _, _, _, _, _⟩) rfl (fun K hK => ?_) AllReadyH.nil)
        rw [if_pos (by rfl)]
        go_simp
        go_at_call 118
        refine (look_any (gm := gm) hX HG.out (by omega) z.1 z.2 S HL.out).mono ?_
        rintro _ w5 ⟨u, rfl, h4⟩
        have hE := h4
        clear h4
        refine hK.out _ _ ?_ (fun hHeld => ?_)
        · exact ⟨Loads.blk (P := Tryz.prog) (T := 3) hE TyS.out (.tail _ (List.mem_append_right _ (.head _))) rfl, Loads.blk (P := Tryz.prog) (T := 3) hE TyS.out (.tail _ (List.mem_append_right _ (.tail _ (.head _)))) rfl, Loads.blkA (P := Tryz.prog) (T := 83) (vs := [.int .i64 z.1, .int .i64 z.2]) hE (TyA.out (n := 2)) (.tail _ (List.mem_append_right _ (.head _))) (rfl), Loads.blk (P := Tryz.prog) (T := 24) hE TyS.out (.tail _ (List.mem_append_right _ (.tail _ (.tail _ (.tail _ (.head _)))))) rfl, Loads.blkA (P := Tryz.prog) (T := 32) (vs := bytesV S) hE ((by rw [HL.out.v]; exact TyA.out)) (.tail _ (List.mem_append_right _ (.tail _ (.tail _ (.head _))))) (ptr_sum _ _ _ _)⟩
        clear hK K
        (try simp only [pmL, pnL, sc0, sc1])
        refine wpAnyH_done (by kernel_rfl) ?_ _
        clear hHeld
        have hR2 := hR _ _ HR.out (St.keeps HST.out hE)
        have hY0 : cY w0 M gm ga x (bxP g3 g4 g5 gm but (ptrCells (.slice (some ⟨bb, off, none⟩) n c) b v S)) l but S N0 Xp ⟨k, m, u⟩ _ := ⟨by show k < _; omega, by show (l.getD k (0, 0)).1 ≠ but; rw [← HZ.out]; exact he, HG.out, X, HX.out, (by
          have h := sub_x (A := .rowP isB u _ 1 _ _ :: mP gm ga x _) (St.joinAll HST.out hE)
          unfold YV.B YV.next YV.pl
          dsimp only
          rw [← HZ.out]
          exact h)⟩
        obtain ⟨fn, tmps, assign, body, hy, hRR⟩ := hY _ _ hY0 hR2
        unfold cE YV.pl at hy
        dsimp only at hy
        rw [← HZ.out] at hy
        refine QT_intro ?_
        refine QLI_intro ?_
        gi_wp2
        refine hRR.mono ?_
        rintro e W3 (⟨rfl, ⟨s, hns, hI3⟩, hR3⟩ | ⟨rfl, hJ⟩)
        · gi_wp2
          refine QLI_intro ?_
          gi_wp2
          refine QLI_intro ?_
          gi_wp2
          go_roundw
          case rel =>
            refine ⟨k + 1, s.2, by go_num, ?_, hR3⟩
            unfold cN at hns
            subst hns
            exact hI3
          case measure => simp [intOf]; omega
        · gi_wp2
          refine QLI_intro ?_
          gi_wp2
          refine QLI_intro ?_
          gi_wp2
          refine bodyPost_ret (results_none rfl _ _ _) rfl ?_
          exact ⟨⟨_, rfl⟩, .inr hJ⟩
    · have d0 : decide ((k : Int) < (n : Int)) = false := decide_eq_false (by omega)
      gi_wp2
      go_end0
      exact ⟨⟨_, rfl⟩, .inl ⟨(k, m), by show k = l.length; have := hI1.1; have : k ≤ l.length := this; omega, hI1, hR1⟩⟩
end
end Go.Proofs.YtmdfbdfijnmhkaaGreat
namespace Go.Proofs.YtmdfbdfijnmhkaaGreat
set_option linter.unusedVariables false
set_option linter.unusedSimpArgs false
open Go.RowKit Hp
set_option maxHeartbeats 400000
theorem nothing_any (sv : Value) (b l : Int) (S : List UInt8) (w : World) (hS : L32 S) :
    Calls Tryz.prog 142 #[.agg (ptrCells sv b l S).toArray] w fun e w' => e = .returned (.bool (nothingB b l S)) ∧ St w [] w' [] := by
  go_enter Tryz.func142, Tryz.ntmps142
  have hst := St.refl w
  go_wp2_with (first | go_big_skip | go_big_guard | (refine wl_boxA hst rfl rfl rfl ?_; intro g w1 hst1; clear hst) | (refine wl_loadE rfl rfl rfl ?_; first | refine ⟨_, Loads.at [] hst1 rfl, ?_⟩ | refine ⟨_, Loads.atA (bytesV S) [] hst1 (hS.v) (ptr_sum _ _ _ _), ?_⟩) | (refine wl_build0 rfl rfl ?_) | (refine wl_eql_bytes rfl rfl rfl rfl (hS.two L32.nones) ?_))
  all_goals (go_ret; exact ⟨ret_bool (by simp [nothingB, *]), hst1.nil⟩)
theorem hole_any (ao : Option Addr) (n c : Nat) (b l : Int) (S : List UInt8) (w : World) (hS : L32 S) :
    Calls Tryz.prog 96 #[.agg (ptrCells (.slice ao n c) b l S).toArray] w fun e w' => e = .returned (.bool (holeB n b l S)) ∧ St w [] w' [] := by
  go_enter Tryz.func96, Tryz.ntmps96
  have hst := St.refl w
  go_wp2_with (first | go_big_skip | go_big_guard | (refine wl_boxA hst rfl rfl rfl ?_; intro g w1 hst1; clear hst) | (refine wl_loadE rfl rfl rfl ?_; first | refine ⟨_, Loads.at [] hst1 rfl, ?_⟩ | refine ⟨_, Loads.atA (ptrCells (.slice ao n c) b l S) [] hst1 (ptr_len hS _ _ _) (ptr_all _ _ _ _), ?_⟩) | (go_at_call 142; refine (nothing_any _ _ _ _ _ hS).mono ?_; rintro _ _ ⟨rfl, hcall⟩; replace hst1 := St.call0 hst1 hcall; clear hcall))
  all_goals (go_ret; exact ⟨ret_bool (by grind [holeB]), hst1.nil⟩)
end Go.Proofs.YtmdfbdfijnmhkaaGreat
namespace Go.Proofs.YtmdfbdfijnmhkaaGreat
set_option linter.unusedVariables false
set_option linter.unusedSimpArgs false
open Go.RowKit Hp
set_option maxHeartbeats 400000
theorem may_any (ao : Option Addr) (n c : Nat) (l : List (Int × Int)) (w : World) (hA : Rd w (.slice ao n c) 2 n (addrsV l)) (hn : l.length = n) :
    Calls Tryz.prog 141 #[.slice ao n c] w fun e w' => e = .returned (.bool (mayB l)) ∧ St w [] w' [] := by
  have hbd := hA.bd
  have hbd1 := hbd.1
  have hbd2 := hbd.2.1
  clear hbd
  have Hn := hid hn; clear hn
  go_enter Tryz.func141, Tryz.ntmps141
  have hst := St.refl w
  go_wp2_with (first | go_big_skip | go_big_guard | (refine wl_alloc hst rfl rfl ?_; intro g w1 hst1; clear hst))
  go_loopw [8] (fun i wr => ∃ k : Nat, k ≤ n ∧ i = .int .i64 k ∧ okP l k = true ∧ St w [] wr [.blk g 204 (seenV (l.take k))]) (fun i _ => n - (intOf i).toNat)
  case atStart => exact ⟨0, Nat.zero_le _, rfl, okP_zero l, hst1⟩
  case round =>
    obtain ⟨k, hk, rfl, hok, hst2⟩ := hrel
    clear hst1
    by_cases hlt : k < n
    · obtain ⟨b, off, rfl, hr⟩ := hA.at hlt
      obtain ⟨x, hx⟩ : ∃ x, x = l.getD k (0, 0) := ⟨_, rfl⟩
      have hb := addr_both hr (k := k) (by rw [Hn.out]; exact hlt)
      rw [← hx] at hb
      have Hx := hid hx; clear hx
      have Hok := hid hok; clear hok
      go_wp2_with (first | go_big_skip | go_big_guard | (refine wl_index rfl rfl rfl rfl (hlt) ?_) | (refine wl_loadE rfl rfl rfl ?_; first | refine ⟨_, Loads.oldA hst2 rfl (hb), ?_⟩) | (refine wl_alloc hst2 rfl rfl ?_; intro ga w3 hst3; clear hst2) | (refine wl_store [] hst3 rfl rfl rfl (v := .agg (List.toArray _)) rfl rfl rfl ?_ ?_; (exact Nat.le_refl _); intro w4 hst4; clear hst3; (simp [putAt] at hst4)) | (refine wl_store [_] hst4 rfl rfl rfl (v := .bool _) rfl rfl rfl ?_ ?_; ((rw [length_seenV]; show x.fst.toNat + 1 ≤ 8; omega)); intro w5 hst5; clear hst4; (skip)) | (refine wl_loadE rfl rfl rfl ?_; first | refine ⟨_, Loads.at [] hst4 rfl, ?_⟩ | refine ⟨_, Loads.at [_] hst4 (seenV_get _ (by omega)), ?_⟩))
      all_goals first
        | (go_ret; exact ⟨ret_bool (may_stop1 (by rw [Hn.out]; exact hlt) Hx.out (by omega)).symm, hst4.nil⟩)
        | (go_ret; exact ⟨ret_bool (may_stop2 (by rw [Hn.out]; exact hlt) Hx.out (by omega) (by assumption)).symm, hst4.nil⟩)
        | (have hgo := may_go (by rw [Hn.out]; exact hlt) Hx.out Hok.out (by omega) (by omega) (by omega) (by omega) (by assumption)
           go_roundw
           case rel => exact ⟨k + 1, by omega, by go_num, hgo.1, by rw [← hgo.2]; exact hst5.sub (List.sublist_append_right _ _)⟩
           case measure => simp [intOf]; omega)
        | skip
      go_goals
      go_ways
    · have hkn : k = n := by omega
      have hme := may_end (l := l) (k := k) (by rw [Hn.out]; omega) hok
      rw [Hn.out] at hme
      have Hm := hid hme; clear hme hok
      go_wp2_with (first | go_big_skip | go_big_guard | fail)
      all_goals (go_ret; exact ⟨ret_bool (by rw [Hm.out]; grind), hst2.nil⟩)
end Go.Proofs.YtmdfbdfijnmhkaaGreat
namespace Go.Proofs.YtmdfbdfijnmhkaaGreat
set_option linter.unusedVariables false
set_option linter.unusedSimpArgs false
open Go.RowKit Hp
set_option maxHeartbeats 400000
end Go.Proofs.YtmdfbdfijnmhkaaGreat
namespace Go.Proofs.YtmdfbdfijnmhkaaGreat
set_option linter.unusedVariables false
set_option linter.unusedSimpArgs false
open Go.RowKit Hp
set_option maxHeartbeats 400000
end Go.Proofs.YtmdfbdfijnmhkaaGreat
namespace Go.Proofs.YtmdfbdfijnmhkaaGreat
set_option linter.unusedVariables false
set_option linter.unusedSimpArgs false
open Go.RowKit Hp
set_option maxHeartbeats 400000
theorem check_any (ao : Option Addr) (n c : Nat) (l : List (Int × Int)) (b v : Int) (S : List UInt8) (w : World) (hS : L32 S) (hA : Rd w (.slice ao n c) 2 n (addrsV l)) (hn : l.length = n) :
    Calls Tryz.prog 95 #[.agg (ptrCells (.slice ao n c) b v S).toArray] w fun e w' => e = .returned (.int .i64 (checkE l b v S)) ∧ St w [] w' [] := by
  have Hn := hid hn; clear hn
  go_enter Tryz.func95, Tryz.ntmps95
  have hst := St.refl w
  go_wp2_with (first | go_big_skip | go_big_guard | (refine wl_boxA hst rfl rfl rfl ?_; intro g w1 hst1; clear hst) | (refine wl_loadE rfl rfl rfl ?_; first | refine ⟨_, Loads.at [] hst1 rfl, ?_⟩ | refine ⟨_, Loads.atA (ptrCells (.slice ao n c) b v S) [] hst1 (ptr_len hS _ _ _) (ptr_all _ _ _ _), ?_⟩) | (go_at_call 96; refine (hole_any _ _ _ _ _ _ _ hS).mono ?_; rintro _ _ ⟨rfl, hcall⟩; replace hst1 := St.call0 hst1 hcall; clear hcall) | (go_at_call 141; refine (may_any _ _ _ l _ (Rd.old hst1 hA) Hn.out).mono ?_; rintro _ _ ⟨rfl, hcall⟩; replace hst1 := St.call0 hst1 hcall; clear hcall))
  all_goals (go_ret; exact ⟨ret_int (by have := Hn.out; unfold checkE checkB; grind), hst1.nil⟩)
end Go.Proofs.YtmdfbdfijnmhkaaGreat
namespace Go.Proofs.YtmdfbdfijnmhkaaGreat
set_option linter.unusedVariables false
set_option linter.unusedSimpArgs false
open Go.RowKit Hp
set_option maxHeartbeats 400000
section
variable (ao ao' : Option Addr) (n c n' c' : Nat) (l r : List (Int × Int)) (b v b' v' : Int) (S S' : List UInt8) (w : World) (hS : L32 S) (hS' : L32 S')
  (hA : Rd w (.slice ao n c) 2 n (addrsV l)) (hn : l.length = n) (hB : Rd w (.slice ao' n' c') 2 n' (addrsV r)) (hn' : r.length = n')
include hS hS' hA hn hB hn'
end
end Go.Proofs.YtmdfbdfijnmhkaaGreat
namespace Go.Proofs.YtmdfbdfijnmhkaaGreat
set_option linter.unusedVariables false
set_option linter.unusedSimpArgs false
open Go.RowKit Hp
attribute [local irreducible] Go.Calls Go.wpList
set_option maxRecDepth 100000
set_option maxHeartbeats 4000000
theorem asked_odd {w : World} {gm ga : Nat} {x : GA} {m : MV} (h : MirAt w gm ga x m) (ao : Option Addr) (n c : Nat) (l : List (Int × Int)) (b v : Int) (S : List UInt8) (hL : L32 S) (hA : Rd w (.slice ao n c) 2 n (addrsV l)) (hn : l.length = n) (h1 : checkB l b v S = false) :
    Calls Tryz.prog 41 #[PM gm, .agg (ptrCells (.slice ao n c) b v S).toArray] w fun e w' => e = .returned (.int .i64 (m.askE ⟨.slice ao n c, l, b, v, S⟩)) ∧ St w [] w' [] := by
  have ha : m.askE ⟨.slice ao n c, l, b, v, S⟩ = 2 := by
    unfold MV.askE PV.ok PV.hole
    dsimp only
    rw [h1]
    rfl
  rw [ha]
  have hst := St.refl w
  have H := hid h
  have HL := hid hL
  have HA := hid hA
  have HN := hid hn
  have HC : Hid (checkE l b v S = 2) := hid (by unfold checkE; rw [h1]; rfl)
  clear h hL hA hn ha h1
  unfold PM
  go_enter Tryz.func41, Tryz.ntmps41
  go_wp2_with (first | go_big_skip | go_big_guard | (refine wl_boxA hst rfl rfl rfl ?_; intro g3 w1 hst1; clear hst) | (go_at_call 62; refine (mirNone_any (MirAt.later hst1 H.out)).mono ?_; rintro _ w2 ⟨rfl, h4⟩; replace hst1 := St.call0 hst1 h4; clear h4) | (refine wl_loadE rfl rfl rfl ?_; first | refine ⟨_, Loads.at (P := Tryz.prog) [] hst1 rfl, ?_⟩ | refine ⟨_, Loads.atA (P := Tryz.prog) (ptrCells (.slice ao n c) b v S) [] hst1 (ptr_len HL.out _ _ _) (ptr_all _ _ _ _), ?_⟩) | (go_at_call 95; have HD := check_any ao n c l b v S _ HL.out (Rd.old hst1 HA.out) HN.out; rw [HC.out] at HD; refine HD.mono ?_; clear HD; rintro _ w2 ⟨rfl, h4⟩; replace hst1 := St.call0 hst1 h4; clear h4))
  go_ret
  exact ⟨rfl, hst1.nil⟩
theorem asked_hole {w : World} {gm ga : Nat} {x : GA} {m : MV} (h : MirAt w gm ga x m) (ao : Option Addr) (n c : Nat) (l : List (Int × Int)) (b v : Int) (S : List UInt8) (hL : L32 S) (hA : Rd w (.slice ao n c) 2 n (addrsV l)) (hn : l.length = n) (h1 : checkB l b v S = true) (h2 : holeB n b v S = true) :
    Calls Tryz.prog 41 #[PM gm, .agg (ptrCells (.slice ao n c) b v S).toArray] w fun e w' => e = .returned (.int .i64 (m.askE ⟨.slice ao n c, l, b, v, S⟩)) ∧ St w [] w' [] := by
  have ha : m.askE ⟨.slice ao n c, l, b, v, S⟩ = 2 := by
    unfold MV.askE PV.ok PV.hole
    dsimp only
    rw [h1, hn, h2]
    rfl
  rw [ha]
  have hst := St.refl w
  have H := hid h
  have HL := hid hL
  have HA := hid hA
  have HN := hid hn
  have HC : Hid (checkE l b v S = 0) := hid (by unfold checkE; rw [h1]; rfl)
  have HH := hid h2
  clear h hL hA hn ha h1 h2
  unfold PM
  go_enter Tryz.func41, Tryz.ntmps41
  go_wp2_with (first | go_big_skip | go_big_guard | (refine wl_boxA hst rfl rfl rfl ?_; intro g3 w1 hst1; clear hst) | (go_at_call 62; refine (mirNone_any (MirAt.later hst1 H.out)).mono ?_; rintro _ w2 ⟨rfl, h4⟩; replace hst1 := St.call0 hst1 h4; clear h4) | (refine wl_loadE rfl rfl rfl ?_; first | refine ⟨_, Loads.at (P := Tryz.prog) [] hst1 rfl, ?_⟩ | refine ⟨_, Loads.atA (P := Tryz.prog) (ptrCells (.slice ao n c) b v S) [] hst1 (ptr_len HL.out _ _ _) (ptr_all _ _ _ _), ?_⟩) | (go_at_call 95; have HD := check_any ao n c l b v S _ HL.out (Rd.old hst1 HA.out) HN.out; rw [HC.out] at HD; refine HD.mono ?_; clear HD; rintro _ w2 ⟨rfl, h4⟩; replace hst1 := St.call0 hst1 h4; clear h4) | (go_at_call 96; refine (hole_any ao n c b v S _ HL.out).mono ?_; rw [HH.out]; rintro _ w3 ⟨rfl, h4⟩; replace hst1 := St.call0 hst1 h4; clear h4))
  go_ret
  exact ⟨rfl, hst1.nil⟩
theorem asked_off {w : World} {gm ga : Nat} {x : GA} {m : MV} (h : MirAt w gm ga x m) (ao : Option Addr) (n c : Nat) (l : List (Int × Int)) (b v : Int) (S : List UInt8) (hL : L32 S) (hA : Rd w (.slice ao n c) 2 n (addrsV l)) (hn : l.length = n) (h1 : checkB l b v S = true) (h2 : holeB n b v S = false) (h3 : m.lies l = false) :
    Calls Tryz.prog 41 #[PM gm, .agg (ptrCells (.slice ao n c) b v S).toArray] w fun e w' => e = .returned (.int .i64 (m.askE ⟨.slice ao n c, l, b, v, S⟩)) ∧ St w [] w' [] := by
  have ha : m.askE ⟨.slice ao n c, l, b, v, S⟩ = 2 := by
    unfold MV.askE PV.ok PV.hole
    dsimp only
    rw [h1, hn, h2, h3]
    rfl
  rw [ha]
  have hst := St.refl w
  have H := hid h
  have HL := hid hL
  have HA := hid hA
  have HN := hid hn
  have HC : Hid (checkE l b v S = 0) := hid (by unfold checkE; rw [h1]; rfl)
  have HH := hid h2
  have HS := hid h3
  clear h hL hA hn ha h1 h2 h3
  unfold PM
  go_enter Tryz.func41, Tryz.ntmps41
  go_wp2_with (first | go_big_skip | go_big_guard | (refine wl_boxA hst rfl rfl rfl ?_; intro g3 w1 hst1; clear hst) | (go_at_call 62; refine (mirNone_any (MirAt.later hst1 H.out)).mono ?_; rintro _ w2 ⟨rfl, h4⟩; replace hst1 := St.call0 hst1 h4; clear h4) | (refine wl_loadE rfl rfl rfl ?_; first | refine ⟨_, Loads.at (P := Tryz.prog) [] hst1 rfl, ?_⟩ | refine ⟨_, Loads.atA (P := Tryz.prog) (ptrCells (.slice ao n c) b v S) [] hst1 (ptr_len HL.out _ _ _) (ptr_all _ _ _ _), ?_⟩) | (go_at_call 95; have HD := check_any ao n c l b v S _ HL.out (Rd.old hst1 HA.out) HN.out; rw [HC.out] at HD; refine HD.mono ?_; clear HD; rintro _ w2 ⟨rfl, h4⟩; replace hst1 := St.call0 hst1 h4; clear h4) | (go_at_call 96; refine (hole_any ao n c b v S _ HL.out).mono ?_; rw [HH.out]; rintro _ w3 ⟨rfl, h4⟩; replace hst1 := St.call0 hst1 h4; clear h4) | (go_at_call 63; have HD := mirSectors_any (MirAt.later hst1 H.out) ao n c l (Rd.old hst1 HA.out) HN.out; rw [HS.out] at HD; refine HD.mono ?_; clear HD; rintro _ w3 ⟨rfl, h4⟩; replace hst1 := St.call0 hst1 h4; clear h4))
  go_ret
  exact ⟨rfl, hst1.nil⟩
theorem asked_ok {w : World} {gm ga : Nat} {x : GA} {m : MV} (h : MirAt w gm ga x m) (ao : Option Addr) (n c : Nat) (l : List (Int × Int)) (b v : Int) (S : List UInt8) (hL : L32 S) (hA : Rd w (.slice ao n c) 2 n (addrsV l)) (hn : l.length = n) (h1 : checkB l b v S = true) (h2 : holeB n b v S = false) (h3 : m.lies l = true) :
    Calls Tryz.prog 41 #[PM gm, .agg (ptrCells (.slice ao n c) b v S).toArray] w fun e w' => e = .returned (.int .i64 (m.askE ⟨.slice ao n c, l, b, v, S⟩)) ∧ St w [] w' [] := by
  have ha : m.askE ⟨.slice ao n c, l, b, v, S⟩ = 0 := by
    unfold MV.askE PV.ok PV.hole
    dsimp only
    rw [h1, hn, h2, h3]
    rfl
  rw [ha]
  have hst := St.refl w
  have H := hid h
  have HL := hid hL
  have HA := hid hA
  have HN := hid hn
  have HC : Hid (checkE l b v S = 0) := hid (by unfold checkE; rw [h1]; rfl)
  have HH := hid h2
  have HS := hid h3
  clear h hL hA hn ha h1 h2 h3
  unfold PM
  go_enter Tryz.func41, Tryz.ntmps41
  go_wp2_with (first | go_big_skip | go_big_guard | (refine wl_boxA hst rfl rfl rfl ?_; intro g3 w1 hst1; clear hst) | (go_at_call 62; refine (mirNone_any (MirAt.later hst1 H.out)).mono ?_; rintro _ w2 ⟨rfl, h4⟩; replace hst1 := St.call0 hst1 h4; clear h4) | (refine wl_loadE rfl rfl rfl ?_; first | refine ⟨_, Loads.at (P := Tryz.prog) [] hst1 rfl, ?_⟩ | refine ⟨_, Loads.atA (P := Tryz.prog) (ptrCells (.slice ao n c) b v S) [] hst1 (ptr_len HL.out _ _ _) (ptr_all _ _ _ _), ?_⟩) | (go_at_call 95; have HD := check_any ao n c l b v S _ HL.out (Rd.old hst1 HA.out) HN.out; rw [HC.out] at HD; refine HD.mono ?_; clear HD; rintro _ w2 ⟨rfl, h4⟩; replace hst1 := St.call0 hst1 h4; clear h4) | (go_at_call 96; refine (hole_any ao n c b v S _ HL.out).mono ?_; rw [HH.out]; rintro _ w3 ⟨rfl, h4⟩; replace hst1 := St.call0 hst1 h4; clear h4) | (go_at_call 63; have HD := mirSectors_any (MirAt.later hst1 H.out) ao n c l (Rd.old hst1 HA.out) HN.out; rw [HS.out] at HD; refine HD.mono ?_; clear HD; rintro _ w3 ⟨rfl, h4⟩; replace hst1 := St.call0 hst1 h4; clear h4))
  go_ret
  exact ⟨rfl, hst1.nil⟩
theorem asked_any {w : World} {gm ga : Nat} {x : GA} {m : MV} (h : MirAt w gm ga x m) (ao : Option Addr) (n c : Nat) (l : List (Int × Int)) (b v : Int) (S : List UInt8) (hL : L32 S) (hA : Rd w (.slice ao n c) 2 n (addrsV l)) (hn : l.length = n) :
    Calls Tryz.prog 41 #[PM gm, .agg (ptrCells (.slice ao n c) b v S).toArray] w fun e w' => e = .returned (.int .i64 (m.askE ⟨.slice ao n c, l, b, v, S⟩)) ∧ St w [] w' [] := by
  cases h1 : checkB l b v S
  · exact asked_odd h ao n c l b v S hL hA hn h1
  cases h2 : holeB n b v S
  · cases h3 : m.lies l
    · exact asked_off h ao n c l b v S hL hA hn h1 h2 h3
    · exact asked_ok h ao n c l b v S hL hA hn h1 h2 h3
  · exact asked_hole h ao n c l b v S hL hA hn h1 h2
end Go.Proofs.YtmdfbdfijnmhkaaGreat
namespace Go.Proofs.YtmdfbdfijnmhkaaGreat
set_option linter.unusedVariables false
set_option linter.unusedSimpArgs false
open Go.RowKit Hp
attribute [local irreducible] Go.Calls Go.wpList
set_option maxRecDepth 100000
set_option maxHeartbeats 8000000
theorem drop_getD {l : List (Int × Int)} {k : Nat} (h : k < l.length) : l.drop k = l.getD k (0, 0) :: l.drop (k + 1) := by
  rw [List.drop_eq_getElem_cons h, List.getD_eq_getElem?_getD, List.getElem?_eq_getElem h]
  rfl
theorem results_cell3 {P : Program} {fn : Func} {p q r : Tmp} {T U V : TypeId} {tmps : Array Value} {w : World} {A B C : Addr} {v u z : Value} (h : fn.results = #[.cell p T, .cell q U, .cell r V]) (hp : tmps.getD p undef = .pointer (some A)) (hq : tmps.getD q undef = .pointer (some B)) (hr : tmps.getD r undef = .pointer (some C))
    (hl : Loads P w T A v) (hk : Loads P w U B u) (hj : Loads P w V C z) : (results fn tmps).run P w = .ok (.tuple #[v, u, z]) w := by
  have hl' : (loadVar T A).run P w = .ok v w := hl
  have hk' : (loadVar U B).run P w = .ok u w := hk
  have hj' : (loadVar V C).run P w = .ok z w := hj
  have hp' : tmps[p]?.getD undef = .pointer (some A) := by simpa using hp
  have hq' : tmps[q]?.getD undef = .pointer (some B) := by simpa using hq
  have hr' : tmps[r]?.getD undef = .pointer (some C) := by simpa using hr
  simp [results, h, hp', hq', hr', asAddr, hl', hk', hj', Sem.run_bind]
def fX (g9 g8 g7 g6 g4 : Nat) (pc : List Value) (R : List HA) (wv : Value) (ill : List (Int × Int)) : List HA :=
  .row wv 83 2 ill.length (addrsV ill) :: .blk g9 30 [wv] :: .blk g8 37 [.int .i64 0] :: .blk g7 30 [.slice none 0 0] :: .blk g6 28 [.slice none 0 0] :: .blk g4 34 pc :: R
def fXp (g9 g8 g7 g6 g4 : Nat) (pc : List Value) (R : List HA) (S : List UInt8) (but : Int) (l : List (Int × Int)) (F : FR) (k : Nat) (m : MV) (X : List HA) : Prop :=
  ∃ wv ill, ill.length ≤ k ∧ F = found S but m (l.drop k) ill ∧ X = fX g9 g8 g7 g6 g4 pc R wv ill
def fEnd (w0 : World) (M : List Nat) (gm ga : Nat) (x : GA) (g8 g7 g6 : Nat) (R : List HA) (F : FR) (W : World) : Prop :=
  ∃ u iv, St w0 M W (.blk g8 37 [.int .i64 F.er] :: .blk g7 30 [iv] :: .blk g6 28 [u] :: .rowP isB u 5 1 F.b.length (bytesV F.b) :: .row iv 83 2 F.ill.length (addrsV F.ill) :: (mP gm ga x F.m ++ R))
def fIx (w0 : World) (M : List Nat) (gm ga : Nat) (x : GA) (g8 g7 g6 : Nat) (R : List HA) (F : FR) (c : Code) (W : World) : Prop := c = .ret ∧ fEnd w0 M gm ga x g8 g7 g6 R F W
def fB (w0 : World) (M : List Nat) (gm ga : Nat) (x : GA) (bx : List HA) (l : List (Int × Int)) (but : Int) (S : List UInt8) (N0 : Nat) (Xp : Nat → MV → List HA → Prop) (A : Act) (y : YV) (a' : Act) (W : World) : Prop :=
  ∃ g10 g11, a' = { tmps := (((A.tmps.setIfInBounds 16 (cE l S y).1).setIfInBounds 17 (cE l S y).2).setIfInBounds 10 (.pointer (some ⟨g10, 0, none⟩))).setIfInBounds 11 (.pointer (some ⟨g11, 0, none⟩)), defers := [] } ∧
    y.k < l.length ∧ (y.pl l).1 ≠ but ∧ MGood y.m (N0 + y.k) ∧ ∃ X, Xp y.k y.m X ∧
    St w0 M W (.blk g11 128 [.int .i64 (y.m.kind (y.pl l).1 (y.pl l).2 S), y.v] :: .blk g10 83 [.int .i64 (y.pl l).1, .int .i64 (y.pl l).2] :: .rowP isB y.v 5 1 (y.B l S).length (bytesV (y.B l S)) :: (mP gm ga x (y.next l S) ++ (bx ++ X)))
theorem pull4 {α : Type} (A P B Y R : List α) : (A ++ (P ++ (B ++ (Y ++ R)))).Perm (Y ++ (A ++ (P ++ (B ++ R)))) := by
  have e1 : A ++ (P ++ (B ++ (Y ++ R))) = (A ++ P ++ B) ++ (Y ++ R) := by simp [List.append_assoc]
  have e2 : Y ++ (A ++ (P ++ (B ++ R))) = Y ++ ((A ++ P ++ B) ++ R) := by simp [List.append_assoc]
  rw [e1, e2]
  exact List.perm_append_comm_assoc _ _ _
theorem kind_ways (m : MV) (dev pl : Int) (S : List UInt8) : m.kind dev pl S = 0 ∨ m.kind dev pl S = 1 ∨ m.kind dev pl S = 2 ∨ m.kind dev pl S = 3 := by
  unfold MV.kind
  split
  · exact .inr (.inr (.inr rfl))
  · split
    · exact .inr (.inr (.inl rfl))
    · split
      · exact .inl rfl
      · exact .inr (.inl rfl)
theorem found_cons {S : List UInt8} {but : Int} {m : MV} {l : List (Int × Int)} {k : Nat} {ill : List (Int × Int)} (hk : k < l.length) (hb : (l.getD k (0, 0)).1 ≠ but) :
    found S but m (l.drop k) ill = (if m.kind (l.getD k (0, 0)).1 (l.getD k (0, 0)).2 S = 0 then ⟨0, m.lookB (l.getD k (0, 0)).1 (l.getD k (0, 0)).2 S, ill, m.looked (l.getD k (0, 0)).1 (l.getD k (0, 0)).2 S⟩
    else if m.kind (l.getD k (0, 0)).1 (l.getD k (0, 0)).2 S = 1 then found S but (m.looked (l.getD k (0, 0)).1 (l.getD k (0, 0)).2 S) (l.drop (k + 1)) (ill ++ [l.getD k (0, 0)])
    else if m.kind (l.getD k (0, 0)).1 (l.getD k (0, 0)).2 S = 3 then ⟨10, [], [], m.looked (l.getD k (0, 0)).1 (l.getD k (0, 0)).2 S⟩
    else found S but (m.looked (l.getD k (0, 0)).1 (l.getD k (0, 0)).2 S) (l.drop (k + 1)) ill) := by
  rw [drop_getD hk]
  conv => lhs; unfold found
  rw [if_neg hb]
theorem addrsV_snoc (l : List (Int × Int)) (z : Int × Int) : addrsV (l ++ [z]) = addrsV l ++ [.int .i64 z.1, .int .i64 z.2] := by
  induction l with
  | nil => rfl
  | cons y l ih => simp [addrsV, ih]
theorem f_end {w0 w : World} {M : List Nat} {row q9 q8 q7 q6 q4 q11 q10 rp : HA} {P B R : List HA} (h : St w0 M w (row :: q9 :: q8 :: q7 :: q6 :: q4 :: q11 :: q10 :: rp :: (P ++ (B ++ R)))) : St w0 M w (q8 :: q7 :: q6 :: rp :: row :: (P ++ R)) := by
  have h1 : St w0 M w (row :: q8 :: q7 :: q6 :: rp :: (P ++ R)) := St.sub h (.cons_cons _ (.cons _ (.cons_cons _ (.cons_cons _ (.cons_cons _ (.cons _ (.cons _ (.cons _ (.cons_cons _ (List.Sublist.append_left (List.sublist_append_right _ _) _))))))))))
  exact St.perm h1 (List.perm_middle (l₁ := [q8, q7, q6, rp])).symm
theorem f_end0 {w0 w : World} {M : List Nat} {row q9 q8 q7 q6 q4 : HA} {P B R T : List HA} (h : St w0 M w (row :: q9 :: q8 :: q7 :: q6 :: q4 :: (T ++ (P ++ (B ++ R))))) : St w0 M w (q8 :: q7 :: q6 :: .rowP isB (.slice none 0 0) 5 1 0 [] :: .row (.slice none 0 0) 83 2 0 [] :: (P ++ R)) := by
  have h1 : St w0 M w ([q8, q7, q6] ++ (P ++ R)) := St.sub h (.cons _ (.cons _ (.cons_cons _ (.cons_cons _ (.cons_cons _ (.cons _ (show (P ++ R).Sublist (T ++ (P ++ (B ++ R))) from (List.Sublist.append_left (List.sublist_append_right B R) P).trans (List.sublist_append_right T _))))))))
  have h2 := St.nilPQ isB 5 1 (St.nilRow 83 2 h1)
  exact St.perm h2 (List.perm_append_comm_assoc [_, _] [q8, q7, q6] (P ++ R))
theorem f_back {w0 w : World} {M : List Nat} {row q9 q8 q7 q6 q4 : HA} {P B R T : List HA} (h : St w0 M w (row :: q9 :: q8 :: q7 :: q6 :: q4 :: (T ++ (P ++ (B ++ R))))) : St w0 M w (P ++ (B ++ (row :: q9 :: q8 :: q7 :: q6 :: q4 :: R))) := by
  have h1 : St w0 M w ([row, q9, q8, q7, q6, q4] ++ ([] ++ (P ++ (B ++ R)))) := St.sub h (.cons_cons _ (.cons_cons _ (.cons_cons _ (.cons_cons _ (.cons_cons _ (.cons_cons _ (List.sublist_append_right _ _)))))))
  exact St.perm h1 (pull4 [] P B [row, q9, q8, q7, q6, q4] R).symm
theorem St.tl {w0 w : World} {M : List Nat} {p : HA} {T : List HA} (h : St w0 M w (p :: T)) : St w0 M w T := St.sub h (List.sublist_cons_self _ _)
theorem loadedBs8 (A : Addr) : loadVar 28 A = loadVarH 28 A := rfl
theorem loadedAs8 (A : Addr) : loadVar 30 A = loadVarH 30 A := rfl
section
attribute [local go_sem ↓] loadedBs8 loadedAs8
attribute [local go_sem] Oper.semAt_some
theorem found_any {w0 w : World} {M : List Nat} {R : List HA} {gm ga : Nat} {x : GA} {m : MV} {N : Nat} (hS : St w0 M w (mP gm ga x m ++ R)) (hg : MGood m N) (ao : Option Addr) (n c : Nat) (l : List (Int × Int)) (b v : Int) (S : List UInt8) (hL : L32 S) (hn : l.length = n) (hA : ∀ w, St w0 M w R → Rd w (.slice ao n c) 2 n (addrsV l)) (hN : N + n ≤ 900000) (but : Int) :
    Calls Tryz.prog 43 #[PM gm, .agg (ptrCells (.slice ao n c) b v S).toArray, .int .i64 but] w fun e w' => ∃ u iv, e = .returned (.tuple #[u, iv, .int .i64 (found S but m l []).er]) ∧
      St w0 M w' (.rowP isB u 5 1 (found S but m l []).b.length (bytesV (found S but m l []).b) :: .row iv 83 2 (found S but m l []).ill.length (addrsV (found S but m l []).ill) :: (mP gm ga x (found S but m l []).m ++ R)) := by
  have hst := hS
  have HG := hid hg
  have HL := hid hL
  have Hn := hid hn
  have HA := hid hA
  obtain ⟨F, hF⟩ : ∃ F, F = found S but m l [] := ⟨_, rfl⟩
  rw [← hF]
  have HF := hid hF
  clear hS hg hL hn hA hF
  refine (callsIn_wide (n := 5)).1 ?_
  refine callsIn_of_wp_marks Tryz.func43 rfl trivial ?_ rfl
  simp only [PM, Tryz.ntmps43, List.size_toArray, List.length_cons, List.length_nil, Nat.reduceAdd, Nat.reduceSub, Array.replicate_succ, Array.replicate_zero, List.push_toArray, List.append_toArray, List.nil_append, List.cons_append]
  refine wpIn_wide.2 ?_
  go_wp2_with (first | go_big_skip | go_big_guard | (refine wl_boxA hst rfl rfl rfl ?_; intro g4 w1 hst1; clear hst) | (refine wl_alloc (T := 28) hst1 rfl rfl ?_; intro g6 w2 hst2; clear hst1) | (refine wl_alloc (T := 30) hst2 rfl rfl ?_; intro g7 w3 hst3; clear hst2) | (refine wl_alloc (T := 37) hst3 rfl rfl ?_; intro g8 w4 hst4; clear hst3) | (refine wl_alloc (T := 30) hst4 rfl rfl ?_; intro g9 w5 hst5; clear hst4) | (refine wl_loadE rfl rfl rfl ?_; refine ⟨_, Loads.atA (P := Tryz.prog) (ptrCells (.slice ao n c) b v S) [_, _, _, _] hst5 (ptr_len HL.out _ _ _) (ptr_all _ _ _ _), ?_⟩) | (go_at_call 68; refine (copies_any hst5 gm but ao n c b v S).mono ?_; rintro _ w6 ⟨q3, q4, q5, rfl, h4⟩; have hst6 := h4; clear h4 hst5))
  have hst7 : St w0 M w6 (mP gm ga x m ++ (bxP q3 q4 q5 gm but (ptrCells (.slice ao n c) b v S) ++ fX g9 g8 g7 g6 g4 (ptrCells (.slice ao n c) b v S) R (.slice none 0 0) [])) := by
    have h1 := St.nilRow 83 2 hst6
    have h2 : St w0 M w6 ((bxP q3 q4 q5 gm but (ptrCells (.slice ao n c) b v S)) ++ (.row (.slice none 0 0) 83 2 0 [] :: (.blk g9 30 [.slice none 0 0] :: .blk g8 37 [.int .i64 0] :: .blk g7 30 [.slice none 0 0] :: .blk g6 28 [.slice none 0 0] :: .blk g4 34 (ptrCells (.slice ao n c) b v S) :: (mP gm ga x m ++ R)))) := St.behind (A := bxP q3 q4 q5 gm but (ptrCells (.slice ao n c) b v S)) h1
    refine St.perm h2 ?_
    exact List.perm_append_comm_assoc (bxP q3 q4 q5 gm but (ptrCells (.slice ao n c) b v S) ++ [.row (.slice none 0 0) 83 2 0 [], .blk g9 30 [.slice none 0 0], .blk g8 37 [.int .i64 0], .blk g7 30 [.slice none 0 0], .blk g6 28 [.slice none 0 0], .blk g4 34 (ptrCells (.slice ao n c) b v S)]) (mP gm ga x m) R
  clear hst6
  have HSZ := hid hst7.size
  have hI0 : cI w0 M gm ga x (bxP q3 q4 q5 gm but (ptrCells (.slice ao n c) b v S)) l N (fXp g9 g8 g7 g6 g4 (ptrCells (.slice ao n c) b v S) R S but l F) (0, m) w6 := ⟨Nat.zero_le _, HG.out, _, ⟨_, [], Nat.zero_le _, HF.out, rfl⟩, hst7⟩
  clear hst7
  refine wp_rangeM 16 17 (gf := 117) rfl (enters_of Tryz.func117 (by kernel_rfl) rfl) (enc := fun y => cE l S y) _ _ (fB w0 M gm ga x (bxP q3 q4 q5 gm but (ptrCells (.slice ao n c) b v S)) l but S N (fXp g9 g8 g7 g6 g4 (ptrCells (.slice ao n c) b v S) R S but l F)) (fIx w0 M gm ga x g8 g7 g6 R F) _ _ _
    (copies1_seq l ao n c b v S but N m HL.out Hn.out hN (fXp g9 g8 g7 g6 g4 (ptrCells (.slice ao n c) b v S) R S but l F) ?rd ?skip) ?ownI ?ownB ?ownX hI0 ?assign ?body ?done ?stop
  case rd =>
    rintro k m X W ⟨wv, ill, _, _, rfl⟩ hst
    exact HA.out W (St.sub hst ((List.Sublist.refl _).cons _ |>.cons _ |>.cons _ |>.cons _ |>.cons _ |>.cons _))
  case skip =>
    rintro k m X hk he ⟨wv, ill, hl, hf, rfl⟩
    refine ⟨wv, ill, by omega, ?_, rfl⟩
    rw [hf, drop_getD (by rw [Hn.out]; exact hk)]
    conv => lhs; unfold found
    rw [if_pos he]
  case ownI =>
    rintro s A B row ⟨h1, h2, X, hX, hst⟩ hg hr
    exact ⟨h1, h2, X, hX, St.ownFrom HSZ.out hst hg hr⟩
  case ownB =>
    rintro y a' _ A B row ⟨g10, g11, h0, h1, h2, h3, X, hX, hst⟩ hg hr
    exact ⟨g10, g11, h0, h1, h2, h3, X, hX, St.ownFrom HSZ.out hst hg hr⟩
  case ownX =>
    rintro cc A B row ⟨h1, u, iv, hst⟩ hg hr
    exact ⟨h1, u, iv, St.ownFrom HSZ.out hst hg hr⟩
  case assign =>
    rintro lq y W K ⟨h1, h2, h3, X, hX, hst⟩ hK
    have hs := hst.selfM
    have HK := hid hK
    have HX := hid hX
    have HST := hid hst
    clear hK hX hst hI0
    obtain ⟨V1, hV1⟩ : ∃ V1, V1 = cE l S y := ⟨_, rfl⟩
    have e1 : V1.1 = .agg (List.toArray [.int .i64 (y.pl l).1, .int .i64 (y.pl l).2]) := by rw [hV1]; rfl
    have e2 : V1.2 = .agg (List.toArray [.int .i64 (y.m.kind (y.pl l).1 (y.pl l).2 S), y.v]) := by rw [hV1]; rfl
    have HV1 := hid hV1
    rw [← hV1]
    clear hV1
    obtain ⟨v1, hv1⟩ : ∃ v1, v1 = V1.1 := ⟨_, rfl⟩
    obtain ⟨v2, hv2⟩ : ∃ v2, v2 = V1.2 := ⟨_, rfl⟩
    rw [← hv1, ← hv2]
    have E1 := hid (hv1.trans e1)
    have E2 := hid (hv2.trans e2)
    have HV2 := hid (show V1 = (v1, v2) by rw [hv1, hv2])
    clear e1 e2 hv1 hv2
    have hone : Hid (y.v.oneCell' = true ∧ y.v.cells.size = 1) := hid (by
      obtain ⟨ua, uc, hu⟩ := St.rowPSlice [] HST.out
      rw [hu]
      exact ⟨rfl, rfl⟩)
    simp only [List.setIfInBounds_toArray, List.set_cons_zero, List.set_cons_succ]
    gi_upto_region 3 with (fail)
    apply wpIn_region_lit
    refine list_round rfl ?_
    go_wp2_with (first | go_big_skip | go_big_guard | (refine wl_alloc (T := 83) hs rfl rfl ?_; intro g10 w1 hs1; clear hs) | (refine wl_storeA [] hs1 rfl rfl rfl E1.out rfl rfl rfl ?_; intro w2 hs2; clear hs1))
    refine QT_intro ?_
    gi_upto_region 4 with (fail)
    apply wpIn_region_lit
    refine list_round rfl ?_
    go_wp2_with (first | go_big_skip | go_big_guard | (refine wl_alloc (T := 128) hs2 rfl rfl ?_; intro g11 w3 hs3; clear hs2) | (refine wl_storeA [] hs3 rfl rfl rfl E2.out rfl (by simp [List.all, hone.out.1]; rfl) rfl ?_; intro w4 hs4; clear hs3))
    refine QT_intro ?_
    gi_wp2
    refine HK.out _ _ (St.keeps HST.out hs4) ⟨g10, g11, ?_, h1, h2, h3, X, HX.out, St.joinAll HST.out hs4⟩
    rw [← HV1.out, HV2.out]
    simp only [List.setIfInBounds_toArray, List.set_cons_zero, List.set_cons_succ]
  case body =>
    rintro lq ⟨yk, ym, yv⟩ a' W ⟨g10, g11, rfl, h1, h2, h3, X, ⟨wv, ill, hil, hf, rfl⟩, hst⟩
    unfold YV.pl at h2
    dsimp only at h1 h2 h3 hil hf
    have hfc := found_cons (S := S) (m := ym) (ill := ill) h1 h2
    obtain ⟨z, hz⟩ : ∃ z, z = l.getD yk (0, 0) := ⟨_, rfl⟩
    rw [← hz] at hfc
    have HZ := hid hz
    have HKL := hid h1
    have HH2 := hid h2
    have HST := hid hst
    have HIL := hid hil
    have HNX := hid (h3.looked z.1 z.2 S)
    have HFF := hid hf
    obtain ⟨V1, hV1⟩ : ∃ V1, V1 = cE l S ⟨yk, ym, yv⟩ := ⟨_, rfl⟩
    rw [← hV1]
    have hs := St.perm hst.selfM (pull4 [_, _, _] (mP gm ga x _) (bxP q3 q4 q5 gm but (ptrCells (.slice ao n c) b v S)) (fX g9 g8 g7 g6 g4 (ptrCells (.slice ao n c) b v S) [] wv ill) R)
    change St W _ W (.row wv 83 2 ill.length (addrsV ill) :: .blk g9 30 [wv] :: .blk g8 37 [.int .i64 0] :: .blk g7 30 [.slice none 0 0] :: .blk g6 28 [.slice none 0 0] :: .blk g4 34 (ptrCells (.slice ao n c) b v S) :: (.blk g11 128 [.int .i64 (ym.kind (l.getD yk (0, 0)).1 (l.getD yk (0, 0)).2 S), yv] :: .blk g10 83 [.int .i64 (l.getD yk (0, 0)).1, .int .i64 (l.getD yk (0, 0)).2] :: .rowP isB yv 5 1 (ym.lookB (l.getD yk (0, 0)).1 (l.getD yk (0, 0)).2 S).length (bytesV (ym.lookB (l.getD yk (0, 0)).1 (l.getD yk (0, 0)).2 S)) :: (mP gm ga x (ym.looked (l.getD yk (0, 0)).1 (l.getD yk (0, 0)).2 S) ++ (bxP q3 q4 q5 gm but (ptrCells (.slice ao n c) b v S) ++ R)))) at hs
    rw [← hz] at hs
    have c11 : W.cell? ⟨g11, 0, none⟩ = some (.int .i64 (ym.kind z.1 z.2 S)) := hs.cell (T := 128) (cs := [.int .i64 (ym.kind z.1 z.2 S), yv]) (.tail _ (.tail _ (.tail _ (.tail _ (.tail _ (.tail _ (.head _))))))) rfl
    clear hz h1 h2 h3 hil hf hst hV1 hI0
    simp only [List.setIfInBounds_toArray, List.set_cons_zero, List.set_cons_succ]
    obtain ⟨ua, uc, rfl⟩ := St.rowPSlice [_, _, _, _, _, _, _, _] hs
    obtain ⟨wa, wc, rfl⟩ := St.rowSliceAt [] hs
    rcases kind_ways ym z.1 z.2 S with hk | hk | hk | hk
    · rw [hk] at hs c11
      have HFE := hid (HFF.out.trans (hfc.trans (if_pos hk)))
      clear hfc hk
      gi_upto_region 7 with (fail)
      have hX := hs.drew
      clear hs
      refine region_round (S := (fun w' => (loadVarH 28 ⟨g11, 1, none⟩).run Tryz.prog w' = .ok (.slice ua (ym.lookB z.1 z.2 S).length uc) w' ∧ (loadVarH 30 ⟨g9, 0, none⟩).run Tryz.prog w' = .ok (.slice wa ill.length wc) w')) (by kernel_rfl) rfl (by exact ⟨Loads.at (P := Tryz.prog) [_, _, _, _, _, _] hX rfl, Loads.at (P := Tryz.prog) [_] hX rfl⟩) (fun hHeld => ?_)
      refine tkH 0 22 ?_ rfl (by kernel_rfl) (fun _ _ _ h => h) (by rfl) (by assumption) ?_ ?_
      rotate_left
      · intro w hSw; (try dsimp only at hSw); go_simp; try with_reducible rfl
      (try simp only [pmL, pnL, sc0, sc1])
      refine tkH 2 24 ?_ rfl (by kernel_rfl) (fun _ _ _ h => h) (by rfl) (by assumption) ?_ ?_
      rotate_left
      · intro w hSw; (try dsimp only at hSw); go_simp; try with_reducible rfl
      (try simp only [pmL, pnL, sc0, sc1])
      refine tkH 1 23 ?_ rfl (by kernel_rfl) (fun _ _ _ h => h) (by rfl) (by assumption) ?_ ?_
      rotate_left
      · intro w hSw; (try dsimp only at hSw); go_simp; try with_reducible rfl
      (try simp only [pmL, pnL, sc0, sc1])
      refine wpAnyH_ready (rs := [3]) (by kernel_rfl) (by simp) ?_
      refine (AllReadyH.cons (o := ⟨none, _, _, _, _, _⟩) rfl (fun K hK => ?_) AllReadyH.nil)
      rw [if_pos (by rfl)]
      refine ow_of_wl (ops := #[]) (by rfl) ?_
      refine wl_store [_, _, _, _] hX rfl rfl rfl (v := .slice _ _ _) rfl rfl rfl ?_ ?_
      · exact Nat.le_refl _
      intro whA1 hA1
      refine q0_nil ?_
      refine hK.out _ _ ?_ (fun hHeld => ?_)
      · exact ⟨Loads.at (P := Tryz.prog) [_, _, _, _, _, _] hA1 rfl, Loads.at (P := Tryz.prog) [_] hA1 rfl⟩
      clear hK K
      (try simp only [pmL, pnL, sc0, sc1])
      refine wpAnyH_ready (rs := [4]) (by kernel_rfl) (by simp) ?_
      refine (AllReadyH.cons (o := ⟨none, _, _, _, _, _⟩) rfl (fun K hK => ?_) AllReadyH.nil)
      rw [if_pos (by rfl)]
      refine ow_of_wl (ops := #[]) (by rfl) ?_
      refine wl_store [_, _, _] hA1 rfl rfl rfl (v := .slice _ _ _) rfl rfl rfl ?_ ?_
      · exact Nat.le_refl _
      intro whA2 hA2
      refine q0_nil ?_
      refine hK.out _ _ ?_ (fun hHeld => ?_)
      · exact ⟨Loads.at (P := Tryz.prog) [_, _, _, _, _, _] hA2 rfl, Loads.at (P := Tryz.prog) [_] hA2 rfl⟩
      clear hK K
      (try simp only [pmL, pnL, sc0, sc1])
      refine wpAnyH_ready (rs := [5]) (by kernel_rfl) (by simp) ?_
      refine (AllReadyH.cons (o := ⟨none, _, _, _, _, _⟩) rfl (fun K hK => ?_) AllReadyH.nil)
      rw [if_pos (by rfl)]
      refine ow_of_wl (ops := #[]) (by rfl) ?_
      refine wl_store [_, _] hA2 rfl rfl rfl (v := .int _ _) rfl rfl rfl ?_ ?_
      · exact Nat.le_refl _
      intro whA3 hA3
      refine q0_nil ?_
      refine hK.out _ _ ?_ (fun hHeld => ?_)
      · exact ⟨Loads.at (P := Tryz.prog) [_, _, _, _, _, _] hA3 rfl, Loads.at (P := Tryz.prog) [_] hA3 rfl⟩
      clear hK K
      (try simp only [pmL, pnL, sc0, sc1])
      refine wpAnyH_done (by kernel_rfl) ?_ _
      clear hHeld
      refine QT_intro ?_
      gi_wp2
      exact ⟨St.keeps HST.out hA3, rfl, .slice ua (ym.lookB z.1 z.2 S).length uc, .slice wa ill.length wc, by rw [HFE.out]; exact f_end (St.joinAll HST.out hA3)⟩
    · rw [hk] at hs c11
      have HFE := hid (HFF.out.trans (hfc.trans ((if_neg (by rw [hk]; decide)).trans (if_pos hk))))
      clear hfc hk
      gi_upto_region 9 with (fail)
      apply wpIn_region_lit
      refine list_round rfl ?_
      go_wp2_with (first | go_big_skip | go_big_guard | (refine wl_loadE rfl rfl rfl ?_; first | refine ⟨_, Loads.at (P := Tryz.prog) [_] hs rfl, ?_⟩ | refine ⟨_, Loads.atA (P := Tryz.prog) [.int .i64 z.1, .int .i64 z.2] [_, _, _, _, _, _, _] hs rfl rfl, ?_⟩) | (apply wl_bsX [.agg (List.toArray [.int .i64 z.1, .int .i64 z.2])] [.int .i64 z.1, .int .i64 z.2] hs; rfl; rfl; exact rfl; exact rfl; infer_instance; infer_instance; rfl; rfl; rfl; intro g12 w2 hs2; clear hs) | (apply wl_appX [_] hs2; rfl; rfl; exact rfl; exact rfl; infer_instance; infer_instance; infer_instance; exact (Rd.blk0 hs2 rfl (by decide)); exact rfl; (have := HIL.out; have := HKL.out; have := Hn.out; unfold maxLen; omega); intro v1 w3 hs3 _; clear hs2; obtain ⟨a4, c4, rfl⟩ := St.rowSliceAt [_] hs3) | (refine wl_store [_, _] hs3 rfl rfl rfl (v := .slice _ _ _) rfl rfl rfl ?_ ?_; (exact Nat.le_refl _); intro w4 hs4; clear hs3))
      refine QT_intro ?_
      gi_wp2
      refine ⟨St.keeps HST.out hs4, (yk + 1, ym.looked z.1 z.2 S), by unfold cN YV.next YV.pl; dsimp only; rw [← HZ.out], by show yk + 1 ≤ _; have := HKL.out; omega, HNX.out, _, ⟨.slice a4 (ill.length + 1) c4, ill ++ [z], by rw [List.length_append]; have := HIL.out; exact Nat.succ_le_succ this, HFE.out.trans (by rw [HZ.out]), rfl⟩, ?_⟩
      have h8 := St.joinAll HST.out hs4
      have h9 := f_back (T := [_, _, _]) (P := mP gm ga x (ym.looked z.1 z.2 S)) (B := bxP q3 q4 q5 gm but (ptrCells (.slice ao n c) b v S)) (R := R) (St.tl h8)
      unfold fX
      rw [addrsV_snoc, List.length_append]
      exact h9
    · rw [hk] at hs c11
      have HFE := hid (HFF.out.trans (hfc.trans ((if_neg (by rw [hk]; decide)).trans ((if_neg (by rw [hk]; decide)).trans (if_neg (by rw [hk]; decide))))))
      clear hfc hk
      gi_wp2
      exact ⟨KeepsOthers.refl _, (yk + 1, ym.looked z.1 z.2 S), by unfold cN YV.next YV.pl; dsimp only; rw [← HZ.out], by show yk + 1 ≤ _; have := HKL.out; omega, HNX.out, _, ⟨_, ill, by have := HIL.out; omega, HFE.out, rfl⟩, f_back (T := [_, _, _]) (St.joinAll HST.out hs)⟩
    · rw [hk] at hs c11
      have HFE := hid (HFF.out.trans (hfc.trans ((if_neg (by rw [hk]; decide)).trans ((if_neg (by rw [hk]; decide)).trans (if_pos hk)))))
      clear hfc hk
      gi_upto_region 11 with (fail)
      apply wpIn_region_lit
      refine list_round rfl ?_
      go_wp2_with (first | go_big_skip | go_big_guard | (refine wl_store [_, _, _, _] hs rfl rfl rfl (v := .slice _ _ _) rfl rfl rfl ?_ ?_; (exact Nat.le_refl _); intro w2 hs2; clear hs) | (refine wl_store [_, _, _] hs2 rfl rfl rfl (v := .slice _ _ _) rfl rfl rfl ?_ ?_; (exact Nat.le_refl _); intro w3 hs3; clear hs2) | (refine wl_store [_, _] hs3 rfl rfl rfl (v := .int _ _) rfl rfl rfl ?_ ?_; (exact Nat.le_refl _); intro w4 hs4; clear hs3))
      refine QT_intro ?_
      gi_wp2
      exact ⟨St.keeps HST.out hs4, rfl, .slice none 0 0, .slice none 0 0, by rw [HFE.out]; exact f_end0 (T := [_, _, _]) (St.joinAll HST.out hs4)⟩
  case done =>
    rintro D ⟨sk, sm⟩ W hD hE ⟨h1, h2, X, ⟨wv, ill, hil, hf, rfl⟩, hst⟩ hK
    dsimp only at hE hil hf h2
    rw [hE, List.drop_length] at hf
    have hf2 : F = ⟨if ill = [] then 13 else 12, [], [], sm⟩ := hf
    have HST := hid hst
    have HKD := hid hK
    have HD := hid hD
    have hs := St.perm hst.selfM (pull4 [] (mP gm ga x _) (bxP q3 q4 q5 gm but (ptrCells (.slice ao n c) b v S)) (fX g9 g8 g7 g6 g4 (ptrCells (.slice ao n c) b v S) [] wv ill) R)
    change St W _ W (.row wv 83 2 ill.length (addrsV ill) :: .blk g9 30 [wv] :: .blk g8 37 [.int .i64 0] :: .blk g7 30 [.slice none 0 0] :: .blk g6 28 [.slice none 0 0] :: .blk g4 34 (ptrCells (.slice ao n c) b v S) :: (mP gm ga x sm ++ (bxP q3 q4 q5 gm but (ptrCells (.slice ao n c) b v S) ++ R))) at hs
    obtain ⟨wa, wc, rfl⟩ := St.rowSliceAt [] hs
    clear hst hK hD hf hil h1 h2 hE hI0
    by_cases h0 : ill = []
    · subst h0
      rw [if_pos rfl] at hf2
      have HFE := hid hf2
      clear hf2
      go_wp2_with (first | go_big_skip | go_big_guard | (refine wl_loadE rfl rfl rfl ?_; refine ⟨_, Loads.at (P := Tryz.prog) [_] hs rfl, ?_⟩) | (refine wl_store [_, _, _, _] hs rfl rfl rfl (v := .slice _ _ _) rfl rfl rfl ?_ ?_; (exact Nat.le_refl _); intro w2 hs2; clear hs) | (refine wl_store [_, _, _] hs2 rfl rfl rfl (v := .slice _ _ _) rfl rfl rfl ?_ ?_; (exact Nat.le_refl _); intro w3 hs3; clear hs2) | (refine wl_store [_, _] hs3 rfl rfl rfl (v := .int _ _) rfl rfl rfl ?_ ?_; (exact Nat.le_refl _); intro w4 hs4; clear hs3))
      have hK2 := (St.keeps HST.out hs4).same _ _ HKD.out rfl
      have hE2 : fEnd w0 M gm ga x g8 g7 g6 R F w4 := ⟨.slice none 0 0, .slice none 0 0, by rw [HFE.out]; exact f_end0 (T := []) (St.joinAll HST.out hs4)⟩
      refine ⟨by simp, .inl ⟨_, _, rfl, run_takeDeferred hK2, ?_⟩⟩
      obtain ⟨ue, ie, hs6⟩ := hE2
      have hs7 := St.putObj (o' := .deferred none) (Nat.le_trans HSZ.out HD.out) hs6 hK2 rfl
      have l1 := Loads.at (P := Tryz.prog) (T := 28) (off := 0) [_, _] hs7 rfl
      have l2 := Loads.at (P := Tryz.prog) (T := 30) (off := 0) [_] hs7 rfl
      have l3 := Loads.at (P := Tryz.prog) (T := 37) (off := 0) [] hs7 rfl
      exact ⟨_, results_cell3 rfl rfl rfl rfl l1 l2 l3, ue, ie, rfl, St.sub hs7 (.cons _ (.cons _ (.cons _ (List.Sublist.refl _))))⟩
    · rw [if_neg h0] at hf2
      have HFE := hid hf2
      obtain ⟨kl, hkl⟩ : ∃ kl, kl = ill.length := ⟨_, rfl⟩
      have hpos : 0 < kl := by
        rw [hkl]
        exact List.length_pos_iff.2 h0
      have d1 : decide ((kl : Int) > 0) = true := decide_eq_true (by omega)
      rw [← hkl] at hs HST
      clear hf2 h0
      go_wp2_with (first | go_big_skip | go_big_guard | (refine wl_loadE rfl rfl rfl ?_; refine ⟨_, Loads.at (P := Tryz.prog) [_] hs rfl, ?_⟩) | (refine wl_store [_, _, _, _] hs rfl rfl rfl (v := .slice _ _ _) rfl rfl rfl ?_ ?_; (exact Nat.le_refl _); intro w2 hs2; clear hs) | (refine wl_store [_, _, _] hs2 rfl rfl rfl (v := .slice _ _ _) rfl rfl rfl ?_ ?_; (exact Nat.le_refl _); intro w3 hs3; clear hs2) | (refine wl_store [_, _] hs3 rfl rfl rfl (v := .int _ _) rfl rfl rfl ?_ ?_; (exact Nat.le_refl _); intro w4 hs4; clear hs3))
      have hK2 := (St.keeps HST.out hs4).same _ _ HKD.out rfl
      have hE2 : fEnd w0 M gm ga x g8 g7 g6 R F w4 := ⟨.slice none 0 0, .slice none 0 0, by rw [HFE.out]; exact f_end0 (T := []) (St.joinAll HST.out hs4)⟩
      refine ⟨by simp, .inl ⟨_, _, rfl, run_takeDeferred hK2, ?_⟩⟩
      obtain ⟨ue, ie, hs6⟩ := hE2
      have hs7 := St.putObj (o' := .deferred none) (Nat.le_trans HSZ.out HD.out) hs6 hK2 rfl
      have l1 := Loads.at (P := Tryz.prog) (T := 28) (off := 0) [_, _] hs7 rfl
      have l2 := Loads.at (P := Tryz.prog) (T := 30) (off := 0) [_] hs7 rfl
      have l3 := Loads.at (P := Tryz.prog) (T := 37) (off := 0) [] hs7 rfl
      exact ⟨_, results_cell3 rfl rfl rfl rfl l1 l2 l3, ue, ie, rfl, St.sub hs7 (.cons _ (.cons _ (.cons _ (List.Sublist.refl _))))⟩
  case stop =>
    rintro D cc W hD ⟨rfl, hE⟩ hK
    have hE2 := hE
    have hK2 := hK
    have HD := hid hD
    clear hE hK hD hI0
    go_wp2_with (first | go_big_skip | go_big_guard | fail)
    refine ⟨by simp, .inl ⟨_, _, rfl, run_takeDeferred hK2, ?_⟩⟩
    obtain ⟨ue, ie, hs6⟩ := hE2
    have hs7 := St.putObj (o' := .deferred none) (Nat.le_trans HSZ.out HD.out) hs6 hK2 rfl
    have l1 := Loads.at (P := Tryz.prog) (T := 28) (off := 0) [_, _] hs7 rfl
    have l2 := Loads.at (P := Tryz.prog) (T := 30) (off := 0) [_] hs7 rfl
    have l3 := Loads.at (P := Tryz.prog) (T := 37) (off := 0) [] hs7 rfl
    exact ⟨_, results_cell3 rfl rfl rfl rfl l1 l2 l3, ue, ie, rfl, St.sub hs7 (.cons _ (.cons _ (.cons _ (List.Sublist.refl _))))⟩
end
end Go.Proofs.YtmdfbdfijnmhkaaGreat
