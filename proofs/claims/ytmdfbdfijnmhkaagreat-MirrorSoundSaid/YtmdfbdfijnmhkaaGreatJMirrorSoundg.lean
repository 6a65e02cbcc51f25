/- PROVED: the law MirrorSound returns true at any input, and nothing that was there has turned. No condition. -/
import Derived.Test.YtmdfbdfijnmhkaaGreatJMirrorSoundf
import Derived.Test.YtmdfbdfijnmhkaaGreatJMirrorSounda
import Derived.Test.YtmdfbdfijnmhkaaGreatPost
import Derived.Test.YtmdfbdfijnmhkaaGreatOpenC
namespace Go.Proofs.YtmdfbdfijnmhkaaGreat
set_option linter.unusedVariables false
set_option linter.unusedSimpArgs false
open Go.RowKit Hp
set_option maxRecDepth 100000
set_option maxHeartbeats 4000000
structure Safe (s : Nat) (D : DV) (a : AR) : Prop where
  dev : a.devs[s]? = some D
  out : a.out = false
  fuse : a.fuse = -1
  lw : ∀ w ∈ a.loose, w.dev ≠ s
theorem Safe.upd {s : Nat} {D : DV} {a : AR} (h : Safe s D a) {dev : Int} (f : DV → DV) (h0 : 0 ≤ dev) (hd : dev ≠ s) : Safe s D (a.upd dev f) := by
  refine ⟨?_, h.out, h.fuse, h.lw⟩
  show (a.devs.modify dev.toNat f)[s]? = some D
  rw [modify_get, if_neg (by omega), h.dev]
theorem Safe.step {s : Nat} {D : DV} {a : AR} (h : Safe s D a) : Safe s D a.step := by
  unfold AR.step
  rw [if_neg (by rw [h.fuse]; decide)]
  exact ⟨h.dev, h.out, by show (if 0 < a.fuse then a.fuse - 1 else a.fuse) = -1; rw [h.fuse]; rfl, h.lw⟩
theorem Safe.lay {s : Nat} {D : DV} {a : AR} (h : Safe s D a) {dev pl : Int} {b : List UInt8} (h0 : 0 ≤ dev) (hd : dev ≠ s) : Safe s D (a.lay dev pl b) := by
  unfold AR.lay
  split
  · exact h.upd _ h0 hd
  · split
    · have h1 := h.upd (fun d => { d with st := false }) h0 hd
      exact ⟨h1.dev, h1.out, h1.fuse, fun w hw => by
        rcases List.mem_append.1 hw with hw | hw
        · exact h.lw w hw
        · rw [List.mem_singleton.1 hw]; dsimp only; omega⟩
    · exact ⟨h.dev, h.out, h.fuse, fun w hw => by
        rcases List.mem_append.1 hw with hw | hw
        · exact h.lw w hw
        · rw [List.mem_singleton.1 hw]; dsimp only; omega⟩
theorem Safe.write {s : Nat} {D : DV} {a : AR} (h : Safe s D a) {dev pl : Int} {b : List UInt8} (hd : dev ≠ s) : Safe s D (a.write dev pl b) := by
  unfold AR.write
  split
  · exact h
  · rename_i hc
    have h0 : 0 ≤ dev := by
      have : a.inS dev pl = true := by
        cases hq : a.inS dev pl
        · exact absurd (Or.inr (Or.inr (Or.inl hq))) hc
        · rfl
      exact (inD_dev (inS_inD this)).1
    rw [if_neg (by rw [h.fuse]; decide)]
    exact h.step.lay h0 hd
theorem Safe.firms {s : Nat} {D : DV} {a : AR} (h : Safe s D a) {k : Nat} (hd : k ≠ s) : Safe s D (a.firms k) := by
  have h1 := h.upd (dev := (k : Int)) (fun d => { d with firm := (a.loose.filter fun w => w.dev == k).foldl setS d.firm }) (Int.natCast_nonneg _) (by omega)
  exact ⟨h1.dev, h1.out, h1.fuse, fun w hw => h.lw w (List.mem_filter.1 hw).1⟩
theorem Safe.flush {s : Nat} {D : DV} {a : AR} (h : Safe s D a) {dev : Int} (hd : dev ≠ s) : Safe s D (a.flush dev) := by
  unfold AR.flush
  split
  · exact h
  · rename_i hc
    have h0 : 0 ≤ dev := by
      have : a.inD dev = true := by
        cases hq : a.inD dev
        · exact absurd (Or.inr (Or.inr (Or.inl hq))) hc
        · rfl
      exact (inD_dev this).1
    rw [if_neg (by rw [h.fuse]; decide)]
    exact h.step.firms (by omega)
theorem Safe.read {s : Nat} {D : DV} {a : AR} (h : Safe s D a) {dev pl : Int} (hd : dev ≠ s) : Safe s D (a.read dev pl) := by
  unfold AR.read
  split
  · rename_i hc
    have : a.inS dev pl = true := by
      cases hq : a.inS dev pl
      · unfold AR.readE at hc
        rw [hq] at hc
        split at hc
        · cases hc
        · split at hc
          · cases hc
          · rw [if_pos rfl] at hc
            cases hc
      · rfl
    exact h.upd _ (inD_dev (inS_inD this)).1 hd
  · exact h
theorem Safe.fell {s : Nat} {D : DV} {a : AR} (h : Safe s D a) {dev : Int} {rs : List Int} {f : DV → DV} (hi : firstE (rs ++ [orE (!(a.dv dev).gone) 14]) = 0 → a.inD dev = true) (hd : dev ≠ s) : Safe s D (a.fell dev rs f) := by
  unfold AR.fell
  split
  · rename_i hc
    exact h.upd _ (inD_dev (hi hc)).1 hd
  · exact h
theorem Safe.rest {s : Nat} {D : DV} {a : AR} (h : Safe s D a) (k : Nat) : Safe s D (a.rest k) := ⟨h.dev, h.out, h.fuse, fun w hw => h.lw w (List.mem_filter.1 hw).1⟩
theorem Safe.lose {s : Nat} {D : DV} {a : AR} (h : Safe s D a) {dev : Int} (hd : dev ≠ s) : Safe s D (a.lose dev) := h.fell (fun hc => orE_zero (by decide) (firstE_all hc _ (.head _))) hd
theorem Safe.stray {s : Nat} {D : DV} {a : AR} (h : Safe s D a) {dev pl : Int} (hd : dev ≠ s) : Safe s D (a.stray dev pl) := h.fell (fun hc => inS_inD (orE_zero (by decide) (firstE_all hc _ (.head _)))) hd
theorem Safe.fails {s : Nat} {D : DV} {a : AR} (h : Safe s D a) {dev n : Int} (hd : dev ≠ s) : Safe s D (a.fails dev n) := h.fell (fun hc => orE_zero (by decide) (firstE_all hc _ (.head _))) hd
theorem Safe.spoil {s : Nat} {D : DV} {a : AR} (h : Safe s D a) {dev pl place : Int} {m : UInt8} (hd : dev ≠ s) : Safe s D (a.spoil dev pl place m) := by
  unfold AR.spoil
  split
  · rename_i hc
    exact h.upd _ (inD_dev (inS_inD (orE_zero (by decide) (firstE_all hc _ (.head _))))).1 hd
  · exact h
theorem Safe.pull {s : Nat} {D : DV} {a : AR} (h : Safe s D a) {dev : Int} (hd : dev ≠ s) : Safe s D (a.pull dev) := by
  unfold AR.pull
  split
  · rename_i hc
    exact (h.upd _ (inD_dev (orE_zero (by decide) (firstE_all hc _ (.head _)) : a.inD dev = true)).1 hd).rest _
  · exact h
theorem Safe.fit {s : Nat} {D : DV} {a : AR} (h : Safe s D a) {dev : Int} {g : Nat} (hd : dev ≠ s) : Safe s D (a.fit dev g) := by
  unfold AR.fit
  split
  · rename_i hc
    exact (h.rest _).upd _ (inD_dev hc).1 hd
  · exact h
theorem Safe.crash {s : Nat} {D : DV} {a : AR} (h : Safe s D a) (hD : clean D = D) (keep : List Bool) (torn : Int) : Safe s D (a.crash keep torn) := by
  have hn : ∀ j, ((crashN a keep torn.toNat j).1.devs[s]?) = some D ∧ True := by
    intro j
    induction j with
    | zero => exact ⟨h.dev, trivial⟩
    | succ j ih =>
      refine ⟨?_, trivial⟩
      unfold crashN
      split
      · exact ih.1
      · rename_i w hw
        have hne := h.lw w (List.mem_of_getElem? hw)
        have hu : ∀ (b : AR) (f : DV → DV), b.devs[s]? = some D → (b.upd (w.dev : Int) f).devs[s]? = some D := by
          intro b f hb
          show (b.devs.modify ((w.dev : Int)).toNat f)[s]? = some D
          rw [modify_get, if_neg (by omega), hb]
        unfold crashF
        split
        · exact hu _ _ ih.1
        · split
          · exact hu _ _ ih.1
          · exact ih.1
  unfold AR.crash
  split
  · refine ⟨?_, rfl, rfl, fun w hw => by cases hw⟩
    show ((crashN a keep torn.toNat a.loose.length).1.devs.map clean)[s]? = some D
    rw [List.getElem?_map, (hn _).1]
    show some (clean D) = some D
    rw [hD]
  · exact h
end Go.Proofs.YtmdfbdfijnmhkaaGreat
namespace Go.Proofs.YtmdfbdfijnmhkaaGreat
set_option linter.unusedVariables false
set_option linter.unusedSimpArgs false
open Go.RowKit Hp
set_option maxRecDepth 100000
set_option maxHeartbeats 4000000
theorem safe_tells {s : Nat} {g : Nat} {b : List UInt8} {a : AR} (h : Safe s (dk g b) a) : a.tells (s : Int) 5 = b := by
  have hd : a.dv (s : Int) = dk g b := by
    unfold AR.dv
    rw [Int.toNat_natCast, List.getD_eq_getElem?_getD, h.dev]
    rfl
  unfold AR.tells
  rw [hd]
  have hp : ∀ (L : List LW) (x : List UInt8), (∀ w ∈ L, w.dev ≠ s) → L.foldl (pickW (s : Int).toNat (5 : Int).toNat) x = x := by
    intro L
    induction L with
    | nil => intro x _; rfl
    | cons w L ih =>
      intro x hx
      rw [List.foldl_cons]
      have h1 : pickW (s : Int).toNat (5 : Int).toNat x w = x := by
        unfold pickW
        rw [if_neg (fun hc => hx w List.mem_cons_self (by rw [hc.1, Int.toNat_natCast]))]
      rw [h1]
      exact ih x fun v hv => hx v (List.mem_cons_of_mem _ hv)
  exact hp _ _ h.lw
theorem safe_read {s : Nat} {g : Nat} {b : List UInt8} {a : AR} (h : Safe s (dk g b) a) (hs : 8 ≤ a.secs) : a.readE (s : Int) 5 = 0 ∧ a.readB (s : Int) 5 = b := by
  have hl : s < a.devs.length := (List.getElem?_eq_some_iff.1 h.dev).1
  have hd : a.dv (s : Int) = dk g b := by
    unfold AR.dv
    rw [Int.toNat_natCast, List.getD_eq_getElem?_getD, h.dev]
    rfl
  have hin : a.inS (s : Int) 5 = true := by
    unfold AR.inS AR.inD
    simp
    omega
  have he : a.readE (s : Int) 5 = 0 := by
    unfold AR.readE
    rw [if_neg (by intro h0; rw [h0] at hl; simp at hl), h.out, if_neg Bool.false_ne_true, hin, if_neg (by decide), hd]
    rfl
  refine ⟨he, ?_⟩
  unfold AR.readB
  rw [if_pos he]
  exact safe_tells h
theorem found_safe {s : Nat} {g : Nat} {b S : List UInt8} (hS : sumB b = S) : ∀ {l ill : List (Int × Int)} {m : MV} {N : Nat}, Safe s (dk g b) m.a → MGood m N → (∀ x ∈ l, 0 ≤ x.1 ∧ x.2 = 5) → ((s : Int), (5 : Int)) ∈ l → (∀ x ∈ ill, x.1 ≠ (s : Int)) →
    (found S (-1) m l ill).er = 0 ∧ Safe s (dk g b) (found S (-1) m l ill).m.a ∧ ∀ x ∈ (found S (-1) m l ill).ill, x.1 ≠ (s : Int)
  | [], _, _, _, _, _, _, hm, _ => by cases hm
  | x :: l, ill, m, N, h, hg, h5, hm, hi => by
    have hx := h5 x List.mem_cons_self
    have hr := safe_read h hg.sc.sec
    have hxb : x.1 ≠ -1 := by omega
    by_cases hxs : x.1 = (s : Int)
    · have hk : m.kind x.1 x.2 S = 0 := by
        rw [hxs, hx.2]
        exact kind_good hr.1 (by rw [hr.2]; exact hS)
      have ha : (m.looked x.1 x.2 S).a = m.a := by
        unfold MV.looked
        show m.a.read x.1 x.2 = m.a
        unfold AR.read
        rw [hxs, hx.2, hr.1, if_neg (by decide)]
      unfold found
      rw [if_neg hxb, if_pos hk]
      exact ⟨rfl, by show Safe s (dk g b) (m.looked x.1 x.2 S).a; rw [ha]; exact h, hi⟩
    · have hml : ((s : Int), (5 : Int)) ∈ l := by
        rcases List.mem_cons.1 hm with h9 | h9
        · exact absurd (by rw [← h9]) hxs
        · exact h9
      have hl : Safe s (dk g b) (m.looked x.1 x.2 S).a := by
        show Safe s (dk g b) (m.a.read x.1 x.2)
        exact h.read hxs
      have hgl := hg.looked x.1 x.2 S
      have h5' : ∀ y ∈ l, 0 ≤ y.1 ∧ y.2 = 5 := fun y hy => h5 y (List.mem_cons_of_mem _ hy)
      have hne : m.kind x.1 x.2 S ≠ 3 := by
        have : m.a.readE x.1 x.2 ≠ 10 := by
          unfold AR.readE
          rw [h.out]
          repeat' split
          all_goals first | decide | (rename_i h9; cases h9)
        unfold MV.kind
        rw [if_neg this]
        split
        · decide
        · split <;> decide
      unfold found
      rw [if_neg hxb]
      split
      · exact ⟨rfl, hl, hi⟩
      · split
        · exact found_safe hS hl hgl h5' hml (fun y hy => by
            rcases List.mem_append.1 hy with hy | hy
            · exact hi y hy
            · rw [List.mem_singleton.1 hy]; exact hxs)
        · skip
          exact found_safe hS hl hgl h5' hml hi
theorem heals_safe {s : Nat} {D : DV} {b : List UInt8} : ∀ {l : List (Int × Int)} {m : MV}, Safe s D m.a → (∀ x ∈ l, x.1 ≠ (s : Int)) → Safe s D (m.heals l b).a
  | [], _, h, _ => h
  | x :: l, m, h, hl => by
    have h1 : Safe s D (m.healed x.1 x.2 b).a := by
      show Safe s D (m.a.write x.1 x.2 b)
      exact h.write (hl x List.mem_cons_self)
    exact heals_safe (l := l) h1 fun y hy => hl y (List.mem_cons_of_mem _ hy)
theorem onDevs_mem {k : Nat} {x : Int × Int} (h : x ∈ onDevs k) : 0 ≤ x.1 ∧ x.2 = 5 := by
  obtain ⟨i, _, rfl⟩ := List.mem_map.1 h
  exact ⟨Int.natCast_nonneg _, rfl⟩
theorem onDevs_has {k s : Nat} (h : s < k) : ((s : Int), (5 : Int)) ∈ onDevs k := List.mem_map.2 ⟨s, List.mem_range.2 h, rfl⟩
theorem get_safe {s g k : Nat} {b S : List UInt8} {m : MV} {N : Nat} {ao : Option Addr} {cc : Nat} (hS : sumB b = S) (hs : s < k) (h : Safe s (dk g b) m.a) (hg : MGood m N) (ha : m.askE (PVof ao k cc (onDevs k) 1 0 S) = 0) :
    (m.get (PVof ao k cc (onDevs k) 1 0 S)).er = 0 ∧ Safe s (dk g b) (m.get (PVof ao k cc (onDevs k) 1 0 S)).m.a := by
  have h1 := found_safe hS (ill := []) h hg (fun x hx => onDevs_mem hx) (onDevs_has hs) (fun x hx => by cases hx)
  have e1 : (found (PVof ao k cc (onDevs k) 1 0 S).S (-1) m (PVof ao k cc (onDevs k) 1 0 S).l []).er = 0 := h1.1
  unfold MV.get
  rw [ha, if_neg (by simp), if_neg (by rw [e1]; simp)]
  exact ⟨rfl, heals_safe h1.2.1 h1.2.2⟩
end Go.Proofs.YtmdfbdfijnmhkaaGreat
namespace Go.Proofs.YtmdfbdfijnmhkaaGreat
set_option linter.unusedVariables false
set_option linter.unusedSimpArgs false
open Go.RowKit Hp
attribute [local irreducible] Go.Calls Go.wpList
set_option maxRecDepth 100000
set_option maxHeartbeats 4000000
def Bef (y : AC) (a a' : AR) : Prop :=
  (y.k = 0 ∧ a' = a.write y.dev y.pl y.B) ∨ (y.k = 1 ∧ a' = a.flush y.dev) ∨ (y.k = 2 ∧ a' = a.read y.dev y.pl) ∨ (y.k = 3 ∧ a' = a.crash y.K y.n) ∨ (y.k = 4 ∧ a' = a.fused y.n) ∨ (y.k = 5 ∧ a' = a.spoil y.dev y.pl y.n y.mask) ∨ (y.k = 6 ∧ a' = a.lose y.dev) ∨ (y.k = 7 ∧ a' = a.stray y.dev y.pl) ∨ (y.k = 8 ∧ a' = a.fails y.dev y.n) ∨ (y.k = 9 ∧ a' = a.pull y.dev) ∨ (y.k = 10 ∧ ∃ g, a' = a.fit y.dev g) ∨ a' = a
section
theorem loadedIb (A : Addr) : loadVar 3 A = loadVarH 3 A := rfl
theorem loadedUb (A : Addr) : loadVar 5 A = loadVarH 5 A := rfl
theorem loadedBb (A : Addr) : loadVar 28 A = loadVarH 28 A := rfl
theorem loadedLb (A : Addr) : loadVar 47 A = loadVarH 47 A := rfl
attribute [local go_sem ↓] loadedIb loadedUb loadedBb loadedLb
attribute [local irreducible] Hp.Loads
theorem arF_off {w0 w : World} {R : List HA} {gm ga : Nat} {x : GA} {m : MV} (h : St w0 [] w (mP gm ga x m ++ R)) : ∀ k ∈ arF ga x m.a, w0.heap.size ≤ k := by
  intro k hk
  obtain ⟨p, hp, hf⟩ := List.mem_filterMap.1 hk
  rcases h.own p (List.mem_append_left _ (List.mem_cons_of_mem _ hp)) _ hf with h9 | h9
  · exact h9
  · cases h9
theorem bef16_write {w0 w : World} {R : List HA} {gm ga : Nat} {x : GA} {m : MV} {N : Nat} (hS : St w0 [] w (mP gm ga x m ++ R)) (hg : MGood m N) (hN : N ≤ 800000) (y : AC) (hy : y.Ok w0) (hk : y.k = 0) :
    Calls Tryz.prog 21 #[.pointer (some ⟨ga, 0, none⟩), .agg (List.toArray y.cells)] w fun e w' => e = .returned (.tuple #[]) ∧ ∃ x' a', Bef y m.a a' ∧ MGood (m.withA a') (N + 1) ∧ St w0 [] w' (mP gm ga x' (m.withA a') ++ R) := by
  have hst := hS
  have HG := hid hg
  have HY := hid hy
  clear hS hg hy
  have HK := hid hk
  clear hk
  go_enter Tryz.func21, Tryz.ntmps21
  go_wp2_with (first | go_big_skip | go_big_guard | (refine wl_boxA hst rfl rfl rfl ?_; intro g3 w1 hst0; clear hst; have hst1 := St.behind (A := mP gm ga x m) hst0; clear hst0) | (refine wl_loadE rfl rfl rfl ?_; first | refine ⟨_, Loads.blk (P := Tryz.prog) (T := 3) (off := 0) (v := .int .i64 0) hst1 TyS.out (List.mem_append_right _ (.head _)) (show some (Value.int .i64 y.k) = _ from by rw [HK.out]), ?_⟩ | refine ⟨_, Loads.blk (P := Tryz.prog) (T := 3) (off := 1) (v := .int .i64 y.dev) hst1 TyS.out (List.mem_append_right _ (.head _)) rfl, ?_⟩ | refine ⟨_, Loads.blk (P := Tryz.prog) (T := 3) (off := 2) (v := .int .i64 y.pl) hst1 TyS.out (List.mem_append_right _ (.head _)) rfl, ?_⟩ | refine ⟨_, Loads.blk (P := Tryz.prog) (T := 28) (off := 5) (v := .slice y.bo y.bn y.bc) hst1 TyS.out (List.mem_append_right _ (.head _)) rfl, ?_⟩) | (go_at_call 44; have HC := writeM_any (mid_in (P := [_]) (Bs := []) hst1) HG.out.sc.ok (HG.out.st (by omega)) (HG.out.ll (by omega)) y.dev y.pl y.bo y.bn y.bc y.B (Rd.old hst1 HY.out.rb) HY.out.lb (Off.old HY.out.rb (by decide) (arF_off hst1)); refine HC.mono ?_; clear HC; rintro _ _ ⟨rfl, x2, h4⟩; have hst2 := mid_out (P := [_]) (Bs := []) hst1 h4; clear h4 hst1))
  go_end0
  exact ⟨rfl, x2, m.a.write y.dev y.pl y.B, by unfold Bef; exact .inl ⟨HK.out, rfl⟩, HG.out.arr (HG.out.sc.ok.write _ _ _) (Stays.write _ _ _ _), sub_x (A := mP gm ga x2 (m.withA (m.a.write y.dev y.pl y.B))) hst2⟩
theorem bef16_flush {w0 w : World} {R : List HA} {gm ga : Nat} {x : GA} {m : MV} {N : Nat} (hS : St w0 [] w (mP gm ga x m ++ R)) (hg : MGood m N) (hN : N ≤ 800000) (y : AC) (hy : y.Ok w0) (hk : y.k = 1) :
    Calls Tryz.prog 21 #[.pointer (some ⟨ga, 0, none⟩), .agg (List.toArray y.cells)] w fun e w' => e = .returned (.tuple #[]) ∧ ∃ x' a', Bef y m.a a' ∧ MGood (m.withA a') (N + 1) ∧ St w0 [] w' (mP gm ga x' (m.withA a') ++ R) := by
  have hst := hS
  have HG := hid hg
  have HY := hid hy
  clear hS hg hy
  have HK := hid hk
  clear hk
  go_enter Tryz.func21, Tryz.ntmps21
  go_wp2_with (first | go_big_skip | go_big_guard | (refine wl_boxA hst rfl rfl rfl ?_; intro g3 w1 hst0; clear hst; have hst1 := St.behind (A := mP gm ga x m) hst0; clear hst0) | (refine wl_loadE rfl rfl rfl ?_; first | refine ⟨_, Loads.blk (P := Tryz.prog) (T := 3) (off := 0) (v := .int .i64 1) hst1 TyS.out (List.mem_append_right _ (.head _)) (show some (Value.int .i64 y.k) = _ from by rw [HK.out]), ?_⟩ | refine ⟨_, Loads.blk (P := Tryz.prog) (T := 3) (off := 1) (v := .int .i64 y.dev) hst1 TyS.out (List.mem_append_right _ (.head _)) rfl, ?_⟩) | (go_at_call 52; have HC := flushM_any (mid_in (P := [_]) (Bs := []) hst1) HG.out.sc.ok (HG.out.st (by omega)) (HG.out.ll (by omega)) y.dev; refine HC.mono ?_; clear HC; rintro _ _ ⟨rfl, x2, h4⟩; have hst2 := mid_out (P := [_]) (Bs := []) hst1 h4; clear h4 hst1))
  go_end0
  exact ⟨rfl, x2, m.a.flush y.dev, by unfold Bef; refine .inr ?_; exact .inl ⟨HK.out, rfl⟩, HG.out.arr (HG.out.sc.ok.flush _) (Stays.flush _ _), sub_x (A := mP gm ga x2 (m.withA (m.a.flush y.dev))) hst2⟩
theorem bef16_read {w0 w : World} {R : List HA} {gm ga : Nat} {x : GA} {m : MV} {N : Nat} (hS : St w0 [] w (mP gm ga x m ++ R)) (hg : MGood m N) (hN : N ≤ 800000) (y : AC) (hy : y.Ok w0) (hk : y.k = 2) :
    Calls Tryz.prog 21 #[.pointer (some ⟨ga, 0, none⟩), .agg (List.toArray y.cells)] w fun e w' => e = .returned (.tuple #[]) ∧ ∃ x' a', Bef y m.a a' ∧ MGood (m.withA a') (N + 1) ∧ St w0 [] w' (mP gm ga x' (m.withA a') ++ R) := by
  have hst := hS
  have HG := hid hg
  have HY := hid hy
  clear hS hg hy
  have HK := hid hk
  clear hk
  go_enter Tryz.func21, Tryz.ntmps21
  go_wp2_with (first | go_big_skip | go_big_guard | (refine wl_boxA hst rfl rfl rfl ?_; intro g3 w1 hst0; clear hst; have hst1 := St.behind (A := mP gm ga x m) hst0; clear hst0) | (refine wl_loadE rfl rfl rfl ?_; first | refine ⟨_, Loads.blk (P := Tryz.prog) (T := 3) (off := 0) (v := .int .i64 2) hst1 TyS.out (List.mem_append_right _ (.head _)) (show some (Value.int .i64 y.k) = _ from by rw [HK.out]), ?_⟩ | refine ⟨_, Loads.blk (P := Tryz.prog) (T := 3) (off := 1) (v := .int .i64 y.dev) hst1 TyS.out (List.mem_append_right _ (.head _)) rfl, ?_⟩ | refine ⟨_, Loads.blk (P := Tryz.prog) (T := 3) (off := 2) (v := .int .i64 y.pl) hst1 TyS.out (List.mem_append_right _ (.head _)) rfl, ?_⟩) | (go_at_call 36; have HC := readM_any (mid_in (P := [_]) (Bs := []) hst1) HG.out.sc.ok (HG.out.ll (by omega)) y.dev y.pl; refine HC.mono ?_; clear HC; rintro _ _ ⟨u, rfl, h4⟩; have hst2 := St.tl (mid_outp (Q := [_]) (P := [_]) (Bs := []) hst1 h4); clear h4 hst1))
  go_end0
  exact ⟨rfl, x, m.a.read y.dev y.pl, by unfold Bef; refine .inr ?_; refine .inr ?_; exact .inl ⟨HK.out, rfl⟩, HG.out.arr (HG.out.sc.ok.read _ _) (Stays.read _ _ _), sub_x (A := mP gm ga x (m.withA (m.a.read y.dev y.pl))) hst2⟩
theorem bef16_crash {w0 w : World} {R : List HA} {gm ga : Nat} {x : GA} {m : MV} {N : Nat} (hS : St w0 [] w (mP gm ga x m ++ R)) (hg : MGood m N) (hN : N ≤ 800000) (y : AC) (hy : y.Ok w0) (hk : y.k = 3) :
    Calls Tryz.prog 21 #[.pointer (some ⟨ga, 0, none⟩), .agg (List.toArray y.cells)] w fun e w' => e = .returned (.tuple #[]) ∧ ∃ x' a', Bef y m.a a' ∧ MGood (m.withA a') (N + 1) ∧ St w0 [] w' (mP gm ga x' (m.withA a') ++ R) := by
  have hst := hS
  have HG := hid hg
  have HY := hid hy
  clear hS hg hy
  have HK := hid hk
  clear hk
  go_enter Tryz.func21, Tryz.ntmps21
  go_wp2_with (first | go_big_skip | go_big_guard | (refine wl_boxA hst rfl rfl rfl ?_; intro g3 w1 hst0; clear hst; have hst1 := St.behind (A := mP gm ga x m) hst0; clear hst0) | (refine wl_loadE rfl rfl rfl ?_; first | refine ⟨_, Loads.blk (P := Tryz.prog) (T := 3) (off := 0) (v := .int .i64 3) hst1 TyS.out (List.mem_append_right _ (.head _)) (show some (Value.int .i64 y.k) = _ from by rw [HK.out]), ?_⟩ | refine ⟨_, Loads.blk (P := Tryz.prog) (T := 47) (off := 6) (v := .slice y.ko y.kn y.kc) hst1 TyS.out (List.mem_append_right _ (.head _)) rfl, ?_⟩ | refine ⟨_, Loads.blk (P := Tryz.prog) (T := 3) (off := 3) (v := .int .i64 y.n) hst1 TyS.out (List.mem_append_right _ (.head _)) rfl, ?_⟩) | (go_at_call 53; have HC := crashM_any (mid_in (P := [_]) (Bs := []) hst1) HG.out.sc.ok (HG.out.ll (by omega)) y.ko y.kn y.kc y.K (Rd.old hst1 HY.out.rk) HY.out.lk (Off.old HY.out.rk (by decide) (arF_off hst1)) y.n; refine HC.mono ?_; clear HC; rintro _ _ ⟨rfl, x2, h4⟩; have hst2 := mid_out (P := [_]) (Bs := []) hst1 h4; clear h4 hst1))
  go_end0
  exact ⟨rfl, x2, m.a.crash y.K y.n, by unfold Bef; refine .inr ?_; refine .inr ?_; refine .inr ?_; exact .inl ⟨HK.out, rfl⟩, HG.out.arr (HG.out.sc.ok.crash _ _) (Stays.crash HG.out.sc.ok _ _), sub_x (A := mP gm ga x2 (m.withA (m.a.crash y.K y.n))) hst2⟩
theorem bef16_fuse {w0 w : World} {R : List HA} {gm ga : Nat} {x : GA} {m : MV} {N : Nat} (hS : St w0 [] w (mP gm ga x m ++ R)) (hg : MGood m N) (hN : N ≤ 800000) (y : AC) (hy : y.Ok w0) (hk : y.k = 4) :
    Calls Tryz.prog 21 #[.pointer (some ⟨ga, 0, none⟩), .agg (List.toArray y.cells)] w fun e w' => e = .returned (.tuple #[]) ∧ ∃ x' a', Bef y m.a a' ∧ MGood (m.withA a') (N + 1) ∧ St w0 [] w' (mP gm ga x' (m.withA a') ++ R) := by
  have hst := hS
  have HG := hid hg
  have HY := hid hy
  clear hS hg hy
  have HK := hid hk
  clear hk
  go_enter Tryz.func21, Tryz.ntmps21
  go_wp2_with (first | go_big_skip | go_big_guard | (refine wl_boxA hst rfl rfl rfl ?_; intro g3 w1 hst0; clear hst; have hst1 := St.behind (A := mP gm ga x m) hst0; clear hst0) | (refine wl_loadE rfl rfl rfl ?_; first | refine ⟨_, Loads.blk (P := Tryz.prog) (T := 3) (off := 0) (v := .int .i64 4) hst1 TyS.out (List.mem_append_right _ (.head _)) (show some (Value.int .i64 y.k) = _ from by rw [HK.out]), ?_⟩ | refine ⟨_, Loads.blk (P := Tryz.prog) (T := 3) (off := 3) (v := .int .i64 y.n) hst1 TyS.out (List.mem_append_right _ (.head _)) rfl, ?_⟩) | (go_at_call 54; have HC := fuseM_any (mid_in (P := [_]) (Bs := []) hst1) HG.out.sc.ok y.n; refine HC.mono ?_; clear HC; rintro _ _ ⟨rfl, h4⟩; have hst2 := mid_out (P := [_]) (Bs := []) hst1 h4; clear h4 hst1))
  go_end0
  exact ⟨rfl, x, m.a.fused y.n, by unfold Bef; refine .inr ?_; refine .inr ?_; refine .inr ?_; refine .inr ?_; exact .inl ⟨HK.out, rfl⟩, HG.out.arr (HG.out.sc.ok.fused (HY.out.n.2)) (Stays.fused _ _), sub_x (A := mP gm ga x (m.withA (m.a.fused y.n))) hst2⟩
theorem bef16_spoil {w0 w : World} {R : List HA} {gm ga : Nat} {x : GA} {m : MV} {N : Nat} (hS : St w0 [] w (mP gm ga x m ++ R)) (hg : MGood m N) (hN : N ≤ 800000) (y : AC) (hy : y.Ok w0) (hk : y.k = 5) :
    Calls Tryz.prog 21 #[.pointer (some ⟨ga, 0, none⟩), .agg (List.toArray y.cells)] w fun e w' => e = .returned (.tuple #[]) ∧ ∃ x' a', Bef y m.a a' ∧ MGood (m.withA a') (N + 1) ∧ St w0 [] w' (mP gm ga x' (m.withA a') ++ R) := by
  have hst := hS
  have HG := hid hg
  have HY := hid hy
  clear hS hg hy
  have HK := hid hk
  clear hk
  go_enter Tryz.func21, Tryz.ntmps21
  go_wp2_with (first | go_big_skip | go_big_guard | (refine wl_boxA hst rfl rfl rfl ?_; intro g3 w1 hst0; clear hst; have hst1 := St.behind (A := mP gm ga x m) hst0; clear hst0) | (refine wl_loadE rfl rfl rfl ?_; first | refine ⟨_, Loads.blk (P := Tryz.prog) (T := 3) (off := 0) (v := .int .i64 5) hst1 TyS.out (List.mem_append_right _ (.head _)) (show some (Value.int .i64 y.k) = _ from by rw [HK.out]), ?_⟩ | refine ⟨_, Loads.blk (P := Tryz.prog) (T := 3) (off := 1) (v := .int .i64 y.dev) hst1 TyS.out (List.mem_append_right _ (.head _)) rfl, ?_⟩ | refine ⟨_, Loads.blk (P := Tryz.prog) (T := 3) (off := 2) (v := .int .i64 y.pl) hst1 TyS.out (List.mem_append_right _ (.head _)) rfl, ?_⟩ | refine ⟨_, Loads.blk (P := Tryz.prog) (T := 3) (off := 3) (v := .int .i64 y.n) hst1 TyS.out (List.mem_append_right _ (.head _)) rfl, ?_⟩ | refine ⟨_, Loads.blk (P := Tryz.prog) (T := 5) (off := 4) (v := .int .u8 y.mask.toNat) hst1 TyS.out (List.mem_append_right _ (.head _)) rfl, ?_⟩) | (go_at_call 35; have HC := spoilM_any (mid_in (P := [_]) (Bs := []) hst1) HG.out.sc.ok y.dev y.pl y.n y.mask; refine HC.mono ?_; clear HC; rintro _ _ ⟨rfl, x2, h4⟩; have hst2 := mid_out (P := [_]) (Bs := []) hst1 h4; clear h4 hst1))
  go_end0
  exact ⟨rfl, x2, m.a.spoil y.dev y.pl y.n y.mask, by unfold Bef; refine .inr ?_; refine .inr ?_; refine .inr ?_; refine .inr ?_; refine .inr ?_; exact .inl ⟨HK.out, rfl⟩, HG.out.arr (HG.out.sc.ok.spoil _ _ _ _) (Stays.spoil _ _ _ _ _), sub_x (A := mP gm ga x2 (m.withA (m.a.spoil y.dev y.pl y.n y.mask))) hst2⟩
theorem bef16_lose {w0 w : World} {R : List HA} {gm ga : Nat} {x : GA} {m : MV} {N : Nat} (hS : St w0 [] w (mP gm ga x m ++ R)) (hg : MGood m N) (hN : N ≤ 800000) (y : AC) (hy : y.Ok w0) (hk : y.k = 6) :
    Calls Tryz.prog 21 #[.pointer (some ⟨ga, 0, none⟩), .agg (List.toArray y.cells)] w fun e w' => e = .returned (.tuple #[]) ∧ ∃ x' a', Bef y m.a a' ∧ MGood (m.withA a') (N + 1) ∧ St w0 [] w' (mP gm ga x' (m.withA a') ++ R) := by
  have hst := hS
  have HG := hid hg
  have HY := hid hy
  clear hS hg hy
  have HK := hid hk
  clear hk
  go_enter Tryz.func21, Tryz.ntmps21
  go_wp2_with (first | go_big_skip | go_big_guard | (refine wl_boxA hst rfl rfl rfl ?_; intro g3 w1 hst0; clear hst; have hst1 := St.behind (A := mP gm ga x m) hst0; clear hst0) | (refine wl_loadE rfl rfl rfl ?_; first | refine ⟨_, Loads.blk (P := Tryz.prog) (T := 3) (off := 0) (v := .int .i64 6) hst1 TyS.out (List.mem_append_right _ (.head _)) (show some (Value.int .i64 y.k) = _ from by rw [HK.out]), ?_⟩ | refine ⟨_, Loads.blk (P := Tryz.prog) (T := 3) (off := 1) (v := .int .i64 y.dev) hst1 TyS.out (List.mem_append_right _ (.head _)) rfl, ?_⟩) | (go_at_call 55; have HC := loseM_any (mid_in (P := [_]) (Bs := []) hst1) HG.out.sc.ok y.dev; refine HC.mono ?_; clear HC; rintro _ _ ⟨rfl, h4⟩; have hst2 := mid_out (P := [_]) (Bs := []) hst1 h4; clear h4 hst1))
  go_end0
  exact ⟨rfl, x, m.a.lose y.dev, by unfold Bef; refine .inr ?_; refine .inr ?_; refine .inr ?_; refine .inr ?_; refine .inr ?_; refine .inr ?_; exact .inl ⟨HK.out, rfl⟩, HG.out.arr (HG.out.sc.ok.lose _) (Stays.fell _ _ _ (fun _ => rfl)), sub_x (A := mP gm ga x (m.withA (m.a.lose y.dev))) hst2⟩
theorem bef16_stray {w0 w : World} {R : List HA} {gm ga : Nat} {x : GA} {m : MV} {N : Nat} (hS : St w0 [] w (mP gm ga x m ++ R)) (hg : MGood m N) (hN : N ≤ 800000) (y : AC) (hy : y.Ok w0) (hk : y.k = 7) :
    Calls Tryz.prog 21 #[.pointer (some ⟨ga, 0, none⟩), .agg (List.toArray y.cells)] w fun e w' => e = .returned (.tuple #[]) ∧ ∃ x' a', Bef y m.a a' ∧ MGood (m.withA a') (N + 1) ∧ St w0 [] w' (mP gm ga x' (m.withA a') ++ R) := by
  have hst := hS
  have HG := hid hg
  have HY := hid hy
  clear hS hg hy
  have HK := hid hk
  clear hk
  go_enter Tryz.func21, Tryz.ntmps21
  go_wp2_with (first | go_big_skip | go_big_guard | (refine wl_boxA hst rfl rfl rfl ?_; intro g3 w1 hst0; clear hst; have hst1 := St.behind (A := mP gm ga x m) hst0; clear hst0) | (refine wl_loadE rfl rfl rfl ?_; first | refine ⟨_, Loads.blk (P := Tryz.prog) (T := 3) (off := 0) (v := .int .i64 7) hst1 TyS.out (List.mem_append_right _ (.head _)) (show some (Value.int .i64 y.k) = _ from by rw [HK.out]), ?_⟩ | refine ⟨_, Loads.blk (P := Tryz.prog) (T := 3) (off := 1) (v := .int .i64 y.dev) hst1 TyS.out (List.mem_append_right _ (.head _)) rfl, ?_⟩ | refine ⟨_, Loads.blk (P := Tryz.prog) (T := 3) (off := 2) (v := .int .i64 y.pl) hst1 TyS.out (List.mem_append_right _ (.head _)) rfl, ?_⟩) | (go_at_call 56; have HC := strayM_any (mid_in (P := [_]) (Bs := []) hst1) HG.out.sc.ok y.dev y.pl; refine HC.mono ?_; clear HC; rintro _ _ ⟨rfl, h4⟩; have hst2 := mid_out (P := [_]) (Bs := []) hst1 h4; clear h4 hst1))
  go_end0
  exact ⟨rfl, x, m.a.stray y.dev y.pl, by unfold Bef; refine .inr ?_; refine .inr ?_; refine .inr ?_; refine .inr ?_; refine .inr ?_; refine .inr ?_; refine .inr ?_; exact .inl ⟨HK.out, rfl⟩, HG.out.arr (HG.out.sc.ok.stray _ _) (Stays.fell _ _ _ (fun _ => rfl)), sub_x (A := mP gm ga x (m.withA (m.a.stray y.dev y.pl))) hst2⟩
theorem bef16_fail {w0 w : World} {R : List HA} {gm ga : Nat} {x : GA} {m : MV} {N : Nat} (hS : St w0 [] w (mP gm ga x m ++ R)) (hg : MGood m N) (hN : N ≤ 800000) (y : AC) (hy : y.Ok w0) (hk : y.k = 8) :
    Calls Tryz.prog 21 #[.pointer (some ⟨ga, 0, none⟩), .agg (List.toArray y.cells)] w fun e w' => e = .returned (.tuple #[]) ∧ ∃ x' a', Bef y m.a a' ∧ MGood (m.withA a') (N + 1) ∧ St w0 [] w' (mP gm ga x' (m.withA a') ++ R) := by
  have hst := hS
  have HG := hid hg
  have HY := hid hy
  clear hS hg hy
  have HK := hid hk
  clear hk
  go_enter Tryz.func21, Tryz.ntmps21
  go_wp2_with (first | go_big_skip | go_big_guard | (refine wl_boxA hst rfl rfl rfl ?_; intro g3 w1 hst0; clear hst; have hst1 := St.behind (A := mP gm ga x m) hst0; clear hst0) | (refine wl_loadE rfl rfl rfl ?_; first | refine ⟨_, Loads.blk (P := Tryz.prog) (T := 3) (off := 0) (v := .int .i64 8) hst1 TyS.out (List.mem_append_right _ (.head _)) (show some (Value.int .i64 y.k) = _ from by rw [HK.out]), ?_⟩ | refine ⟨_, Loads.blk (P := Tryz.prog) (T := 3) (off := 1) (v := .int .i64 y.dev) hst1 TyS.out (List.mem_append_right _ (.head _)) rfl, ?_⟩ | refine ⟨_, Loads.blk (P := Tryz.prog) (T := 3) (off := 3) (v := .int .i64 y.n) hst1 TyS.out (List.mem_append_right _ (.head _)) rfl, ?_⟩) | (go_at_call 57; have HC := failsM_any (mid_in (P := [_]) (Bs := []) hst1) HG.out.sc.ok y.dev y.n; refine HC.mono ?_; clear HC; rintro _ _ ⟨rfl, h4⟩; have hst2 := mid_out (P := [_]) (Bs := []) hst1 h4; clear h4 hst1))
  go_end0
  exact ⟨rfl, x, m.a.fails y.dev y.n, by unfold Bef; refine .inr ?_; refine .inr ?_; refine .inr ?_; refine .inr ?_; refine .inr ?_; refine .inr ?_; refine .inr ?_; refine .inr ?_; exact .inl ⟨HK.out, rfl⟩, HG.out.arr (HG.out.sc.ok.fails _ _ (HY.out.n.2)) (Stays.fell _ _ _ (fun _ => rfl)), sub_x (A := mP gm ga x (m.withA (m.a.fails y.dev y.n))) hst2⟩
theorem bef16_pull {w0 w : World} {R : List HA} {gm ga : Nat} {x : GA} {m : MV} {N : Nat} (hS : St w0 [] w (mP gm ga x m ++ R)) (hg : MGood m N) (hN : N ≤ 800000) (y : AC) (hy : y.Ok w0) (hk : y.k = 9) :
    Calls Tryz.prog 21 #[.pointer (some ⟨ga, 0, none⟩), .agg (List.toArray y.cells)] w fun e w' => e = .returned (.tuple #[]) ∧ ∃ x' a', Bef y m.a a' ∧ MGood (m.withA a') (N + 1) ∧ St w0 [] w' (mP gm ga x' (m.withA a') ++ R) := by
  have hst := hS
  have HG := hid hg
  have HY := hid hy
  clear hS hg hy
  have HK := hid hk
  clear hk
  go_enter Tryz.func21, Tryz.ntmps21
  go_wp2_with (first | go_big_skip | go_big_guard | (refine wl_boxA hst rfl rfl rfl ?_; intro g3 w1 hst0; clear hst; have hst1 := St.behind (A := mP gm ga x m) hst0; clear hst0) | (refine wl_loadE rfl rfl rfl ?_; first | refine ⟨_, Loads.blk (P := Tryz.prog) (T := 3) (off := 0) (v := .int .i64 9) hst1 TyS.out (List.mem_append_right _ (.head _)) (show some (Value.int .i64 y.k) = _ from by rw [HK.out]), ?_⟩ | refine ⟨_, Loads.blk (P := Tryz.prog) (T := 3) (off := 1) (v := .int .i64 y.dev) hst1 TyS.out (List.mem_append_right _ (.head _)) rfl, ?_⟩) | (go_at_call 14; have HC := pullM_any (mid_in (P := [_]) (Bs := []) hst1) HG.out.sc.ok (HG.out.ll (by omega)) y.dev; refine HC.mono ?_; clear HC; rintro _ _ ⟨rfl, x2, h4⟩; have hst2 := mid_out (P := [_]) (Bs := []) hst1 h4; clear h4 hst1))
  go_end0
  exact ⟨rfl, x2, m.a.pull y.dev, by unfold Bef; refine .inr ?_; refine .inr ?_; refine .inr ?_; refine .inr ?_; refine .inr ?_; refine .inr ?_; refine .inr ?_; refine .inr ?_; refine .inr ?_; exact .inl ⟨HK.out, rfl⟩, HG.out.arr (HG.out.sc.ok.pull _) (Stays.pull _ _), sub_x (A := mP gm ga x2 (m.withA (m.a.pull y.dev))) hst2⟩
theorem bef16_fit {w0 w : World} {R : List HA} {gm ga : Nat} {x : GA} {m : MV} {N : Nat} (hS : St w0 [] w (mP gm ga x m ++ R)) (hg : MGood m N) (hN : N ≤ 800000) (y : AC) (hy : y.Ok w0) (hk : y.k = 10) :
    Calls Tryz.prog 21 #[.pointer (some ⟨ga, 0, none⟩), .agg (List.toArray y.cells)] w fun e w' => e = .returned (.tuple #[]) ∧ ∃ x' a', Bef y m.a a' ∧ MGood (m.withA a') (N + 1) ∧ St w0 [] w' (mP gm ga x' (m.withA a') ++ R) := by
  have hst := hS
  have HG := hid hg
  have HY := hid hy
  clear hS hg hy
  have HK := hid hk
  clear hk
  go_enter Tryz.func21, Tryz.ntmps21
  go_wp2_with (first | go_big_skip | go_big_guard | (refine wl_boxA hst rfl rfl rfl ?_; intro g3 w1 hst0; clear hst; have hst1 := St.behind (A := mP gm ga x m) hst0; clear hst0) | (refine wl_loadE rfl rfl rfl ?_; first | refine ⟨_, Loads.blk (P := Tryz.prog) (T := 3) (off := 0) (v := .int .i64 10) hst1 TyS.out (List.mem_append_right _ (.head _)) (show some (Value.int .i64 y.k) = _ from by rw [HK.out]), ?_⟩ | refine ⟨_, Loads.blk (P := Tryz.prog) (T := 3) (off := 1) (v := .int .i64 y.dev) hst1 TyS.out (List.mem_append_right _ (.head _)) rfl, ?_⟩) | (go_at_call 16; have HC := fitM_any (mid_in (P := [_]) (Bs := []) hst1) HG.out.sc.ok (HG.out.ll (by omega)) y.dev; refine HC.mono ?_; clear HC; rintro _ _ ⟨rfl, x2, gf, h4⟩; have hst2 := mid_out (P := [_]) (Bs := []) hst1 h4; clear h4 hst1))
  go_end0
  exact ⟨rfl, x2, m.a.fit y.dev gf, by unfold Bef; refine .inr ?_; refine .inr ?_; refine .inr ?_; refine .inr ?_; refine .inr ?_; refine .inr ?_; refine .inr ?_; refine .inr ?_; refine .inr ?_; refine .inr ?_; exact .inl ⟨HK.out, gf, rfl⟩, HG.out.arr (HG.out.sc.ok.fit _ _) (Stays.fit HG.out.sc.ok _ _), sub_x (A := mP gm ga x2 (m.withA (m.a.fit y.dev gf))) hst2⟩
theorem bef16_none {w0 w : World} {R : List HA} {gm ga : Nat} {x : GA} {m : MV} {N : Nat} (hS : St w0 [] w (mP gm ga x m ++ R)) (hg : MGood m N) (hN : N ≤ 800000) (y : AC) (hy : y.Ok w0) (d0 : (y.k == 0) = false) (d1 : (y.k == 1) = false) (d2 : (y.k == 2) = false) (d3 : (y.k == 3) = false) (d4 : (y.k == 4) = false) (d5 : (y.k == 5) = false) (d6 : (y.k == 6) = false) (d7 : (y.k == 7) = false) (d8 : (y.k == 8) = false) (d9 : (y.k == 9) = false) (d10 : (y.k == 10) = false) :
    Calls Tryz.prog 21 #[.pointer (some ⟨ga, 0, none⟩), .agg (List.toArray y.cells)] w fun e w' => e = .returned (.tuple #[]) ∧ ∃ x' a', Bef y m.a a' ∧ MGood (m.withA a') (N + 1) ∧ St w0 [] w' (mP gm ga x' (m.withA a') ++ R) := by
  have hst := hS
  have HG := hid hg
  have HY := hid hy
  clear hS hg hy
  go_enter Tryz.func21, Tryz.ntmps21
  go_wp2_with (first | go_big_skip | go_big_guard | (refine wl_boxA hst rfl rfl rfl ?_; intro g3 w1 hst0; clear hst; have hst1 := St.behind (A := mP gm ga x m) hst0; clear hst0) | (refine wl_loadE rfl rfl rfl ?_; refine ⟨_, Loads.blk (P := Tryz.prog) (T := 3) (off := 0) (v := .int .i64 y.k) hst1 TyS.out (List.mem_append_right _ (.head _)) rfl, ?_⟩))
  go_end0
  exact ⟨rfl, x, m.a, by unfold Bef; refine .inr ?_; refine .inr ?_; refine .inr ?_; refine .inr ?_; refine .inr ?_; refine .inr ?_; refine .inr ?_; refine .inr ?_; refine .inr ?_; refine .inr ?_; refine .inr ?_; rfl, HG.out.mono (Nat.le_succ _), sub_x hst1⟩
theorem befalls16_any {w0 w : World} {R : List HA} {gm ga : Nat} {x : GA} {m : MV} {N : Nat} (hS : St w0 [] w (mP gm ga x m ++ R)) (hg : MGood m N) (hN : N ≤ 800000) (y : AC) (hy : y.Ok w0) :
    Calls Tryz.prog 21 #[.pointer (some ⟨ga, 0, none⟩), .agg (List.toArray y.cells)] w fun e w' => e = .returned (.tuple #[]) ∧ ∃ x' a', Bef y m.a a' ∧ MGood (m.withA a') (N + 1) ∧ St w0 [] w' (mP gm ga x' (m.withA a') ++ R) := by
  by_cases h0 : y.k = 0
  · exact bef16_write hS hg hN y hy h0
  by_cases h1 : y.k = 1
  · exact bef16_flush hS hg hN y hy h1
  by_cases h2 : y.k = 2
  · exact bef16_read hS hg hN y hy h2
  by_cases h3 : y.k = 3
  · exact bef16_crash hS hg hN y hy h3
  by_cases h4 : y.k = 4
  · exact bef16_fuse hS hg hN y hy h4
  by_cases h5 : y.k = 5
  · exact bef16_spoil hS hg hN y hy h5
  by_cases h6 : y.k = 6
  · exact bef16_lose hS hg hN y hy h6
  by_cases h7 : y.k = 7
  · exact bef16_stray hS hg hN y hy h7
  by_cases h8 : y.k = 8
  · exact bef16_fail hS hg hN y hy h8
  by_cases h9 : y.k = 9
  · exact bef16_pull hS hg hN y hy h9
  by_cases h10 : y.k = 10
  · exact bef16_fit hS hg hN y hy h10
  exact bef16_none hS hg hN y hy (beq_eq_false_iff_ne.2 h0) (beq_eq_false_iff_ne.2 h1) (beq_eq_false_iff_ne.2 h2) (beq_eq_false_iff_ne.2 h3) (beq_eq_false_iff_ne.2 h4) (beq_eq_false_iff_ne.2 h5) (beq_eq_false_iff_ne.2 h6) (beq_eq_false_iff_ne.2 h7) (beq_eq_false_iff_ne.2 h8) (beq_eq_false_iff_ne.2 h9) (beq_eq_false_iff_ne.2 h10)
end
end Go.Proofs.YtmdfbdfijnmhkaaGreat
namespace Go.Proofs.YtmdfbdfijnmhkaaGreat
set_option linter.unusedVariables false
set_option linter.unusedSimpArgs false
open Go.RowKit Hp
set_option maxRecDepth 100000
set_option maxHeartbeats 4000000
theorem dl_step (a : AR) : a.step.devs.length = a.devs.length := by unfold AR.step; split <;> rfl
theorem dl_lay (a : AR) (dev pl : Int) (b : List UInt8) : (a.lay dev pl b).devs.length = a.devs.length := by
  unfold AR.lay
  split
  · exact upd_len a dev _
  · split
    · exact upd_len a dev _
    · rfl
theorem dl_write (a : AR) (dev pl : Int) (b : List UInt8) : (a.write dev pl b).devs.length = a.devs.length := by
  unfold AR.write
  split
  · rfl
  · split
    · exact dl_step a
    · exact (dl_lay _ _ _ _).trans (dl_step a)
theorem dl_flush (a : AR) (dev : Int) : (a.flush dev).devs.length = a.devs.length := by
  unfold AR.flush
  split
  · rfl
  · split
    · exact dl_step a
    · exact (upd_len a.step _ _).trans (dl_step a)
theorem dl_read (a : AR) (dev pl : Int) : (a.read dev pl).devs.length = a.devs.length := by
  unfold AR.read
  split
  · exact upd_len a dev _
  · rfl
theorem dl_fell (a : AR) (dev : Int) (rs : List Int) (f : DV → DV) : (a.fell dev rs f).devs.length = a.devs.length := by
  unfold AR.fell
  split
  · exact upd_len a dev _
  · rfl
theorem dl_crashN (a : AR) (keep : List Bool) (t : Nat) : ∀ j, (crashN a keep t j).1.devs.length = a.devs.length
  | 0 => rfl
  | j + 1 => by
    unfold crashN
    split
    · exact dl_crashN a keep t j
    · unfold crashF
      split
      · exact (upd_len _ _ _).trans (dl_crashN a keep t j)
      · split
        · exact (upd_len _ _ _).trans (dl_crashN a keep t j)
        · exact dl_crashN a keep t j
theorem dl_crash (a : AR) (keep : List Bool) (torn : Int) : (a.crash keep torn).devs.length = a.devs.length := by
  unfold AR.crash
  split
  · show ((crashN a keep torn.toNat a.loose.length).1.devs.map clean).length = _
    rw [List.length_map]
    exact dl_crashN a keep _ _
  · rfl
theorem dl_bef {y : AC} {a a' : AR} (h : Bef y a a') : a'.devs.length = a.devs.length := by
  unfold Bef at h
  rcases h with ⟨_, rfl⟩ | ⟨_, rfl⟩ | ⟨_, rfl⟩ | ⟨_, rfl⟩ | ⟨_, rfl⟩ | ⟨_, rfl⟩ | ⟨_, rfl⟩ | ⟨_, rfl⟩ | ⟨_, rfl⟩ | ⟨_, rfl⟩ | ⟨_, g, rfl⟩ | rfl
  · exact dl_write _ _ _ _
  · exact dl_flush _ _
  · exact dl_read _ _ _
  · exact dl_crash _ _ _
  · unfold AR.fused; split <;> rfl
  · unfold AR.spoil; split
    · exact upd_len a _ _
    · rfl
  · exact dl_fell _ _ _ _
  · exact dl_fell _ _ _ _
  · exact dl_fell _ _ _ _
  · unfold AR.pull; split
    · exact upd_len a _ _
    · rfl
  · unfold AR.fit; split
    · exact upd_len (a.rest _) _ _
    · rfl
  · rfl
theorem dl_heals {b : List UInt8} : ∀ (l : List (Int × Int)) (m : MV), (m.heals l b).a.devs.length = m.a.devs.length
  | [], _ => rfl
  | x :: l, m => (dl_heals l (m.healed x.1 x.2 b)).trans (dl_write m.a x.1 x.2 b)
theorem dl_found {S : List UInt8} {but : Int} : ∀ (l ill : List (Int × Int)) (m : MV), (found S but m l ill).m.a.devs.length = m.a.devs.length
  | [], _, _ => rfl
  | x :: l, ill, m => by
    have h : (m.looked x.1 x.2 S).a.devs.length = m.a.devs.length := dl_read m.a x.1 x.2
    unfold found
    split
    · exact dl_found l ill m
    · split
      · exact h
      · split
        · exact (dl_found l _ _).trans h
        · split
          · exact h
          · exact (dl_found l _ _).trans h
theorem dl_get (m : MV) (P : PV) : (m.get P).m.a.devs.length = m.a.devs.length := by
  unfold MV.get
  split
  · rfl
  · split
    · exact dl_found _ _ _
    · exact (dl_heals _ _).trans (dl_found _ _ _)
end Go.Proofs.YtmdfbdfijnmhkaaGreat
namespace Go.Proofs.YtmdfbdfijnmhkaaGreat
set_option linter.unusedVariables false
set_option linter.unusedSimpArgs false
open Go.RowKit Hp
set_option maxRecDepth 100000
set_option maxHeartbeats 4000000
theorem found_er {S : List UInt8} {but : Int} : ∀ {l ill : List (Int × Int)} {m : MV} {N : Nat}, MGood m N → ((found S but m l ill).er = 0 → (found S but m l ill).b.length = 256 ∧ sumB (found S but m l ill).b = S) ∧ ((found S but m l ill).er ≠ 0 → (found S but m l ill).b = [])
  | [], ill, m, N, _ => by
    unfold found
    refine ⟨fun h => ?_, fun _ => rfl⟩
    exfalso
    revert h
    show (if ill = [] then (13 : Int) else 12) = 0 → False
    split <;> decide
  | x :: l, ill, m, N, hg => by
    have hn := hg.looked x.1 x.2 S
    unfold found
    split
    · exact found_er hg
    · split
      · rename_i hk
        refine ⟨fun _ => ?_, fun h => absurd rfl h⟩
        dsimp only
        unfold MV.lookB
        rw [if_pos hk]
        have hr : m.a.readE x.1 x.2 = 0 ∧ sumB (m.a.readB x.1 x.2) = S := by
          unfold MV.kind at hk
          split at hk
          · cases hk
          · split at hk
            · cases hk
            · rename_i h2
              split at hk
              · rename_i h3
                exact ⟨by simpa using h2, h3⟩
              · cases hk
        exact ⟨readB_len hg.sc.ok hr.1, hr.2⟩
      · split
        · exact found_er hn
        · split
          · exact ⟨fun h => absurd (show (10 : Int) = 0 from h) (by decide), fun _ => rfl⟩
          · exact found_er hn
theorem get_er {m : MV} {P : PV} {N : Nat} (hg : MGood m N) : ((m.get P).er = 0 → (m.get P).b.length = 256 ∧ sumB (m.get P).b = P.S) ∧ ((m.get P).er ≠ 0 → (m.get P).b = []) := by
  have hf := found_er (S := P.S) (but := -1) (l := P.l) (ill := []) hg
  unfold MV.get
  split
  · rename_i h
    exact ⟨fun h' => absurd h' h, fun _ => rfl⟩
  · split
    · rename_i h
      exact ⟨fun h' => absurd h' h, fun _ => rfl⟩
    · rename_i h
      exact ⟨fun _ => hf.1 (by simpa using h), fun h' => absurd rfl h'⟩
end Go.Proofs.YtmdfbdfijnmhkaaGreat
namespace Go.Proofs.YtmdfbdfijnmhkaaGreat
set_option linter.unusedVariables false
set_option linter.unusedSimpArgs false
open Go.RowKit Hp
set_option maxRecDepth 100000
set_option maxHeartbeats 4000000
theorem safe_bef {s : Nat} {D : DV} {y : AC} {a a' : AR} (h : Safe s D a) (hD : clean D = D) (hy : (y.dev ≠ (s : Int) ∧ y.k ≠ 4) ∨ y.k = 3) (hb : Bef y a a') : Safe s D a' := by
  unfold Bef at hb
  rcases hb with ⟨e, rfl⟩ | ⟨e, rfl⟩ | ⟨e, rfl⟩ | ⟨e, rfl⟩ | ⟨e, rfl⟩ | ⟨e, rfl⟩ | ⟨e, rfl⟩ | ⟨e, rfl⟩ | ⟨e, rfl⟩ | ⟨e, rfl⟩ | ⟨e, g, rfl⟩ | rfl
  · exact h.write (by omega)
  · exact h.flush (by omega)
  · exact h.read (by omega)
  · exact h.crash hD _ _
  · omega
  · exact h.spoil (by omega)
  · exact h.lose (by omega)
  · exact h.stray (by omega)
  · exact h.fails (by omega)
  · exact h.pull (by omega)
  · exact h.fit (by omega)
  · exact h
structure Mid (s : Nat) (D : DV) (m : MV) (N : Nat) : Prop where
  safe : Safe s D m.a
  good : MGood m N
  dl : m.a.devs.length = 3
theorem Mid.bef {s : Nat} {D : DV} {m : MV} {N : Nat} {y : AC} {a' : AR} (h : Mid s D m N) (hD : clean D = D) (hy : (y.dev ≠ (s : Int) ∧ y.k ≠ 4) ∨ y.k = 3) (hb : Bef y m.a a') (hg : MGood (m.withA a') (N + 1)) : Mid s D (m.withA a') (N + 1) :=
  ⟨safe_bef h.safe hD hy hb, hg, (dl_bef hb).trans h.dl⟩
theorem mid_asks {s : Nat} {D : DV} {m : MV} {N k cc : Nat} {ao : Option Addr} {S : List UInt8} (h : Mid s D m N) (h1 : 1 ≤ k) (h3 : k ≤ 3) : m.askE (PVof ao k cc (onDevs k) 1 0 S) = 0 := by
  have hl : m.lies (onDevs k) = true := by
    unfold MV.lies
    rw [List.all_eq_true]
    intro x hx
    obtain ⟨i, hi, rfl⟩ := List.mem_map.1 hx
    have hi' := List.mem_range.1 hi
    have hs := h.good.sc.sec
    have hd := h.dl
    unfold AR.inS AR.inD
    simp
    omega
  have hp : ((PVof ao k cc (onDevs k) 1 0 S).ok && !(PVof ao k cc (onDevs k) 1 0 S).hole) = true := by
    rcases (by omega : k = 1 ∨ k = 2 ∨ k = 3) with rfl | rfl | rfl <;> kernel_rfl
  unfold MV.askE
  rw [if_pos (show _ = true from by rw [hp]; exact hl)]
theorem mid_get {s g k cc N : Nat} {b S : List UInt8} {m : MV} {ao : Option Addr} (hS : sumB b = S) (hs : s < k) (h3 : k ≤ 3) (h : Mid s (dk g b) m N) :
    ∃ B m', m.get (PVof ao k cc (onDevs k) 1 0 S) = ⟨0, B, m'⟩ ∧ B.length = 256 ∧ sumB B = S ∧ Mid s (dk g b) m' (N + 6) := by
  have h1 := get_safe (ao := ao) (cc := cc) hS hs h.safe h.good (mid_asks h (by omega) h3)
  have h2 := (get_er (P := PVof ao k cc (onDevs k) 1 0 S) h.good).1 h1.1
  have h4 := get_mg (P := PVof ao k cc (onDevs k) 1 0 S) h.good
  have h5 := dl_get m (PVof ao k cc (onDevs k) 1 0 S)
  have hk : (PVof ao k cc (onDevs k) 1 0 S).l.length = k := onDevs_len k
  rw [hk] at h4
  generalize m.get (PVof ao k cc (onDevs k) 1 0 S) = Q at h1 h2 h4 h5
  obtain ⟨e, B, m'⟩ := Q
  obtain ⟨he, hq⟩ := h1
  dsimp only at he hq h2 h4 h5
  subst he
  exact ⟨B, m', rfl, h2.1, h2.2, hq, h4.mono (by omega), h5.trans h.dl⟩
theorem mid_start {p q r : Nat} {c : UInt8} {k d : Nat} (h1 : 1 ≤ k) (h3 : k ≤ 3) (hd : d < k) : ∃ g, Mid d (dk g (sect c)) (G16 p q r c k) 10 := by
  have hc : cont (sect c) (fun _ => 0) (fun _ => 0) k 0 d = sect c := by
    unfold cont
    rw [if_neg (by omega), if_pos hd]
  have hg : MGood (G16 p q r c k) 10 := h16_good ⟨by omega, by omega⟩
  rcases (by omega : d = 0 ∨ d = 1 ∨ d = 2) with rfl | rfl | rfl
  · refine ⟨p, ⟨?_, rfl, rfl, fun w hw => by cases hw⟩, hg, rfl⟩
    rw [← hc]
    rfl
  · refine ⟨q, ⟨?_, rfl, rfl, fun w hw => by cases hw⟩, hg, rfl⟩
    rw [← hc]
    rfl
  · refine ⟨r, ⟨?_, rfl, rfl, fun w hw => by cases hw⟩, hg, rfl⟩
    rw [← hc]
    rfl
theorem dk_clean (g : Nat) (b : List UInt8) : clean (dk g b) = dk g b := rfl
end Go.Proofs.YtmdfbdfijnmhkaaGreat
namespace Go.Proofs.YtmdfbdfijnmhkaaGreat
set_option linter.unusedVariables false
set_option linter.unusedSimpArgs false
open Go.RowKit Hp
attribute [local irreducible] Go.Calls Go.wpList
set_option maxRecDepth 100000
set_option maxHeartbeats 4000000
def NoArr (w : World) (p : Option Addr) : Prop := p = none ∨ ∃ g, p = some ⟨g, 0, none⟩ ∧ w.cell? ⟨g, 0, none⟩ = some (.slice none 0 0)
def NoMir (w : World) (p : Option Addr) : Prop := p = none ∨ ∃ g, p = some ⟨g, 0, none⟩ ∧ w.cell? ⟨g, 0, none⟩ = some (.pointer none)
theorem NoArr.later {w w' : World} {L : List HA} {p : Option Addr} (h : NoArr w p) (hst : St w [] w' L) : NoArr w' p := by
  rcases h with h | ⟨g, hp, hc⟩
  · exact .inl h
  · exact .inr ⟨g, hp, hst.old_cell hc (by simp)⟩
theorem NoMir.later {w w' : World} {L : List HA} {p : Option Addr} (h : NoMir w p) (hst : St w [] w' L) : NoMir w' p := by
  rcases h with h | ⟨g, hp, hc⟩
  · exact .inl h
  · exact .inr ⟨g, hp, hst.old_cell hc (by simp)⟩
section
theorem loadedPn (A : Addr) : loadVar 34 A = loadVarH 34 A := rfl
attribute [local go_sem ↓] loadedPn
end
end Go.Proofs.YtmdfbdfijnmhkaaGreat
namespace Go.Proofs.YtmdfbdfijnmhkaaGreat
set_option linter.unusedVariables false
set_option linter.unusedSimpArgs false
open Go.RowKit Hp
attribute [local irreducible] Go.Calls Go.wpList
set_option maxRecDepth 100000
set_option maxHeartbeats 4000000
structure MC where
  k : Int
  dev : Int
  p : PV
  bo : Option Addr
  bn : Nat
  bc : Nat
  B : List UInt8
  x : AC
def MC.cells (y : MC) : List Value := .int .i64 y.k :: .int .i64 y.dev :: (y.p.cells ++ (.slice y.bo y.bn y.bc :: y.x.cells))
structure MC.Ok (y : MC) (w : World) : Prop where
  k : in64 y.k
  dev : in64 y.dev
  p : y.p.In w
  rb : Rd w (.slice y.bo y.bn y.bc) 1 y.bn (bytesV y.B)
  lb : y.B.length = y.bn
  x : y.x.Ok w
theorem MC.Ok.old {w0 w : World} {L : List HA} {y : MC} (hst : St w0 [] w L) (h : y.Ok w0) : y.Ok w := ⟨h.k, h.dev, PV.In.old hst h.p, Rd.old hst h.rb, h.lb, h.x.old hst⟩
theorem MC.len {y : MC} (h : L32 y.p.S) : y.cells.length = 45 := by
  unfold MC.cells
  simp only [List.length_cons, List.length_append, PV.len h]
  rfl
theorem MC.pc {y : MC} (h : L32 y.p.S) {j : Nat} {v : Value} (hj : y.p.cells[j]? = some v) : y.cells[j + 2]? = some v := by
  unfold MC.cells
  rw [List.getElem?_cons_succ, List.getElem?_cons_succ, List.getElem?_append_left (List.getElem?_eq_some_iff.1 hj).1]
  exact hj
instance acE16 : TyE Tryz.prog 49 7 88 := ⟨by kernel_rfl⟩
section
theorem loadedAc (A : Addr) : loadVar 49 A = loadVarH 49 A := rfl
attribute [local go_sem ↓] loadedAc
attribute [local irreducible] Hp.Loads
end
end Go.Proofs.YtmdfbdfijnmhkaaGreat
namespace Go.Proofs.YtmdfbdfijnmhkaaGreat
set_option linter.unusedVariables false
set_option linter.unusedSimpArgs false
open Go.RowKit Hp
attribute [local irreducible] Go.Calls Go.wpList
set_option maxRecDepth 100000
set_option maxHeartbeats 4000000
instance mnSl : TySl Tryz.prog 62 69 := ⟨by kernel_rfl⟩
instance mnE : TyE Tryz.prog 69 45 200 := ⟨by kernel_rfl⟩
instance mnA : TyA Tryz.prog 69 45 := ⟨by kernel_rfl⟩
instance mnN : TyN Tryz.prog 69 45 := ⟨by kernel_rfl⟩
instance mnEM : TyE Tryz.prog 24 1 8 := ⟨by kernel_rfl⟩
instance mnEA : TyE Tryz.prog 23 1 8 := ⟨by kernel_rfl⟩
def zMir : List Value := .pointer none :: List.replicate 24 (.int .i64 0)
instance mnB : TyB Tryz.prog 97 zMir := ⟨by kernel_rfl⟩
instance mnSc : TySI Tryz.prog 59 4 := ⟨by kernel_rfl⟩
theorem neqScan (a b c d a' b' c' d' : Int) (w : World) : (binOp .neq 59 (.agg #[.int .i64 a, .int .i64 b, .int .i64 c, .int .i64 d]) (.agg #[.int .i64 a', .int .i64 b', .int .i64 c', .int .i64 d'])).run Tryz.prog w = .ok (.bool (!(([a, b, c, d] : List Int) == [a', b', c', d']))) w := run_neqSI (P := Tryz.prog) (T := 59) (q := .i64) [a, b, c, d] [a', b', c', d'] rfl rfl
theorem guardScn (op : BinOp) (x y : Operand) (xs ys : Array Value) (w : World) : (eqGuard op 59 x y (.agg xs) (.agg ys)).run Tryz.prog w = .ok () w := run_guardSI op x y xs ys
theorem neqErr (a b c a' b' c' : Int) (w : World) : (binOp .neq 71 (.agg #[.int .i64 a, .int .i64 b, .int .i64 c]) (.agg #[.int .i64 a', .int .i64 b', .int .i64 c'])).run Tryz.prog w = .ok (.bool (!(([a, b, c] : List Int) == [a', b', c']))) w := run_neqSI (P := Tryz.prog) (T := 71) (q := .i64) [a, b, c] [a', b', c'] rfl rfl
section
theorem loadedPt3 (A : Addr) : loadVar 34 A = loadVarH 34 A := rfl
theorem loadedS3 (A : Addr) : loadVar 59 A = loadVarH 59 A := rfl
theorem loadedA3 (A : Addr) : loadVar 69 A = loadVarH 69 A := rfl
attribute [local go_sem ↓] loadedPt3 loadedS3 loadedA3 neqScan guardScn neqErr guardErr
attribute [local irreducible] Hp.Loads
end
end Go.Proofs.YtmdfbdfijnmhkaaGreat
namespace Go.Proofs.YtmdfbdfijnmhkaaGreat
set_option linter.unusedVariables false
set_option linter.unusedSimpArgs false
open Go.RowKit Hp
set_option maxRecDepth 100000
theorem ow_if16 {P : Program} {ops : Array Oper} {o : Oper} {a : Act} {w : World} {K : Act → World → Prop} {Q : Exit → Act → World → Prop} {E : Prop} (hw : Region.wanted o (yielded ops a.tmps) = true) (h : wpList P ops (Q0 K Q) [o] a w) : if Region.wanted o (yielded ops a.tmps) = true then o.wp P a w K Q else E := by
  rw [if_pos hw]
  exact ow_of_wl hw h
end Go.Proofs.YtmdfbdfijnmhkaaGreat
namespace Go.Proofs.YtmdfbdfijnmhkaaGreat
set_option linter.unusedVariables false
set_option linter.unusedSimpArgs false
open Go.RowKit Hp
attribute [local irreducible] Go.Calls Go.wpList
set_option maxRecDepth 100000
set_option maxHeartbeats 8000000
theorem lds16 {P : Program} {w : World} {T : TypeId} {A : Addr} {v : Value} (h : Loads P w T A v) : (loadVarH T A).run P w = .ok v w := h
section
theorem loadedA4 (A : Addr) : loadVar 49 A = loadVarH 49 A := rfl
theorem loadedI4 (A : Addr) : loadVar 3 A = loadVarH 3 A := rfl
theorem loadedD4 (A : Addr) : loadVar 32 A = loadVarH 32 A := rfl
attribute [local go_sem ↓] loadedPt storedPt loadedA4 loadedI4 loadedD4
attribute [local irreducible] Hp.Loads
theorem sound16_any (c : UInt8) (zc zd : Int) (ao : Option Addr) (n cc : Nat) (ys : List AC) (w : World) (hz : -9223372036854775808 ≤ zc ∧ zc ≤ 9223372036854775807) (hzd : -9223372036854775808 ≤ zd ∧ zd ≤ 9223372036854775807) (hv : Rd w (.slice ao n cc) 7 n (ys.flatMap AC.cells)) (hN : ys.length = n) (hy : ∀ y ∈ ys, y.Ok w) :
    Calls Tryz.prog 4 #[.int .u8 c.toNat, .int .i64 zc, .int .i64 zd, .slice ao n cc] w fun e w' => e = .returned (.bool true) ∧ St w [] w' [] := by
  have hst := St.refl w
  obtain ⟨S, hS⟩ : ∃ S, S = sumB (sect c) := ⟨_, rfl⟩
  have HS := hid hS.symm
  have HL := hid (show L32 S from by rw [hS]; exact length_bytesS _)
  obtain ⟨kp, hkp, hpk⟩ := pickI_nat (x := zc) (n := 3) (by decide)
  have HPK := hid (show pickI zc 3 = (kp : Int) from hpk)
  obtain ⟨k, hk⟩ : ∃ k, k = kp + 1 := ⟨_, rfl⟩
  have hk1 : 1 ≤ k := by omega
  have hk3 : k ≤ 3 := by omega
  have zk : IntKind.i64.wrap (1 + (kp : Int)) = (k : Int) := by rw [hk]; rw [IntWalk.i64_in _ (by omega)]; push_cast; omega
  obtain ⟨d, hd, hpd⟩ := pickI_nat (x := zd) (n := k) (by omega)
  have HPD := hid hpd
  have HKK := hid hk
  have HZ := hid hz
  have HZD := hid hzd
  have HN := hid hN
  have HYY := hid hy
  have HV := hid hv
  have hb1 := hv.bd.1
  have hb2 := hv.bd.2.1
  clear hS hpk hkp hk hpd hz hzd hN hy hv
  by_cases hsh : shortC ys n
  · have HSH := hid hsh
    by_cases h60 : 60 < n
    · have d0 : decide (60 < (n : Int)) = true := decide_eq_true (by omega)
      clear hsh
      go_enter Tryz.func4, Tryz.ntmps4
      go_wp2_with (first | go_big_skip | go_big_guard | (go_at_call 8; refine (awake16_any _).mono ?_; rintro _ w3 ⟨rfl, h4⟩; have hst3 := St.call0 hst h4; clear h4 hst) | (go_at_call 9; refine (made16_any _).mono ?_; rintro _ _ ⟨gm, ga, x0, gs, rfl, hg, h4⟩; obtain ⟨p, q, r, rfl⟩ : ∃ p q r, gs = [p, q, r] := (match gs, hg with | [p, q, r], _ => ⟨p, q, r, rfl⟩); have hm0 : St w [] _ (mP gm ga x0 (W0 p q r) ++ _) := (by have h5 := St.call hst3 h4; rw [newA_ak] at h5; exact h5); clear h4 hg hst3; obtain ⟨A1, hA1, hA2⟩ := put_flush (p := p) (q := q) (r := r) (c := c) (π := fun _ => 0) (μ := fun _ => 0) hk1 hk3; have HA1 := hid hA1; have HA2 := hid hA2; clear hA1 hA2; have HG0 := hid (show MGood (G16 p q r c k) 10 from h16_good ⟨by omega, by omega⟩); unfold PM) | (go_at_call 10; refine (pick_spec zc 3 _ HZ.out (by first | decide | omega)).mono ?_; rw [HPK.out]; rintro _ _ ⟨rfl, h4⟩; have hm1 := St.call0 hm0 h4; clear h4 hm0) | (go_at_call 10; refine (pick_spec zd (k : Int) _ HZD.out (by first | decide | omega)).mono ?_; rw [HPD.out]; rintro _ _ ⟨rfl, h4⟩; have hm2 := St.call0 hm1 h4; clear h4 hm1) | (go_at_call 20; have HC := longC_no ao n cc ys _ (Rd.old hm2 HV.out) HN.out (fun y hy => (HYY.out y hy).old hm2) HSH.out; refine HC.mono ?_; clear HC; rintro _ _ ⟨rfl, h4⟩; have hm3 := St.call0 hm2 h4; clear h4 hm2))
      go_ret
      exact ⟨rfl, hm3.nil⟩
    · have d0 : decide (60 < (n : Int)) = false := decide_eq_false (by omega)
      clear hsh
      go_enter Tryz.func4, Tryz.ntmps4
      go_wp2_with (first | go_big_skip | go_big_guard | (go_at_call 8; refine (awake16_any _).mono ?_; rintro _ w3 ⟨rfl, h4⟩; have hst3 := St.call0 hst h4; clear h4 hst) | (go_at_call 9; refine (made16_any _).mono ?_; rintro _ _ ⟨gm, ga, x0, gs, rfl, hg, h4⟩; obtain ⟨p, q, r, rfl⟩ : ∃ p q r, gs = [p, q, r] := (match gs, hg with | [p, q, r], _ => ⟨p, q, r, rfl⟩); have hm0 : St w [] _ (mP gm ga x0 (W0 p q r) ++ _) := (by have h5 := St.call hst3 h4; rw [newA_ak] at h5; exact h5); clear h4 hg hst3; obtain ⟨A1, hA1, hA2⟩ := put_flush (p := p) (q := q) (r := r) (c := c) (π := fun _ => 0) (μ := fun _ => 0) hk1 hk3; have HA1 := hid hA1; have HA2 := hid hA2; clear hA1 hA2; have HG0 := hid (show MGood (G16 p q r c k) 10 from h16_good ⟨by omega, by omega⟩); unfold PM) | (go_at_call 10; refine (pick_spec zc 3 _ HZ.out (by first | decide | omega)).mono ?_; rw [HPK.out]; rintro _ _ ⟨rfl, h4⟩; have hm1 := St.call0 hm0 h4; clear h4 hm0) | (go_at_call 10; refine (pick_spec zd (k : Int) _ HZD.out (by first | decide | omega)).mono ?_; rw [HPD.out]; rintro _ _ ⟨rfl, h4⟩; have hm2 := St.call0 hm1 h4; clear h4 hm1) | (go_at_call 20; have HC := longC_no ao n cc ys _ (Rd.old hm2 HV.out) HN.out (fun y hy => (HYY.out y hy).old hm2) HSH.out; refine HC.mono ?_; clear HC; rintro _ _ ⟨rfl, h4⟩; have hm3 := St.call0 hm2 h4; clear h4 hm2) | (go_at_call 11; refine (of16_any c _).mono ?_; rintro _ _ ⟨gb, rfl, h4⟩; have hm4 := St.behind (A := (mP gm ga x0 (W0 p q r))) (St.call hm3 h4); clear h4 hm3) | (go_at_call 12; have HC := points_any hm4 (some ⟨gb, 0, none⟩) 256 256 (sect c) (gb_sect (List.mem_append_right _ (.head _))).rd (sect_len _) (by decide) k (by omega); rw [HS.out] at HC; refine HC.mono ?_; clear HC; rintro _ _ ⟨sa, sc, rfl, h4⟩; have hm5 := St.behind (A := (mP gm ga x0 (W0 p q r))) h4; clear h4 hm4) | (refine wl_alloc (T := 34) hm5 rfl rfl ?_; intro gp _ hm6; clear hm5) | (refine wl_storeA [] hm6 rfl rfl rfl rfl (ptr_len HL.out _ _ _) (ptr_ones _ _ _ _ _ _) (ptr_len L32.nones _ _ _) ?_; intro _ hm7; clear hm6; have hm8 := St.behind (A := (mP gm ga x0 (W0 p q r))) hm7; clear hm7) | (refine wl_loadE rfl rfl rfl ?_; refine ⟨_, Loads.blkA (P := Tryz.prog) (T := 34) (vs := (ptrCells (.slice sa k sc) 1 0 S)) hm8 (by rw [ptr_len HL.out]; exact TyA.out) (List.mem_append_right _ (.head _)) (ptr_all _ _ _ _), ?_⟩) | (go_at_call 13; have HC := puts_any hm8 (w0_good p q r) sa k sc (onDevs k) 1 0 S HL.out (fun _ h => Rd.row h (.tail _ (.head _))) (onDevs_len _) (some ⟨gb, 0, none⟩) 256 256 _ (gb_sect (.tail _ (.tail _ (.head _)))) (by omega) _ _ HA1.out HA2.out; refine HC.mono ?_; clear HC; rintro _ _ ⟨y9, rfl, h4⟩; have hm10 : St _ _ _ ((mP gm ga y9 (G16 p q r c k)) ++ _) := h4; clear h4 hm8))
      obtain ⟨g, hmid⟩ := mid_start (p := p) (q := q) (r := r) (c := c) hk1 hk3 hd
      have HMID := hid hmid
      clear hmid
      have hst9 : St w [] _ (mP gm ga y9 (G16 p q r c k) ++ (HA.blk gp 34 (ptrCells (.slice sa k sc) 1 0 S) :: HA.row (.slice sa k sc) 83 2 k (addrsV (onDevs k)) :: HA.blk gb 5 (bytesV (sect c)) :: ([] : List Hp.HA))) := hm10
      clear hm10
      go_loopw [14] (fun ii wr => ∃ (i : Nat) (x' : GA) (m' : MV), i ≤ n ∧ ii = .int .i64 (i : Int) ∧ Hid (Mid d (dk g (sect c)) m' (10 + 7 * i)) ∧ St w [] wr (mP gm ga x' m' ++ (HA.blk gp 34 (ptrCells (.slice sa k sc) 1 0 S) :: HA.row (.slice sa k sc) 83 2 k (addrsV (onDevs k)) :: HA.blk gb 5 (bytesV (sect c)) :: ([] : List Hp.HA)))) (fun ii _ => n - (intOf ii).toNat)
      case atStart => exact ⟨0, y9, _, Nat.zero_le _, rfl, hid (by rw [Nat.mul_zero]; exact HMID.out), hst9⟩
      case round =>
        clear hst9 HMID HG0 HA1 HA2
        obtain ⟨i, x1, m1, hi, rfl, HM, hst⟩ := hrel
        by_cases hli : i < n
        · obtain ⟨y, hyk⟩ : ∃ y, ys[i]? = some y := ⟨_, List.getElem?_eq_getElem (by rw [HN.out]; exact hli)⟩
          obtain ⟨b, off, rfl, _⟩ := HV.out.at hli
          have HOK := hid (HYY.out y (List.mem_of_getElem? hyk))
          have hra := acs_range HV.out hyk
          have HRA := hid hra
          have h1 := hid (show w.cell? ⟨b, off + i * 7 + 1, none⟩ = some (.int .i64 y.dev) from hra 1 _ rfl)
          have h0 := hid (show w.cell? ⟨b, off + i * 7, none⟩ = some (.int .i64 y.k) from hra 0 _ rfl)
          clear hra hyk
          have d1 : decide ((i : Int) < (n : Int)) = true := decide_eq_true (by omega)
          have z1 : IntKind.i64.wrap ((i : Int) + 1) = (i : Int) + 1 := IntWalk.i64_in _ (by omega)
          have zr : IntKind.i64.wrap ((i % 7 : Nat) : Int) = ((i % 7 : Nat) : Int) := IntWalk.i64_in _ (by omega)
          have f1 : ∀ T, binOp .rem T (.int .i64 (i : Int)) (.int .i64 7) = pure (.int .i64 ((i % 7 : Nat) : Int)) := by
            intro T
            have e9 : Int.tmod (i : Int) 7 = ((i % 7 : Nat) : Int) := by rw [Int.tmod_eq_emod_of_nonneg (by omega)]; omega
            simp only [binOp]
            simp [Op.intDiv, e9, zr]
          have hmr : i % 7 < 7 := Nat.mod_lt _ (by decide)
          obtain ⟨e, he⟩ : ∃ e, e = i % 7 := ⟨_, rfl⟩
          rw [← he] at f1 hmr
          have HE := hid he
          clear he zr
          by_cases hr : e = 0
          · have d2 : ((e : Int) != 0) = false := by rw [hr]; rfl
            clear hr
            by_cases q1 : y.dev = (d : Int)
            · have e1 : (y.dev != (d : Int)) = false := by rw [q1]; exact bne_self_eq_false _
              by_cases q3 : y.k = 3
              · have e3 : (y.k == 3) = true := beq_iff_eq.2 q3
                have HBF := hid (show (y.dev ≠ (d : Int) ∧ y.k ≠ 4) ∨ y.k = 3 from .inr q3)
                clear q1 q3
                go_wp2_with (first | go_big_skip | go_big_guard | (refine wl_loadE rfl rfl rfl ?_; first | refine ⟨_, Loads.old (P := Tryz.prog) hst h1.out, ?_⟩ | refine ⟨_, Loads.old (P := Tryz.prog) hst h0.out, ?_⟩) | (refine wl_loadE rfl rfl rfl ?_; refine ⟨_, Loads.oldA (P := Tryz.prog) (T := 49) (cs := y.cells) hst rfl HRA.out, ?_⟩) | (go_at_call 21; refine (befalls16_any hst HM.out.good (by omega) y HOK.out).mono ?_; rintro _ _ ⟨rfl, x8, a8, hbef, hgd, h4⟩; have hm41 := h4; have HM8 := hid (HM.out.bef (dk_clean _ _) HBF.out hbef hgd); clear h4 hbef hgd hst) | (refine wl_loadE rfl rfl rfl ?_; refine ⟨_, Loads.blkA (P := Tryz.prog) (T := 34) (vs := (ptrCells (.slice sa k sc) 1 0 S)) hm41 (by rw [ptr_len HL.out]; exact TyA.out) (List.mem_append_right _ (.head _)) (ptr_all _ _ _ _), ?_⟩) | (go_at_call 22; obtain ⟨B, m9, hget, hbl, hbs, hm9⟩ := mid_get (ao := sa) (cc := sc) HS.out hd hk3 HM8.out; have HGET := hid hget; have HBL := hid hbl; have HBS := hid hbs; have HM9 := hid hm9; have HB32 := hid (show (sumB B).length = 32 from length_bytesS _); clear hget hbl hbs hm9; have HC := get_any hm41 HM8.out.good sa k sc (onDevs k) 1 0 S HL.out (onDevs_len _) (fun _ h => Rd.row h (.tail _ (.head _))) (by omega); rw [HGET.out] at HC; dsimp only at HC; rw [HBL.out] at HC; refine HC.mono ?_; clear HC; rintro _ _ ⟨u, y9, rfl, h4⟩; obtain ⟨ua, uc, rfl⟩ := St.rowPSlice [] h4; have hm42 := St.behind (A := mP gm ga y9 m9) h4; clear h4 hm41))
                have hY := hm42.drew
                clear hm42
                refine wp_region_held_drew (S := (fun w' => (loadVarH 32 ⟨gp, 3, none⟩).run Tryz.prog w' = .ok (.agg (List.toArray (bytesV S))) w')) (by kernel_rfl) (by exact lds16 (Loads.blkA (P := Tryz.prog) (T := 32) (vs := bytesV S) hY (by rw [HL.out.v]; exact TyA.out) (List.mem_append_right _ (.tail _ (.head _))) (ptr_sum _ _ _ _))) (fun hHeld => ?_)
                refine wpAnyH_take (i := 0) (oi := ⟨some 108, _, _, _, _, _⟩) (v := ?_) rfl (by kernel_rfl) (by kernel_rfl) (by kernel_rfl) (fun _ _ _ h => h) (Or.inl ⟨by rfl, ?_⟩) (by assumption) ?_
                rotate_left
                · intro w hSw; (try dsimp only at hSw); go_simp; try with_reducible rfl
                (try simp only [Act.put, List.setIfInBounds_toArray, List.set_cons_zero, List.set_cons_succ])
                refine wpAnyH_take (i := 1) (oi := ⟨some 109, _, _, _, _, _⟩) (v := ?_) rfl (by kernel_rfl) (by kernel_rfl) (by kernel_rfl) (fun _ _ _ h => h) (Or.inl ⟨by rfl, ?_⟩) (by assumption) ?_
                rotate_left
                · intro w hSw; (try dsimp only at hSw); go_simp; try with_reducible rfl
                (try simp only [Act.put, List.setIfInBounds_toArray, List.set_cons_zero, List.set_cons_succ])
                refine wpAnyH_take (i := 2) (oi := ⟨some 110, _, _, _, _, _⟩) (v := ?_) rfl (by kernel_rfl) (by kernel_rfl) (by kernel_rfl) (fun _ _ _ h => h) (Or.inl ⟨by rfl, ?_⟩) (by assumption) ?_
                rotate_left
                · intro w hSw; (try dsimp only at hSw); go_simp; try with_reducible rfl
                (try simp only [Act.put, List.setIfInBounds_toArray, List.set_cons_zero, List.set_cons_succ])
                refine wpAnyH_take (i := 3) (oi := ⟨some 111, _, _, _, _, _⟩) (v := ?_) rfl (by kernel_rfl) (by kernel_rfl) (by kernel_rfl) (fun _ _ _ h => h) (Or.inl ⟨by rfl, ?_⟩) (by assumption) ?_
                rotate_left
                · intro w hSw; (try dsimp only at hSw); go_simp; try with_reducible rfl
                (try simp only [Act.put, List.setIfInBounds_toArray, List.set_cons_zero, List.set_cons_succ])
                refine wpAnyH_take (i := 5) (oi := ⟨some 113, _, _, _, _, _⟩) (v := ?_) rfl (by kernel_rfl) (by kernel_rfl) (by kernel_rfl) (fun _ _ _ h => h) (Or.inl ⟨by rfl, ?_⟩) (by assumption) ?_
                rotate_left
                · intro w hSw; (try dsimp only at hSw); go_simp; try with_reducible rfl
                (try simp only [Act.put, List.setIfInBounds_toArray, List.set_cons_zero, List.set_cons_succ])
                refine wpAnyH_take (i := 6) (oi := ⟨some 114, _, _, _, _, _⟩) (v := ?_) rfl (by kernel_rfl) (by kernel_rfl) (by kernel_rfl) (fun _ _ _ h => h) (Or.inl ⟨by rfl, ?_⟩) (by assumption) ?_
                rotate_left
                · intro w hSw; (try dsimp only at hSw); go_simp; try with_reducible rfl
                (try simp only [Act.put, List.setIfInBounds_toArray, List.set_cons_zero, List.set_cons_succ])
                refine wpAnyH_ready (rs := [4]) (by kernel_rfl) (by simp) ?_
                refine (AllReadyH.cons (o := ⟨some 112, _, _, _, _, _⟩) rfl (fun K hK => ?_) AllReadyH.nil)
                rw [if_pos (by rfl)]
                go_simp
                go_at_call 23
                have HC := sum_any ua 256 uc B _ (Rd.rowP hY (List.mem_append_right _ (.head _))) HBL.out (by decide)
                refine HC.mono ?_
                clear HC
                rintro _ _ ⟨rfl, h4⟩
                have hm43 := St.call0 hY h4
                clear h4 hY
                refine hK.out _ _ ?_ (fun hHeld => ?_)
                · exact lds16 (Loads.blkA (P := Tryz.prog) (T := 32) (vs := bytesV S) hm43 (by rw [HL.out.v]; exact TyA.out) (List.mem_append_right _ (.tail _ (.head _))) (ptr_sum _ _ _ _))
                clear hK K
                (try simp only [Act.put, List.setIfInBounds_toArray, List.set_cons_zero, List.set_cons_succ])
                refine wpAnyH_ready (rs := [7]) (by kernel_rfl) (by simp) ?_
                refine (AllReadyH.cons (o := ⟨some 115, _, _, _, _, _⟩) rfl (fun K hK => ?_) AllReadyH.nil)
                refine ow_if16 (by rfl) ?_
                refine wl_neq_bytes rfl (by rfl) rfl rfl ⟨HB32.out, HL.out⟩ ?_
                rw [HBS.out, show (S == S) = true from beq_self_eq_true _]
                refine q0_nil ?_
                refine hK.out _ _ ?_ (fun hHeld => ?_)
                · exact lds16 (Loads.blkA (P := Tryz.prog) (T := 32) (vs := bytesV S) hm43 (by rw [HL.out.v]; exact TyA.out) (List.mem_append_right _ (.tail _ (.head _))) (ptr_sum _ _ _ _))
                clear hK K
                (try simp only [Act.put, List.setIfInBounds_toArray, List.set_cons_zero, List.set_cons_succ])
                refine wpAnyH_take (i := 8) (oi := ⟨some 116, _, _, _, _, _⟩) (v := ?_) rfl (by kernel_rfl) (by kernel_rfl) (by kernel_rfl) (fun _ _ _ h => h) (Or.inl ⟨by rfl, ?_⟩) (by assumption) ?_
                rotate_left
                · intro w hSw; (try dsimp only at hSw); go_simp; try with_reducible rfl
                (try simp only [Act.put, List.setIfInBounds_toArray, List.set_cons_zero, List.set_cons_succ])
                refine wpAnyH_done (by kernel_rfl) ?_ _
                clear hHeld
                by_cases hsb : (B == sect c) = true
                · have HSB := hid hsb
                  clear hsb
                  go_wp2_with (first | go_big_skip | go_big_guard | (go_at_call 18; have HC := sameBytes_any _ _ _ _ B (sect c) _ (Rd.rowP hm43 (List.mem_append_right _ (.head _))) (((gb_sect (.tail _ (.tail _ (.tail _ (.head _))))) : GB w [] _ _ _ _).rd _ (St.sub hm43 (List.sublist_append_right _ _))); rw [HSB.out] at HC; refine HC.mono ?_; clear HC; rintro _ _ ⟨rfl, h4⟩; have hm71 := St.call0 hm43 h4; clear h4 hm43))
                  go_roundw
                  case rel => exact ⟨i + 1, y9, m9, by omega, by go_num, hid (⟨HM9.out.safe, HM9.out.good.mono (by omega), HM9.out.dl⟩), sub_x hm71⟩
                  case measure => simp [intOf]; omega
                · have HSB := hid (show (B == sect c) = false from by simpa using hsb)
                  clear hsb
                  go_wp2_with (first | go_big_skip | go_big_guard | (go_at_call 18; have HC := sameBytes_any _ _ _ _ B (sect c) _ (Rd.rowP hm43 (List.mem_append_right _ (.head _))) (((gb_sect (.tail _ (.tail _ (.tail _ (.head _))))) : GB w [] _ _ _ _).rd _ (St.sub hm43 (List.sublist_append_right _ _))); rw [HSB.out] at HC; refine HC.mono ?_; clear HC; rintro _ _ ⟨rfl, h4⟩; have hm81 := St.call0 hm43 h4; clear h4 hm43))
                  go_ret
                  exact ⟨rfl, hm81.nil⟩
              · have e3 : (y.k == 3) = false := beq_eq_false_iff_ne.2 q3
                clear q1 q3
                go_wp2_with (first | go_big_skip | go_big_guard | (refine wl_loadE rfl rfl rfl ?_; first | refine ⟨_, Loads.old (P := Tryz.prog) hst h1.out, ?_⟩ | refine ⟨_, Loads.old (P := Tryz.prog) hst h0.out, ?_⟩) | (refine wl_loadE rfl rfl rfl ?_; refine ⟨_, Loads.blkA (P := Tryz.prog) (T := 34) (vs := (ptrCells (.slice sa k sc) 1 0 S)) hst (by rw [ptr_len HL.out]; exact TyA.out) (List.mem_append_right _ (.head _)) (ptr_all _ _ _ _), ?_⟩) | (go_at_call 22; obtain ⟨B, m9, hget, hbl, hbs, hm9⟩ := mid_get (ao := sa) (cc := sc) HS.out hd hk3 HM.out; have HGET := hid hget; have HBL := hid hbl; have HBS := hid hbs; have HM9 := hid hm9; have HB32 := hid (show (sumB B).length = 32 from length_bytesS _); clear hget hbl hbs hm9; have HC := get_any hst HM.out.good sa k sc (onDevs k) 1 0 S HL.out (onDevs_len _) (fun _ h => Rd.row h (.tail _ (.head _))) (by omega); rw [HGET.out] at HC; dsimp only at HC; rw [HBL.out] at HC; refine HC.mono ?_; clear HC; rintro _ _ ⟨u, y9, rfl, h4⟩; obtain ⟨ua, uc, rfl⟩ := St.rowPSlice [] h4; have hm41 := St.behind (A := mP gm ga y9 m9) h4; clear h4 hst))
                have hY := hm41.drew
                clear hm41
                refine wp_region_held_drew (S := (fun w' => (loadVarH 32 ⟨gp, 3, none⟩).run Tryz.prog w' = .ok (.agg (List.toArray (bytesV S))) w')) (by kernel_rfl) (by exact lds16 (Loads.blkA (P := Tryz.prog) (T := 32) (vs := bytesV S) hY (by rw [HL.out.v]; exact TyA.out) (List.mem_append_right _ (.tail _ (.head _))) (ptr_sum _ _ _ _))) (fun hHeld => ?_)
                refine wpAnyH_take (i := 0) (oi := ⟨some 108, _, _, _, _, _⟩) (v := ?_) rfl (by kernel_rfl) (by kernel_rfl) (by kernel_rfl) (fun _ _ _ h => h) (Or.inl ⟨by rfl, ?_⟩) (by assumption) ?_
                rotate_left
                · intro w hSw; (try dsimp only at hSw); go_simp; try with_reducible rfl
                (try simp only [Act.put, List.setIfInBounds_toArray, List.set_cons_zero, List.set_cons_succ])
                refine wpAnyH_take (i := 1) (oi := ⟨some 109, _, _, _, _, _⟩) (v := ?_) rfl (by kernel_rfl) (by kernel_rfl) (by kernel_rfl) (fun _ _ _ h => h) (Or.inl ⟨by rfl, ?_⟩) (by assumption) ?_
                rotate_left
                · intro w hSw; (try dsimp only at hSw); go_simp; try with_reducible rfl
                (try simp only [Act.put, List.setIfInBounds_toArray, List.set_cons_zero, List.set_cons_succ])
                refine wpAnyH_take (i := 2) (oi := ⟨some 110, _, _, _, _, _⟩) (v := ?_) rfl (by kernel_rfl) (by kernel_rfl) (by kernel_rfl) (fun _ _ _ h => h) (Or.inl ⟨by rfl, ?_⟩) (by assumption) ?_
                rotate_left
                · intro w hSw; (try dsimp only at hSw); go_simp; try with_reducible rfl
                (try simp only [Act.put, List.setIfInBounds_toArray, List.set_cons_zero, List.set_cons_succ])
                refine wpAnyH_take (i := 3) (oi := ⟨some 111, _, _, _, _, _⟩) (v := ?_) rfl (by kernel_rfl) (by kernel_rfl) (by kernel_rfl) (fun _ _ _ h => h) (Or.inl ⟨by rfl, ?_⟩) (by assumption) ?_
                rotate_left
                · intro w hSw; (try dsimp only at hSw); go_simp; try with_reducible rfl
                (try simp only [Act.put, List.setIfInBounds_toArray, List.set_cons_zero, List.set_cons_succ])
                refine wpAnyH_take (i := 5) (oi := ⟨some 113, _, _, _, _, _⟩) (v := ?_) rfl (by kernel_rfl) (by kernel_rfl) (by kernel_rfl) (fun _ _ _ h => h) (Or.inl ⟨by rfl, ?_⟩) (by assumption) ?_
                rotate_left
                · intro w hSw; (try dsimp only at hSw); go_simp; try with_reducible rfl
                (try simp only [Act.put, List.setIfInBounds_toArray, List.set_cons_zero, List.set_cons_succ])
                refine wpAnyH_take (i := 6) (oi := ⟨some 114, _, _, _, _, _⟩) (v := ?_) rfl (by kernel_rfl) (by kernel_rfl) (by kernel_rfl) (fun _ _ _ h => h) (Or.inl ⟨by rfl, ?_⟩) (by assumption) ?_
                rotate_left
                · intro w hSw; (try dsimp only at hSw); go_simp; try with_reducible rfl
                (try simp only [Act.put, List.setIfInBounds_toArray, List.set_cons_zero, List.set_cons_succ])
                refine wpAnyH_ready (rs := [4]) (by kernel_rfl) (by simp) ?_
                refine (AllReadyH.cons (o := ⟨some 112, _, _, _, _, _⟩) rfl (fun K hK => ?_) AllReadyH.nil)
                rw [if_pos (by rfl)]
                go_simp
                go_at_call 23
                have HC := sum_any ua 256 uc B _ (Rd.rowP hY (List.mem_append_right _ (.head _))) HBL.out (by decide)
                refine HC.mono ?_
                clear HC
                rintro _ _ ⟨rfl, h4⟩
                have hm42 := St.call0 hY h4
                clear h4 hY
                refine hK.out _ _ ?_ (fun hHeld => ?_)
                · exact lds16 (Loads.blkA (P := Tryz.prog) (T := 32) (vs := bytesV S) hm42 (by rw [HL.out.v]; exact TyA.out) (List.mem_append_right _ (.tail _ (.head _))) (ptr_sum _ _ _ _))
                clear hK K
                (try simp only [Act.put, List.setIfInBounds_toArray, List.set_cons_zero, List.set_cons_succ])
                refine wpAnyH_ready (rs := [7]) (by kernel_rfl) (by simp) ?_
                refine (AllReadyH.cons (o := ⟨some 115, _, _, _, _, _⟩) rfl (fun K hK => ?_) AllReadyH.nil)
                refine ow_if16 (by rfl) ?_
                refine wl_neq_bytes rfl (by rfl) rfl rfl ⟨HB32.out, HL.out⟩ ?_
                rw [HBS.out, show (S == S) = true from beq_self_eq_true _]
                refine q0_nil ?_
                refine hK.out _ _ ?_ (fun hHeld => ?_)
                · exact lds16 (Loads.blkA (P := Tryz.prog) (T := 32) (vs := bytesV S) hm42 (by rw [HL.out.v]; exact TyA.out) (List.mem_append_right _ (.tail _ (.head _))) (ptr_sum _ _ _ _))
                clear hK K
                (try simp only [Act.put, List.setIfInBounds_toArray, List.set_cons_zero, List.set_cons_succ])
                refine wpAnyH_take (i := 8) (oi := ⟨some 116, _, _, _, _, _⟩) (v := ?_) rfl (by kernel_rfl) (by kernel_rfl) (by kernel_rfl) (fun _ _ _ h => h) (Or.inl ⟨by rfl, ?_⟩) (by assumption) ?_
                rotate_left
                · intro w hSw; (try dsimp only at hSw); go_simp; try with_reducible rfl
                (try simp only [Act.put, List.setIfInBounds_toArray, List.set_cons_zero, List.set_cons_succ])
                refine wpAnyH_done (by kernel_rfl) ?_ _
                clear hHeld
                by_cases hsb : (B == sect c) = true
                · have HSB := hid hsb
                  clear hsb
                  go_wp2_with (first | go_big_skip | go_big_guard | (go_at_call 18; have HC := sameBytes_any _ _ _ _ B (sect c) _ (Rd.rowP hm42 (List.mem_append_right _ (.head _))) (((gb_sect (.tail _ (.tail _ (.tail _ (.head _))))) : GB w [] _ _ _ _).rd _ (St.sub hm42 (List.sublist_append_right _ _))); rw [HSB.out] at HC; refine HC.mono ?_; clear HC; rintro _ _ ⟨rfl, h4⟩; have hm71 := St.call0 hm42 h4; clear h4 hm42))
                  go_roundw
                  case rel => exact ⟨i + 1, y9, m9, by omega, by go_num, hid (⟨HM9.out.safe, HM9.out.good.mono (by omega), HM9.out.dl⟩), sub_x hm71⟩
                  case measure => simp [intOf]; omega
                · have HSB := hid (show (B == sect c) = false from by simpa using hsb)
                  clear hsb
                  go_wp2_with (first | go_big_skip | go_big_guard | (go_at_call 18; have HC := sameBytes_any _ _ _ _ B (sect c) _ (Rd.rowP hm42 (List.mem_append_right _ (.head _))) (((gb_sect (.tail _ (.tail _ (.tail _ (.head _))))) : GB w [] _ _ _ _).rd _ (St.sub hm42 (List.sublist_append_right _ _))); rw [HSB.out] at HC; refine HC.mono ?_; clear HC; rintro _ _ ⟨rfl, h4⟩; have hm81 := St.call0 hm42 h4; clear h4 hm42))
                  go_ret
                  exact ⟨rfl, hm81.nil⟩
            · have e1 : (y.dev != (d : Int)) = true := bne_iff_ne.2 q1
              by_cases q4 : y.k = 4
              · have e4 : (y.k != 4) = false := by rw [q4]; rfl
                have e3 : (y.k == 3) = false := by rw [q4]; rfl
                clear q1 q4
                go_wp2_with (first | go_big_skip | go_big_guard | (refine wl_loadE rfl rfl rfl ?_; first | refine ⟨_, Loads.old (P := Tryz.prog) hst h1.out, ?_⟩ | refine ⟨_, Loads.old (P := Tryz.prog) hst h0.out, ?_⟩) | (refine wl_loadE rfl rfl rfl ?_; refine ⟨_, Loads.blkA (P := Tryz.prog) (T := 34) (vs := (ptrCells (.slice sa k sc) 1 0 S)) hst (by rw [ptr_len HL.out]; exact TyA.out) (List.mem_append_right _ (.head _)) (ptr_all _ _ _ _), ?_⟩) | (go_at_call 22; obtain ⟨B, m9, hget, hbl, hbs, hm9⟩ := mid_get (ao := sa) (cc := sc) HS.out hd hk3 HM.out; have HGET := hid hget; have HBL := hid hbl; have HBS := hid hbs; have HM9 := hid hm9; have HB32 := hid (show (sumB B).length = 32 from length_bytesS _); clear hget hbl hbs hm9; have HC := get_any hst HM.out.good sa k sc (onDevs k) 1 0 S HL.out (onDevs_len _) (fun _ h => Rd.row h (.tail _ (.head _))) (by omega); rw [HGET.out] at HC; dsimp only at HC; rw [HBL.out] at HC; refine HC.mono ?_; clear HC; rintro _ _ ⟨u, y9, rfl, h4⟩; obtain ⟨ua, uc, rfl⟩ := St.rowPSlice [] h4; have hm41 := St.behind (A := mP gm ga y9 m9) h4; clear h4 hst))
                have hY := hm41.drew
                clear hm41
                refine wp_region_held_drew (S := (fun w' => (loadVarH 32 ⟨gp, 3, none⟩).run Tryz.prog w' = .ok (.agg (List.toArray (bytesV S))) w')) (by kernel_rfl) (by exact lds16 (Loads.blkA (P := Tryz.prog) (T := 32) (vs := bytesV S) hY (by rw [HL.out.v]; exact TyA.out) (List.mem_append_right _ (.tail _ (.head _))) (ptr_sum _ _ _ _))) (fun hHeld => ?_)
                refine wpAnyH_take (i := 0) (oi := ⟨some 108, _, _, _, _, _⟩) (v := ?_) rfl (by kernel_rfl) (by kernel_rfl) (by kernel_rfl) (fun _ _ _ h => h) (Or.inl ⟨by rfl, ?_⟩) (by assumption) ?_
                rotate_left
                · intro w hSw; (try dsimp only at hSw); go_simp; try with_reducible rfl
                (try simp only [Act.put, List.setIfInBounds_toArray, List.set_cons_zero, List.set_cons_succ])
                refine wpAnyH_take (i := 1) (oi := ⟨some 109, _, _, _, _, _⟩) (v := ?_) rfl (by kernel_rfl) (by kernel_rfl) (by kernel_rfl) (fun _ _ _ h => h) (Or.inl ⟨by rfl, ?_⟩) (by assumption) ?_
                rotate_left
                · intro w hSw; (try dsimp only at hSw); go_simp; try with_reducible rfl
                (try simp only [Act.put, List.setIfInBounds_toArray, List.set_cons_zero, List.set_cons_succ])
                refine wpAnyH_take (i := 2) (oi := ⟨some 110, _, _, _, _, _⟩) (v := ?_) rfl (by kernel_rfl) (by kernel_rfl) (by kernel_rfl) (fun _ _ _ h => h) (Or.inl ⟨by rfl, ?_⟩) (by assumption) ?_
                rotate_left
                · intro w hSw; (try dsimp only at hSw); go_simp; try with_reducible rfl
                (try simp only [Act.put, List.setIfInBounds_toArray, List.set_cons_zero, List.set_cons_succ])
                refine wpAnyH_take (i := 3) (oi := ⟨some 111, _, _, _, _, _⟩) (v := ?_) rfl (by kernel_rfl) (by kernel_rfl) (by kernel_rfl) (fun _ _ _ h => h) (Or.inl ⟨by rfl, ?_⟩) (by assumption) ?_
                rotate_left
                · intro w hSw; (try dsimp only at hSw); go_simp; try with_reducible rfl
                (try simp only [Act.put, List.setIfInBounds_toArray, List.set_cons_zero, List.set_cons_succ])
                refine wpAnyH_take (i := 5) (oi := ⟨some 113, _, _, _, _, _⟩) (v := ?_) rfl (by kernel_rfl) (by kernel_rfl) (by kernel_rfl) (fun _ _ _ h => h) (Or.inl ⟨by rfl, ?_⟩) (by assumption) ?_
                rotate_left
                · intro w hSw; (try dsimp only at hSw); go_simp; try with_reducible rfl
                (try simp only [Act.put, List.setIfInBounds_toArray, List.set_cons_zero, List.set_cons_succ])
                refine wpAnyH_take (i := 6) (oi := ⟨some 114, _, _, _, _, _⟩) (v := ?_) rfl (by kernel_rfl) (by kernel_rfl) (by kernel_rfl) (fun _ _ _ h => h) (Or.inl ⟨by rfl, ?_⟩) (by assumption) ?_
                rotate_left
                · intro w hSw; (try dsimp only at hSw); go_simp; try with_reducible rfl
                (try simp only [Act.put, List.setIfInBounds_toArray, List.set_cons_zero, List.set_cons_succ])
                refine wpAnyH_ready (rs := [4]) (by kernel_rfl) (by simp) ?_
                refine (AllReadyH.cons (o := ⟨some 112, _, _, _, _, _⟩) rfl (fun K hK => ?_) AllReadyH.nil)
                rw [if_pos (by rfl)]
                go_simp
                go_at_call 23
                have HC := sum_any ua 256 uc B _ (Rd.rowP hY (List.mem_append_right _ (.head _))) HBL.out (by decide)
                refine HC.mono ?_
                clear HC
                rintro _ _ ⟨rfl, h4⟩
                have hm42 := St.call0 hY h4
                clear h4 hY
                refine hK.out _ _ ?_ (fun hHeld => ?_)
                · exact lds16 (Loads.blkA (P := Tryz.prog) (T := 32) (vs := bytesV S) hm42 (by rw [HL.out.v]; exact TyA.out) (List.mem_append_right _ (.tail _ (.head _))) (ptr_sum _ _ _ _))
                clear hK K
                (try simp only [Act.put, List.setIfInBounds_toArray, List.set_cons_zero, List.set_cons_succ])
                refine wpAnyH_ready (rs := [7]) (by kernel_rfl) (by simp) ?_
                refine (AllReadyH.cons (o := ⟨some 115, _, _, _, _, _⟩) rfl (fun K hK => ?_) AllReadyH.nil)
                refine ow_if16 (by rfl) ?_
                refine wl_neq_bytes rfl (by rfl) rfl rfl ⟨HB32.out, HL.out⟩ ?_
                rw [HBS.out, show (S == S) = true from beq_self_eq_true _]
                refine q0_nil ?_
                refine hK.out _ _ ?_ (fun hHeld => ?_)
                · exact lds16 (Loads.blkA (P := Tryz.prog) (T := 32) (vs := bytesV S) hm42 (by rw [HL.out.v]; exact TyA.out) (List.mem_append_right _ (.tail _ (.head _))) (ptr_sum _ _ _ _))
                clear hK K
                (try simp only [Act.put, List.setIfInBounds_toArray, List.set_cons_zero, List.set_cons_succ])
                refine wpAnyH_take (i := 8) (oi := ⟨some 116, _, _, _, _, _⟩) (v := ?_) rfl (by kernel_rfl) (by kernel_rfl) (by kernel_rfl) (fun _ _ _ h => h) (Or.inl ⟨by rfl, ?_⟩) (by assumption) ?_
                rotate_left
                · intro w hSw; (try dsimp only at hSw); go_simp; try with_reducible rfl
                (try simp only [Act.put, List.setIfInBounds_toArray, List.set_cons_zero, List.set_cons_succ])
                refine wpAnyH_done (by kernel_rfl) ?_ _
                clear hHeld
                by_cases hsb : (B == sect c) = true
                · have HSB := hid hsb
                  clear hsb
                  go_wp2_with (first | go_big_skip | go_big_guard | (go_at_call 18; have HC := sameBytes_any _ _ _ _ B (sect c) _ (Rd.rowP hm42 (List.mem_append_right _ (.head _))) (((gb_sect (.tail _ (.tail _ (.tail _ (.head _))))) : GB w [] _ _ _ _).rd _ (St.sub hm42 (List.sublist_append_right _ _))); rw [HSB.out] at HC; refine HC.mono ?_; clear HC; rintro _ _ ⟨rfl, h4⟩; have hm71 := St.call0 hm42 h4; clear h4 hm42))
                  go_roundw
                  case rel => exact ⟨i + 1, y9, m9, by omega, by go_num, hid (⟨HM9.out.safe, HM9.out.good.mono (by omega), HM9.out.dl⟩), sub_x hm71⟩
                  case measure => simp [intOf]; omega
                · have HSB := hid (show (B == sect c) = false from by simpa using hsb)
                  clear hsb
                  go_wp2_with (first | go_big_skip | go_big_guard | (go_at_call 18; have HC := sameBytes_any _ _ _ _ B (sect c) _ (Rd.rowP hm42 (List.mem_append_right _ (.head _))) (((gb_sect (.tail _ (.tail _ (.tail _ (.head _))))) : GB w [] _ _ _ _).rd _ (St.sub hm42 (List.sublist_append_right _ _))); rw [HSB.out] at HC; refine HC.mono ?_; clear HC; rintro _ _ ⟨rfl, h4⟩; have hm81 := St.call0 hm42 h4; clear h4 hm42))
                  go_ret
                  exact ⟨rfl, hm81.nil⟩
              · have e4 : (y.k != 4) = true := bne_iff_ne.2 q4
                have HBF := hid (show (y.dev ≠ (d : Int) ∧ y.k ≠ 4) ∨ y.k = 3 from .inl ⟨q1, q4⟩)
                clear q1 q4
                go_wp2_with (first | go_big_skip | go_big_guard | (refine wl_loadE rfl rfl rfl ?_; first | refine ⟨_, Loads.old (P := Tryz.prog) hst h1.out, ?_⟩ | refine ⟨_, Loads.old (P := Tryz.prog) hst h0.out, ?_⟩) | (refine wl_loadE rfl rfl rfl ?_; refine ⟨_, Loads.oldA (P := Tryz.prog) (T := 49) (cs := y.cells) hst rfl HRA.out, ?_⟩) | (go_at_call 21; refine (befalls16_any hst HM.out.good (by omega) y HOK.out).mono ?_; rintro _ _ ⟨rfl, x8, a8, hbef, hgd, h4⟩; have hm41 := h4; have HM8 := hid (HM.out.bef (dk_clean _ _) HBF.out hbef hgd); clear h4 hbef hgd hst) | (refine wl_loadE rfl rfl rfl ?_; refine ⟨_, Loads.blkA (P := Tryz.prog) (T := 34) (vs := (ptrCells (.slice sa k sc) 1 0 S)) hm41 (by rw [ptr_len HL.out]; exact TyA.out) (List.mem_append_right _ (.head _)) (ptr_all _ _ _ _), ?_⟩) | (go_at_call 22; obtain ⟨B, m9, hget, hbl, hbs, hm9⟩ := mid_get (ao := sa) (cc := sc) HS.out hd hk3 HM8.out; have HGET := hid hget; have HBL := hid hbl; have HBS := hid hbs; have HM9 := hid hm9; have HB32 := hid (show (sumB B).length = 32 from length_bytesS _); clear hget hbl hbs hm9; have HC := get_any hm41 HM8.out.good sa k sc (onDevs k) 1 0 S HL.out (onDevs_len _) (fun _ h => Rd.row h (.tail _ (.head _))) (by omega); rw [HGET.out] at HC; dsimp only at HC; rw [HBL.out] at HC; refine HC.mono ?_; clear HC; rintro _ _ ⟨u, y9, rfl, h4⟩; obtain ⟨ua, uc, rfl⟩ := St.rowPSlice [] h4; have hm42 := St.behind (A := mP gm ga y9 m9) h4; clear h4 hm41))
                have hY := hm42.drew
                clear hm42
                refine wp_region_held_drew (S := (fun w' => (loadVarH 32 ⟨gp, 3, none⟩).run Tryz.prog w' = .ok (.agg (List.toArray (bytesV S))) w')) (by kernel_rfl) (by exact lds16 (Loads.blkA (P := Tryz.prog) (T := 32) (vs := bytesV S) hY (by rw [HL.out.v]; exact TyA.out) (List.mem_append_right _ (.tail _ (.head _))) (ptr_sum _ _ _ _))) (fun hHeld => ?_)
                refine wpAnyH_take (i := 0) (oi := ⟨some 108, _, _, _, _, _⟩) (v := ?_) rfl (by kernel_rfl) (by kernel_rfl) (by kernel_rfl) (fun _ _ _ h => h) (Or.inl ⟨by rfl, ?_⟩) (by assumption) ?_
                rotate_left
                · intro w hSw; (try dsimp only at hSw); go_simp; try with_reducible rfl
                (try simp only [Act.put, List.setIfInBounds_toArray, List.set_cons_zero, List.set_cons_succ])
                refine wpAnyH_take (i := 1) (oi := ⟨some 109, _, _, _, _, _⟩) (v := ?_) rfl (by kernel_rfl) (by kernel_rfl) (by kernel_rfl) (fun _ _ _ h => h) (Or.inl ⟨by rfl, ?_⟩) (by assumption) ?_
                rotate_left
                · intro w hSw; (try dsimp only at hSw); go_simp; try with_reducible rfl
                (try simp only [Act.put, List.setIfInBounds_toArray, List.set_cons_zero, List.set_cons_succ])
                refine wpAnyH_take (i := 2) (oi := ⟨some 110, _, _, _, _, _⟩) (v := ?_) rfl (by kernel_rfl) (by kernel_rfl) (by kernel_rfl) (fun _ _ _ h => h) (Or.inl ⟨by rfl, ?_⟩) (by assumption) ?_
                rotate_left
                · intro w hSw; (try dsimp only at hSw); go_simp; try with_reducible rfl
                (try simp only [Act.put, List.setIfInBounds_toArray, List.set_cons_zero, List.set_cons_succ])
                refine wpAnyH_take (i := 3) (oi := ⟨some 111, _, _, _, _, _⟩) (v := ?_) rfl (by kernel_rfl) (by kernel_rfl) (by kernel_rfl) (fun _ _ _ h => h) (Or.inl ⟨by rfl, ?_⟩) (by assumption) ?_
                rotate_left
                · intro w hSw; (try dsimp only at hSw); go_simp; try with_reducible rfl
                (try simp only [Act.put, List.setIfInBounds_toArray, List.set_cons_zero, List.set_cons_succ])
                refine wpAnyH_take (i := 5) (oi := ⟨some 113, _, _, _, _, _⟩) (v := ?_) rfl (by kernel_rfl) (by kernel_rfl) (by kernel_rfl) (fun _ _ _ h => h) (Or.inl ⟨by rfl, ?_⟩) (by assumption) ?_
                rotate_left
                · intro w hSw; (try dsimp only at hSw); go_simp; try with_reducible rfl
                (try simp only [Act.put, List.setIfInBounds_toArray, List.set_cons_zero, List.set_cons_succ])
                refine wpAnyH_take (i := 6) (oi := ⟨some 114, _, _, _, _, _⟩) (v := ?_) rfl (by kernel_rfl) (by kernel_rfl) (by kernel_rfl) (fun _ _ _ h => h) (Or.inl ⟨by rfl, ?_⟩) (by assumption) ?_
                rotate_left
                · intro w hSw; (try dsimp only at hSw); go_simp; try with_reducible rfl
                (try simp only [Act.put, List.setIfInBounds_toArray, List.set_cons_zero, List.set_cons_succ])
                refine wpAnyH_ready (rs := [4]) (by kernel_rfl) (by simp) ?_
                refine (AllReadyH.cons (o := ⟨some 112, _, _, _, _, _⟩) rfl (fun K hK => ?_) AllReadyH.nil)
                rw [if_pos (by rfl)]
                go_simp
                go_at_call 23
                have HC := sum_any ua 256 uc B _ (Rd.rowP hY (List.mem_append_right _ (.head _))) HBL.out (by decide)
                refine HC.mono ?_
                clear HC
                rintro _ _ ⟨rfl, h4⟩
                have hm43 := St.call0 hY h4
                clear h4 hY
                refine hK.out _ _ ?_ (fun hHeld => ?_)
                · exact lds16 (Loads.blkA (P := Tryz.prog) (T := 32) (vs := bytesV S) hm43 (by rw [HL.out.v]; exact TyA.out) (List.mem_append_right _ (.tail _ (.head _))) (ptr_sum _ _ _ _))
                clear hK K
                (try simp only [Act.put, List.setIfInBounds_toArray, List.set_cons_zero, List.set_cons_succ])
                refine wpAnyH_ready (rs := [7]) (by kernel_rfl) (by simp) ?_
                refine (AllReadyH.cons (o := ⟨some 115, _, _, _, _, _⟩) rfl (fun K hK => ?_) AllReadyH.nil)
                refine ow_if16 (by rfl) ?_
                refine wl_neq_bytes rfl (by rfl) rfl rfl ⟨HB32.out, HL.out⟩ ?_
                rw [HBS.out, show (S == S) = true from beq_self_eq_true _]
                refine q0_nil ?_
                refine hK.out _ _ ?_ (fun hHeld => ?_)
                · exact lds16 (Loads.blkA (P := Tryz.prog) (T := 32) (vs := bytesV S) hm43 (by rw [HL.out.v]; exact TyA.out) (List.mem_append_right _ (.tail _ (.head _))) (ptr_sum _ _ _ _))
                clear hK K
                (try simp only [Act.put, List.setIfInBounds_toArray, List.set_cons_zero, List.set_cons_succ])
                refine wpAnyH_take (i := 8) (oi := ⟨some 116, _, _, _, _, _⟩) (v := ?_) rfl (by kernel_rfl) (by kernel_rfl) (by kernel_rfl) (fun _ _ _ h => h) (Or.inl ⟨by rfl, ?_⟩) (by assumption) ?_
                rotate_left
                · intro w hSw; (try dsimp only at hSw); go_simp; try with_reducible rfl
                (try simp only [Act.put, List.setIfInBounds_toArray, List.set_cons_zero, List.set_cons_succ])
                refine wpAnyH_done (by kernel_rfl) ?_ _
                clear hHeld
                by_cases hsb : (B == sect c) = true
                · have HSB := hid hsb
                  clear hsb
                  go_wp2_with (first | go_big_skip | go_big_guard | (go_at_call 18; have HC := sameBytes_any _ _ _ _ B (sect c) _ (Rd.rowP hm43 (List.mem_append_right _ (.head _))) (((gb_sect (.tail _ (.tail _ (.tail _ (.head _))))) : GB w [] _ _ _ _).rd _ (St.sub hm43 (List.sublist_append_right _ _))); rw [HSB.out] at HC; refine HC.mono ?_; clear HC; rintro _ _ ⟨rfl, h4⟩; have hm71 := St.call0 hm43 h4; clear h4 hm43))
                  go_roundw
                  case rel => exact ⟨i + 1, y9, m9, by omega, by go_num, hid (⟨HM9.out.safe, HM9.out.good.mono (by omega), HM9.out.dl⟩), sub_x hm71⟩
                  case measure => simp [intOf]; omega
                · have HSB := hid (show (B == sect c) = false from by simpa using hsb)
                  clear hsb
                  go_wp2_with (first | go_big_skip | go_big_guard | (go_at_call 18; have HC := sameBytes_any _ _ _ _ B (sect c) _ (Rd.rowP hm43 (List.mem_append_right _ (.head _))) (((gb_sect (.tail _ (.tail _ (.tail _ (.head _))))) : GB w [] _ _ _ _).rd _ (St.sub hm43 (List.sublist_append_right _ _))); rw [HSB.out] at HC; refine HC.mono ?_; clear HC; rintro _ _ ⟨rfl, h4⟩; have hm81 := St.call0 hm43 h4; clear h4 hm43))
                  go_ret
                  exact ⟨rfl, hm81.nil⟩
          · have d2 : ((e : Int) != 0) = true := bne_iff_ne.2 (by omega)
            clear hr
            by_cases q1 : y.dev = (d : Int)
            · have e1 : (y.dev != (d : Int)) = false := by rw [q1]; exact bne_self_eq_false _
              by_cases q3 : y.k = 3
              · have e3 : (y.k == 3) = true := beq_iff_eq.2 q3
                have HBF := hid (show (y.dev ≠ (d : Int) ∧ y.k ≠ 4) ∨ y.k = 3 from .inr q3)
                clear q1 q3
                go_wp2_with (first | go_big_skip | go_big_guard | (refine wl_loadE rfl rfl rfl ?_; first | refine ⟨_, Loads.old (P := Tryz.prog) hst h1.out, ?_⟩ | refine ⟨_, Loads.old (P := Tryz.prog) hst h0.out, ?_⟩) | (refine wl_loadE rfl rfl rfl ?_; refine ⟨_, Loads.oldA (P := Tryz.prog) (T := 49) (cs := y.cells) hst rfl HRA.out, ?_⟩) | (go_at_call 21; refine (befalls16_any hst HM.out.good (by omega) y HOK.out).mono ?_; rintro _ _ ⟨rfl, x8, a8, hbef, hgd, h4⟩; have hm41 := h4; have HM8 := hid (HM.out.bef (dk_clean _ _) HBF.out hbef hgd); clear h4 hbef hgd hst))
                go_roundw
                case rel => exact ⟨i + 1, x8, (m1.withA a8), by omega, by go_num, hid (⟨HM8.out.safe, HM8.out.good.mono (by omega), HM8.out.dl⟩), hm41⟩
                case measure => simp [intOf]; omega
              · have e3 : (y.k == 3) = false := beq_eq_false_iff_ne.2 q3
                clear q1 q3
                go_wp2_with (first | go_big_skip | go_big_guard | (refine wl_loadE rfl rfl rfl ?_; first | refine ⟨_, Loads.old (P := Tryz.prog) hst h1.out, ?_⟩ | refine ⟨_, Loads.old (P := Tryz.prog) hst h0.out, ?_⟩))
                go_roundw
                case rel => exact ⟨i + 1, x1, m1, by omega, by go_num, hid (⟨HM.out.safe, HM.out.good.mono (by omega), HM.out.dl⟩), hst⟩
                case measure => simp [intOf]; omega
            · have e1 : (y.dev != (d : Int)) = true := bne_iff_ne.2 q1
              by_cases q4 : y.k = 4
              · have e4 : (y.k != 4) = false := by rw [q4]; rfl
                have e3 : (y.k == 3) = false := by rw [q4]; rfl
                clear q1 q4
                go_wp2_with (first | go_big_skip | go_big_guard | (refine wl_loadE rfl rfl rfl ?_; first | refine ⟨_, Loads.old (P := Tryz.prog) hst h1.out, ?_⟩ | refine ⟨_, Loads.old (P := Tryz.prog) hst h0.out, ?_⟩))
                go_roundw
                case rel => exact ⟨i + 1, x1, m1, by omega, by go_num, hid (⟨HM.out.safe, HM.out.good.mono (by omega), HM.out.dl⟩), hst⟩
                case measure => simp [intOf]; omega
              · have e4 : (y.k != 4) = true := bne_iff_ne.2 q4
                have HBF := hid (show (y.dev ≠ (d : Int) ∧ y.k ≠ 4) ∨ y.k = 3 from .inl ⟨q1, q4⟩)
                clear q1 q4
                go_wp2_with (first | go_big_skip | go_big_guard | (refine wl_loadE rfl rfl rfl ?_; first | refine ⟨_, Loads.old (P := Tryz.prog) hst h1.out, ?_⟩ | refine ⟨_, Loads.old (P := Tryz.prog) hst h0.out, ?_⟩) | (refine wl_loadE rfl rfl rfl ?_; refine ⟨_, Loads.oldA (P := Tryz.prog) (T := 49) (cs := y.cells) hst rfl HRA.out, ?_⟩) | (go_at_call 21; refine (befalls16_any hst HM.out.good (by omega) y HOK.out).mono ?_; rintro _ _ ⟨rfl, x8, a8, hbef, hgd, h4⟩; have hm41 := h4; have HM8 := hid (HM.out.bef (dk_clean _ _) HBF.out hbef hgd); clear h4 hbef hgd hst))
                go_roundw
                case rel => exact ⟨i + 1, x8, (m1.withA a8), by omega, by go_num, hid (⟨HM8.out.safe, HM8.out.good.mono (by omega), HM8.out.dl⟩), hm41⟩
                case measure => simp [intOf]; omega
        · have d1 : decide ((i : Int) < (n : Int)) = false := decide_eq_false (by omega)
          have hin : n = i := by omega
          subst hin
          go_wp2_with (first | go_big_skip | go_big_guard | (refine wl_loadE rfl rfl rfl ?_; refine ⟨_, Loads.blkA (P := Tryz.prog) (T := 34) (vs := (ptrCells (.slice sa k sc) 1 0 S)) hst (by rw [ptr_len HL.out]; exact TyA.out) (List.mem_append_right _ (.head _)) (ptr_all _ _ _ _), ?_⟩) | (go_at_call 22; obtain ⟨B, m9, hget, hbl, hbs, hm9⟩ := mid_get (ao := sa) (cc := sc) HS.out hd hk3 HM.out; have HGET := hid hget; have HBL := hid hbl; have HBS := hid hbs; have HM9 := hid hm9; have HB32 := hid (show (sumB B).length = 32 from length_bytesS _); clear hget hbl hbs hm9; have HC := get_any hst HM.out.good sa k sc (onDevs k) 1 0 S HL.out (onDevs_len _) (fun _ h => Rd.row h (.tail _ (.head _))) (by omega); rw [HGET.out] at HC; dsimp only at HC; rw [HBL.out] at HC; refine HC.mono ?_; clear HC; rintro _ _ ⟨u, y9, rfl, h4⟩; obtain ⟨ua, uc, rfl⟩ := St.rowPSlice [] h4; have hm41 := St.behind (A := mP gm ga y9 m9) h4; clear h4 hst))
          by_cases hsb : (B == sect c) = true
          · have HSB := hid (show (B == sect c) = true from by simpa using hsb)
            clear hsb
            have hX := hm41.drew
            clear hm41
            refine wp_region_held_drew (S := (fun w' => True)) (by kernel_rfl) (by exact trivial) (fun hHeld => ?_)
            refine wpAnyH_take (i := 0) (oi := ⟨some 128, _, _, _, _, _⟩) (v := ?_) rfl (by kernel_rfl) (by kernel_rfl) (by kernel_rfl) (fun _ _ _ h => h) (Or.inl ⟨by rfl, ?_⟩) (by assumption) ?_
            rotate_left
            · intro w hSw; (try dsimp only at hSw); go_simp; try with_reducible rfl
            (try simp only [Act.put, List.setIfInBounds_toArray, List.set_cons_zero, List.set_cons_succ])
            refine wpAnyH_take (i := 1) (oi := ⟨some 129, _, _, _, _, _⟩) (v := ?_) rfl (by kernel_rfl) (by kernel_rfl) (by kernel_rfl) (fun _ _ _ h => h) (Or.inl ⟨by rfl, ?_⟩) (by assumption) ?_
            rotate_left
            · intro w hSw; (try dsimp only at hSw); go_simp; try with_reducible rfl
            (try simp only [Act.put, List.setIfInBounds_toArray, List.set_cons_zero, List.set_cons_succ])
            refine wpAnyH_take (i := 2) (oi := ⟨some 130, _, _, _, _, _⟩) (v := ?_) rfl (by kernel_rfl) (by kernel_rfl) (by kernel_rfl) (fun _ _ _ h => h) (Or.inl ⟨by rfl, ?_⟩) (by assumption) ?_
            rotate_left
            · intro w hSw; (try dsimp only at hSw); go_simp; try with_reducible rfl
            (try simp only [Act.put, List.setIfInBounds_toArray, List.set_cons_zero, List.set_cons_succ])
            refine wpAnyH_take (i := 3) (oi := ⟨some 131, _, _, _, _, _⟩) (v := ?_) rfl (by kernel_rfl) (by kernel_rfl) (by kernel_rfl) (fun _ _ _ h => h) (Or.inl ⟨by rfl, ?_⟩) (by assumption) ?_
            rotate_left
            · intro w hSw; (try dsimp only at hSw); go_simp; try with_reducible rfl
            (try simp only [Act.put, List.setIfInBounds_toArray, List.set_cons_zero, List.set_cons_succ])
            refine wpAnyH_take (i := 4) (oi := ⟨some 132, _, _, _, _, _⟩) (v := ?_) rfl (by kernel_rfl) (by kernel_rfl) (by kernel_rfl) (fun _ _ _ h => h) (Or.inl ⟨by rfl, ?_⟩) (by assumption) ?_
            rotate_left
            · intro w hSw; (try dsimp only at hSw); go_simp; try with_reducible rfl
            (try simp only [Act.put, List.setIfInBounds_toArray, List.set_cons_zero, List.set_cons_succ])
            refine wpAnyH_take (i := 5) (oi := ⟨some 133, _, _, _, _, _⟩) (v := ?_) rfl (by kernel_rfl) (by kernel_rfl) (by kernel_rfl) (fun _ _ _ h => h) (Or.inl ⟨by rfl, ?_⟩) (by assumption) ?_
            rotate_left
            · intro w hSw; (try dsimp only at hSw); go_simp; try with_reducible rfl
            (try simp only [Act.put, List.setIfInBounds_toArray, List.set_cons_zero, List.set_cons_succ])
            refine wpAnyH_take (i := 6) (oi := ⟨some 134, _, _, _, _, _⟩) (v := ?_) rfl (by kernel_rfl) (by kernel_rfl) (by kernel_rfl) (fun _ _ _ h => h) (Or.inl ⟨by rfl, ?_⟩) (by assumption) ?_
            rotate_left
            · intro w hSw; (try dsimp only at hSw); go_simp; try with_reducible rfl
            (try simp only [Act.put, List.setIfInBounds_toArray, List.set_cons_zero, List.set_cons_succ])
            refine wpAnyH_take (i := 7) (oi := ⟨some 135, _, _, _, _, _⟩) (v := ?_) rfl (by kernel_rfl) (by kernel_rfl) (by kernel_rfl) (fun _ _ _ h => h) (Or.inl ⟨by rfl, ?_⟩) (by assumption) ?_
            rotate_left
            · intro w hSw; (try dsimp only at hSw); go_simp; try with_reducible rfl
            (try simp only [Act.put, List.setIfInBounds_toArray, List.set_cons_zero, List.set_cons_succ])
            refine wpAnyH_ready (rs := [8]) (by kernel_rfl) (by simp) ?_
            refine (AllReadyH.cons (o := ⟨some 136, _, _, _, _, _⟩) rfl (fun K hK => ?_) AllReadyH.nil)
            rw [if_pos (by rfl)]
            go_simp
            go_at_call 18
            have HC := sameBytes_any _ _ _ _ B (sect c) _ (Rd.rowP hX (List.mem_append_right _ (.head _))) (((gb_sect (.tail _ (.tail _ (.tail _ (.head _))))) : GB w [] _ _ _ _).rd _ (St.sub hX (List.sublist_append_right _ _)))
            rw [HSB.out] at HC
            refine HC.mono ?_
            clear HC
            rintro _ _ ⟨rfl, h4⟩
            have hm91 := St.call0 hX h4
            clear h4 hX
            refine hK.out _ _ ?_ (fun hHeld => ?_)
            · exact trivial
            clear hK K
            (try simp only [Act.put, List.setIfInBounds_toArray, List.set_cons_zero, List.set_cons_succ])
            refine wpAnyH_take (i := 9) (oi := ⟨some 137, _, _, _, _, _⟩) (v := ?_) rfl (by kernel_rfl) (by kernel_rfl) (by kernel_rfl) (fun _ _ _ h => h) (Or.inl ⟨by rfl, ?_⟩) (by assumption) ?_
            rotate_left
            · intro w hSw; (try dsimp only at hSw); go_simp; try with_reducible rfl
            (try simp only [Act.put, List.setIfInBounds_toArray, List.set_cons_zero, List.set_cons_succ])
            refine wpAnyH_take (i := 10) (oi := ⟨some 138, _, _, _, _, _⟩) (v := undef) rfl (by kernel_rfl) (by kernel_rfl) (by kernel_rfl) (fun _ _ _ h => h) (Or.inr ⟨by rfl, rfl⟩) (by assumption) ?_
            (try simp only [Act.put, List.setIfInBounds_toArray, List.set_cons_zero, List.set_cons_succ])
            refine wpAnyH_take (i := 12) (oi := ⟨some 140, _, _, _, _, _⟩) (v := undef) rfl (by kernel_rfl) (by kernel_rfl) (by kernel_rfl) (fun _ _ _ h => h) (Or.inr ⟨by rfl, rfl⟩) (by assumption) ?_
            (try simp only [Act.put, List.setIfInBounds_toArray, List.set_cons_zero, List.set_cons_succ])
            refine wpAnyH_take (i := 13) (oi := ⟨some 141, _, _, _, _, _⟩) (v := undef) rfl (by kernel_rfl) (by kernel_rfl) (by kernel_rfl) (fun _ _ _ h => h) (Or.inr ⟨by rfl, rfl⟩) (by assumption) ?_
            (try simp only [Act.put, List.setIfInBounds_toArray, List.set_cons_zero, List.set_cons_succ])
            refine wpAnyH_ready (rs := [11]) (by kernel_rfl) (by simp) ?_
            refine (AllReadyH.cons (o := ⟨some 139, _, _, _, _, _⟩) rfl (fun K hK => ?_) AllReadyH.nil)
            rw [if_neg (by rw [show Region.wanted _ _ = false from rfl]; exact Bool.false_ne_true)]
            refine hK.out _ _ ?_ (fun hHeld => ?_)
            · exact trivial
            clear hK K
            (try simp only [Act.put, List.setIfInBounds_toArray, List.set_cons_zero, List.set_cons_succ])
            refine wpAnyH_take (i := 14) (oi := ⟨some 142, _, _, _, _, _⟩) (v := undef) rfl (by kernel_rfl) (by kernel_rfl) (by kernel_rfl) (fun _ _ _ h => h) (Or.inr ⟨by rfl, rfl⟩) (by assumption) ?_
            (try simp only [Act.put, List.setIfInBounds_toArray, List.set_cons_zero, List.set_cons_succ])
            refine wpAnyH_take (i := 15) (oi := ⟨some 143, _, _, _, _, _⟩) (v := ?_) rfl (by kernel_rfl) (by kernel_rfl) (by kernel_rfl) (fun _ _ _ h => h) (Or.inl ⟨by rfl, ?_⟩) (by assumption) ?_
            rotate_left
            · intro w hSw; (try dsimp only at hSw); go_simp; try with_reducible rfl
            (try simp only [Act.put, List.setIfInBounds_toArray, List.set_cons_zero, List.set_cons_succ])
            refine wpAnyH_take (i := 16) (oi := ⟨some 144, _, _, _, _, _⟩) (v := ?_) rfl (by kernel_rfl) (by kernel_rfl) (by kernel_rfl) (fun _ _ _ h => h) (Or.inl ⟨by rfl, ?_⟩) (by assumption) ?_
            rotate_left
            · intro w hSw; (try dsimp only at hSw); go_simp; try with_reducible rfl
            (try simp only [Act.put, List.setIfInBounds_toArray, List.set_cons_zero, List.set_cons_succ])
            refine wpAnyH_take (i := 17) (oi := ⟨some 8, _, _, _, _, _⟩) (v := ?_) rfl (by kernel_rfl) (by kernel_rfl) (by kernel_rfl) (fun _ _ _ h => h) (Or.inl ⟨by rfl, ?_⟩) (by assumption) ?_
            rotate_left
            · intro w hSw; (try dsimp only at hSw); go_simp; try with_reducible rfl
            (try simp only [Act.put, List.setIfInBounds_toArray, List.set_cons_zero, List.set_cons_succ])
            refine wpAnyH_done (by kernel_rfl) ?_ _
            clear hHeld
            go_wp2_with (first | go_big_skip | go_big_guard | fail)
            go_ret
            exact ⟨rfl, hm91.nil⟩
          · have HSB := hid (show (B == sect c) = false from by simpa using hsb)
            clear hsb
            have hX := hm41.drew
            clear hm41
            refine wp_region_held_drew (S := (fun w' => (loadVarH 32 ⟨gp, 3, none⟩).run Tryz.prog w' = .ok (.agg (List.toArray (bytesV S))) w')) (by kernel_rfl) (by exact lds16 (Loads.blkA (P := Tryz.prog) (T := 32) (vs := bytesV S) hX (by rw [HL.out.v]; exact TyA.out) (List.mem_append_right _ (.tail _ (.head _))) (ptr_sum _ _ _ _))) (fun hHeld => ?_)
            refine wpAnyH_take (i := 0) (oi := ⟨some 128, _, _, _, _, _⟩) (v := ?_) rfl (by kernel_rfl) (by kernel_rfl) (by kernel_rfl) (fun _ _ _ h => h) (Or.inl ⟨by rfl, ?_⟩) (by assumption) ?_
            rotate_left
            · intro w hSw; (try dsimp only at hSw); go_simp; try with_reducible rfl
            (try simp only [Act.put, List.setIfInBounds_toArray, List.set_cons_zero, List.set_cons_succ])
            refine wpAnyH_take (i := 1) (oi := ⟨some 129, _, _, _, _, _⟩) (v := ?_) rfl (by kernel_rfl) (by kernel_rfl) (by kernel_rfl) (fun _ _ _ h => h) (Or.inl ⟨by rfl, ?_⟩) (by assumption) ?_
            rotate_left
            · intro w hSw; (try dsimp only at hSw); go_simp; try with_reducible rfl
            (try simp only [Act.put, List.setIfInBounds_toArray, List.set_cons_zero, List.set_cons_succ])
            refine wpAnyH_take (i := 2) (oi := ⟨some 130, _, _, _, _, _⟩) (v := ?_) rfl (by kernel_rfl) (by kernel_rfl) (by kernel_rfl) (fun _ _ _ h => h) (Or.inl ⟨by rfl, ?_⟩) (by assumption) ?_
            rotate_left
            · intro w hSw; (try dsimp only at hSw); go_simp; try with_reducible rfl
            (try simp only [Act.put, List.setIfInBounds_toArray, List.set_cons_zero, List.set_cons_succ])
            refine wpAnyH_take (i := 3) (oi := ⟨some 131, _, _, _, _, _⟩) (v := ?_) rfl (by kernel_rfl) (by kernel_rfl) (by kernel_rfl) (fun _ _ _ h => h) (Or.inl ⟨by rfl, ?_⟩) (by assumption) ?_
            rotate_left
            · intro w hSw; (try dsimp only at hSw); go_simp; try with_reducible rfl
            (try simp only [Act.put, List.setIfInBounds_toArray, List.set_cons_zero, List.set_cons_succ])
            refine wpAnyH_take (i := 4) (oi := ⟨some 132, _, _, _, _, _⟩) (v := ?_) rfl (by kernel_rfl) (by kernel_rfl) (by kernel_rfl) (fun _ _ _ h => h) (Or.inl ⟨by rfl, ?_⟩) (by assumption) ?_
            rotate_left
            · intro w hSw; (try dsimp only at hSw); go_simp; try with_reducible rfl
            (try simp only [Act.put, List.setIfInBounds_toArray, List.set_cons_zero, List.set_cons_succ])
            refine wpAnyH_take (i := 5) (oi := ⟨some 133, _, _, _, _, _⟩) (v := ?_) rfl (by kernel_rfl) (by kernel_rfl) (by kernel_rfl) (fun _ _ _ h => h) (Or.inl ⟨by rfl, ?_⟩) (by assumption) ?_
            rotate_left
            · intro w hSw; (try dsimp only at hSw); go_simp; try with_reducible rfl
            (try simp only [Act.put, List.setIfInBounds_toArray, List.set_cons_zero, List.set_cons_succ])
            refine wpAnyH_take (i := 6) (oi := ⟨some 134, _, _, _, _, _⟩) (v := ?_) rfl (by kernel_rfl) (by kernel_rfl) (by kernel_rfl) (fun _ _ _ h => h) (Or.inl ⟨by rfl, ?_⟩) (by assumption) ?_
            rotate_left
            · intro w hSw; (try dsimp only at hSw); go_simp; try with_reducible rfl
            (try simp only [Act.put, List.setIfInBounds_toArray, List.set_cons_zero, List.set_cons_succ])
            refine wpAnyH_take (i := 7) (oi := ⟨some 135, _, _, _, _, _⟩) (v := ?_) rfl (by kernel_rfl) (by kernel_rfl) (by kernel_rfl) (fun _ _ _ h => h) (Or.inl ⟨by rfl, ?_⟩) (by assumption) ?_
            rotate_left
            · intro w hSw; (try dsimp only at hSw); go_simp; try with_reducible rfl
            (try simp only [Act.put, List.setIfInBounds_toArray, List.set_cons_zero, List.set_cons_succ])
            refine wpAnyH_ready (rs := [8]) (by kernel_rfl) (by simp) ?_
            refine (AllReadyH.cons (o := ⟨some 136, _, _, _, _, _⟩) rfl (fun K hK => ?_) AllReadyH.nil)
            rw [if_pos (by rfl)]
            go_simp
            go_at_call 18
            have HC := sameBytes_any _ _ _ _ B (sect c) _ (Rd.rowP hX (List.mem_append_right _ (.head _))) (((gb_sect (.tail _ (.tail _ (.tail _ (.head _))))) : GB w [] _ _ _ _).rd _ (St.sub hX (List.sublist_append_right _ _)))
            rw [HSB.out] at HC
            refine HC.mono ?_
            clear HC
            rintro _ _ ⟨rfl, h4⟩
            have hm91 := St.call0 hX h4
            clear h4 hX
            refine hK.out _ _ ?_ (fun hHeld => ?_)
            · exact lds16 (Loads.blkA (P := Tryz.prog) (T := 32) (vs := bytesV S) hm91 (by rw [HL.out.v]; exact TyA.out) (List.mem_append_right _ (.tail _ (.head _))) (ptr_sum _ _ _ _))
            clear hK K
            (try simp only [Act.put, List.setIfInBounds_toArray, List.set_cons_zero, List.set_cons_succ])
            refine wpAnyH_take (i := 9) (oi := ⟨some 137, _, _, _, _, _⟩) (v := ?_) rfl (by kernel_rfl) (by kernel_rfl) (by kernel_rfl) (fun _ _ _ h => h) (Or.inl ⟨by rfl, ?_⟩) (by assumption) ?_
            rotate_left
            · intro w hSw; (try dsimp only at hSw); go_simp; try with_reducible rfl
            (try simp only [Act.put, List.setIfInBounds_toArray, List.set_cons_zero, List.set_cons_succ])
            refine wpAnyH_take (i := 10) (oi := ⟨some 138, _, _, _, _, _⟩) (v := ?_) rfl (by kernel_rfl) (by kernel_rfl) (by kernel_rfl) (fun _ _ _ h => h) (Or.inl ⟨by rfl, ?_⟩) (by assumption) ?_
            rotate_left
            · intro w hSw; (try dsimp only at hSw); go_simp; try with_reducible rfl
            (try simp only [Act.put, List.setIfInBounds_toArray, List.set_cons_zero, List.set_cons_succ])
            refine wpAnyH_take (i := 12) (oi := ⟨some 140, _, _, _, _, _⟩) (v := ?_) rfl (by kernel_rfl) (by kernel_rfl) (by kernel_rfl) (fun _ _ _ h => h) (Or.inl ⟨by rfl, ?_⟩) (by assumption) ?_
            rotate_left
            · intro w hSw; (try dsimp only at hSw); go_simp; try with_reducible rfl
            (try simp only [Act.put, List.setIfInBounds_toArray, List.set_cons_zero, List.set_cons_succ])
            refine wpAnyH_take (i := 13) (oi := ⟨some 141, _, _, _, _, _⟩) (v := ?_) rfl (by kernel_rfl) (by kernel_rfl) (by kernel_rfl) (fun _ _ _ h => h) (Or.inl ⟨by rfl, ?_⟩) (by assumption) ?_
            rotate_left
            · intro w hSw; (try dsimp only at hSw); go_simp; try with_reducible rfl
            (try simp only [Act.put, List.setIfInBounds_toArray, List.set_cons_zero, List.set_cons_succ])
            refine wpAnyH_ready (rs := [11]) (by kernel_rfl) (by simp) ?_
            refine (AllReadyH.cons (o := ⟨some 139, _, _, _, _, _⟩) rfl (fun K hK => ?_) AllReadyH.nil)
            rw [if_pos (by rfl)]
            go_simp
            go_at_call 23
            have HC := sum_any ua 256 uc B _ (Rd.rowP hm91 (List.mem_append_right _ (.head _))) HBL.out (by decide)
            refine HC.mono ?_
            clear HC
            rintro _ _ ⟨rfl, h4⟩
            have hm92 := St.call0 hm91 h4
            clear h4 hm91
            refine hK.out _ _ ?_ (fun hHeld => ?_)
            · exact lds16 (Loads.blkA (P := Tryz.prog) (T := 32) (vs := bytesV S) hm92 (by rw [HL.out.v]; exact TyA.out) (List.mem_append_right _ (.tail _ (.head _))) (ptr_sum _ _ _ _))
            clear hK K
            (try simp only [Act.put, List.setIfInBounds_toArray, List.set_cons_zero, List.set_cons_succ])
            refine wpAnyH_ready (rs := [14]) (by kernel_rfl) (by simp) ?_
            refine (AllReadyH.cons (o := ⟨some 142, _, _, _, _, _⟩) rfl (fun K hK => ?_) AllReadyH.nil)
            refine ow_if16 (by rfl) ?_
            refine wl_eql_bytes rfl (by rfl) rfl rfl ⟨HB32.out, HL.out⟩ ?_
            rw [HBS.out, show (S == S) = true from beq_self_eq_true _]
            refine q0_nil ?_
            refine hK.out _ _ ?_ (fun hHeld => ?_)
            · exact lds16 (Loads.blkA (P := Tryz.prog) (T := 32) (vs := bytesV S) hm92 (by rw [HL.out.v]; exact TyA.out) (List.mem_append_right _ (.tail _ (.head _))) (ptr_sum _ _ _ _))
            clear hK K
            (try simp only [Act.put, List.setIfInBounds_toArray, List.set_cons_zero, List.set_cons_succ])
            refine wpAnyH_take (i := 15) (oi := ⟨some 143, _, _, _, _, _⟩) (v := ?_) rfl (by kernel_rfl) (by kernel_rfl) (by kernel_rfl) (fun _ _ _ h => h) (Or.inl ⟨by rfl, ?_⟩) (by assumption) ?_
            rotate_left
            · intro w hSw; (try dsimp only at hSw); go_simp; try with_reducible rfl
            (try simp only [Act.put, List.setIfInBounds_toArray, List.set_cons_zero, List.set_cons_succ])
            refine wpAnyH_take (i := 16) (oi := ⟨some 144, _, _, _, _, _⟩) (v := ?_) rfl (by kernel_rfl) (by kernel_rfl) (by kernel_rfl) (fun _ _ _ h => h) (Or.inl ⟨by rfl, ?_⟩) (by assumption) ?_
            rotate_left
            · intro w hSw; (try dsimp only at hSw); go_simp; try with_reducible rfl
            (try simp only [Act.put, List.setIfInBounds_toArray, List.set_cons_zero, List.set_cons_succ])
            refine wpAnyH_take (i := 17) (oi := ⟨some 8, _, _, _, _, _⟩) (v := ?_) rfl (by kernel_rfl) (by kernel_rfl) (by kernel_rfl) (fun _ _ _ h => h) (Or.inl ⟨by rfl, ?_⟩) (by assumption) ?_
            rotate_left
            · intro w hSw; (try dsimp only at hSw); go_simp; try with_reducible rfl
            (try simp only [Act.put, List.setIfInBounds_toArray, List.set_cons_zero, List.set_cons_succ])
            refine wpAnyH_done (by kernel_rfl) ?_ _
            clear hHeld
            go_wp2_with (first | go_big_skip | go_big_guard | fail)
            go_ret
            exact ⟨rfl, hm92.nil⟩
  · have HSH := hid hsh
    clear hsh
    go_enter Tryz.func4, Tryz.ntmps4
    go_wp2_with (first | go_big_skip | go_big_guard | (go_at_call 8; refine (awake16_any _).mono ?_; rintro _ w3 ⟨rfl, h4⟩; have hst3 := St.call0 hst h4; clear h4 hst) | (go_at_call 9; refine (made16_any _).mono ?_; rintro _ _ ⟨gm, ga, x0, gs, rfl, hg, h4⟩; obtain ⟨p, q, r, rfl⟩ : ∃ p q r, gs = [p, q, r] := (match gs, hg with | [p, q, r], _ => ⟨p, q, r, rfl⟩); have hm0 : St w [] _ (mP gm ga x0 (W0 p q r) ++ _) := (by have h5 := St.call hst3 h4; rw [newA_ak] at h5; exact h5); clear h4 hg hst3; obtain ⟨A1, hA1, hA2⟩ := put_flush (p := p) (q := q) (r := r) (c := c) (π := fun _ => 0) (μ := fun _ => 0) hk1 hk3; have HA1 := hid hA1; have HA2 := hid hA2; clear hA1 hA2; have HG0 := hid (show MGood (G16 p q r c k) 10 from h16_good ⟨by omega, by omega⟩); unfold PM) | (go_at_call 10; refine (pick_spec zc 3 _ HZ.out (by first | decide | omega)).mono ?_; rw [HPK.out]; rintro _ _ ⟨rfl, h4⟩; have hm1 := St.call0 hm0 h4; clear h4 hm0) | (go_at_call 10; refine (pick_spec zd (k : Int) _ HZD.out (by first | decide | omega)).mono ?_; rw [HPD.out]; rintro _ _ ⟨rfl, h4⟩; have hm2 := St.call0 hm1 h4; clear h4 hm1) | (go_at_call 20; have HC := longC_yes ao n cc ys _ (Rd.old hm2 HV.out) HN.out (fun y hy => (HYY.out y hy).old hm2) HSH.out; refine HC.mono ?_; clear HC; rintro _ _ ⟨rfl, h4⟩; have hm3 := St.call0 hm2 h4; clear h4 hm2))
    go_ret
    exact ⟨rfl, hm3.nil⟩
end
end Go.Proofs.YtmdfbdfijnmhkaaGreat
namespace Go.Proofs.YtmdfbdfijnmhkaaGreat
set_option linter.unusedVariables false
set_option linter.unusedSimpArgs false
open Go.ChangeShapes Go.WideShapes Go.ChangeAt Go.RowKit Hp
set_option maxRecDepth 100000 in
theorem mirrorSound_lifted (os : Os) (started : os.Started) (H : Type) (enc : TypeId × Value → H) :
    ReturnsInHanded {} Tryz.checked os 4 .any (Rows.mirrorSoundSpec.pre6 enc Tryz.prog Tryz.f4 Rows.mirrorSoundRow.domain false) (Rows.mirrorSoundSpec.post enc Tryz.prog Tryz.f4 false true false false) := by
  refine returnsInHanded_of_change (C := Tryz.checked) own started (by kernel_rfl) Tryz.func4
    (ChangeSpec.witness6 (enc := enc) (C := Tryz.checked) false ⟨#[], #[.int .u8 0, .int .i64 0, .int .i64 0, .slice none 0 0], []⟩ 8 (by kernel_rfl) (by kernel_rfl) (by kernel_rfl) (by kernel_rfl)) ?_
  intro W base args ds gs before hval0 hW hcnd _
  have hval : ∀ (j : Nat) t v, Tryz.f4.params[j]? = some t → args[j]? = some v → Value.okWide Tryz.prog W .any base t v := hval0
  have hW' := hW
  obtain ⟨p, q, hAA0, hV, rfl, hfz, hnd⟩ := hW
  have hA : DataW.TrodAll enc Tryz.prog W 0 (fun _ => true) true Tryz.f4.params.toList args.toList ds p := hAA0
  rw [Tryz.params4] at hA hval
  have hk := hA
  obtain ⟨v0, v1, v2, v3, d0, d1, d2, d3, p0, p1, p2, p3, rfl, rfl, rfl, h0, h1, h2, h3⟩ := trodAll_four hA
  obtain ⟨rfl, rfl⟩ := trodVars_none hV
  obtain ⟨n0, h0⟩ := h0
  obtain ⟨b0, rfl⟩ := open_u8 (hval 0 _ v0 rfl rfl) h0
  obtain ⟨n1, h1⟩ := h1
  obtain ⟨z1, rfl, hl1, hu1⟩ := open_int (hval 1 _ v1 rfl rfl) h1
  obtain ⟨n2, h2⟩ := h2
  obtain ⟨z2, rfl, hl2, hu2⟩ := open_int (hval 2 _ v2 rfl rfl) h2
  obtain ⟨n3, h3⟩ := h3
  obtain ⟨ao3, n3, c3, xs3, rfl, hA3, hn3, hk3⟩ := open_acts (hval 3 _ v3 rfl rfl) h3
  clear hAA0 hval0
  simp only [List.append_nil] at hW'
  refine (sound16_any b0 z1 z2 ao3 n3 c3 xs3 W ⟨hl1, hu1⟩ ⟨hl2, hu2⟩ hA3 hn3 hk3).mono fun e W' ⟨he, hg⟩ => ?_
  subst he
  exact ⟨_, rfl, post_of_kept (pv := []) hW' (fun _ _ _ => (trodAll_cons_mk (shut_bool Tryz.underlying4 _) trodAll_mk0)) (fun sp hsp => by
      rw [Tryz.params4]
      exact args_kept (by decide) hk hg.below (fun p hp => hW'.lt p hp) sp hsp) (fun _ _ => rfl) (by simp)
    (hg.below.frame _)⟩
theorem mirrorSound_over : Rows.mirrorSoundRow.holds Tryz.pinned (OpenSpec.ofChange Rows.mirrorSoundSpec) :=
  OpenClaim.holds_of_wide 4 Tryz.f4 rfl rfl rfl rfl rfl rfl rfl ⟨rfl, rfl, rfl, rfl, rfl⟩ rfl rfl rfl rfl rfl (by kernel_rfl) Tryz.func4 (by kernel_rfl)
    (of_decide_eq_true (by kernel_rfl)) (by unfold Func.isWrapper; first | (rw [if_pos (by decide +kernel)]; kernel_rfl) | (rw [if_neg (by decide +kernel)]; exact ⟨rfl, rfl⟩))
    (fun os started H enc _ => mirrorSound_lifted os started H enc)
theorem mirrorSound_proved : Rows.MirrorSoundSaid :=
  mirrorSound_over
end Go.Proofs.YtmdfbdfijnmhkaaGreat
