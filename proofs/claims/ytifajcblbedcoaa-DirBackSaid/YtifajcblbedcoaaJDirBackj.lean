/- PROVED: the law DirBack returns true at any input, and nothing that was there has turned. No condition. -/
import Derived.Test.YtifajcblbedcoaaJDirBacki
import Derived.Test.YtifajcblbedcoaaJDirBackc
import Derived.Test.YtifajcblbedcoaaJDirBackh
import Derived.Test.YtifajcblbedcoaaPost
import Derived.Test.YtifajcblbedcoaaJDirBackd
namespace Go.Proofs.Ytifajcblbedcoaa
set_option linter.unusedVariables false
set_option linter.unusedSimpArgs false
open Go.RowKit Hp
attribute [local irreducible] Go.Calls Go.wpList
set_option maxRecDepth 100000
set_option maxHeartbeats 8000000
def bareT : TC := ⟨2, [], 0, 0, 0, 0, [0, 0]⟩
def oneR : RC := { id := 1, kind := 1, size := 1, made := 1, own := 0, origin := 0, quota := 0, reserve := 0, name := [97], l := [], b := 0, v := 0, S := nones }
def oneT : TC := ⟨2, [oneR], 0, 0, 0, 0, [0, 0]⟩
def noT : TC := ⟨0, [], 0, 0, 0, 0, []⟩
theorem bare_ok : bareT.ok = true := by decide +kernel
theorem one_ok : oneT.ok = true := by decide +kernel
def bareB : List UInt8 := [0, 0, 0, 2, 0, 0, 0, 0, 0, 0, 0, 0, 0, 0, 0, 2, 0, 0, 0, 0, 0, 0, 0, 0]
theorem bare_bytes : bareT.bytes = bareB := by decide +kernel
theorem one_len : oneT.bytes.length = 93 := by decide +kernel
theorem one_a : findP [97] oneT.recs = (0, true) := by decide +kernel
theorem one_b : findP [98] oneT.recs = (0, false) := by decide +kernel
theorem nil_err : gErr [] = 4 ∧ gAt [] = 0 ∧ gOK [] = false := by decide +kernel
def oneC : List Value := cellsR (.slice none 0 0, oneR)
theorem bldBare (ao : Option Addr) (n c : Nat) : Try.prog.built 27 [(0, .int .i64 2), (3, .slice ao n c)] = some #[.int .i64 2, .slice none 0 0, .int .i64 0, .int .i64 0, .int .i64 0, .int .i64 0, .slice ao n c] := by kernel_rfl
theorem bldOne : Try.prog.built 51 [(0, .int .i64 1), (1, .string ⟨#[97]⟩), (2, .int .i64 1), (3, .int .i64 1), (5, .int .i64 1)] = some oneC.toArray := by kernel_rfl
theorem oneC_len : oneC.length = 44 := rfl
theorem oneC_ones : oneC.all (·.oneCell') = true := rfl
theorem results_cellD {fn : Func} {p : Tmp} {ty : TypeId} {tmps : Array Value} {P : Program} {w : World} {A : Addr} {v : Value} (h : fn.results = #[.cell p ty]) (hp : tmps.getD p undef = .pointer (some A)) (hl : Loads P w ty A v) :
    (results fn tmps).run P w = .ok v w := by
  have hl' : (loadVar ty A).run P w = .ok v w := hl
  have hp' : tmps[p]?.getD undef = .pointer (some A) := by simpa using hp
  simp [results, h, hp', asAddr, hl', Sem.run_bind]
theorem oneIn (w : World) : RC.In w ((.slice none 0 0 : Value), oneR) := ⟨⟨L32.nones, none, 0, 0, rfl, Rd.nil _ _, rfl⟩, by decide⟩
theorem noIn (w : World) : TabIn w noT none 0 0 none 0 0 [] := ⟨⟨Rd.nil _ _, rfl, fun _ h => by cases h⟩, rfl, Rd.nil _ _, rfl, by decide, by decide⟩
theorem bareIn {w0 w : World} {M : List Nat} {L : List HA} {h : Nat} (hst : St w0 M w L) (h2 : HA.blk h 3 (numsV [0, 0]) ∈ L) : TabIn w bareT none 0 0 (some ⟨h, 0, none⟩) 2 2 [] :=
  ⟨⟨Rd.nil _ _, rfl, fun _ h => by cases h⟩, rfl, Rd.blk hst h2 (Nat.le_refl _) (by decide) rfl rfl, rfl, by decide, by decide⟩
theorem one2In {w0 w : World} {M : List Nat} {L : List HA} {g h : Nat} (hst : St w0 M w L) (h1 : HA.blk g 51 oneC ∈ L) (h2 : HA.blk h 3 (numsV [0, 0]) ∈ L) : TabIn w oneT (some ⟨g, 0, none⟩) 1 1 (some ⟨h, 0, none⟩) 2 2 [(.slice none 0 0, oneR)] :=
  ⟨⟨Rd.blk hst h1 (Nat.le_refl _) (by decide) rfl rfl, rfl, fun x hx => by
    rw [List.mem_singleton] at hx
    subst hx
    exact oneIn w⟩, rfl, Rd.blk hst h2 (Nat.le_refl _) (by decide) rfl rfl, rfl, by decide, by decide⟩
end Go.Proofs.Ytifajcblbedcoaa
namespace Go.Proofs.Ytifajcblbedcoaa
set_option linter.unusedVariables false
set_option linter.unusedSimpArgs false
open Go.RowKit Hp
attribute [local irreducible] Go.Calls Go.wpList PV.same
set_option maxRecDepth 100000
set_option maxHeartbeats 16000000
attribute [local go_sem ↓] heldInt heldInts heldRecs heldRec heldStr heldTab heldPtr heldFn
def BdT (t : TC) : Prop := (t.recs.length ≤ 1000000 ∧ t.lives.length ≤ 1000000) ∧ t.recs.length ≤ 1000
theorem parts3 {w0 w : World} {M : List Nat} {B P : List HA} {t : TC} {ar al : Option Addr} {cr cl : Nat} {xs : List (Value × RC)} {r0 r1 r2 : RC} (h : InP P t ar al cr cl xs) (hst : St w0 M w (B ++ P)) (e : t.recs = [r0, r1, r2]) :
    xs.length = 3 ∧ (∃ g9, ar = some ⟨g9, 0, none⟩) ∧ (∃ v : Value, xs[0]? = some (v, r0)) ∧ (∃ v : Value, xs[2]? = some (v, r2)) := by
  have hl : xs.length = 3 := by rw [h.ok.len, e]; rfl
  have key : ∀ (j : Nat) (r : RC), t.recs[j]? = some r → ∃ v : Value, xs[j]? = some (v, r) := fun j r hr => by
    obtain ⟨x, hx, he⟩ := okx_at h.ok hr
    subst he
    exact ⟨x.1, hx⟩
  exact ⟨hl, h.spot hst (by omega), key 0 r0 (by rw [e]; rfl), key 2 r2 (by rw [e]; rfl)⟩
theorem parts2 {w0 w : World} {M : List Nat} {B P : List HA} {t : TC} {ar al : Option Addr} {cr cl : Nat} {xs : List (Value × RC)} {r0 r1 : RC} (h : InP P t ar al cr cl xs) (hst : St w0 M w (B ++ P)) (e : t.recs = [r0, r1]) :
    xs.length = 2 ∧ (∃ g9, ar = some ⟨g9, 0, none⟩) ∧ (∃ v : Value, xs[1]? = some (v, r1)) := by
  have hl : xs.length = 2 := by rw [h.ok.len, e]; rfl
  have key : ∀ (j : Nat) (r : RC), t.recs[j]? = some r → ∃ v : Value, xs[j]? = some (v, r) := fun j r hr => by
    obtain ⟨x, hx, he⟩ := okx_at h.ok hr
    subst he
    exact ⟨x.1, hx⟩
  exact ⟨hl, h.spot hst (by omega), key 1 r1 (by rw [e]; rfl)⟩
theorem back13_longp (size later : Int) (hd1 : -9223372036854775808 ≤ size ∧ size ≤ 9223372036854775807) (hd2 : -9223372036854775808 ≤ later ∧ later ≤ 9223372036854775807) (ks kl : Nat) (hk1 : ks < 64) (hk2 : kl < 64) (hp1 : pickI size 64 = (ks : Int)) (hp2 : pickI later 64 = (kl : Int)) (p q : PV) (w : World) (hp : p.In w) (hq : q.In w) (m0 m1 : TC) (hb0 : BdT m0) (e0 : newR 3 = (0, m0)) (e1 : opR m0 (makeR m0 [118, 111, 108] (1 + (ks : Int)) 2147483648) = (0, m1)) (hl : 20 < p.l.length) :
    Calls Try.prog 5 #[.agg p.cells.toArray, .agg q.cells.toArray, .int .i64 size, .int .i64 later] w fun e w' => e = .returned (.bool true) ∧ St w [] w' [] := by
  obtain ⟨P0, hP0⟩ : ∃ P0 : List HA, P0 = [] := ⟨_, rfl⟩
  have hS0 : St w [] w ([] ++ P0) := by rw [hP0]; exact St.refl w
  clear hP0
  have HD1 := hid hd1
  have HD2 := hid hd2
  have HP1 := hid hp1
  have HP2 := hid hp2
  have E0 := hid e0
  have E1 := hid e1
  have HIP := hid hp
  have HIQ := hid hq
  have H35 := hid (PV.len hp.1)
  have H36 := hid (PV.len hq.1)
  obtain ⟨_, po, pn, pc, hsp, hpr, hpn⟩ := hp
  obtain ⟨_, qo, qn, qc, hsq, hqr, hqn⟩ := hq
  have HSP := hid hsp
  have HSQ := hid hsq
  have HLP := hid hpn
  have HLQ := hid hqn
  have hbp := hpr.bd.1
  have hbp2 := hpr.bd.2.1
  have hbq := hqr.bd.1
  have hbq2 := hqr.bd.2.1
  have m0_bd := hb0.1
  have z1 : IntKind.i64.wrap (1 + (ks : Int)) = 1 + (ks : Int) := IntWalk.i64_in _ (by omega)
  have z2 : IntKind.i64.wrap (1 + (kl : Int)) = 1 + (kl : Int) := IntWalk.i64_in _ (by omega)
  have n1 : 20 < pn := by have e := HLP.out; omega
  have d1 : decide (20 < (pn : Int)) = true := decide_eq_true (by omega)
  clear hd1 hd2 hp1 hp2 e0 e1 hsp hsq hpr hqr hpn hqn hb0
  go_enter Try.func5, Try.ntmps5
  go_wp2_with (first | go_big_skip | go_big_guard | (refine wl_boxA hS0 rfl rfl rfl ?_; intro g4 w1 h4; have hS1 : St w [] w1 ([.blk g4 46 (p.cells)] ++ P0) := h4; clear h4 hS0) | (refine wl_boxA hS1 rfl rfl rfl ?_; intro g5 w1 h4; have hS2 : St w [] w1 ([.blk g5 46 (q.cells), .blk g4 46 (p.cells)] ++ P0) := h4; clear h4 hS1) | (go_at_call 11; refine (awake13_any _).mono ?_; rintro _ w9 ⟨rfl, h4⟩; have hS3 : St w [] w9 ([.blk g5 46 (q.cells), .blk g4 46 (p.cells)] ++ P0) := St.call0 hS2 h4; clear h4 hS2) | (go_at_call 9; refine (pick_spec size 64 _ HD1.out (by decide)).mono ?_; rw [HP1.out]; rintro _ w9 ⟨rfl, h4⟩; have hS4 : St w [] w9 ([.blk g5 46 (q.cells), .blk g4 46 (p.cells)] ++ P0) := St.call0 hS3 h4; clear h4 hS3) | (go_at_call 9; refine (pick_spec later 64 _ HD2.out (by decide)).mono ?_; rw [HP2.out]; rintro _ w9 ⟨rfl, h4⟩; have hS5 : St w [] w9 ([.blk g5 46 (q.cells), .blk g4 46 (p.cells)] ++ P0) := St.call0 hS4 h4; clear h4 hS4) | (go_at_call 6; refine (new13_any 3 _).mono ?_; rw [E0.out]; intro e9 w9 hret; obtain ⟨a1, b1, c1, d1, P1, xs1, rfl, hin, hsub, h4⟩ := ret_pool (B := [.blk g5 46 (q.cells), .blk g4 46 (p.cells)]) hS5 hret; have hS6 : St w [] w9 ([.blk g5 46 (q.cells), .blk g4 46 (p.cells)] ++ P1) := h4; clear hret h4 hS5; have HT1 := hid hin; clear hin hsub) | (refine wl_alloc hS6 rfl rfl ?_; intro g10 w1 h4; have hS7 : St w [] w1 ([.blk g10 27 (tab0), .blk g5 46 (q.cells), .blk g4 46 (p.cells)] ++ P1) := h4; clear h4 hS6) | (refine wl_storeA [] hS7 rfl rfl rfl rfl (vs := tabC m0 (.slice a1 xs1.length c1) (.slice b1 m0.lives.length d1)) rfl rfl rfl ?_; intro w1 h4; have hS8 : St w [] w1 ([.blk g10 27 (tabC m0 (.slice a1 xs1.length c1) (.slice b1 m0.lives.length d1)), .blk g5 46 (q.cells), .blk g4 46 (p.cells)] ++ P1) := h4; clear h4 hS7) | (refine wl_loadE rfl rfl rfl ?_; refine ⟨_, Loads.atA (tabC m0 (.slice a1 xs1.length c1) (.slice b1 m0.lives.length d1)) [] hS8 rfl rfl, ?_⟩) | (go_at_call 7; refine (make13_any m0 a1 b1 xs1.length c1 m0.lives.length d1 xs1 _ (HT1.out.tab hS8 m0_bd) [118, 111, 108] (1 + (ks : Int)) 2147483648 (by decide)).mono ?_; rw [E1.out]; intro e9 w9 hret; obtain ⟨a2, b2, c2, d2, P2, xs2, rfl, hin, hsub, h4⟩ := ret_pool (B := [.blk g10 27 (tabC m0 (.slice a1 xs1.length c1) (.slice b1 m0.lives.length d1)), .blk g5 46 (q.cells), .blk g4 46 (p.cells)]) hS8 hret; have hS9 : St w [] w9 ([.blk g10 27 (tabC m0 (.slice a1 xs1.length c1) (.slice b1 m0.lives.length d1)), .blk g5 46 (q.cells), .blk g4 46 (p.cells)] ++ P2) := h4; clear hret h4 hS8; replace HT1 := hid (HT1.out.mono hsub); have HT2 := hid hin; clear hin hsub) | (refine wl_storeA [] hS9 rfl rfl rfl rfl (vs := tabC m1 (.slice a2 xs2.length c2) (.slice b2 m1.lives.length d2)) rfl rfl rfl ?_; intro w1 h4; have hS10 : St w [] w1 ([.blk g10 27 (tabC m1 (.slice a2 xs2.length c2) (.slice b2 m1.lives.length d2)), .blk g5 46 (q.cells), .blk g4 46 (p.cells)] ++ P2) := h4; clear h4 hS9) | (refine wl_loadE rfl rfl rfl ?_; refine ⟨_, (by have h9 := Loads.at (P := Try.prog) (T := 42) (off := 0) [_, _] hS10 (show (PV.cells p)[0]? = some p.sv from rfl); rw [HSP.out] at h9; exact h9), ?_⟩) | (refine wl_loadE rfl rfl rfl ?_; refine ⟨_, (by have h9 := Loads.at (P := Try.prog) (T := 42) (off := 0) [_] hS10 (show (PV.cells q)[0]? = some q.sv from rfl); rw [HSQ.out] at h9; exact h9), ?_⟩))
  go_ret
  exact ⟨rfl, hS10.nil⟩
theorem back13_longq (size later : Int) (hd1 : -9223372036854775808 ≤ size ∧ size ≤ 9223372036854775807) (hd2 : -9223372036854775808 ≤ later ∧ later ≤ 9223372036854775807) (ks kl : Nat) (hk1 : ks < 64) (hk2 : kl < 64) (hp1 : pickI size 64 = (ks : Int)) (hp2 : pickI later 64 = (kl : Int)) (p q : PV) (w : World) (hp : p.In w) (hq : q.In w) (m0 m1 : TC) (hb0 : BdT m0) (e0 : newR 3 = (0, m0)) (e1 : opR m0 (makeR m0 [118, 111, 108] (1 + (ks : Int)) 2147483648) = (0, m1)) (hl : ¬ 20 < p.l.length) (hl2 : 20 < q.l.length) :
    Calls Try.prog 5 #[.agg p.cells.toArray, .agg q.cells.toArray, .int .i64 size, .int .i64 later] w fun e w' => e = .returned (.bool true) ∧ St w [] w' [] := by
  obtain ⟨P0, hP0⟩ : ∃ P0 : List HA, P0 = [] := ⟨_, rfl⟩
  have hS0 : St w [] w ([] ++ P0) := by rw [hP0]; exact St.refl w
  clear hP0
  have HD1 := hid hd1
  have HD2 := hid hd2
  have HP1 := hid hp1
  have HP2 := hid hp2
  have E0 := hid e0
  have E1 := hid e1
  have HIP := hid hp
  have HIQ := hid hq
  have H35 := hid (PV.len hp.1)
  have H36 := hid (PV.len hq.1)
  obtain ⟨_, po, pn, pc, hsp, hpr, hpn⟩ := hp
  obtain ⟨_, qo, qn, qc, hsq, hqr, hqn⟩ := hq
  have HSP := hid hsp
  have HSQ := hid hsq
  have HLP := hid hpn
  have HLQ := hid hqn
  have hbp := hpr.bd.1
  have hbp2 := hpr.bd.2.1
  have hbq := hqr.bd.1
  have hbq2 := hqr.bd.2.1
  have m0_bd := hb0.1
  have z1 : IntKind.i64.wrap (1 + (ks : Int)) = 1 + (ks : Int) := IntWalk.i64_in _ (by omega)
  have z2 : IntKind.i64.wrap (1 + (kl : Int)) = 1 + (kl : Int) := IntWalk.i64_in _ (by omega)
  have n1 : ¬ 20 < pn := by have e := HLP.out; omega
  have d1 : decide (20 < (pn : Int)) = false := decide_eq_false (by omega)
  have n2 : 20 < qn := by have e := HLQ.out; omega
  have d2 : decide (20 < (qn : Int)) = true := decide_eq_true (by omega)
  clear hd1 hd2 hp1 hp2 e0 e1 hsp hsq hpr hqr hpn hqn hb0
  go_enter Try.func5, Try.ntmps5
  go_wp2_with (first | go_big_skip | go_big_guard | (refine wl_boxA hS0 rfl rfl rfl ?_; intro g4 w1 h4; have hS1 : St w [] w1 ([.blk g4 46 (p.cells)] ++ P0) := h4; clear h4 hS0) | (refine wl_boxA hS1 rfl rfl rfl ?_; intro g5 w1 h4; have hS2 : St w [] w1 ([.blk g5 46 (q.cells), .blk g4 46 (p.cells)] ++ P0) := h4; clear h4 hS1) | (go_at_call 11; refine (awake13_any _).mono ?_; rintro _ w9 ⟨rfl, h4⟩; have hS3 : St w [] w9 ([.blk g5 46 (q.cells), .blk g4 46 (p.cells)] ++ P0) := St.call0 hS2 h4; clear h4 hS2) | (go_at_call 9; refine (pick_spec size 64 _ HD1.out (by decide)).mono ?_; rw [HP1.out]; rintro _ w9 ⟨rfl, h4⟩; have hS4 : St w [] w9 ([.blk g5 46 (q.cells), .blk g4 46 (p.cells)] ++ P0) := St.call0 hS3 h4; clear h4 hS3) | (go_at_call 9; refine (pick_spec later 64 _ HD2.out (by decide)).mono ?_; rw [HP2.out]; rintro _ w9 ⟨rfl, h4⟩; have hS5 : St w [] w9 ([.blk g5 46 (q.cells), .blk g4 46 (p.cells)] ++ P0) := St.call0 hS4 h4; clear h4 hS4) | (go_at_call 6; refine (new13_any 3 _).mono ?_; rw [E0.out]; intro e9 w9 hret; obtain ⟨a1, b1, c1, d1, P1, xs1, rfl, hin, hsub, h4⟩ := ret_pool (B := [.blk g5 46 (q.cells), .blk g4 46 (p.cells)]) hS5 hret; have hS6 : St w [] w9 ([.blk g5 46 (q.cells), .blk g4 46 (p.cells)] ++ P1) := h4; clear hret h4 hS5; have HT1 := hid hin; clear hin hsub) | (refine wl_alloc hS6 rfl rfl ?_; intro g10 w1 h4; have hS7 : St w [] w1 ([.blk g10 27 (tab0), .blk g5 46 (q.cells), .blk g4 46 (p.cells)] ++ P1) := h4; clear h4 hS6) | (refine wl_storeA [] hS7 rfl rfl rfl rfl (vs := tabC m0 (.slice a1 xs1.length c1) (.slice b1 m0.lives.length d1)) rfl rfl rfl ?_; intro w1 h4; have hS8 : St w [] w1 ([.blk g10 27 (tabC m0 (.slice a1 xs1.length c1) (.slice b1 m0.lives.length d1)), .blk g5 46 (q.cells), .blk g4 46 (p.cells)] ++ P1) := h4; clear h4 hS7) | (refine wl_loadE rfl rfl rfl ?_; refine ⟨_, Loads.atA (tabC m0 (.slice a1 xs1.length c1) (.slice b1 m0.lives.length d1)) [] hS8 rfl rfl, ?_⟩) | (go_at_call 7; refine (make13_any m0 a1 b1 xs1.length c1 m0.lives.length d1 xs1 _ (HT1.out.tab hS8 m0_bd) [118, 111, 108] (1 + (ks : Int)) 2147483648 (by decide)).mono ?_; rw [E1.out]; intro e9 w9 hret; obtain ⟨a2, b2, c2, d2, P2, xs2, rfl, hin, hsub, h4⟩ := ret_pool (B := [.blk g10 27 (tabC m0 (.slice a1 xs1.length c1) (.slice b1 m0.lives.length d1)), .blk g5 46 (q.cells), .blk g4 46 (p.cells)]) hS8 hret; have hS9 : St w [] w9 ([.blk g10 27 (tabC m0 (.slice a1 xs1.length c1) (.slice b1 m0.lives.length d1)), .blk g5 46 (q.cells), .blk g4 46 (p.cells)] ++ P2) := h4; clear hret h4 hS8; replace HT1 := hid (HT1.out.mono hsub); have HT2 := hid hin; clear hin hsub) | (refine wl_storeA [] hS9 rfl rfl rfl rfl (vs := tabC m1 (.slice a2 xs2.length c2) (.slice b2 m1.lives.length d2)) rfl rfl rfl ?_; intro w1 h4; have hS10 : St w [] w1 ([.blk g10 27 (tabC m1 (.slice a2 xs2.length c2) (.slice b2 m1.lives.length d2)), .blk g5 46 (q.cells), .blk g4 46 (p.cells)] ++ P2) := h4; clear h4 hS9) | (refine wl_loadE rfl rfl rfl ?_; refine ⟨_, (by have h9 := Loads.at (P := Try.prog) (T := 42) (off := 0) [_, _] hS10 (show (PV.cells p)[0]? = some p.sv from rfl); rw [HSP.out] at h9; exact h9), ?_⟩) | (refine wl_loadE rfl rfl rfl ?_; refine ⟨_, (by have h9 := Loads.at (P := Try.prog) (T := 42) (off := 0) [_] hS10 (show (PV.cells q)[0]? = some q.sv from rfl); rw [HSQ.out] at h9; exact h9), ?_⟩))
  go_ret
  exact ⟨rfl, hS10.nil⟩
theorem back13_nop (size later : Int) (hd1 : -9223372036854775808 ≤ size ∧ size ≤ 9223372036854775807) (hd2 : -9223372036854775808 ≤ later ∧ later ≤ 9223372036854775807) (ks kl : Nat) (hk1 : ks < 64) (hk2 : kl < 64) (hp1 : pickI size 64 = (ks : Int)) (hp2 : pickI later 64 = (kl : Int)) (p q : PV) (w : World) (hp : p.In w) (hq : q.In w) (m0 m1 : TC) (hb0 : BdT m0) (e0 : newR 3 = (0, m0)) (e1 : opR m0 (makeR m0 [118, 111, 108] (1 + (ks : Int)) 2147483648) = (0, m1)) (hl : ¬ 20 < p.l.length) (hl2 : ¬ 20 < q.l.length) (hb1 : BdT m1) (e2 : opR m1 (rootT m1 [118, 111, 108] p) = badR 2) :
    Calls Try.prog 5 #[.agg p.cells.toArray, .agg q.cells.toArray, .int .i64 size, .int .i64 later] w fun e w' => e = .returned (.bool true) ∧ St w [] w' [] := by
  obtain ⟨P0, hP0⟩ : ∃ P0 : List HA, P0 = [] := ⟨_, rfl⟩
  have hS0 : St w [] w ([] ++ P0) := by rw [hP0]; exact St.refl w
  clear hP0
  have HD1 := hid hd1
  have HD2 := hid hd2
  have HP1 := hid hp1
  have HP2 := hid hp2
  have E0 := hid e0
  have E1 := hid e1
  have HIP := hid hp
  have HIQ := hid hq
  have H35 := hid (PV.len hp.1)
  have H36 := hid (PV.len hq.1)
  obtain ⟨_, po, pn, pc, hsp, hpr, hpn⟩ := hp
  obtain ⟨_, qo, qn, qc, hsq, hqr, hqn⟩ := hq
  have HSP := hid hsp
  have HSQ := hid hsq
  have HLP := hid hpn
  have HLQ := hid hqn
  have hbp := hpr.bd.1
  have hbp2 := hpr.bd.2.1
  have hbq := hqr.bd.1
  have hbq2 := hqr.bd.2.1
  have m0_bd := hb0.1
  have z1 : IntKind.i64.wrap (1 + (ks : Int)) = 1 + (ks : Int) := IntWalk.i64_in _ (by omega)
  have z2 : IntKind.i64.wrap (1 + (kl : Int)) = 1 + (kl : Int) := IntWalk.i64_in _ (by omega)
  have n1 : ¬ 20 < pn := by have e := HLP.out; omega
  have d1 : decide (20 < (pn : Int)) = false := decide_eq_false (by omega)
  have n2 : ¬ 20 < qn := by have e := HLQ.out; omega
  have d2 : decide (20 < (qn : Int)) = false := decide_eq_false (by omega)
  have E2 := hid (show opR m1 (rootT m1 [118, 111, 108] p) = (2, noTab) from e2)
  have m1_bd := hb1.1
  clear e2 hb1
  clear hd1 hd2 hp1 hp2 e0 e1 hsp hsq hpr hqr hpn hqn hb0
  go_enter Try.func5, Try.ntmps5
  go_wp2_with (first | go_big_skip | go_big_guard | (refine wl_boxA hS0 rfl rfl rfl ?_; intro g4 w1 h4; have hS1 : St w [] w1 ([.blk g4 46 (p.cells)] ++ P0) := h4; clear h4 hS0) | (refine wl_boxA hS1 rfl rfl rfl ?_; intro g5 w1 h4; have hS2 : St w [] w1 ([.blk g5 46 (q.cells), .blk g4 46 (p.cells)] ++ P0) := h4; clear h4 hS1) | (go_at_call 11; refine (awake13_any _).mono ?_; rintro _ w9 ⟨rfl, h4⟩; have hS3 : St w [] w9 ([.blk g5 46 (q.cells), .blk g4 46 (p.cells)] ++ P0) := St.call0 hS2 h4; clear h4 hS2) | (go_at_call 9; refine (pick_spec size 64 _ HD1.out (by decide)).mono ?_; rw [HP1.out]; rintro _ w9 ⟨rfl, h4⟩; have hS4 : St w [] w9 ([.blk g5 46 (q.cells), .blk g4 46 (p.cells)] ++ P0) := St.call0 hS3 h4; clear h4 hS3) | (go_at_call 9; refine (pick_spec later 64 _ HD2.out (by decide)).mono ?_; rw [HP2.out]; rintro _ w9 ⟨rfl, h4⟩; have hS5 : St w [] w9 ([.blk g5 46 (q.cells), .blk g4 46 (p.cells)] ++ P0) := St.call0 hS4 h4; clear h4 hS4) | (go_at_call 6; refine (new13_any 3 _).mono ?_; rw [E0.out]; intro e9 w9 hret; obtain ⟨a1, b1, c1, d1, P1, xs1, rfl, hin, hsub, h4⟩ := ret_pool (B := [.blk g5 46 (q.cells), .blk g4 46 (p.cells)]) hS5 hret; have hS6 : St w [] w9 ([.blk g5 46 (q.cells), .blk g4 46 (p.cells)] ++ P1) := h4; clear hret h4 hS5; have HT1 := hid hin; clear hin hsub) | (refine wl_alloc hS6 rfl rfl ?_; intro g10 w1 h4; have hS7 : St w [] w1 ([.blk g10 27 (tab0), .blk g5 46 (q.cells), .blk g4 46 (p.cells)] ++ P1) := h4; clear h4 hS6) | (refine wl_storeA [] hS7 rfl rfl rfl rfl (vs := tabC m0 (.slice a1 xs1.length c1) (.slice b1 m0.lives.length d1)) rfl rfl rfl ?_; intro w1 h4; have hS8 : St w [] w1 ([.blk g10 27 (tabC m0 (.slice a1 xs1.length c1) (.slice b1 m0.lives.length d1)), .blk g5 46 (q.cells), .blk g4 46 (p.cells)] ++ P1) := h4; clear h4 hS7) | (refine wl_loadE rfl rfl rfl ?_; refine ⟨_, Loads.atA (tabC m0 (.slice a1 xs1.length c1) (.slice b1 m0.lives.length d1)) [] hS8 rfl rfl, ?_⟩) | (go_at_call 7; refine (make13_any m0 a1 b1 xs1.length c1 m0.lives.length d1 xs1 _ (HT1.out.tab hS8 m0_bd) [118, 111, 108] (1 + (ks : Int)) 2147483648 (by decide)).mono ?_; rw [E1.out]; intro e9 w9 hret; obtain ⟨a2, b2, c2, d2, P2, xs2, rfl, hin, hsub, h4⟩ := ret_pool (B := [.blk g10 27 (tabC m0 (.slice a1 xs1.length c1) (.slice b1 m0.lives.length d1)), .blk g5 46 (q.cells), .blk g4 46 (p.cells)]) hS8 hret; have hS9 : St w [] w9 ([.blk g10 27 (tabC m0 (.slice a1 xs1.length c1) (.slice b1 m0.lives.length d1)), .blk g5 46 (q.cells), .blk g4 46 (p.cells)] ++ P2) := h4; clear hret h4 hS8; replace HT1 := hid (HT1.out.mono hsub); have HT2 := hid hin; clear hin hsub) | (refine wl_storeA [] hS9 rfl rfl rfl rfl (vs := tabC m1 (.slice a2 xs2.length c2) (.slice b2 m1.lives.length d2)) rfl rfl rfl ?_; intro w1 h4; have hS10 : St w [] w1 ([.blk g10 27 (tabC m1 (.slice a2 xs2.length c2) (.slice b2 m1.lives.length d2)), .blk g5 46 (q.cells), .blk g4 46 (p.cells)] ++ P2) := h4; clear h4 hS9) | (refine wl_loadE rfl rfl rfl ?_; refine ⟨_, (by have h9 := Loads.at (P := Try.prog) (T := 42) (off := 0) [_, _] hS10 (show (PV.cells p)[0]? = some p.sv from rfl); rw [HSP.out] at h9; exact h9), ?_⟩) | (refine wl_loadE rfl rfl rfl ?_; refine ⟨_, (by have h9 := Loads.at (P := Try.prog) (T := 42) (off := 0) [_] hS10 (show (PV.cells q)[0]? = some q.sv from rfl); rw [HSQ.out] at h9; exact h9), ?_⟩) | (refine wl_loadE rfl rfl rfl ?_; refine ⟨_, Loads.atA (tabC m1 (.slice a2 xs2.length c2) (.slice b2 m1.lives.length d2)) [] hS10 rfl rfl, ?_⟩) | (refine wl_loadE rfl rfl rfl ?_; refine ⟨_, Loads.atA (PV.cells p) [_, _] hS10 H35.out (by simp), ?_⟩) | (go_at_call 19; refine (root13_any m1 a2 b2 xs2.length c2 m1.lives.length d2 xs2 _ (HT2.out.tab hS10 m1_bd) [118, 111, 108] p (PV.In.old hS10 HIP.out) (by rw [HLP.out]; omega) (by decide)).mono ?_; rw [E2.out]; intro e9 w9 hret; obtain ⟨a3, b3, c3, d3, P3, xs3, rfl, hin, hsub, h4⟩ := ret_pool (B := [.blk g10 27 (tabC m1 (.slice a2 xs2.length c2) (.slice b2 m1.lives.length d2)), .blk g5 46 (q.cells), .blk g4 46 (p.cells)]) hS10 hret; have hS11 : St w [] w9 ([.blk g10 27 (tabC m1 (.slice a2 xs2.length c2) (.slice b2 m1.lives.length d2)), .blk g5 46 (q.cells), .blk g4 46 (p.cells)] ++ P3) := h4; clear hret h4 hS10; replace HT1 := hid (HT1.out.mono hsub); replace HT2 := hid (HT2.out.mono hsub); have HT3 := hid hin; clear hin hsub) | (refine wl_storeA [] hS11 rfl rfl rfl rfl (vs := tabC noTab (.slice a3 xs3.length c3) (.slice b3 noTab.lives.length d3)) rfl rfl rfl ?_; intro w1 h4; have hS12 : St w [] w1 ([.blk g10 27 (tabC noTab (.slice a3 xs3.length c3) (.slice b3 noTab.lives.length d3)), .blk g5 46 (q.cells), .blk g4 46 (p.cells)] ++ P3) := h4; clear h4 hS11))
  go_ret
  exact ⟨rfl, hS12.nil⟩
theorem back13_noq (size later : Int) (hd1 : -9223372036854775808 ≤ size ∧ size ≤ 9223372036854775807) (hd2 : -9223372036854775808 ≤ later ∧ later ≤ 9223372036854775807) (ks kl : Nat) (hk1 : ks < 64) (hk2 : kl < 64) (hp1 : pickI size 64 = (ks : Int)) (hp2 : pickI later 64 = (kl : Int)) (p q : PV) (w : World) (hp : p.In w) (hq : q.In w) (m0 m1 m2 m3 : TC) (hb0 : BdT m0) (e0 : newR 3 = (0, m0)) (e1 : opR m0 (makeR m0 [118, 111, 108] (1 + (ks : Int)) 2147483648) = (0, m1)) (hl : ¬ 20 < p.l.length) (hl2 : ¬ 20 < q.l.length) (hb1 : BdT m1) (hb2 : BdT m2) (hb3 : BdT m3) (e2 : opR m1 (rootT m1 [118, 111, 108] p) = (0, m2)) (e3 : opR m2 (snapT m2 [118, 111, 108, 64, 115] 2147483648) = (0, m3)) (e4 : opR m3 (rootT m3 [118, 111, 108] q) = badR 2) :
    Calls Try.prog 5 #[.agg p.cells.toArray, .agg q.cells.toArray, .int .i64 size, .int .i64 later] w fun e w' => e = .returned (.bool true) ∧ St w [] w' [] := by
  obtain ⟨P0, hP0⟩ : ∃ P0 : List HA, P0 = [] := ⟨_, rfl⟩
  have hS0 : St w [] w ([] ++ P0) := by rw [hP0]; exact St.refl w
  clear hP0
  have HD1 := hid hd1
  have HD2 := hid hd2
  have HP1 := hid hp1
  have HP2 := hid hp2
  have E0 := hid e0
  have E1 := hid e1
  have HIP := hid hp
  have HIQ := hid hq
  have H35 := hid (PV.len hp.1)
  have H36 := hid (PV.len hq.1)
  obtain ⟨_, po, pn, pc, hsp, hpr, hpn⟩ := hp
  obtain ⟨_, qo, qn, qc, hsq, hqr, hqn⟩ := hq
  have HSP := hid hsp
  have HSQ := hid hsq
  have HLP := hid hpn
  have HLQ := hid hqn
  have hbp := hpr.bd.1
  have hbp2 := hpr.bd.2.1
  have hbq := hqr.bd.1
  have hbq2 := hqr.bd.2.1
  have m0_bd := hb0.1
  have z1 : IntKind.i64.wrap (1 + (ks : Int)) = 1 + (ks : Int) := IntWalk.i64_in _ (by omega)
  have z2 : IntKind.i64.wrap (1 + (kl : Int)) = 1 + (kl : Int) := IntWalk.i64_in _ (by omega)
  have n1 : ¬ 20 < pn := by have e := HLP.out; omega
  have d1 : decide (20 < (pn : Int)) = false := decide_eq_false (by omega)
  have n2 : ¬ 20 < qn := by have e := HLQ.out; omega
  have d2 : decide (20 < (qn : Int)) = false := decide_eq_false (by omega)
  have E2 := hid e2
  have E3 := hid e3
  have E4 := hid (show opR m3 (rootT m3 [118, 111, 108] q) = (2, noTab) from e4)
  have m1_bd := hb1.1
  have m2_bd := hb2.1
  have m3_bd := hb3.1
  clear e2 e3 e4 hb1 hb2 hb3
  clear hd1 hd2 hp1 hp2 e0 e1 hsp hsq hpr hqr hpn hqn hb0
  go_enter Try.func5, Try.ntmps5
  go_wp2_with (first | go_big_skip | go_big_guard | (refine wl_boxA hS0 rfl rfl rfl ?_; intro g4 w1 h4; have hS1 : St w [] w1 ([.blk g4 46 (p.cells)] ++ P0) := h4; clear h4 hS0) | (refine wl_boxA hS1 rfl rfl rfl ?_; intro g5 w1 h4; have hS2 : St w [] w1 ([.blk g5 46 (q.cells), .blk g4 46 (p.cells)] ++ P0) := h4; clear h4 hS1) | (go_at_call 11; refine (awake13_any _).mono ?_; rintro _ w9 ⟨rfl, h4⟩; have hS3 : St w [] w9 ([.blk g5 46 (q.cells), .blk g4 46 (p.cells)] ++ P0) := St.call0 hS2 h4; clear h4 hS2) | (go_at_call 9; refine (pick_spec size 64 _ HD1.out (by decide)).mono ?_; rw [HP1.out]; rintro _ w9 ⟨rfl, h4⟩; have hS4 : St w [] w9 ([.blk g5 46 (q.cells), .blk g4 46 (p.cells)] ++ P0) := St.call0 hS3 h4; clear h4 hS3) | (go_at_call 9; refine (pick_spec later 64 _ HD2.out (by decide)).mono ?_; rw [HP2.out]; rintro _ w9 ⟨rfl, h4⟩; have hS5 : St w [] w9 ([.blk g5 46 (q.cells), .blk g4 46 (p.cells)] ++ P0) := St.call0 hS4 h4; clear h4 hS4) | (go_at_call 6; refine (new13_any 3 _).mono ?_; rw [E0.out]; intro e9 w9 hret; obtain ⟨a1, b1, c1, d1, P1, xs1, rfl, hin, hsub, h4⟩ := ret_pool (B := [.blk g5 46 (q.cells), .blk g4 46 (p.cells)]) hS5 hret; have hS6 : St w [] w9 ([.blk g5 46 (q.cells), .blk g4 46 (p.cells)] ++ P1) := h4; clear hret h4 hS5; have HT1 := hid hin; clear hin hsub) | (refine wl_alloc hS6 rfl rfl ?_; intro g10 w1 h4; have hS7 : St w [] w1 ([.blk g10 27 (tab0), .blk g5 46 (q.cells), .blk g4 46 (p.cells)] ++ P1) := h4; clear h4 hS6) | (refine wl_storeA [] hS7 rfl rfl rfl rfl (vs := tabC m0 (.slice a1 xs1.length c1) (.slice b1 m0.lives.length d1)) rfl rfl rfl ?_; intro w1 h4; have hS8 : St w [] w1 ([.blk g10 27 (tabC m0 (.slice a1 xs1.length c1) (.slice b1 m0.lives.length d1)), .blk g5 46 (q.cells), .blk g4 46 (p.cells)] ++ P1) := h4; clear h4 hS7) | (refine wl_loadE rfl rfl rfl ?_; refine ⟨_, Loads.atA (tabC m0 (.slice a1 xs1.length c1) (.slice b1 m0.lives.length d1)) [] hS8 rfl rfl, ?_⟩) | (go_at_call 7; refine (make13_any m0 a1 b1 xs1.length c1 m0.lives.length d1 xs1 _ (HT1.out.tab hS8 m0_bd) [118, 111, 108] (1 + (ks : Int)) 2147483648 (by decide)).mono ?_; rw [E1.out]; intro e9 w9 hret; obtain ⟨a2, b2, c2, d2, P2, xs2, rfl, hin, hsub, h4⟩ := ret_pool (B := [.blk g10 27 (tabC m0 (.slice a1 xs1.length c1) (.slice b1 m0.lives.length d1)), .blk g5 46 (q.cells), .blk g4 46 (p.cells)]) hS8 hret; have hS9 : St w [] w9 ([.blk g10 27 (tabC m0 (.slice a1 xs1.length c1) (.slice b1 m0.lives.length d1)), .blk g5 46 (q.cells), .blk g4 46 (p.cells)] ++ P2) := h4; clear hret h4 hS8; replace HT1 := hid (HT1.out.mono hsub); have HT2 := hid hin; clear hin hsub) | (refine wl_storeA [] hS9 rfl rfl rfl rfl (vs := tabC m1 (.slice a2 xs2.length c2) (.slice b2 m1.lives.length d2)) rfl rfl rfl ?_; intro w1 h4; have hS10 : St w [] w1 ([.blk g10 27 (tabC m1 (.slice a2 xs2.length c2) (.slice b2 m1.lives.length d2)), .blk g5 46 (q.cells), .blk g4 46 (p.cells)] ++ P2) := h4; clear h4 hS9) | (refine wl_loadE rfl rfl rfl ?_; refine ⟨_, (by have h9 := Loads.at (P := Try.prog) (T := 42) (off := 0) [_, _] hS10 (show (PV.cells p)[0]? = some p.sv from rfl); rw [HSP.out] at h9; exact h9), ?_⟩) | (refine wl_loadE rfl rfl rfl ?_; refine ⟨_, (by have h9 := Loads.at (P := Try.prog) (T := 42) (off := 0) [_] hS10 (show (PV.cells q)[0]? = some q.sv from rfl); rw [HSQ.out] at h9; exact h9), ?_⟩) | (refine wl_loadE rfl rfl rfl ?_; refine ⟨_, Loads.atA (tabC m1 (.slice a2 xs2.length c2) (.slice b2 m1.lives.length d2)) [] hS10 rfl rfl, ?_⟩) | (refine wl_loadE rfl rfl rfl ?_; refine ⟨_, Loads.atA (PV.cells p) [_, _] hS10 H35.out (by simp), ?_⟩) | (go_at_call 19; refine (root13_any m1 a2 b2 xs2.length c2 m1.lives.length d2 xs2 _ (HT2.out.tab hS10 m1_bd) [118, 111, 108] p (PV.In.old hS10 HIP.out) (by rw [HLP.out]; omega) (by decide)).mono ?_; rw [E2.out]; intro e9 w9 hret; obtain ⟨a3, b3, c3, d3, P3, xs3, rfl, hin, hsub, h4⟩ := ret_pool (B := [.blk g10 27 (tabC m1 (.slice a2 xs2.length c2) (.slice b2 m1.lives.length d2)), .blk g5 46 (q.cells), .blk g4 46 (p.cells)]) hS10 hret; have hS11 : St w [] w9 ([.blk g10 27 (tabC m1 (.slice a2 xs2.length c2) (.slice b2 m1.lives.length d2)), .blk g5 46 (q.cells), .blk g4 46 (p.cells)] ++ P3) := h4; clear hret h4 hS10; replace HT1 := hid (HT1.out.mono hsub); replace HT2 := hid (HT2.out.mono hsub); have HT3 := hid hin; clear hin hsub) | (refine wl_storeA [] hS11 rfl rfl rfl rfl (vs := tabC m2 (.slice a3 xs3.length c3) (.slice b3 m2.lives.length d3)) rfl rfl rfl ?_; intro w1 h4; have hS12 : St w [] w1 ([.blk g10 27 (tabC m2 (.slice a3 xs3.length c3) (.slice b3 m2.lives.length d3)), .blk g5 46 (q.cells), .blk g4 46 (p.cells)] ++ P3) := h4; clear h4 hS11) | (refine wl_loadE rfl rfl rfl ?_; refine ⟨_, Loads.atA (tabC m2 (.slice a3 xs3.length c3) (.slice b3 m2.lives.length d3)) [] hS12 rfl rfl, ?_⟩) | (go_at_call 17; refine (snap13_any m2 a3 b3 xs3.length c3 m2.lives.length d3 xs3 _ (HT3.out.tab hS12 m2_bd) [118, 111, 108, 64, 115] 2147483648 (by decide)).mono ?_; rw [E3.out]; intro e9 w9 hret; obtain ⟨a4, b4, c4, d4, P4, xs4, rfl, hin, hsub, h4⟩ := ret_pool (B := [.blk g10 27 (tabC m2 (.slice a3 xs3.length c3) (.slice b3 m2.lives.length d3)), .blk g5 46 (q.cells), .blk g4 46 (p.cells)]) hS12 hret; have hS13 : St w [] w9 ([.blk g10 27 (tabC m2 (.slice a3 xs3.length c3) (.slice b3 m2.lives.length d3)), .blk g5 46 (q.cells), .blk g4 46 (p.cells)] ++ P4) := h4; clear hret h4 hS12; replace HT1 := hid (HT1.out.mono hsub); replace HT2 := hid (HT2.out.mono hsub); replace HT3 := hid (HT3.out.mono hsub); have HT4 := hid hin; clear hin hsub) | (refine wl_alloc hS13 rfl rfl ?_; intro g14 w1 h4; have hS14 : St w [] w1 ([.blk g14 27 (tab0), .blk g10 27 (tabC m2 (.slice a3 xs3.length c3) (.slice b3 m2.lives.length d3)), .blk g5 46 (q.cells), .blk g4 46 (p.cells)] ++ P4) := h4; clear h4 hS13) | (refine wl_storeA [] hS14 rfl rfl rfl rfl (vs := tabC m3 (.slice a4 xs4.length c4) (.slice b4 m3.lives.length d4)) rfl rfl rfl ?_; intro w1 h4; have hS15 : St w [] w1 ([.blk g14 27 (tabC m3 (.slice a4 xs4.length c4) (.slice b4 m3.lives.length d4)), .blk g10 27 (tabC m2 (.slice a3 xs3.length c3) (.slice b3 m2.lives.length d3)), .blk g5 46 (q.cells), .blk g4 46 (p.cells)] ++ P4) := h4; clear h4 hS14) | (refine wl_loadE rfl rfl rfl ?_; refine ⟨_, Loads.atA (tabC m3 (.slice a4 xs4.length c4) (.slice b4 m3.lives.length d4)) [] hS15 rfl rfl, ?_⟩) | (refine wl_loadE rfl rfl rfl ?_; refine ⟨_, Loads.atA (PV.cells q) [_, _] hS15 H36.out (by simp), ?_⟩) | (go_at_call 19; refine (root13_any m3 a4 b4 xs4.length c4 m3.lives.length d4 xs4 _ (HT4.out.tab hS15 m3_bd) [118, 111, 108] q (PV.In.old hS15 HIQ.out) (by rw [HLQ.out]; omega) (by decide)).mono ?_; rw [E4.out]; intro e9 w9 hret; obtain ⟨a5, b5, c5, d5, P5, xs5, rfl, hin, hsub, h4⟩ := ret_pool (B := [.blk g14 27 (tabC m3 (.slice a4 xs4.length c4) (.slice b4 m3.lives.length d4)), .blk g10 27 (tabC m2 (.slice a3 xs3.length c3) (.slice b3 m2.lives.length d3)), .blk g5 46 (q.cells), .blk g4 46 (p.cells)]) hS15 hret; have hS16 : St w [] w9 ([.blk g14 27 (tabC m3 (.slice a4 xs4.length c4) (.slice b4 m3.lives.length d4)), .blk g10 27 (tabC m2 (.slice a3 xs3.length c3) (.slice b3 m2.lives.length d3)), .blk g5 46 (q.cells), .blk g4 46 (p.cells)] ++ P5) := h4; clear hret h4 hS15; replace HT1 := hid (HT1.out.mono hsub); replace HT2 := hid (HT2.out.mono hsub); replace HT3 := hid (HT3.out.mono hsub); replace HT4 := hid (HT4.out.mono hsub); have HT5 := hid hin; clear hin hsub) | (refine wl_alloc hS16 rfl rfl ?_; intro g16 w1 h4; have hS17 : St w [] w1 ([.blk g16 27 (tab0), .blk g14 27 (tabC m3 (.slice a4 xs4.length c4) (.slice b4 m3.lives.length d4)), .blk g10 27 (tabC m2 (.slice a3 xs3.length c3) (.slice b3 m2.lives.length d3)), .blk g5 46 (q.cells), .blk g4 46 (p.cells)] ++ P5) := h4; clear h4 hS16) | (refine wl_storeA [] hS17 rfl rfl rfl rfl (vs := tabC noTab (.slice a5 xs5.length c5) (.slice b5 noTab.lives.length d5)) rfl rfl rfl ?_; intro w1 h4; have hS18 : St w [] w1 ([.blk g16 27 (tabC noTab (.slice a5 xs5.length c5) (.slice b5 noTab.lives.length d5)), .blk g14 27 (tabC m3 (.slice a4 xs4.length c4) (.slice b4 m3.lives.length d4)), .blk g10 27 (tabC m2 (.slice a3 xs3.length c3) (.slice b3 m2.lives.length d3)), .blk g5 46 (q.cells), .blk g4 46 (p.cells)] ++ P5) := h4; clear h4 hS17))
  go_ret
  exact ⟨rfl, hS18.nil⟩
theorem back13_yes (size later : Int) (hd1 : -9223372036854775808 ≤ size ∧ size ≤ 9223372036854775807) (hd2 : -9223372036854775808 ≤ later ∧ later ≤ 9223372036854775807) (ks kl : Nat) (hk1 : ks < 64) (hk2 : kl < 64) (hp1 : pickI size 64 = (ks : Int)) (hp2 : pickI later 64 = (kl : Int)) (p q : PV) (w : World) (hp : p.In w) (hq : q.In w) (m0 m1 m2 m3 m4 m5 m7 m8 : TC) (hb0 : BdT m0) (e0 : newR 3 = (0, m0)) (e1 : opR m0 (makeR m0 [118, 111, 108] (1 + (ks : Int)) 2147483648) = (0, m1)) (hl : ¬ 20 < p.l.length) (hl2 : ¬ 20 < q.l.length) (hb1 : BdT m1) (hb2 : BdT m2) (hb3 : BdT m3) (hb4 : BdT m4) (hb5 : BdT m5) (hb7 : BdT m7) (hb8 : BdT m8) (e2 : opR m1 (rootT m1 [118, 111, 108] p) = (0, m2)) (e3 : opR m2 (snapT m2 [118, 111, 108, 64, 115] 2147483648) = (0, m3)) (e4 : opR m3 (rootT m3 [118, 111, 108] q) = (0, m4)) (e5 : opR m4 (resizeT m4 [118, 111, 108] (1 + (kl : Int))) = (0, m5)) (e6 : opR m5 (rollT m5 [118, 111, 108, 64, 115]) = (0, m3)) (e7 : opR m5 (cloneT m5 [118, 111, 108, 64, 115] [99, 111, 112, 121] 1) = (0, m7)) (e8 : opR m7 (renameT m7 [118, 111, 108] [97]) = (0, m8)) (e9 : opR m8 (renameT m8 [97] [118, 111, 108]) = (0, m7)) (n7 : (namesOf m7 == [[99, 111, 112, 121], [118, 111, 108], [118, 111, 108, 64, 115]]) = true) (n8 : (namesOf m8 == [[97], [97, 64, 115], [99, 111, 112, 121]]) = true) (r0 r1 r2 s0 s1 : RC) (q7 : m7.recs = [r0, r1, r2]) (q3 : m3.recs = [s0, s1]) (f1 : r0.size = 1 + (ks : Int)) (f2 : ∀ sv, (r0.pv sv).same p = true) (f3 : r2.sameB s1 = true) (f4 : r0.origin = s1.id) :
    Calls Try.prog 5 #[.agg p.cells.toArray, .agg q.cells.toArray, .int .i64 size, .int .i64 later] w fun e w' => e = .returned (.bool true) ∧ St w [] w' [] := by
  obtain ⟨P0, hP0⟩ : ∃ P0 : List HA, P0 = [] := ⟨_, rfl⟩
  have hS0 : St w [] w ([] ++ P0) := by rw [hP0]; exact St.refl w
  clear hP0
  have HD1 := hid hd1
  have HD2 := hid hd2
  have HP1 := hid hp1
  have HP2 := hid hp2
  have E0 := hid e0
  have E1 := hid e1
  have HIP := hid hp
  have HIQ := hid hq
  have H35 := hid (PV.len hp.1)
  have H36 := hid (PV.len hq.1)
  obtain ⟨_, po, pn, pc, hsp, hpr, hpn⟩ := hp
  obtain ⟨_, qo, qn, qc, hsq, hqr, hqn⟩ := hq
  have HSP := hid hsp
  have HSQ := hid hsq
  have HLP := hid hpn
  have HLQ := hid hqn
  have hbp := hpr.bd.1
  have hbp2 := hpr.bd.2.1
  have hbq := hqr.bd.1
  have hbq2 := hqr.bd.2.1
  have m0_bd := hb0.1
  have z1 : IntKind.i64.wrap (1 + (ks : Int)) = 1 + (ks : Int) := IntWalk.i64_in _ (by omega)
  have z2 : IntKind.i64.wrap (1 + (kl : Int)) = 1 + (kl : Int) := IntWalk.i64_in _ (by omega)
  have n1 : ¬ 20 < pn := by have e := HLP.out; omega
  have d1 : decide (20 < (pn : Int)) = false := decide_eq_false (by omega)
  have n2 : ¬ 20 < qn := by have e := HLQ.out; omega
  have d2 : decide (20 < (qn : Int)) = false := decide_eq_false (by omega)
  have E2 := hid e2
  have E3 := hid e3
  have E4 := hid e4
  have E5 := hid e5
  have E6 := hid e6
  have E7 := hid e7
  have E8 := hid e8
  have E9 := hid e9
  have m1_bd := hb1.1
  have m1_rl := hb1.2
  have m2_bd := hb2.1
  have m2_rl := hb2.2
  have m3_bd := hb3.1
  have m3_rl := hb3.2
  have m4_bd := hb4.1
  have m4_rl := hb4.2
  have m5_bd := hb5.1
  have m5_rl := hb5.2
  have m7_bd := hb7.1
  have m7_rl := hb7.2
  have m8_bd := hb8.1
  have m8_rl := hb8.2
  have N7 := hid n7
  have N8 := hid n8
  have Q7 := hid q7
  have Q3 := hid q3
  have F2 := hid f2
  have F3 := hid f3
  have t1 : (r0.size != 1 + (ks : Int)) = false := by rw [f1]; exact bne_self_eq_false _
  have t2 : (r0.origin != s1.id) = false := by rw [f4]; exact bne_self_eq_false _
  clear e2 e3 e4 e5 e6 e7 e8 e9 n7 n8 q7 q3 f1 f2 f3 f4 hb1 hb2 hb3 hb4 hb5 hb7 hb8
  clear hd1 hd2 hp1 hp2 e0 e1 hsp hsq hpr hqr hpn hqn hb0
  go_enter Try.func5, Try.ntmps5
  go_wp2_with (first | go_big_skip | go_big_guard | (refine wl_boxA hS0 rfl rfl rfl ?_; intro g4 w1 h4; have hS1 : St w [] w1 ([.blk g4 46 (p.cells)] ++ P0) := h4; clear h4 hS0) | (refine wl_boxA hS1 rfl rfl rfl ?_; intro g5 w1 h4; have hS2 : St w [] w1 ([.blk g5 46 (q.cells), .blk g4 46 (p.cells)] ++ P0) := h4; clear h4 hS1) | (go_at_call 11; refine (awake13_any _).mono ?_; rintro _ w9 ⟨rfl, h4⟩; have hS3 : St w [] w9 ([.blk g5 46 (q.cells), .blk g4 46 (p.cells)] ++ P0) := St.call0 hS2 h4; clear h4 hS2) | (go_at_call 9; refine (pick_spec size 64 _ HD1.out (by decide)).mono ?_; rw [HP1.out]; rintro _ w9 ⟨rfl, h4⟩; have hS4 : St w [] w9 ([.blk g5 46 (q.cells), .blk g4 46 (p.cells)] ++ P0) := St.call0 hS3 h4; clear h4 hS3) | (go_at_call 9; refine (pick_spec later 64 _ HD2.out (by decide)).mono ?_; rw [HP2.out]; rintro _ w9 ⟨rfl, h4⟩; have hS5 : St w [] w9 ([.blk g5 46 (q.cells), .blk g4 46 (p.cells)] ++ P0) := St.call0 hS4 h4; clear h4 hS4) | (go_at_call 6; refine (new13_any 3 _).mono ?_; rw [E0.out]; intro e9 w9 hret; obtain ⟨a1, b1, c1, d1, P1, xs1, rfl, hin, hsub, h4⟩ := ret_pool (B := [.blk g5 46 (q.cells), .blk g4 46 (p.cells)]) hS5 hret; have hS6 : St w [] w9 ([.blk g5 46 (q.cells), .blk g4 46 (p.cells)] ++ P1) := h4; clear hret h4 hS5; have HT1 := hid hin; clear hin hsub) | (refine wl_alloc hS6 rfl rfl ?_; intro g10 w1 h4; have hS7 : St w [] w1 ([.blk g10 27 (tab0), .blk g5 46 (q.cells), .blk g4 46 (p.cells)] ++ P1) := h4; clear h4 hS6) | (refine wl_storeA [] hS7 rfl rfl rfl rfl (vs := tabC m0 (.slice a1 xs1.length c1) (.slice b1 m0.lives.length d1)) rfl rfl rfl ?_; intro w1 h4; have hS8 : St w [] w1 ([.blk g10 27 (tabC m0 (.slice a1 xs1.length c1) (.slice b1 m0.lives.length d1)), .blk g5 46 (q.cells), .blk g4 46 (p.cells)] ++ P1) := h4; clear h4 hS7) | (refine wl_loadE rfl rfl rfl ?_; refine ⟨_, Loads.atA (tabC m0 (.slice a1 xs1.length c1) (.slice b1 m0.lives.length d1)) [] hS8 rfl rfl, ?_⟩) | (go_at_call 7; refine (make13_any m0 a1 b1 xs1.length c1 m0.lives.length d1 xs1 _ (HT1.out.tab hS8 m0_bd) [118, 111, 108] (1 + (ks : Int)) 2147483648 (by decide)).mono ?_; rw [E1.out]; intro e9 w9 hret; obtain ⟨a2, b2, c2, d2, P2, xs2, rfl, hin, hsub, h4⟩ := ret_pool (B := [.blk g10 27 (tabC m0 (.slice a1 xs1.length c1) (.slice b1 m0.lives.length d1)), .blk g5 46 (q.cells), .blk g4 46 (p.cells)]) hS8 hret; have hS9 : St w [] w9 ([.blk g10 27 (tabC m0 (.slice a1 xs1.length c1) (.slice b1 m0.lives.length d1)), .blk g5 46 (q.cells), .blk g4 46 (p.cells)] ++ P2) := h4; clear hret h4 hS8; replace HT1 := hid (HT1.out.mono hsub); have HT2 := hid hin; clear hin hsub) | (refine wl_storeA [] hS9 rfl rfl rfl rfl (vs := tabC m1 (.slice a2 xs2.length c2) (.slice b2 m1.lives.length d2)) rfl rfl rfl ?_; intro w1 h4; have hS10 : St w [] w1 ([.blk g10 27 (tabC m1 (.slice a2 xs2.length c2) (.slice b2 m1.lives.length d2)), .blk g5 46 (q.cells), .blk g4 46 (p.cells)] ++ P2) := h4; clear h4 hS9) | (refine wl_loadE rfl rfl rfl ?_; refine ⟨_, (by have h9 := Loads.at (P := Try.prog) (T := 42) (off := 0) [_, _] hS10 (show (PV.cells p)[0]? = some p.sv from rfl); rw [HSP.out] at h9; exact h9), ?_⟩) | (refine wl_loadE rfl rfl rfl ?_; refine ⟨_, (by have h9 := Loads.at (P := Try.prog) (T := 42) (off := 0) [_] hS10 (show (PV.cells q)[0]? = some q.sv from rfl); rw [HSQ.out] at h9; exact h9), ?_⟩) | (refine wl_loadE rfl rfl rfl ?_; refine ⟨_, Loads.atA (tabC m1 (.slice a2 xs2.length c2) (.slice b2 m1.lives.length d2)) [] hS10 rfl rfl, ?_⟩) | (refine wl_loadE rfl rfl rfl ?_; refine ⟨_, Loads.atA (PV.cells p) [_, _] hS10 H35.out (by simp), ?_⟩) | (go_at_call 19; refine (root13_any m1 a2 b2 xs2.length c2 m1.lives.length d2 xs2 _ (HT2.out.tab hS10 m1_bd) [118, 111, 108] p (PV.In.old hS10 HIP.out) (by rw [HLP.out]; omega) (by decide)).mono ?_; rw [E2.out]; intro e9 w9 hret; obtain ⟨a3, b3, c3, d3, P3, xs3, rfl, hin, hsub, h4⟩ := ret_pool (B := [.blk g10 27 (tabC m1 (.slice a2 xs2.length c2) (.slice b2 m1.lives.length d2)), .blk g5 46 (q.cells), .blk g4 46 (p.cells)]) hS10 hret; have hS11 : St w [] w9 ([.blk g10 27 (tabC m1 (.slice a2 xs2.length c2) (.slice b2 m1.lives.length d2)), .blk g5 46 (q.cells), .blk g4 46 (p.cells)] ++ P3) := h4; clear hret h4 hS10; replace HT1 := hid (HT1.out.mono hsub); replace HT2 := hid (HT2.out.mono hsub); have HT3 := hid hin; clear hin hsub) | (refine wl_storeA [] hS11 rfl rfl rfl rfl (vs := tabC m2 (.slice a3 xs3.length c3) (.slice b3 m2.lives.length d3)) rfl rfl rfl ?_; intro w1 h4; have hS12 : St w [] w1 ([.blk g10 27 (tabC m2 (.slice a3 xs3.length c3) (.slice b3 m2.lives.length d3)), .blk g5 46 (q.cells), .blk g4 46 (p.cells)] ++ P3) := h4; clear h4 hS11) | (refine wl_loadE rfl rfl rfl ?_; refine ⟨_, Loads.atA (tabC m2 (.slice a3 xs3.length c3) (.slice b3 m2.lives.length d3)) [] hS12 rfl rfl, ?_⟩) | (go_at_call 17; refine (snap13_any m2 a3 b3 xs3.length c3 m2.lives.length d3 xs3 _ (HT3.out.tab hS12 m2_bd) [118, 111, 108, 64, 115] 2147483648 (by decide)).mono ?_; rw [E3.out]; intro e9 w9 hret; obtain ⟨a4, b4, c4, d4, P4, xs4, rfl, hin, hsub, h4⟩ := ret_pool (B := [.blk g10 27 (tabC m2 (.slice a3 xs3.length c3) (.slice b3 m2.lives.length d3)), .blk g5 46 (q.cells), .blk g4 46 (p.cells)]) hS12 hret; have hS13 : St w [] w9 ([.blk g10 27 (tabC m2 (.slice a3 xs3.length c3) (.slice b3 m2.lives.length d3)), .blk g5 46 (q.cells), .blk g4 46 (p.cells)] ++ P4) := h4; clear hret h4 hS12; replace HT1 := hid (HT1.out.mono hsub); replace HT2 := hid (HT2.out.mono hsub); replace HT3 := hid (HT3.out.mono hsub); have HT4 := hid hin; clear hin hsub; obtain ⟨hn3, ⟨r3, hr3⟩, ⟨v31, hx3⟩⟩ := parts2 HT4.out hS13 Q3.out; subst hr3; have HN3 := hid hn3; have HX31 := hid hx3; clear hn3 hx3) | (refine wl_alloc hS13 rfl rfl ?_; intro g14 w1 h4; have hS14 : St w [] w1 ([.blk g14 27 (tab0), .blk g10 27 (tabC m2 (.slice a3 xs3.length c3) (.slice b3 m2.lives.length d3)), .blk g5 46 (q.cells), .blk g4 46 (p.cells)] ++ P4) := h4; clear h4 hS13) | (refine wl_storeA [] hS14 rfl rfl rfl rfl (vs := tabC m3 (.slice (some ⟨r3, 0, none⟩) xs4.length c4) (.slice b4 m3.lives.length d4)) rfl rfl rfl ?_; intro w1 h4; have hS15 : St w [] w1 ([.blk g14 27 (tabC m3 (.slice (some ⟨r3, 0, none⟩) xs4.length c4) (.slice b4 m3.lives.length d4)), .blk g10 27 (tabC m2 (.slice a3 xs3.length c3) (.slice b3 m2.lives.length d3)), .blk g5 46 (q.cells), .blk g4 46 (p.cells)] ++ P4) := h4; clear h4 hS14) | (refine wl_loadE rfl rfl rfl ?_; refine ⟨_, Loads.atA (tabC m3 (.slice (some ⟨r3, 0, none⟩) xs4.length c4) (.slice b4 m3.lives.length d4)) [] hS15 rfl rfl, ?_⟩) | (refine wl_loadE rfl rfl rfl ?_; refine ⟨_, Loads.atA (PV.cells q) [_, _] hS15 H36.out (by simp), ?_⟩) | (go_at_call 19; refine (root13_any m3 (some ⟨r3, 0, none⟩) b4 xs4.length c4 m3.lives.length d4 xs4 _ (HT4.out.tab hS15 m3_bd) [118, 111, 108] q (PV.In.old hS15 HIQ.out) (by rw [HLQ.out]; omega) (by decide)).mono ?_; rw [E4.out]; intro e9 w9 hret; obtain ⟨a5, b5, c5, d5, P5, xs5, rfl, hin, hsub, h4⟩ := ret_pool (B := [.blk g14 27 (tabC m3 (.slice (some ⟨r3, 0, none⟩) xs4.length c4) (.slice b4 m3.lives.length d4)), .blk g10 27 (tabC m2 (.slice a3 xs3.length c3) (.slice b3 m2.lives.length d3)), .blk g5 46 (q.cells), .blk g4 46 (p.cells)]) hS15 hret; have hS16 : St w [] w9 ([.blk g14 27 (tabC m3 (.slice (some ⟨r3, 0, none⟩) xs4.length c4) (.slice b4 m3.lives.length d4)), .blk g10 27 (tabC m2 (.slice a3 xs3.length c3) (.slice b3 m2.lives.length d3)), .blk g5 46 (q.cells), .blk g4 46 (p.cells)] ++ P5) := h4; clear hret h4 hS15; replace HT1 := hid (HT1.out.mono hsub); replace HT2 := hid (HT2.out.mono hsub); replace HT3 := hid (HT3.out.mono hsub); replace HT4 := hid (HT4.out.mono hsub); have HT5 := hid hin; clear hin hsub) | (refine wl_alloc hS16 rfl rfl ?_; intro g16 w1 h4; have hS17 : St w [] w1 ([.blk g16 27 (tab0), .blk g14 27 (tabC m3 (.slice (some ⟨r3, 0, none⟩) xs4.length c4) (.slice b4 m3.lives.length d4)), .blk g10 27 (tabC m2 (.slice a3 xs3.length c3) (.slice b3 m2.lives.length d3)), .blk g5 46 (q.cells), .blk g4 46 (p.cells)] ++ P5) := h4; clear h4 hS16) | (refine wl_storeA [] hS17 rfl rfl rfl rfl (vs := tabC m4 (.slice a5 xs5.length c5) (.slice b5 m4.lives.length d5)) rfl rfl rfl ?_; intro w1 h4; have hS18 : St w [] w1 ([.blk g16 27 (tabC m4 (.slice a5 xs5.length c5) (.slice b5 m4.lives.length d5)), .blk g14 27 (tabC m3 (.slice (some ⟨r3, 0, none⟩) xs4.length c4) (.slice b4 m3.lives.length d4)), .blk g10 27 (tabC m2 (.slice a3 xs3.length c3) (.slice b3 m2.lives.length d3)), .blk g5 46 (q.cells), .blk g4 46 (p.cells)] ++ P5) := h4; clear h4 hS17) | (refine wl_loadE rfl rfl rfl ?_; refine ⟨_, Loads.atA (tabC m4 (.slice a5 xs5.length c5) (.slice b5 m4.lives.length d5)) [] hS18 rfl rfl, ?_⟩) | (go_at_call 15; refine (resize13_any m4 a5 b5 xs5.length c5 m4.lives.length d5 xs5 _ (HT5.out.tab hS18 m4_bd) [118, 111, 108] (1 + (kl : Int)) (by decide)).mono ?_; rw [E5.out]; intro e9 w9 hret; obtain ⟨a6, b6, c6, d6, P6, xs6, rfl, hin, hsub, h4⟩ := ret_pool (B := [.blk g16 27 (tabC m4 (.slice a5 xs5.length c5) (.slice b5 m4.lives.length d5)), .blk g14 27 (tabC m3 (.slice (some ⟨r3, 0, none⟩) xs4.length c4) (.slice b4 m3.lives.length d4)), .blk g10 27 (tabC m2 (.slice a3 xs3.length c3) (.slice b3 m2.lives.length d3)), .blk g5 46 (q.cells), .blk g4 46 (p.cells)]) hS18 hret; have hS19 : St w [] w9 ([.blk g16 27 (tabC m4 (.slice a5 xs5.length c5) (.slice b5 m4.lives.length d5)), .blk g14 27 (tabC m3 (.slice (some ⟨r3, 0, none⟩) xs4.length c4) (.slice b4 m3.lives.length d4)), .blk g10 27 (tabC m2 (.slice a3 xs3.length c3) (.slice b3 m2.lives.length d3)), .blk g5 46 (q.cells), .blk g4 46 (p.cells)] ++ P6) := h4; clear hret h4 hS18; replace HT1 := hid (HT1.out.mono hsub); replace HT2 := hid (HT2.out.mono hsub); replace HT3 := hid (HT3.out.mono hsub); replace HT4 := hid (HT4.out.mono hsub); replace HT5 := hid (HT5.out.mono hsub); have HT6 := hid hin; clear hin hsub) | (refine wl_storeA [] hS19 rfl rfl rfl rfl (vs := tabC m5 (.slice a6 xs6.length c6) (.slice b6 m5.lives.length d6)) rfl rfl rfl ?_; intro w1 h4; have hS20 : St w [] w1 ([.blk g16 27 (tabC m5 (.slice a6 xs6.length c6) (.slice b6 m5.lives.length d6)), .blk g14 27 (tabC m3 (.slice (some ⟨r3, 0, none⟩) xs4.length c4) (.slice b4 m3.lives.length d4)), .blk g10 27 (tabC m2 (.slice a3 xs3.length c3) (.slice b3 m2.lives.length d3)), .blk g5 46 (q.cells), .blk g4 46 (p.cells)] ++ P6) := h4; clear h4 hS19) | (refine wl_loadE rfl rfl rfl ?_; refine ⟨_, Loads.atA (tabC m5 (.slice a6 xs6.length c6) (.slice b6 m5.lives.length d6)) [] hS20 rfl rfl, ?_⟩) | (go_at_call 18; refine (roll13_any m5 a6 b6 xs6.length c6 m5.lives.length d6 xs6 _ (HT6.out.tab hS20 m5_bd) [118, 111, 108, 64, 115] (by decide)).mono ?_; rw [E6.out]; intro e9 w9 hret; obtain ⟨a7, b7, c7, d7, P7, xs7, rfl, hin, hsub, h4⟩ := ret_pool (B := [.blk g16 27 (tabC m5 (.slice a6 xs6.length c6) (.slice b6 m5.lives.length d6)), .blk g14 27 (tabC m3 (.slice (some ⟨r3, 0, none⟩) xs4.length c4) (.slice b4 m3.lives.length d4)), .blk g10 27 (tabC m2 (.slice a3 xs3.length c3) (.slice b3 m2.lives.length d3)), .blk g5 46 (q.cells), .blk g4 46 (p.cells)]) hS20 hret; have hS21 : St w [] w9 ([.blk g16 27 (tabC m5 (.slice a6 xs6.length c6) (.slice b6 m5.lives.length d6)), .blk g14 27 (tabC m3 (.slice (some ⟨r3, 0, none⟩) xs4.length c4) (.slice b4 m3.lives.length d4)), .blk g10 27 (tabC m2 (.slice a3 xs3.length c3) (.slice b3 m2.lives.length d3)), .blk g5 46 (q.cells), .blk g4 46 (p.cells)] ++ P7) := h4; clear hret h4 hS20; replace HT1 := hid (HT1.out.mono hsub); replace HT2 := hid (HT2.out.mono hsub); replace HT3 := hid (HT3.out.mono hsub); replace HT4 := hid (HT4.out.mono hsub); replace HT5 := hid (HT5.out.mono hsub); replace HT6 := hid (HT6.out.mono hsub); have HT7 := hid hin; clear hin hsub) | (refine wl_alloc hS21 rfl rfl ?_; intro g19 w1 h4; have hS22 : St w [] w1 ([.blk g19 27 (tab0), .blk g16 27 (tabC m5 (.slice a6 xs6.length c6) (.slice b6 m5.lives.length d6)), .blk g14 27 (tabC m3 (.slice (some ⟨r3, 0, none⟩) xs4.length c4) (.slice b4 m3.lives.length d4)), .blk g10 27 (tabC m2 (.slice a3 xs3.length c3) (.slice b3 m2.lives.length d3)), .blk g5 46 (q.cells), .blk g4 46 (p.cells)] ++ P7) := h4; clear h4 hS21) | (refine wl_storeA [] hS22 rfl rfl rfl rfl (vs := tabC m3 (.slice a7 xs7.length c7) (.slice b7 m3.lives.length d7)) rfl rfl rfl ?_; intro w1 h4; have hS23 : St w [] w1 ([.blk g19 27 (tabC m3 (.slice a7 xs7.length c7) (.slice b7 m3.lives.length d7)), .blk g16 27 (tabC m5 (.slice a6 xs6.length c6) (.slice b6 m5.lives.length d6)), .blk g14 27 (tabC m3 (.slice (some ⟨r3, 0, none⟩) xs4.length c4) (.slice b4 m3.lives.length d4)), .blk g10 27 (tabC m2 (.slice a3 xs3.length c3) (.slice b3 m2.lives.length d3)), .blk g5 46 (q.cells), .blk g4 46 (p.cells)] ++ P7) := h4; clear h4 hS22) | (refine wl_loadE rfl rfl rfl ?_; refine ⟨_, Loads.atA (tabC m5 (.slice a6 xs6.length c6) (.slice b6 m5.lives.length d6)) [_] hS23 rfl rfl, ?_⟩) | (go_at_call 20; refine (clone13_any m5 a6 b6 xs6.length c6 m5.lives.length d6 xs6 _ (HT6.out.tab hS23 m5_bd) [118, 111, 108, 64, 115] [99, 111, 112, 121] 1 (by decide) (by decide)).mono ?_; rw [E7.out]; intro e9 w9 hret; obtain ⟨a8, b8, c8, d8, P8, xs8, rfl, hin, hsub, h4⟩ := ret_pool (B := [.blk g19 27 (tabC m3 (.slice a7 xs7.length c7) (.slice b7 m3.lives.length d7)), .blk g16 27 (tabC m5 (.slice a6 xs6.length c6) (.slice b6 m5.lives.length d6)), .blk g14 27 (tabC m3 (.slice (some ⟨r3, 0, none⟩) xs4.length c4) (.slice b4 m3.lives.length d4)), .blk g10 27 (tabC m2 (.slice a3 xs3.length c3) (.slice b3 m2.lives.length d3)), .blk g5 46 (q.cells), .blk g4 46 (p.cells)]) hS23 hret; have hS24 : St w [] w9 ([.blk g19 27 (tabC m3 (.slice a7 xs7.length c7) (.slice b7 m3.lives.length d7)), .blk g16 27 (tabC m5 (.slice a6 xs6.length c6) (.slice b6 m5.lives.length d6)), .blk g14 27 (tabC m3 (.slice (some ⟨r3, 0, none⟩) xs4.length c4) (.slice b4 m3.lives.length d4)), .blk g10 27 (tabC m2 (.slice a3 xs3.length c3) (.slice b3 m2.lives.length d3)), .blk g5 46 (q.cells), .blk g4 46 (p.cells)] ++ P8) := h4; clear hret h4 hS23; replace HT1 := hid (HT1.out.mono hsub); replace HT2 := hid (HT2.out.mono hsub); replace HT3 := hid (HT3.out.mono hsub); replace HT4 := hid (HT4.out.mono hsub); replace HT5 := hid (HT5.out.mono hsub); replace HT6 := hid (HT6.out.mono hsub); replace HT7 := hid (HT7.out.mono hsub); have HT8 := hid hin; clear hin hsub; obtain ⟨hn7, ⟨r7, hr7⟩, ⟨v70, hx7⟩, ⟨v72, hx8⟩⟩ := parts3 HT8.out hS24 Q7.out; subst hr7; have HN7 := hid hn7; have HX70 := hid hx7; have HX72 := hid hx8; have HL70 := hid (HT8.out.ok.ok _ (List.mem_of_getElem? hx7)).1; have HL72 := hid (HT8.out.ok.ok _ (List.mem_of_getElem? hx8)).1; have HL31 := hid (HT4.out.ok.ok _ (List.mem_of_getElem? HX31.out)).1; clear hn7 hx7 hx8) | (refine wl_alloc hS24 rfl rfl ?_; intro g21 w1 h4; have hS25 : St w [] w1 ([.blk g21 27 (tab0), .blk g19 27 (tabC m3 (.slice a7 xs7.length c7) (.slice b7 m3.lives.length d7)), .blk g16 27 (tabC m5 (.slice a6 xs6.length c6) (.slice b6 m5.lives.length d6)), .blk g14 27 (tabC m3 (.slice (some ⟨r3, 0, none⟩) xs4.length c4) (.slice b4 m3.lives.length d4)), .blk g10 27 (tabC m2 (.slice a3 xs3.length c3) (.slice b3 m2.lives.length d3)), .blk g5 46 (q.cells), .blk g4 46 (p.cells)] ++ P8) := h4; clear h4 hS24) | (refine wl_storeA [] hS25 rfl rfl rfl rfl (vs := tabC m7 (.slice (some ⟨r7, 0, none⟩) xs8.length c8) (.slice b8 m7.lives.length d8)) rfl rfl rfl ?_; intro w1 h4; have hS26 : St w [] w1 ([.blk g21 27 (tabC m7 (.slice (some ⟨r7, 0, none⟩) xs8.length c8) (.slice b8 m7.lives.length d8)), .blk g19 27 (tabC m3 (.slice a7 xs7.length c7) (.slice b7 m3.lives.length d7)), .blk g16 27 (tabC m5 (.slice a6 xs6.length c6) (.slice b6 m5.lives.length d6)), .blk g14 27 (tabC m3 (.slice (some ⟨r3, 0, none⟩) xs4.length c4) (.slice b4 m3.lives.length d4)), .blk g10 27 (tabC m2 (.slice a3 xs3.length c3) (.slice b3 m2.lives.length d3)), .blk g5 46 (q.cells), .blk g4 46 (p.cells)] ++ P8) := h4; clear h4 hS25) | (refine wl_loadE rfl rfl rfl ?_; refine ⟨_, Loads.atA (tabC m3 (.slice a7 xs7.length c7) (.slice b7 m3.lives.length d7)) [_] hS26 rfl rfl, ?_⟩) | (refine wl_loadE rfl rfl rfl ?_; refine ⟨_, Loads.atA (tabC m3 (.slice (some ⟨r3, 0, none⟩) xs4.length c4) (.slice b4 m3.lives.length d4)) [_, _, _] hS26 rfl rfl, ?_⟩) | (go_at_call 21; refine (kitTable_any _ _ _ _ _ _ _ _ _ _ _ _ _ _ xs7 xs4 _ (HT7.out.tab hS26 m3_bd) (HT4.out.tab hS26 m3_bd)).mono ?_; rw [show TC.sameB m3 m3 = true from TC.sameB_iff.2 rfl]; rintro _ w9 ⟨rfl, h4⟩; have hS27 : St w [] w9 ([.blk g21 27 (tabC m7 (.slice (some ⟨r7, 0, none⟩) xs8.length c8) (.slice b8 m7.lives.length d8)), .blk g19 27 (tabC m3 (.slice a7 xs7.length c7) (.slice b7 m3.lives.length d7)), .blk g16 27 (tabC m5 (.slice a6 xs6.length c6) (.slice b6 m5.lives.length d6)), .blk g14 27 (tabC m3 (.slice (some ⟨r3, 0, none⟩) xs4.length c4) (.slice b4 m3.lives.length d4)), .blk g10 27 (tabC m2 (.slice a3 xs3.length c3) (.slice b3 m2.lives.length d3)), .blk g5 46 (q.cells), .blk g4 46 (p.cells)] ++ P8) := St.call0 hS26 h4; clear h4 hS26) | (refine wl_loadE rfl rfl rfl ?_; refine ⟨_, Loads.atA (tabC m7 (.slice (some ⟨r7, 0, none⟩) xs8.length c8) (.slice b8 m7.lives.length d8)) [] hS27 rfl rfl, ?_⟩) | (apply wl_bsX [.string ⟨([99, 111, 112, 121] : List UInt8).toArray⟩, .string ⟨([118, 111, 108] : List UInt8).toArray⟩, .string ⟨([118, 111, 108, 64, 115] : List UInt8).toArray⟩] [.string ⟨([99, 111, 112, 121] : List UInt8).toArray⟩, .string ⟨([118, 111, 108] : List UInt8).toArray⟩, .string ⟨([118, 111, 108, 64, 115] : List UInt8).toArray⟩] hS27; rfl; rfl; exact rfl; exact rfl; infer_instance; infer_instance; rfl; rfl; rfl; intro gw w5 h4; have hS28 : St w [] w5 ([.blk gw 9 ([.string ⟨([99, 111, 112, 121] : List UInt8).toArray⟩, .string ⟨([118, 111, 108] : List UInt8).toArray⟩, .string ⟨([118, 111, 108, 64, 115] : List UInt8).toArray⟩]), .blk g21 27 (tabC m7 (.slice (some ⟨r7, 0, none⟩) xs8.length c8) (.slice b8 m7.lives.length d8)), .blk g19 27 (tabC m3 (.slice a7 xs7.length c7) (.slice b7 m3.lives.length d7)), .blk g16 27 (tabC m5 (.slice a6 xs6.length c6) (.slice b6 m5.lives.length d6)), .blk g14 27 (tabC m3 (.slice (some ⟨r3, 0, none⟩) xs4.length c4) (.slice b4 m3.lives.length d4)), .blk g10 27 (tabC m2 (.slice a3 xs3.length c3) (.slice b3 m2.lives.length d3)), .blk g5 46 (q.cells), .blk g4 46 (p.cells)] ++ P8) := h4; clear h4 hS27) | (go_at_call 14; refine (names13_any m7 (some ⟨r7, 0, none⟩) xs8.length c8 _ xs8 _ 3 3 [[99, 111, 112, 121], [118, 111, 108], [118, 111, 108, 64, 115]] _ (HT8.out.recs hS28) HT8.out.ok.eq (by rw [HT8.out.ok.len]; exact m7_rl) (Rd.blk hS28 (.head _) (Nat.le_refl _) (by decide) rfl rfl) rfl (by decide)).mono ?_; rw [N7.out]; rintro _ w9 ⟨rfl, h4⟩; have hS29 : St w [] w9 ([.blk gw 9 ([.string ⟨([99, 111, 112, 121] : List UInt8).toArray⟩, .string ⟨([118, 111, 108] : List UInt8).toArray⟩, .string ⟨([118, 111, 108, 64, 115] : List UInt8).toArray⟩]), .blk g21 27 (tabC m7 (.slice (some ⟨r7, 0, none⟩) xs8.length c8) (.slice b8 m7.lives.length d8)), .blk g19 27 (tabC m3 (.slice a7 xs7.length c7) (.slice b7 m3.lives.length d7)), .blk g16 27 (tabC m5 (.slice a6 xs6.length c6) (.slice b6 m5.lives.length d6)), .blk g14 27 (tabC m3 (.slice (some ⟨r3, 0, none⟩) xs4.length c4) (.slice b4 m3.lives.length d4)), .blk g10 27 (tabC m2 (.slice a3 xs3.length c3) (.slice b3 m2.lives.length d3)), .blk g5 46 (q.cells), .blk g4 46 (p.cells)] ++ P8) := St.call0 hS28 h4; clear h4 hS28) | (refine wl_loadE rfl rfl rfl ?_; first | refine ⟨_, Loads.at [_] hS29 rfl, ?_⟩ | refine ⟨_, Loads.oldA (cs := cellsR (v70, r0)) (St.refl _) (cellsR_len (x := (v70, r0)) HL70.out) (HT8.out.range hS29 HX70.out), ?_⟩) | (refine wl_index (k := 0) rfl rfl rfl rfl (by have := HN7.out; omega) ?_) | (refine wl_alloc hS29 rfl rfl ?_; intro g23 w1 h4; have hS30 : St w [] w1 ([.blk g23 51 (rec0), .blk gw 9 ([.string ⟨([99, 111, 112, 121] : List UInt8).toArray⟩, .string ⟨([118, 111, 108] : List UInt8).toArray⟩, .string ⟨([118, 111, 108, 64, 115] : List UInt8).toArray⟩]), .blk g21 27 (tabC m7 (.slice (some ⟨r7, 0, none⟩) xs8.length c8) (.slice b8 m7.lives.length d8)), .blk g19 27 (tabC m3 (.slice a7 xs7.length c7) (.slice b7 m3.lives.length d7)), .blk g16 27 (tabC m5 (.slice a6 xs6.length c6) (.slice b6 m5.lives.length d6)), .blk g14 27 (tabC m3 (.slice (some ⟨r3, 0, none⟩) xs4.length c4) (.slice b4 m3.lives.length d4)), .blk g10 27 (tabC m2 (.slice a3 xs3.length c3) (.slice b3 m2.lives.length d3)), .blk g5 46 (q.cells), .blk g4 46 (p.cells)] ++ P8) := h4; clear h4 hS29) | (refine wl_storeA [] hS30 rfl rfl rfl rfl (vs := cellsR (v70, r0)) (cellsR_len (x := (v70, r0)) HL70.out) (cellsR_ones ((HT8.out.recs hS30).each _ (List.mem_of_getElem? HX70.out))) rfl ?_; intro w1 h4; have hS31 : St w [] w1 ([.blk g23 51 (cellsR (v70, r0)), .blk gw 9 ([.string ⟨([99, 111, 112, 121] : List UInt8).toArray⟩, .string ⟨([118, 111, 108] : List UInt8).toArray⟩, .string ⟨([118, 111, 108, 64, 115] : List UInt8).toArray⟩]), .blk g21 27 (tabC m7 (.slice (some ⟨r7, 0, none⟩) xs8.length c8) (.slice b8 m7.lives.length d8)), .blk g19 27 (tabC m3 (.slice a7 xs7.length c7) (.slice b7 m3.lives.length d7)), .blk g16 27 (tabC m5 (.slice a6 xs6.length c6) (.slice b6 m5.lives.length d6)), .blk g14 27 (tabC m3 (.slice (some ⟨r3, 0, none⟩) xs4.length c4) (.slice b4 m3.lives.length d4)), .blk g10 27 (tabC m2 (.slice a3 xs3.length c3) (.slice b3 m2.lives.length d3)), .blk g5 46 (q.cells), .blk g4 46 (p.cells)] ++ P8) := h4; clear h4 hS30))
  have i72 : (2 : Int) < (xs8.length : Int) := by have := HN7.out; omega
  have i72n : 2 < xs8.length := by omega
  have i31 : (1 : Int) < (xs4.length : Int) := by have := HN3.out; omega
  have i31n : 1 < xs4.length := by omega
  have hX := hS31.drew
  clear hS31
  refine wp_region_held_drew (S := (fun w' => (loadVarH 3 ⟨g23, 3, none⟩).run Try.prog w' = .ok (.int .i64 r0.size) w' ∧ (loadVarH 46 ⟨g23, 4, none⟩).run Try.prog w' = .ok (.agg (List.toArray (PV.cells (r0.pv v70)))) w' ∧ (loadVarH 46 ⟨g4, 0, none⟩).run Try.prog w' = .ok (.agg (List.toArray (p.cells))) w' ∧ (loadVarH 22 ⟨g21, 1, none⟩).run Try.prog w' = .ok (.slice (some ⟨r7, 0, none⟩) xs8.length c8) w' ∧ (loadVarH 51 ⟨r7, 88, none⟩).run Try.prog w' = .ok (.agg (cellsR (v72, r2)).toArray) w' ∧ (loadVarH 22 ⟨g14, 1, none⟩).run Try.prog w' = .ok (.slice (some ⟨r3, 0, none⟩) xs4.length c4) w' ∧ (loadVarH 51 ⟨r3, 44, none⟩).run Try.prog w' = .ok (.agg (cellsR (v31, s1)).toArray) w' ∧ (loadVarH 3 ⟨g23, 41, none⟩).run Try.prog w' = .ok (.int .i64 r0.origin) w' ∧ (loadVarH 3 ⟨r3, 44, none⟩).run Try.prog w' = .ok (.int .i64 s1.id) w')) (by kernel_rfl) (by exact ⟨ldS [] hX rfl, ldA (PV.cells (r0.pv v70)) [] hX (PV.len (p := r0.pv v70) HL70.out) (cellsR_root (x := (v70, r0)) HL70.out), ldA (p.cells) [_, _, _, _, _, _, _, _] hX (H35.out) ((by simp)), ldS [_, _] hX rfl, ldOA (St.refl _) (cellsR_len (x := (v72, r2)) HL72.out) (HT8.out.range hX HX72.out), ldS [_, _, _, _, _] hX rfl, ldOA (St.refl _) (cellsR_len (x := (v31, s1)) HL31.out) (HT4.out.range hX HX31.out), ldS [] hX (cellsR_41 (x := (v70, r0)) HL70.out), ldO (St.refl _) (HT4.out.cell hX HX31.out (d := 0) rfl rfl)⟩) (fun hHeld => ?_)
  refine tq 0 153 ?_
  refine tq 2 155 ?_
  refine tq 1 154 ?_
  refine tq 3 156 ?_
  refine tq 4 157 ?_
  refine tq 5 158 ?_
  refine tq 7 160 ?_
  refine tq 6 159 ?_
  refine wpAnyH_ready (rs := [8]) (by kernel_rfl) (by simp) ?_
  refine (AllReadyH.cons (o := ⟨some 161, _, _, _, _, _⟩) rfl (fun K hK => ?_) AllReadyH.nil)
  rw [if_pos (by rfl)]
  go_simp
  go_at_call 22
  refine (same_pv (r0.pv v70) p _ ((HT8.out.recs hX).each _ (List.mem_of_getElem? HX70.out)).1 (PV.In.old hX HIP.out)).mono ?_
  rw [F2.out v70]
  rintro _ w9 ⟨rfl, h4⟩
  have hC1 : St w [] w9 ([.blk g23 51 (cellsR (v70, r0)), .blk gw 9 ([.string ⟨([99, 111, 112, 121] : List UInt8).toArray⟩, .string ⟨([118, 111, 108] : List UInt8).toArray⟩, .string ⟨([118, 111, 108, 64, 115] : List UInt8).toArray⟩]), .blk g21 27 (tabC m7 (.slice (some ⟨r7, 0, none⟩) xs8.length c8) (.slice b8 m7.lives.length d8)), .blk g19 27 (tabC m3 (.slice a7 xs7.length c7) (.slice b7 m3.lives.length d7)), .blk g16 27 (tabC m5 (.slice a6 xs6.length c6) (.slice b6 m5.lives.length d6)), .blk g14 27 (tabC m3 (.slice (some ⟨r3, 0, none⟩) xs4.length c4) (.slice b4 m3.lives.length d4)), .blk g10 27 (tabC m2 (.slice a3 xs3.length c3) (.slice b3 m2.lives.length d3)), .blk g5 46 (q.cells), .blk g4 46 (p.cells)] ++ P8) := St.call0 hX h4
  clear h4
  refine hK.out _ _ ?_ (fun hHeld => ?_)
  · exact ⟨ldS [] hC1 rfl, ldA (PV.cells (r0.pv v70)) [] hC1 (PV.len (p := r0.pv v70) HL70.out) (cellsR_root (x := (v70, r0)) HL70.out), ldA (p.cells) [_, _, _, _, _, _, _, _] hC1 (H35.out) ((by simp)), ldS [_, _] hC1 rfl, ldOA (St.refl _) (cellsR_len (x := (v72, r2)) HL72.out) (HT8.out.range hC1 HX72.out), ldS [_, _, _, _, _] hC1 rfl, ldOA (St.refl _) (cellsR_len (x := (v31, s1)) HL31.out) (HT4.out.range hC1 HX31.out), ldS [] hC1 (cellsR_41 (x := (v70, r0)) HL70.out), ldO (St.refl _) (HT4.out.cell hC1 HX31.out (d := 0) rfl rfl)⟩
  clear hK K
  (try simp only [Act.put, List.setIfInBounds_toArray, List.set_cons_zero, List.set_cons_succ])
  refine tq 9 162 ?_
  refine tq 10 163 ?_
  refine tq 11 164 ?_
  refine tq 12 165 ?_
  refine tq 16 169 ?_
  refine tq 13 166 ?_
  refine tq 17 170 ?_
  refine tq 14 167 ?_
  refine tq 18 171 ?_
  refine tq 15 168 ?_
  refine tq 19 172 ?_
  refine wpAnyH_ready (rs := [20]) (by kernel_rfl) (by simp) ?_
  refine (AllReadyH.cons (o := ⟨some 173, _, _, _, _, _⟩) rfl (fun K hK => ?_) AllReadyH.nil)
  rw [if_pos (by rfl)]
  go_simp
  go_at_call 23
  refine (kitRec_any (v72, r2) (v31, s1) _ ((HT8.out.recs hC1).each _ (List.mem_of_getElem? HX72.out)) ((HT4.out.recs hC1).each _ (List.mem_of_getElem? HX31.out))).mono ?_
  rw [show ((v72, r2) : Value × RC).2.sameB ((v31, s1) : Value × RC).2 = true from F3.out]
  rintro _ w9 ⟨rfl, h4⟩
  have hC2 : St w [] w9 ([.blk g23 51 (cellsR (v70, r0)), .blk gw 9 ([.string ⟨([99, 111, 112, 121] : List UInt8).toArray⟩, .string ⟨([118, 111, 108] : List UInt8).toArray⟩, .string ⟨([118, 111, 108, 64, 115] : List UInt8).toArray⟩]), .blk g21 27 (tabC m7 (.slice (some ⟨r7, 0, none⟩) xs8.length c8) (.slice b8 m7.lives.length d8)), .blk g19 27 (tabC m3 (.slice a7 xs7.length c7) (.slice b7 m3.lives.length d7)), .blk g16 27 (tabC m5 (.slice a6 xs6.length c6) (.slice b6 m5.lives.length d6)), .blk g14 27 (tabC m3 (.slice (some ⟨r3, 0, none⟩) xs4.length c4) (.slice b4 m3.lives.length d4)), .blk g10 27 (tabC m2 (.slice a3 xs3.length c3) (.slice b3 m2.lives.length d3)), .blk g5 46 (q.cells), .blk g4 46 (p.cells)] ++ P8) := St.call0 hC1 h4
  clear h4
  refine hK.out _ _ ?_ (fun hHeld => ?_)
  · exact ⟨ldS [] hC2 rfl, ldA (PV.cells (r0.pv v70)) [] hC2 (PV.len (p := r0.pv v70) HL70.out) (cellsR_root (x := (v70, r0)) HL70.out), ldA (p.cells) [_, _, _, _, _, _, _, _] hC2 (H35.out) ((by simp)), ldS [_, _] hC2 rfl, ldOA (St.refl _) (cellsR_len (x := (v72, r2)) HL72.out) (HT8.out.range hC2 HX72.out), ldS [_, _, _, _, _] hC2 rfl, ldOA (St.refl _) (cellsR_len (x := (v31, s1)) HL31.out) (HT4.out.range hC2 HX31.out), ldS [] hC2 (cellsR_41 (x := (v70, r0)) HL70.out), ldO (St.refl _) (HT4.out.cell hC2 HX31.out (d := 0) rfl rfl)⟩
  clear hK K
  (try simp only [Act.put, List.setIfInBounds_toArray, List.set_cons_zero, List.set_cons_succ])
  refine tq 21 174 ?_
  refine tq 22 175 ?_
  refine tq 23 176 ?_
  refine tq 24 177 ?_
  refine tq 26 179 ?_
  refine tq 25 178 ?_
  refine tq 27 180 ?_
  refine tq 28 181 ?_
  refine tq 29 182 ?_
  refine tq 30 183 ?_
  refine tq 31 184 ?_
  refine tq 32 185 ?_
  refine wpAnyH_done (by kernel_rfl) ?_ _
  clear hHeld
  go_wp2_with (first | go_big_skip | go_big_guard | (refine wl_loadE rfl rfl rfl ?_; refine ⟨_, Loads.atA (tabC m7 (.slice (some ⟨r7, 0, none⟩) xs8.length c8) (.slice b8 m7.lives.length d8)) [_, _] hC2 rfl rfl, ?_⟩) | (go_at_call 13; refine (rename13_any m7 (some ⟨r7, 0, none⟩) b8 xs8.length c8 m7.lives.length d8 xs8 _ (HT8.out.tab hC2 m7_bd) [118, 111, 108] [97] (by decide) (by decide)).mono ?_; rw [E8.out]; intro e9 w9 hret; obtain ⟨a9, b9, c9, d9, P9, xs9, rfl, hin, hsub, h4⟩ := ret_pool (B := [.blk g23 51 (cellsR (v70, r0)), .blk gw 9 ([.string ⟨([99, 111, 112, 121] : List UInt8).toArray⟩, .string ⟨([118, 111, 108] : List UInt8).toArray⟩, .string ⟨([118, 111, 108, 64, 115] : List UInt8).toArray⟩]), .blk g21 27 (tabC m7 (.slice (some ⟨r7, 0, none⟩) xs8.length c8) (.slice b8 m7.lives.length d8)), .blk g19 27 (tabC m3 (.slice a7 xs7.length c7) (.slice b7 m3.lives.length d7)), .blk g16 27 (tabC m5 (.slice a6 xs6.length c6) (.slice b6 m5.lives.length d6)), .blk g14 27 (tabC m3 (.slice (some ⟨r3, 0, none⟩) xs4.length c4) (.slice b4 m3.lives.length d4)), .blk g10 27 (tabC m2 (.slice a3 xs3.length c3) (.slice b3 m2.lives.length d3)), .blk g5 46 (q.cells), .blk g4 46 (p.cells)]) hC2 hret; have hS32 : St w [] w9 ([.blk g23 51 (cellsR (v70, r0)), .blk gw 9 ([.string ⟨([99, 111, 112, 121] : List UInt8).toArray⟩, .string ⟨([118, 111, 108] : List UInt8).toArray⟩, .string ⟨([118, 111, 108, 64, 115] : List UInt8).toArray⟩]), .blk g21 27 (tabC m7 (.slice (some ⟨r7, 0, none⟩) xs8.length c8) (.slice b8 m7.lives.length d8)), .blk g19 27 (tabC m3 (.slice a7 xs7.length c7) (.slice b7 m3.lives.length d7)), .blk g16 27 (tabC m5 (.slice a6 xs6.length c6) (.slice b6 m5.lives.length d6)), .blk g14 27 (tabC m3 (.slice (some ⟨r3, 0, none⟩) xs4.length c4) (.slice b4 m3.lives.length d4)), .blk g10 27 (tabC m2 (.slice a3 xs3.length c3) (.slice b3 m2.lives.length d3)), .blk g5 46 (q.cells), .blk g4 46 (p.cells)] ++ P9) := h4; clear hret h4 hC2; replace HT1 := hid (HT1.out.mono hsub); replace HT2 := hid (HT2.out.mono hsub); replace HT3 := hid (HT3.out.mono hsub); replace HT4 := hid (HT4.out.mono hsub); replace HT5 := hid (HT5.out.mono hsub); replace HT6 := hid (HT6.out.mono hsub); replace HT7 := hid (HT7.out.mono hsub); replace HT8 := hid (HT8.out.mono hsub); have HT9 := hid hin; clear hin hsub) | (refine wl_alloc hS32 rfl rfl ?_; intro g24 w1 h4; have hS33 : St w [] w1 ([.blk g24 27 (tab0), .blk g23 51 (cellsR (v70, r0)), .blk gw 9 ([.string ⟨([99, 111, 112, 121] : List UInt8).toArray⟩, .string ⟨([118, 111, 108] : List UInt8).toArray⟩, .string ⟨([118, 111, 108, 64, 115] : List UInt8).toArray⟩]), .blk g21 27 (tabC m7 (.slice (some ⟨r7, 0, none⟩) xs8.length c8) (.slice b8 m7.lives.length d8)), .blk g19 27 (tabC m3 (.slice a7 xs7.length c7) (.slice b7 m3.lives.length d7)), .blk g16 27 (tabC m5 (.slice a6 xs6.length c6) (.slice b6 m5.lives.length d6)), .blk g14 27 (tabC m3 (.slice (some ⟨r3, 0, none⟩) xs4.length c4) (.slice b4 m3.lives.length d4)), .blk g10 27 (tabC m2 (.slice a3 xs3.length c3) (.slice b3 m2.lives.length d3)), .blk g5 46 (q.cells), .blk g4 46 (p.cells)] ++ P9) := h4; clear h4 hS32) | (refine wl_storeA [] hS33 rfl rfl rfl rfl (vs := tabC m8 (.slice a9 xs9.length c9) (.slice b9 m8.lives.length d9)) rfl rfl rfl ?_; intro w1 h4; have hS34 : St w [] w1 ([.blk g24 27 (tabC m8 (.slice a9 xs9.length c9) (.slice b9 m8.lives.length d9)), .blk g23 51 (cellsR (v70, r0)), .blk gw 9 ([.string ⟨([99, 111, 112, 121] : List UInt8).toArray⟩, .string ⟨([118, 111, 108] : List UInt8).toArray⟩, .string ⟨([118, 111, 108, 64, 115] : List UInt8).toArray⟩]), .blk g21 27 (tabC m7 (.slice (some ⟨r7, 0, none⟩) xs8.length c8) (.slice b8 m7.lives.length d8)), .blk g19 27 (tabC m3 (.slice a7 xs7.length c7) (.slice b7 m3.lives.length d7)), .blk g16 27 (tabC m5 (.slice a6 xs6.length c6) (.slice b6 m5.lives.length d6)), .blk g14 27 (tabC m3 (.slice (some ⟨r3, 0, none⟩) xs4.length c4) (.slice b4 m3.lives.length d4)), .blk g10 27 (tabC m2 (.slice a3 xs3.length c3) (.slice b3 m2.lives.length d3)), .blk g5 46 (q.cells), .blk g4 46 (p.cells)] ++ P9) := h4; clear h4 hS33) | (refine wl_loadE rfl rfl rfl ?_; refine ⟨_, Loads.atA (tabC m8 (.slice a9 xs9.length c9) (.slice b9 m8.lives.length d9)) [] hS34 rfl rfl, ?_⟩) | (go_at_call 13; refine (rename13_any m8 a9 b9 xs9.length c9 m8.lives.length d9 xs9 _ (HT9.out.tab hS34 m8_bd) [97] [118, 111, 108] (by decide) (by decide)).mono ?_; rw [E9.out]; intro e9 w9 hret; obtain ⟨a10, b10, c10, d10, P10, xs10, rfl, hin, hsub, h4⟩ := ret_pool (B := [.blk g24 27 (tabC m8 (.slice a9 xs9.length c9) (.slice b9 m8.lives.length d9)), .blk g23 51 (cellsR (v70, r0)), .blk gw 9 ([.string ⟨([99, 111, 112, 121] : List UInt8).toArray⟩, .string ⟨([118, 111, 108] : List UInt8).toArray⟩, .string ⟨([118, 111, 108, 64, 115] : List UInt8).toArray⟩]), .blk g21 27 (tabC m7 (.slice (some ⟨r7, 0, none⟩) xs8.length c8) (.slice b8 m7.lives.length d8)), .blk g19 27 (tabC m3 (.slice a7 xs7.length c7) (.slice b7 m3.lives.length d7)), .blk g16 27 (tabC m5 (.slice a6 xs6.length c6) (.slice b6 m5.lives.length d6)), .blk g14 27 (tabC m3 (.slice (some ⟨r3, 0, none⟩) xs4.length c4) (.slice b4 m3.lives.length d4)), .blk g10 27 (tabC m2 (.slice a3 xs3.length c3) (.slice b3 m2.lives.length d3)), .blk g5 46 (q.cells), .blk g4 46 (p.cells)]) hS34 hret; have hS35 : St w [] w9 ([.blk g24 27 (tabC m8 (.slice a9 xs9.length c9) (.slice b9 m8.lives.length d9)), .blk g23 51 (cellsR (v70, r0)), .blk gw 9 ([.string ⟨([99, 111, 112, 121] : List UInt8).toArray⟩, .string ⟨([118, 111, 108] : List UInt8).toArray⟩, .string ⟨([118, 111, 108, 64, 115] : List UInt8).toArray⟩]), .blk g21 27 (tabC m7 (.slice (some ⟨r7, 0, none⟩) xs8.length c8) (.slice b8 m7.lives.length d8)), .blk g19 27 (tabC m3 (.slice a7 xs7.length c7) (.slice b7 m3.lives.length d7)), .blk g16 27 (tabC m5 (.slice a6 xs6.length c6) (.slice b6 m5.lives.length d6)), .blk g14 27 (tabC m3 (.slice (some ⟨r3, 0, none⟩) xs4.length c4) (.slice b4 m3.lives.length d4)), .blk g10 27 (tabC m2 (.slice a3 xs3.length c3) (.slice b3 m2.lives.length d3)), .blk g5 46 (q.cells), .blk g4 46 (p.cells)] ++ P10) := h4; clear hret h4 hS34; replace HT1 := hid (HT1.out.mono hsub); replace HT2 := hid (HT2.out.mono hsub); replace HT3 := hid (HT3.out.mono hsub); replace HT4 := hid (HT4.out.mono hsub); replace HT5 := hid (HT5.out.mono hsub); replace HT6 := hid (HT6.out.mono hsub); replace HT7 := hid (HT7.out.mono hsub); replace HT8 := hid (HT8.out.mono hsub); replace HT9 := hid (HT9.out.mono hsub); have HT10 := hid hin; clear hin hsub) | (refine wl_alloc hS35 rfl rfl ?_; intro g26 w1 h4; have hS36 : St w [] w1 ([.blk g26 27 (tab0), .blk g24 27 (tabC m8 (.slice a9 xs9.length c9) (.slice b9 m8.lives.length d9)), .blk g23 51 (cellsR (v70, r0)), .blk gw 9 ([.string ⟨([99, 111, 112, 121] : List UInt8).toArray⟩, .string ⟨([118, 111, 108] : List UInt8).toArray⟩, .string ⟨([118, 111, 108, 64, 115] : List UInt8).toArray⟩]), .blk g21 27 (tabC m7 (.slice (some ⟨r7, 0, none⟩) xs8.length c8) (.slice b8 m7.lives.length d8)), .blk g19 27 (tabC m3 (.slice a7 xs7.length c7) (.slice b7 m3.lives.length d7)), .blk g16 27 (tabC m5 (.slice a6 xs6.length c6) (.slice b6 m5.lives.length d6)), .blk g14 27 (tabC m3 (.slice (some ⟨r3, 0, none⟩) xs4.length c4) (.slice b4 m3.lives.length d4)), .blk g10 27 (tabC m2 (.slice a3 xs3.length c3) (.slice b3 m2.lives.length d3)), .blk g5 46 (q.cells), .blk g4 46 (p.cells)] ++ P10) := h4; clear h4 hS35) | (refine wl_storeA [] hS36 rfl rfl rfl rfl (vs := tabC m7 (.slice a10 xs10.length c10) (.slice b10 m7.lives.length d10)) rfl rfl rfl ?_; intro w1 h4; have hS37 : St w [] w1 ([.blk g26 27 (tabC m7 (.slice a10 xs10.length c10) (.slice b10 m7.lives.length d10)), .blk g24 27 (tabC m8 (.slice a9 xs9.length c9) (.slice b9 m8.lives.length d9)), .blk g23 51 (cellsR (v70, r0)), .blk gw 9 ([.string ⟨([99, 111, 112, 121] : List UInt8).toArray⟩, .string ⟨([118, 111, 108] : List UInt8).toArray⟩, .string ⟨([118, 111, 108, 64, 115] : List UInt8).toArray⟩]), .blk g21 27 (tabC m7 (.slice (some ⟨r7, 0, none⟩) xs8.length c8) (.slice b8 m7.lives.length d8)), .blk g19 27 (tabC m3 (.slice a7 xs7.length c7) (.slice b7 m3.lives.length d7)), .blk g16 27 (tabC m5 (.slice a6 xs6.length c6) (.slice b6 m5.lives.length d6)), .blk g14 27 (tabC m3 (.slice (some ⟨r3, 0, none⟩) xs4.length c4) (.slice b4 m3.lives.length d4)), .blk g10 27 (tabC m2 (.slice a3 xs3.length c3) (.slice b3 m2.lives.length d3)), .blk g5 46 (q.cells), .blk g4 46 (p.cells)] ++ P10) := h4; clear h4 hS36) | (refine wl_loadE rfl rfl rfl ?_; refine ⟨_, Loads.atA (tabC m8 (.slice a9 xs9.length c9) (.slice b9 m8.lives.length d9)) [_] hS37 rfl rfl, ?_⟩) | (apply wl_bsX [.string ⟨([97] : List UInt8).toArray⟩, .string ⟨([97, 64, 115] : List UInt8).toArray⟩, .string ⟨([99, 111, 112, 121] : List UInt8).toArray⟩] [.string ⟨([97] : List UInt8).toArray⟩, .string ⟨([97, 64, 115] : List UInt8).toArray⟩, .string ⟨([99, 111, 112, 121] : List UInt8).toArray⟩] hS37; rfl; rfl; exact rfl; exact rfl; infer_instance; infer_instance; rfl; rfl; rfl; intro gw2 w5 h4; have hS38 : St w [] w5 ([.blk gw2 9 ([.string ⟨([97] : List UInt8).toArray⟩, .string ⟨([97, 64, 115] : List UInt8).toArray⟩, .string ⟨([99, 111, 112, 121] : List UInt8).toArray⟩]), .blk g26 27 (tabC m7 (.slice a10 xs10.length c10) (.slice b10 m7.lives.length d10)), .blk g24 27 (tabC m8 (.slice a9 xs9.length c9) (.slice b9 m8.lives.length d9)), .blk g23 51 (cellsR (v70, r0)), .blk gw 9 ([.string ⟨([99, 111, 112, 121] : List UInt8).toArray⟩, .string ⟨([118, 111, 108] : List UInt8).toArray⟩, .string ⟨([118, 111, 108, 64, 115] : List UInt8).toArray⟩]), .blk g21 27 (tabC m7 (.slice (some ⟨r7, 0, none⟩) xs8.length c8) (.slice b8 m7.lives.length d8)), .blk g19 27 (tabC m3 (.slice a7 xs7.length c7) (.slice b7 m3.lives.length d7)), .blk g16 27 (tabC m5 (.slice a6 xs6.length c6) (.slice b6 m5.lives.length d6)), .blk g14 27 (tabC m3 (.slice (some ⟨r3, 0, none⟩) xs4.length c4) (.slice b4 m3.lives.length d4)), .blk g10 27 (tabC m2 (.slice a3 xs3.length c3) (.slice b3 m2.lives.length d3)), .blk g5 46 (q.cells), .blk g4 46 (p.cells)] ++ P10) := h4; clear h4 hS37) | (go_at_call 14; refine (names13_any m8 a9 xs9.length c9 _ xs9 _ 3 3 [[97], [97, 64, 115], [99, 111, 112, 121]] _ (HT9.out.recs hS38) HT9.out.ok.eq (by rw [HT9.out.ok.len]; exact m8_rl) (Rd.blk hS38 (.head _) (Nat.le_refl _) (by decide) rfl rfl) rfl (by decide)).mono ?_; rw [N8.out]; rintro _ w9 ⟨rfl, h4⟩; have hS39 : St w [] w9 ([.blk gw2 9 ([.string ⟨([97] : List UInt8).toArray⟩, .string ⟨([97, 64, 115] : List UInt8).toArray⟩, .string ⟨([99, 111, 112, 121] : List UInt8).toArray⟩]), .blk g26 27 (tabC m7 (.slice a10 xs10.length c10) (.slice b10 m7.lives.length d10)), .blk g24 27 (tabC m8 (.slice a9 xs9.length c9) (.slice b9 m8.lives.length d9)), .blk g23 51 (cellsR (v70, r0)), .blk gw 9 ([.string ⟨([99, 111, 112, 121] : List UInt8).toArray⟩, .string ⟨([118, 111, 108] : List UInt8).toArray⟩, .string ⟨([118, 111, 108, 64, 115] : List UInt8).toArray⟩]), .blk g21 27 (tabC m7 (.slice (some ⟨r7, 0, none⟩) xs8.length c8) (.slice b8 m7.lives.length d8)), .blk g19 27 (tabC m3 (.slice a7 xs7.length c7) (.slice b7 m3.lives.length d7)), .blk g16 27 (tabC m5 (.slice a6 xs6.length c6) (.slice b6 m5.lives.length d6)), .blk g14 27 (tabC m3 (.slice (some ⟨r3, 0, none⟩) xs4.length c4) (.slice b4 m3.lives.length d4)), .blk g10 27 (tabC m2 (.slice a3 xs3.length c3) (.slice b3 m2.lives.length d3)), .blk g5 46 (q.cells), .blk g4 46 (p.cells)] ++ P10) := St.call0 hS38 h4; clear h4 hS38) | (refine wl_loadE rfl rfl rfl ?_; refine ⟨_, Loads.atA (tabC m7 (.slice a10 xs10.length c10) (.slice b10 m7.lives.length d10)) [_] hS39 rfl rfl, ?_⟩) | (refine wl_loadE rfl rfl rfl ?_; refine ⟨_, Loads.atA (tabC m7 (.slice (some ⟨r7, 0, none⟩) xs8.length c8) (.slice b8 m7.lives.length d8)) [_, _, _, _, _] hS39 rfl rfl, ?_⟩) | (go_at_call 21; refine (kitTable_any _ _ _ _ _ _ _ _ _ _ _ _ _ _ xs10 xs8 _ (HT10.out.tab hS39 m7_bd) (HT8.out.tab hS39 m7_bd)).mono ?_; rw [show TC.sameB m7 m7 = true from TC.sameB_iff.2 rfl]; rintro _ w9 ⟨rfl, h4⟩; have hS40 : St w [] w9 ([.blk gw2 9 ([.string ⟨([97] : List UInt8).toArray⟩, .string ⟨([97, 64, 115] : List UInt8).toArray⟩, .string ⟨([99, 111, 112, 121] : List UInt8).toArray⟩]), .blk g26 27 (tabC m7 (.slice a10 xs10.length c10) (.slice b10 m7.lives.length d10)), .blk g24 27 (tabC m8 (.slice a9 xs9.length c9) (.slice b9 m8.lives.length d9)), .blk g23 51 (cellsR (v70, r0)), .blk gw 9 ([.string ⟨([99, 111, 112, 121] : List UInt8).toArray⟩, .string ⟨([118, 111, 108] : List UInt8).toArray⟩, .string ⟨([118, 111, 108, 64, 115] : List UInt8).toArray⟩]), .blk g21 27 (tabC m7 (.slice (some ⟨r7, 0, none⟩) xs8.length c8) (.slice b8 m7.lives.length d8)), .blk g19 27 (tabC m3 (.slice a7 xs7.length c7) (.slice b7 m3.lives.length d7)), .blk g16 27 (tabC m5 (.slice a6 xs6.length c6) (.slice b6 m5.lives.length d6)), .blk g14 27 (tabC m3 (.slice (some ⟨r3, 0, none⟩) xs4.length c4) (.slice b4 m3.lives.length d4)), .blk g10 27 (tabC m2 (.slice a3 xs3.length c3) (.slice b3 m2.lives.length d3)), .blk g5 46 (q.cells), .blk g4 46 (p.cells)] ++ P10) := St.call0 hS39 h4; clear h4 hS39))
  go_ret
  exact ⟨rfl, hS40.nil⟩
end Go.Proofs.Ytifajcblbedcoaa
namespace Go.Proofs.Ytifajcblbedcoaa
set_option linter.unusedVariables false
set_option linter.unusedSimpArgs false
open Go.RowKit Hp
attribute [local irreducible] Go.Calls
theorem bd_ok {t : TC} (h : OkP t) : BdT t := by
  have h1 := h.many
  have h2 := h.devs
  exact ⟨⟨by omega, by omega⟩, by omega⟩
theorem same_root (r : RC) (p : PV) (h : r.l = p.l ∧ r.b = p.b ∧ r.v = p.v ∧ r.S = p.S) (sv : Value) : (r.pv sv).same p = true := by
  unfold PV.same RC.pv
  simp only
  rw [h.1, h.2.1, h.2.2.1, h.2.2.2]
  exact sameB_refl _ _ _ _
theorem back13_any (size later : Int) (hd1 : -9223372036854775808 ≤ size ∧ size ≤ 9223372036854775807) (hd2 : -9223372036854775808 ≤ later ∧ later ≤ 9223372036854775807) (p q : PV) (w : World) (hp : p.In w) (hq : q.In w) :
    Calls Try.prog 5 #[.agg p.cells.toArray, .agg q.cells.toArray, .int .i64 size, .int .i64 later] w fun e w' => e = .returned (.bool true) ∧ St w [] w' [] := by
  obtain ⟨ks, hk1, hp1⟩ := pickI_nat (x := size) (n := 64) (by decide)
  obtain ⟨kl, hk2, hp2⟩ := pickI_nat (x := later) (n := 64) (by decide)
  have hs : inB (1 + (ks : Int)) 1 64 = true := inB_iff.2 (by omega)
  have hl : inB (1 + (kl : Int)) 1 64 = true := inB_iff.2 (by omega)
  have e0 := kB0_new
  have e1 : opR kB0 (makeR kB0 [118, 111, 108] (1 + (ks : Int)) 2147483648) = (0, kB1 (1 + (ks : Int))) := op_is kB0_ok (mk_B1 hs)
  by_cases h1 : 20 < p.l.length
  · exact back13_longp size later hd1 hd2 ks kl hk1 hk2 hp1 hp2 p q w hp hq kB0 (kB1 (1 + (ks : Int))) (bd_ok kB0_ok) e0 e1 h1
  by_cases h2 : 20 < q.l.length
  · exact back13_longq size later hd1 hd2 ks kl hk1 hk2 hp1 hp2 p q w hp hq kB0 (kB1 (1 + (ks : Int))) (bd_ok kB0_ok) e0 e1 h1 h2
  cases rp : rootB p with
  | false => exact back13_nop size later hd1 hd2 ks kl hk1 hk2 hp1 hp2 p q w hp hq kB0 (kB1 (1 + (ks : Int))) (bd_ok kB0_ok) e0 e1 h1 h2 (bd_ok (ok_B1 hs)) (op_not (ok_B1 hs) (by decide) (no_B2 (sz := 0) rp))
  | true =>
    have e2 := op_is (ok_B1 hs) (mk_B2 (sz := 1 + (ks : Int)) rp)
    have e3 := op_is (ok_B2 hs rp) (mk_B3 (sz := 1 + (ks : Int)) rp)
    cases rq : rootB q with
    | false => exact back13_noq size later hd1 hd2 ks kl hk1 hk2 hp1 hp2 p q w hp hq kB0 (kB1 (1 + (ks : Int))) (kB2 (1 + (ks : Int)) p) (kB3 (1 + (ks : Int)) p) (bd_ok kB0_ok) e0 e1 h1 h2 (bd_ok (ok_B1 hs)) (bd_ok (ok_B2 hs rp)) (bd_ok (ok_B3 hs rp)) e2 e3 (op_not (ok_B3 hs rp) (by decide) (no_B2 (sz := 0) rq))
    | true =>
      have e4 := op_is (ok_B3 hs rp) (mk_B4 (sz := 1 + (ks : Int)) (p := p) rq)
      have e5 := op_is (ok_B4 hs rp rq) (mk_B5 (sz := 1 + (ks : Int)) (p := p) (q := q) hl)
      have e6 := op_is (ok_B5 hs hl rp rq) (mk_B6 (sz := 1 + (ks : Int)) (lt := 1 + (kl : Int)) (p := p) (q := q))
      have e7 := op_is (ok_B5 hs hl rp rq) (mk_B7 (sz := 1 + (ks : Int)) (lt := 1 + (kl : Int)) (p := p) (q := q))
      have e8 := op_is (ok_B7 hs hl rp rq) (mk_B8 (sz := 1 + (ks : Int)) (lt := 1 + (kl : Int)) (p := p) (q := q))
      have e9 := op_is (ok_B8 hs hl rp rq) (mk_B9 (sz := 1 + (ks : Int)) (lt := 1 + (kl : Int)) (p := p) (q := q))
      exact back13_yes size later hd1 hd2 ks kl hk1 hk2 hp1 hp2 p q w hp hq kB0 (kB1 (1 + (ks : Int))) (kB2 (1 + (ks : Int)) p) (kB3 (1 + (ks : Int)) p) (kB4 (1 + (ks : Int)) p q) (kB5 (1 + (ks : Int)) (1 + (kl : Int)) p q) (kB7 (1 + (ks : Int)) (1 + (kl : Int)) p q) (kB8 (1 + (ks : Int)) (1 + (kl : Int)) p q)
        (bd_ok kB0_ok) e0 e1 h1 h2 (bd_ok (ok_B1 hs)) (bd_ok (ok_B2 hs rp)) (bd_ok (ok_B3 hs rp)) (bd_ok (ok_B4 hs rp rq)) (bd_ok (ok_B5 hs hl rp rq)) (bd_ok (ok_B7 hs hl rp rq)) (bd_ok (ok_B8 hs hl rp rq)) e2 e3 e4 e5 e6 e7 e8 e9 names_B7 names_B8
        (bC (1 + (ks : Int)) p) (bV sVol (1 + (kl : Int)) q) (bS sVolS (1 + (ks : Int)) p) (bV sVol (1 + (ks : Int)) p) (bS sVolS (1 + (ks : Int)) p) rfl rfl rfl (same_root _ p ⟨rfl, rfl, rfl, rfl⟩) (RC.sameB_iff.2 rfl) rfl
end Go.Proofs.Ytifajcblbedcoaa
namespace Go.Proofs.Ytifajcblbedcoaa
set_option linter.unusedVariables false
set_option linter.unusedSimpArgs false
open Go.ChangeShapes Go.WideShapes Go.ChangeAt Go.RowKit Hp
set_option maxRecDepth 100000 in
theorem dirBack_lifted (os : Os) (started : os.Started) (H : Type) (enc : TypeId × Value → H) :
    ReturnsInHanded {} Try.checked os 5 .any (Rows.dirBackSpec.pre6 enc Try.prog Try.f5 Rows.dirBackRow.domain false) (Rows.dirBackSpec.post enc Try.prog Try.f5 false true false false) := by
  refine returnsInHanded_of_change (C := Try.checked) own started (by kernel_rfl) Try.func5
    (ChangeSpec.witness6 (enc := enc) (C := Try.checked) false ⟨#[], #[.agg #[.slice none 0 0, .int .i64 0, .int .i64 0, .int .u8 0, .int .u8 0, .int .u8 0, .int .u8 0, .int .u8 0, .int .u8 0, .int .u8 0, .int .u8 0, .int .u8 0, .int .u8 0, .int .u8 0, .int .u8 0, .int .u8 0, .int .u8 0, .int .u8 0, .int .u8 0, .int .u8 0, .int .u8 0, .int .u8 0, .int .u8 0, .int .u8 0, .int .u8 0, .int .u8 0, .int .u8 0, .int .u8 0, .int .u8 0, .int .u8 0, .int .u8 0, .int .u8 0, .int .u8 0, .int .u8 0, .int .u8 0], .agg #[.slice none 0 0, .int .i64 0, .int .i64 0, .int .u8 0, .int .u8 0, .int .u8 0, .int .u8 0, .int .u8 0, .int .u8 0, .int .u8 0, .int .u8 0, .int .u8 0, .int .u8 0, .int .u8 0, .int .u8 0, .int .u8 0, .int .u8 0, .int .u8 0, .int .u8 0, .int .u8 0, .int .u8 0, .int .u8 0, .int .u8 0, .int .u8 0, .int .u8 0, .int .u8 0, .int .u8 0, .int .u8 0, .int .u8 0, .int .u8 0, .int .u8 0, .int .u8 0, .int .u8 0, .int .u8 0, .int .u8 0], .int .i64 0, .int .i64 0], []⟩ 8 (by kernel_rfl) (by kernel_rfl) (by kernel_rfl) (by kernel_rfl)) ?_
  intro W base args ds gs before hval0 hW hcnd _
  have hval : ∀ (j : Nat) t v, Try.f5.params[j]? = some t → args[j]? = some v → Value.okWide Try.prog W .any base t v := hval0
  have hW' := hW
  obtain ⟨p, q, hAA0, hV, rfl, hfz, hnd⟩ := hW
  have hA : DataW.TrodAll enc Try.prog W 0 (fun _ => true) true Try.f5.params.toList args.toList ds p := hAA0
  rw [Try.params5] at hA hval
  have hk := hA
  obtain ⟨v0, v1, v2, v3, d0, d1, d2, d3, p0, p1, p2, p3, rfl, rfl, rfl, h0, h1, h2, h3⟩ := trodAll_four hA
  obtain ⟨rfl, rfl⟩ := trodVars_none hV
  obtain ⟨n0, h0⟩ := h0
  obtain ⟨p0, rfl, hP0⟩ := open_pv (hval 0 _ v0 rfl rfl) h0
  obtain ⟨n1, h1⟩ := h1
  obtain ⟨p1, rfl, hP1⟩ := open_pv (hval 1 _ v1 rfl rfl) h1
  obtain ⟨n2, h2⟩ := h2
  obtain ⟨z2, rfl, hl2, hu2⟩ := open_int (hval 2 _ v2 rfl rfl) h2
  obtain ⟨n3, h3⟩ := h3
  obtain ⟨z3, rfl, hl3, hu3⟩ := open_int (hval 3 _ v3 rfl rfl) h3
  clear hAA0 hval0
  simp only [List.append_nil] at hW'
  refine (back13_any z2 z3 ⟨hl2, hu2⟩ ⟨hl3, hu3⟩ p0 p1 W hP0 hP1).mono fun e W' ⟨he, hg⟩ => ?_
  subst he
  exact ⟨_, rfl, post_of_kept (pv := []) hW' (fun _ _ _ => (trodAll_cons_mk (shut_bool Try.underlying4 _) trodAll_mk0)) (fun sp hsp => by
      rw [Try.params5]
      exact args_kept (by decide) hk hg.below (fun p hp => hW'.lt p hp) sp hsp) (fun _ _ => rfl) (by simp)
    (hg.below.frame _)⟩
theorem dirBack_over : Rows.dirBackRow.holds Try.pinned (OpenSpec.ofChange Rows.dirBackSpec) :=
  OpenClaim.holds_of_wide 5 Try.f5 rfl rfl rfl rfl rfl rfl rfl ⟨rfl, rfl, rfl, rfl, rfl⟩ rfl rfl rfl rfl rfl (by kernel_rfl) Try.func5 (by kernel_rfl)
    (of_decide_eq_true (by kernel_rfl)) (by unfold Func.isWrapper; first | (rw [if_pos (by decide +kernel)]; kernel_rfl) | (rw [if_neg (by decide +kernel)]; exact ⟨rfl, rfl⟩))
    (fun os started H enc _ => dirBack_lifted os started H enc)

theorem dirBack_proved : Rows.DirBackSaid :=
  dirBack_over
end Go.Proofs.Ytifajcblbedcoaa
