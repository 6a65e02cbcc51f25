import Derived.Test.YtmdfbdfijnmhkaaGreatR5
namespace Go.Proofs.YtmdfbdfijnmhkaaGreat
set_option linter.unusedVariables false
set_option linter.unusedSimpArgs false
open Go.RowKit Hp
attribute [local irreducible] Go.Calls Go.wpList
set_option maxRecDepth 100000
set_option maxHeartbeats 4000000
theorem probe_clo {fn : Nat} {cap : List Value} {e : Int} {A B : World → Prop} (hfn : ∀ (a : Array Value) (w : World), (callFunc fn a).run Tryz.prog w = .ok (.enter fn a) w)
    (hC : ∀ w, A w → Calls Tryz.prog fn (List.toArray cap) w fun x w' => x = .returned (.int .i64 e) ∧ B w') : Probe (cloV fn cap) e A B := ⟨fn, [], cap, rfl, hfn, hC⟩
theorem probe_meth {fn : Nat} {r : Value} {e : Int} {A B : World → Prop} (hfn : ∀ (a : Array Value) (w : World), (callFunc fn a).run Tryz.prog w = .ok (.enter fn a) w)
    (hC : ∀ w, A w → Calls Tryz.prog fn #[r] w fun x w' => x = .returned (.int .i64 e) ∧ B w') : Probe (methV fn r) e A B := ⟨fn, [r], [], rfl, hfn, hC⟩
def Keeps (A : World → Prop) : Prop := ∀ w w', A w → St w [] w' [] → A w'
theorem keeps_st {w0 : World} {M : List Nat} {L : List HA} : Keeps (fun w => St w0 M w L) := fun _ _ h h' => h.call0 h'
section
variable {ga : Nat} {x : GA} {a : AR} {A : World → Prop} (hA : ∀ w, A w → ArrAt w ga x a) (hk : Keeps A)
include hA hk
theorem probe_made : Probe (methV 46 (.pointer (some ⟨ga, 0, none⟩))) 0 A A :=
  probe_meth (fun _ _ => rfl) fun w h => (made_any (hA w h)).mono fun _ _ ⟨e, h4⟩ => ⟨e, hk _ _ h h4⟩
theorem probe_runs : Probe (methV 88 (.pointer (some ⟨ga, 0, none⟩))) (orE (!a.out) 10) A A :=
  probe_meth (fun _ _ => rfl) fun w h => (runs_any (hA w h)).mono fun _ _ ⟨e, h4⟩ => ⟨e, hk _ _ h h4⟩
theorem probe_isDevice {g0 g1 : Nat} {dev : Int} (h0 : ∀ w, A w → w.cell? ⟨g0, 0, none⟩ = some (.pointer (some ⟨ga, 0, none⟩))) (h1 : ∀ w, A w → w.cell? ⟨g1, 0, none⟩ = some (.int .i64 dev)) :
    Probe (cloV 93 [ptrV g0, ptrV g1]) (orE (a.inD dev) 5) A A :=
  probe_clo (fun _ _ => rfl) fun w h => (isDevice1_any (hA w h) (h0 w h) (h1 w h)).mono fun _ _ ⟨e, h4⟩ => ⟨e, hk _ _ h h4⟩
theorem probe_isSector {g0 g1 g2 : Nat} {dev pl : Int} (h0 : ∀ w, A w → w.cell? ⟨g0, 0, none⟩ = some (.pointer (some ⟨ga, 0, none⟩))) (h1 : ∀ w, A w → w.cell? ⟨g1, 0, none⟩ = some (.int .i64 dev)) (h2 : ∀ w, A w → w.cell? ⟨g2, 0, none⟩ = some (.int .i64 pl)) :
    Probe (cloV 138 [ptrV g0, ptrV g1, ptrV g2]) (orE (a.inS dev pl) 5) A A :=
  probe_clo (fun _ _ => rfl) fun w h => (isSector1_any (hA w h) (h0 w h) (h1 w h) (h2 w h)).mono fun _ _ ⟨e, h4⟩ => ⟨e, hk _ _ h h4⟩
theorem probe_isHere {g0 g1 : Nat} {dev : Int} (hd : a.inD dev = true) (h0 : ∀ w, A w → w.cell? ⟨g0, 0, none⟩ = some (.pointer (some ⟨ga, 0, none⟩))) (h1 : ∀ w, A w → w.cell? ⟨g1, 0, none⟩ = some (.int .i64 dev)) :
    Probe (cloV 139 [ptrV g0, ptrV g1]) (orE (!(a.dv dev).gone) 14) A A :=
  probe_clo (fun _ _ => rfl) fun w h => (isHere1_any (hA w h) (h0 w h) (h1 w h) hd).mono fun _ _ ⟨e, h4⟩ => ⟨e, hk _ _ h h4⟩
end
theorem len1_any {w : World} {g0 : Nat} {ao : Option Addr} {n c : Nat} (h0 : w.cell? ⟨g0, 0, none⟩ = some (.slice ao n c)) : Calls Tryz.prog 97 #[ptrV g0] w fun e w' => e = .returned (.int .i64 (orE ((n : Int) == 256) 2)) ∧ St w [] w' [] := by
  have hst := St.refl w
  have H0 := hid h0
  clear h0
  unfold ptrV
  go_enter Tryz.func97, Tryz.ntmps97
  go_wp2_with (first | go_big_skip | go_big_guard | (refine wl_loadE rfl rfl rfl ?_; first | refine ⟨_, Loads.old hst H0.out, ?_⟩) | (go_at_call 85; refine (unless_any _ _ _).mono ?_; rintro _ w9 ⟨rfl, h4⟩; replace hst := St.call0 hst h4; clear h4))
  go_ret
  exact ⟨rfl, hst⟩
theorem fuse1_any {w : World} {g0 : Nat} {n : Int} (h0 : w.cell? ⟨g0, 0, none⟩ = some (.int .i64 n)) : Calls Tryz.prog 104 #[ptrV g0] w fun e w' => e = .returned (.int .i64 (orE (decide (0 ≤ n)) 2)) ∧ St w [] w' [] := by
  have hst := St.refl w
  have H0 := hid h0
  clear h0
  unfold ptrV
  obtain ⟨q, hq⟩ : ∃ q, q = decide (0 ≤ n) := ⟨_, rfl⟩
  have d1 : decide (n ≥ 0) = q := hq.symm
  have d2 : decide (0 ≤ n) = q := hq.symm
  rw [d2]
  clear hq
  go_enter Tryz.func104, Tryz.ntmps104
  go_wp2_with (first | go_big_skip | go_big_guard | (refine wl_loadE rfl rfl rfl ?_; first | refine ⟨_, Loads.old hst H0.out, ?_⟩) | (go_at_call 85; refine (unless_any _ _ _).mono ?_; rintro _ w9 ⟨rfl, h4⟩; replace hst := St.call0 hst h4; clear h4))
  go_ret
  exact ⟨rfl, hst⟩
theorem fail1_any {w : World} {g0 : Nat} {n : Int} (h0 : w.cell? ⟨g0, 0, none⟩ = some (.int .i64 n)) : Calls Tryz.prog 108 #[ptrV g0] w fun e w' => e = .returned (.int .i64 (orE (decide (0 ≤ n)) 2)) ∧ St w [] w' [] := by
  have hst := St.refl w
  have H0 := hid h0
  clear h0
  unfold ptrV
  obtain ⟨q, hq⟩ : ∃ q, q = decide (0 ≤ n) := ⟨_, rfl⟩
  have d1 : decide (n ≥ 0) = q := hq.symm
  have d2 : decide (0 ≤ n) = q := hq.symm
  rw [d2]
  clear hq
  go_enter Tryz.func108, Tryz.ntmps108
  go_wp2_with (first | go_big_skip | go_big_guard | (refine wl_loadE rfl rfl rfl ?_; first | refine ⟨_, Loads.old hst H0.out, ?_⟩) | (go_at_call 85; refine (unless_any _ _ _).mono ?_; rintro _ w9 ⟨rfl, h4⟩; replace hst := St.call0 hst h4; clear h4))
  go_ret
  exact ⟨rfl, hst⟩
theorem crash1_any {w : World} {g0 : Nat} {n : Int} (h0 : w.cell? ⟨g0, 0, none⟩ = some (.int .i64 n)) : Calls Tryz.prog 103 #[ptrV g0] w fun e w' => e = .returned (.int .i64 (orE (decide (0 ≤ n) && decide (n < 256)) 2)) ∧ St w [] w' [] := by
  have hst := St.refl w
  have H0 := hid h0
  clear h0
  unfold ptrV
  by_cases k1 : 0 ≤ n
  · have d1 : decide (n ≥ 0) = true := decide_eq_true k1
    have d2 : decide (0 ≤ n) = true := d1
    obtain ⟨q, hq⟩ : ∃ q, q = decide (n < 256) := ⟨_, rfl⟩
    have d3 : decide (n < 256) = q := hq.symm
    rw [d2, d3, Bool.true_and]
    clear k1 hq
    go_enter Tryz.func103, Tryz.ntmps103
    go_wp2_with (first | go_big_skip | go_big_guard | (refine wl_loadE rfl rfl rfl ?_; first | refine ⟨_, Loads.old hst H0.out, ?_⟩) | (go_at_call 85; refine (unless_any _ _ _).mono ?_; rintro _ w9 ⟨rfl, h4⟩; replace hst := St.call0 hst h4; clear h4))
    go_ret
    exact ⟨rfl, hst⟩
  · have d1 : decide (n ≥ 0) = false := decide_eq_false k1
    have d2 : decide (0 ≤ n) = false := d1
    rw [d2, Bool.false_and]
    clear k1
    go_enter Tryz.func103, Tryz.ntmps103
    go_wp2_with (first | go_big_skip | go_big_guard | (refine wl_loadE rfl rfl rfl ?_; first | refine ⟨_, Loads.old hst H0.out, ?_⟩) | (go_at_call 85; refine (unless_any _ _ _).mono ?_; rintro _ w9 ⟨rfl, h4⟩; replace hst := St.call0 hst h4; clear h4))
    go_ret
    exact ⟨rfl, hst⟩
theorem spoil1_any {w : World} {g0 : Nat} {n : Int} (h0 : w.cell? ⟨g0, 0, none⟩ = some (.int .i64 n)) : Calls Tryz.prog 84 #[ptrV g0] w fun e w' => e = .returned (.int .i64 (orE (decide (0 ≤ n) && decide (n < 256)) 5)) ∧ St w [] w' [] := by
  have hst := St.refl w
  have H0 := hid h0
  clear h0
  unfold ptrV
  by_cases k1 : 0 ≤ n
  · have d1 : decide (n ≥ 0) = true := decide_eq_true k1
    have d2 : decide (0 ≤ n) = true := d1
    obtain ⟨q, hq⟩ : ∃ q, q = decide (n < 256) := ⟨_, rfl⟩
    have d3 : decide (n < 256) = q := hq.symm
    rw [d2, d3, Bool.true_and]
    clear k1 hq
    go_enter Tryz.func84, Tryz.ntmps84
    go_wp2_with (first | go_big_skip | go_big_guard | (refine wl_loadE rfl rfl rfl ?_; first | refine ⟨_, Loads.old hst H0.out, ?_⟩) | (go_at_call 85; refine (unless_any _ _ _).mono ?_; rintro _ w9 ⟨rfl, h4⟩; replace hst := St.call0 hst h4; clear h4))
    go_ret
    exact ⟨rfl, hst⟩
  · have d1 : decide (n ≥ 0) = false := decide_eq_false k1
    have d2 : decide (0 ≤ n) = false := d1
    rw [d2, Bool.false_and]
    clear k1
    go_enter Tryz.func84, Tryz.ntmps84
    go_wp2_with (first | go_big_skip | go_big_guard | (refine wl_loadE rfl rfl rfl ?_; first | refine ⟨_, Loads.old hst H0.out, ?_⟩) | (go_at_call 85; refine (unless_any _ _ _).mono ?_; rintro _ w9 ⟨rfl, h4⟩; replace hst := St.call0 hst h4; clear h4))
    go_ret
    exact ⟨rfl, hst⟩
theorem step_any {w : World} {ga : Nat} {x : GA} {a : AR} (hS : St w [ga] w [.blk ga 109 (arrC x a)]) (hs : 0 ≤ a.steps ∧ a.steps < 4611686018427387904) (hf : -1 ≤ a.fuse ∧ a.fuse ≤ 9223372036854775807) :
    Calls Tryz.prog 98 #[.pointer (some ⟨ga, 0, none⟩)] w fun e w' => e = .returned (.int .i64 a.stepE) ∧ St w [ga] w' [.blk ga 109 (arrC x a.step)] := by
  obtain ⟨devs, loose, fu, out, stp⟩ := a
  dsimp only at hs hf
  replace hS : St w [ga] w [.blk ga 109 [.slice (some ⟨x.gd, 0, none⟩) devs.length x.cd, x.lv, .int .i64 fu, .bool out, .int .i64 stp]] := hS
  unfold AR.stepE AR.step arrC
  dsimp only
  have z2 : IntKind.i64.wrap (stp + 1) = stp + 1 := IntWalk.i64_in _ (by omega)
  by_cases k0 : fu = 0
  · rw [if_pos k0, if_pos k0]
    have d0 : (fu == 0) = true := by simpa using k0
    clear k0
    go_enter Tryz.func98, Tryz.ntmps98
    go_wp2_with (first | go_big_skip | go_big_guard | (refine wl_loadE rfl rfl rfl ?_; first | refine ⟨_, Loads.at [] hS rfl, ?_⟩) | (refine wl_store [] hS rfl rfl rfl (v := .bool _) rfl rfl rfl (by show (3 : Nat) + 1 ≤ 5; decide) ?_; intro w2 hs2; clear hS))
    go_ret
    exact ⟨rfl, hs2⟩
  · rw [if_neg k0, if_neg k0]
    have d0 : (fu == 0) = false := by simpa using k0
    by_cases k1 : 0 < fu
    · rw [if_pos k1]
      have d1 : decide (fu > 0) = true := decide_eq_true k1
      have d2 : decide (0 < fu) = true := d1
      have z1 : IntKind.i64.wrap (fu - 1) = fu - 1 := IntWalk.i64_in _ (by omega)
      clear k0 k1
      go_enter Tryz.func98, Tryz.ntmps98
      go_wp2_with (first | go_big_skip | go_big_guard | (refine wl_loadE rfl rfl rfl ?_; first | refine ⟨_, Loads.at [] hS rfl, ?_⟩ | refine ⟨_, Loads.at [] hs2 rfl, ?_⟩) | (refine wl_store [] hS rfl rfl rfl (v := .int _ _) rfl rfl rfl (by show (2 : Nat) + 1 ≤ 5; decide) ?_; intro w2 hs2; clear hS) | (refine wl_store [] hs2 rfl rfl rfl (v := .int _ _) rfl rfl rfl (by show (4 : Nat) + 1 ≤ 5; decide) ?_; intro w3 hs3; clear hs2))
      go_ret
      exact ⟨rfl, hs3⟩
    · rw [if_neg k1]
      have d1 : decide (fu > 0) = false := decide_eq_false k1
      have d2 : decide (0 < fu) = false := d1
      clear k0 k1
      go_enter Tryz.func98, Tryz.ntmps98
      go_wp2_with (first | go_big_skip | go_big_guard | (refine wl_loadE rfl rfl rfl ?_; first | refine ⟨_, Loads.at [] hS rfl, ?_⟩) | (refine wl_store [] hS rfl rfl rfl (v := .int _ _) rfl rfl rfl (by show (4 : Nat) + 1 ≤ 5; decide) ?_; intro w3 hs3; clear hS))
      go_ret
      exact ⟨rfl, hs3⟩
theorem has_0_1 (w : World) : Calls Tryz.prog 143 #[.int .u8 0, .int .u8 1] w fun e w' => e = .returned (.bool false) ∧ St w [] w' [] := by
  have hst := St.refl w
  go_enter Tryz.func143, Tryz.ntmps143
  go_wp2_with (first | go_big_skip | go_big_guard | fail)
  go_ret
  exact ⟨rfl, hst⟩
theorem use_0_1 {w : World} {g off : Nat} {T : TypeId} {cs : List Value} (hS : St w [g] w [.blk g T cs]) (hc : cs[off]? = some (.int .u8 0)) : Calls Tryz.prog 99 #[.pointer (some ⟨g, off, none⟩), .int .u8 1] w fun e w' => e = .returned (.bool false) ∧ St w [g] w' [.blk g T (putAt cs off [.int .u8 0])] := by
  have HC := hid hc
  have hlt : off + 1 ≤ cs.length := (List.getElem?_eq_some_iff.1 hc).1
  clear hc
  go_enter Tryz.func99, Tryz.ntmps99
  go_wp2_with (first | go_big_skip | go_big_guard | (refine wl_loadE rfl rfl rfl ?_; refine ⟨_, Loads.at [] hS HC.out, ?_⟩) | (go_at_call 143; refine (has_0_1 _).mono ?_; rintro _ w9 ⟨rfl, h4⟩; replace hS := St.call0 hS h4; clear h4) | (refine wl_store [] hS rfl rfl rfl (v := .int _ _) rfl rfl rfl hlt ?_; intro w3 hs3; clear hS))
  go_ret
  exact ⟨rfl, hs3⟩
theorem set_0_1 {w : World} {g off : Nat} {T : TypeId} {cs : List Value} (hS : St w [g] w [.blk g T cs]) (hc : cs[off]? = some (.int .u8 0)) : Calls Tryz.prog 106 #[.pointer (some ⟨g, off, none⟩), .int .u8 1] w fun e w' => e = .returned (.tuple #[]) ∧ St w [g] w' [.blk g T (putAt cs off [.int .u8 1])] := by
  have HC := hid hc
  have hlt : off + 1 ≤ cs.length := (List.getElem?_eq_some_iff.1 hc).1
  clear hc
  go_enter Tryz.func106, Tryz.ntmps106
  go_wp2_with (first | go_big_skip | go_big_guard | (refine wl_loadE rfl rfl rfl ?_; refine ⟨_, Loads.at [] hS HC.out, ?_⟩) | (refine wl_store [] hS rfl rfl rfl (v := .int _ _) rfl rfl rfl hlt ?_; intro w3 hs3; clear hS))
  go_end0
  exact ⟨rfl, hs3⟩
theorem has_0_2 (w : World) : Calls Tryz.prog 143 #[.int .u8 0, .int .u8 2] w fun e w' => e = .returned (.bool false) ∧ St w [] w' [] := by
  have hst := St.refl w
  go_enter Tryz.func143, Tryz.ntmps143
  go_wp2_with (first | go_big_skip | go_big_guard | fail)
  go_ret
  exact ⟨rfl, hst⟩
theorem use_0_2 {w : World} {g off : Nat} {T : TypeId} {cs : List Value} (hS : St w [g] w [.blk g T cs]) (hc : cs[off]? = some (.int .u8 0)) : Calls Tryz.prog 99 #[.pointer (some ⟨g, off, none⟩), .int .u8 2] w fun e w' => e = .returned (.bool false) ∧ St w [g] w' [.blk g T (putAt cs off [.int .u8 0])] := by
  have HC := hid hc
  have hlt : off + 1 ≤ cs.length := (List.getElem?_eq_some_iff.1 hc).1
  clear hc
  go_enter Tryz.func99, Tryz.ntmps99
  go_wp2_with (first | go_big_skip | go_big_guard | (refine wl_loadE rfl rfl rfl ?_; refine ⟨_, Loads.at [] hS HC.out, ?_⟩) | (go_at_call 143; refine (has_0_2 _).mono ?_; rintro _ w9 ⟨rfl, h4⟩; replace hS := St.call0 hS h4; clear h4) | (refine wl_store [] hS rfl rfl rfl (v := .int _ _) rfl rfl rfl hlt ?_; intro w3 hs3; clear hS))
  go_ret
  exact ⟨rfl, hs3⟩
theorem set_0_2 {w : World} {g off : Nat} {T : TypeId} {cs : List Value} (hS : St w [g] w [.blk g T cs]) (hc : cs[off]? = some (.int .u8 0)) : Calls Tryz.prog 106 #[.pointer (some ⟨g, off, none⟩), .int .u8 2] w fun e w' => e = .returned (.tuple #[]) ∧ St w [g] w' [.blk g T (putAt cs off [.int .u8 2])] := by
  have HC := hid hc
  have hlt : off + 1 ≤ cs.length := (List.getElem?_eq_some_iff.1 hc).1
  clear hc
  go_enter Tryz.func106, Tryz.ntmps106
  go_wp2_with (first | go_big_skip | go_big_guard | (refine wl_loadE rfl rfl rfl ?_; refine ⟨_, Loads.at [] hS HC.out, ?_⟩) | (refine wl_store [] hS rfl rfl rfl (v := .int _ _) rfl rfl rfl hlt ?_; intro w3 hs3; clear hS))
  go_end0
  exact ⟨rfl, hs3⟩
theorem has_1_1 (w : World) : Calls Tryz.prog 143 #[.int .u8 1, .int .u8 1] w fun e w' => e = .returned (.bool true) ∧ St w [] w' [] := by
  have hst := St.refl w
  go_enter Tryz.func143, Tryz.ntmps143
  go_wp2_with (first | go_big_skip | go_big_guard | fail)
  go_ret
  exact ⟨rfl, hst⟩
theorem use_1_1 {w : World} {g off : Nat} {T : TypeId} {cs : List Value} (hS : St w [g] w [.blk g T cs]) (hc : cs[off]? = some (.int .u8 1)) : Calls Tryz.prog 99 #[.pointer (some ⟨g, off, none⟩), .int .u8 1] w fun e w' => e = .returned (.bool true) ∧ St w [g] w' [.blk g T (putAt cs off [.int .u8 0])] := by
  have HC := hid hc
  have hlt : off + 1 ≤ cs.length := (List.getElem?_eq_some_iff.1 hc).1
  clear hc
  go_enter Tryz.func99, Tryz.ntmps99
  go_wp2_with (first | go_big_skip | go_big_guard | (refine wl_loadE rfl rfl rfl ?_; refine ⟨_, Loads.at [] hS HC.out, ?_⟩) | (go_at_call 143; refine (has_1_1 _).mono ?_; rintro _ w9 ⟨rfl, h4⟩; replace hS := St.call0 hS h4; clear h4) | (refine wl_store [] hS rfl rfl rfl (v := .int _ _) rfl rfl rfl hlt ?_; intro w3 hs3; clear hS))
  go_ret
  exact ⟨rfl, hs3⟩
theorem set_1_1 {w : World} {g off : Nat} {T : TypeId} {cs : List Value} (hS : St w [g] w [.blk g T cs]) (hc : cs[off]? = some (.int .u8 1)) : Calls Tryz.prog 106 #[.pointer (some ⟨g, off, none⟩), .int .u8 1] w fun e w' => e = .returned (.tuple #[]) ∧ St w [g] w' [.blk g T (putAt cs off [.int .u8 1])] := by
  have HC := hid hc
  have hlt : off + 1 ≤ cs.length := (List.getElem?_eq_some_iff.1 hc).1
  clear hc
  go_enter Tryz.func106, Tryz.ntmps106
  go_wp2_with (first | go_big_skip | go_big_guard | (refine wl_loadE rfl rfl rfl ?_; refine ⟨_, Loads.at [] hS HC.out, ?_⟩) | (refine wl_store [] hS rfl rfl rfl (v := .int _ _) rfl rfl rfl hlt ?_; intro w3 hs3; clear hS))
  go_end0
  exact ⟨rfl, hs3⟩
theorem has_1_2 (w : World) : Calls Tryz.prog 143 #[.int .u8 1, .int .u8 2] w fun e w' => e = .returned (.bool false) ∧ St w [] w' [] := by
  have hst := St.refl w
  go_enter Tryz.func143, Tryz.ntmps143
  go_wp2_with (first | go_big_skip | go_big_guard | fail)
  go_ret
  exact ⟨rfl, hst⟩
theorem use_1_2 {w : World} {g off : Nat} {T : TypeId} {cs : List Value} (hS : St w [g] w [.blk g T cs]) (hc : cs[off]? = some (.int .u8 1)) : Calls Tryz.prog 99 #[.pointer (some ⟨g, off, none⟩), .int .u8 2] w fun e w' => e = .returned (.bool false) ∧ St w [g] w' [.blk g T (putAt cs off [.int .u8 1])] := by
  have HC := hid hc
  have hlt : off + 1 ≤ cs.length := (List.getElem?_eq_some_iff.1 hc).1
  clear hc
  go_enter Tryz.func99, Tryz.ntmps99
  go_wp2_with (first | go_big_skip | go_big_guard | (refine wl_loadE rfl rfl rfl ?_; refine ⟨_, Loads.at [] hS HC.out, ?_⟩) | (go_at_call 143; refine (has_1_2 _).mono ?_; rintro _ w9 ⟨rfl, h4⟩; replace hS := St.call0 hS h4; clear h4) | (refine wl_store [] hS rfl rfl rfl (v := .int _ _) rfl rfl rfl hlt ?_; intro w3 hs3; clear hS))
  go_ret
  exact ⟨rfl, hs3⟩
theorem set_1_2 {w : World} {g off : Nat} {T : TypeId} {cs : List Value} (hS : St w [g] w [.blk g T cs]) (hc : cs[off]? = some (.int .u8 1)) : Calls Tryz.prog 106 #[.pointer (some ⟨g, off, none⟩), .int .u8 2] w fun e w' => e = .returned (.tuple #[]) ∧ St w [g] w' [.blk g T (putAt cs off [.int .u8 3])] := by
  have HC := hid hc
  have hlt : off + 1 ≤ cs.length := (List.getElem?_eq_some_iff.1 hc).1
  clear hc
  go_enter Tryz.func106, Tryz.ntmps106
  go_wp2_with (first | go_big_skip | go_big_guard | (refine wl_loadE rfl rfl rfl ?_; refine ⟨_, Loads.at [] hS HC.out, ?_⟩) | (refine wl_store [] hS rfl rfl rfl (v := .int _ _) rfl rfl rfl hlt ?_; intro w3 hs3; clear hS))
  go_end0
  exact ⟨rfl, hs3⟩
theorem has_2_1 (w : World) : Calls Tryz.prog 143 #[.int .u8 2, .int .u8 1] w fun e w' => e = .returned (.bool false) ∧ St w [] w' [] := by
  have hst := St.refl w
  go_enter Tryz.func143, Tryz.ntmps143
  go_wp2_with (first | go_big_skip | go_big_guard | fail)
  go_ret
  exact ⟨rfl, hst⟩
theorem use_2_1 {w : World} {g off : Nat} {T : TypeId} {cs : List Value} (hS : St w [g] w [.blk g T cs]) (hc : cs[off]? = some (.int .u8 2)) : Calls Tryz.prog 99 #[.pointer (some ⟨g, off, none⟩), .int .u8 1] w fun e w' => e = .returned (.bool false) ∧ St w [g] w' [.blk g T (putAt cs off [.int .u8 2])] := by
  have HC := hid hc
  have hlt : off + 1 ≤ cs.length := (List.getElem?_eq_some_iff.1 hc).1
  clear hc
  go_enter Tryz.func99, Tryz.ntmps99
  go_wp2_with (first | go_big_skip | go_big_guard | (refine wl_loadE rfl rfl rfl ?_; refine ⟨_, Loads.at [] hS HC.out, ?_⟩) | (go_at_call 143; refine (has_2_1 _).mono ?_; rintro _ w9 ⟨rfl, h4⟩; replace hS := St.call0 hS h4; clear h4) | (refine wl_store [] hS rfl rfl rfl (v := .int _ _) rfl rfl rfl hlt ?_; intro w3 hs3; clear hS))
  go_ret
  exact ⟨rfl, hs3⟩
theorem set_2_1 {w : World} {g off : Nat} {T : TypeId} {cs : List Value} (hS : St w [g] w [.blk g T cs]) (hc : cs[off]? = some (.int .u8 2)) : Calls Tryz.prog 106 #[.pointer (some ⟨g, off, none⟩), .int .u8 1] w fun e w' => e = .returned (.tuple #[]) ∧ St w [g] w' [.blk g T (putAt cs off [.int .u8 3])] := by
  have HC := hid hc
  have hlt : off + 1 ≤ cs.length := (List.getElem?_eq_some_iff.1 hc).1
  clear hc
  go_enter Tryz.func106, Tryz.ntmps106
  go_wp2_with (first | go_big_skip | go_big_guard | (refine wl_loadE rfl rfl rfl ?_; refine ⟨_, Loads.at [] hS HC.out, ?_⟩) | (refine wl_store [] hS rfl rfl rfl (v := .int _ _) rfl rfl rfl hlt ?_; intro w3 hs3; clear hS))
  go_end0
  exact ⟨rfl, hs3⟩
theorem has_2_2 (w : World) : Calls Tryz.prog 143 #[.int .u8 2, .int .u8 2] w fun e w' => e = .returned (.bool true) ∧ St w [] w' [] := by
  have hst := St.refl w
  go_enter Tryz.func143, Tryz.ntmps143
  go_wp2_with (first | go_big_skip | go_big_guard | fail)
  go_ret
  exact ⟨rfl, hst⟩
theorem use_2_2 {w : World} {g off : Nat} {T : TypeId} {cs : List Value} (hS : St w [g] w [.blk g T cs]) (hc : cs[off]? = some (.int .u8 2)) : Calls Tryz.prog 99 #[.pointer (some ⟨g, off, none⟩), .int .u8 2] w fun e w' => e = .returned (.bool true) ∧ St w [g] w' [.blk g T (putAt cs off [.int .u8 0])] := by
  have HC := hid hc
  have hlt : off + 1 ≤ cs.length := (List.getElem?_eq_some_iff.1 hc).1
  clear hc
  go_enter Tryz.func99, Tryz.ntmps99
  go_wp2_with (first | go_big_skip | go_big_guard | (refine wl_loadE rfl rfl rfl ?_; refine ⟨_, Loads.at [] hS HC.out, ?_⟩) | (go_at_call 143; refine (has_2_2 _).mono ?_; rintro _ w9 ⟨rfl, h4⟩; replace hS := St.call0 hS h4; clear h4) | (refine wl_store [] hS rfl rfl rfl (v := .int _ _) rfl rfl rfl hlt ?_; intro w3 hs3; clear hS))
  go_ret
  exact ⟨rfl, hs3⟩
theorem set_2_2 {w : World} {g off : Nat} {T : TypeId} {cs : List Value} (hS : St w [g] w [.blk g T cs]) (hc : cs[off]? = some (.int .u8 2)) : Calls Tryz.prog 106 #[.pointer (some ⟨g, off, none⟩), .int .u8 2] w fun e w' => e = .returned (.tuple #[]) ∧ St w [g] w' [.blk g T (putAt cs off [.int .u8 2])] := by
  have HC := hid hc
  have hlt : off + 1 ≤ cs.length := (List.getElem?_eq_some_iff.1 hc).1
  clear hc
  go_enter Tryz.func106, Tryz.ntmps106
  go_wp2_with (first | go_big_skip | go_big_guard | (refine wl_loadE rfl rfl rfl ?_; refine ⟨_, Loads.at [] hS HC.out, ?_⟩) | (refine wl_store [] hS rfl rfl rfl (v := .int _ _) rfl rfl rfl hlt ?_; intro w3 hs3; clear hS))
  go_end0
  exact ⟨rfl, hs3⟩
theorem has_3_1 (w : World) : Calls Tryz.prog 143 #[.int .u8 3, .int .u8 1] w fun e w' => e = .returned (.bool true) ∧ St w [] w' [] := by
  have hst := St.refl w
  go_enter Tryz.func143, Tryz.ntmps143
  go_wp2_with (first | go_big_skip | go_big_guard | fail)
  go_ret
  exact ⟨rfl, hst⟩
theorem use_3_1 {w : World} {g off : Nat} {T : TypeId} {cs : List Value} (hS : St w [g] w [.blk g T cs]) (hc : cs[off]? = some (.int .u8 3)) : Calls Tryz.prog 99 #[.pointer (some ⟨g, off, none⟩), .int .u8 1] w fun e w' => e = .returned (.bool true) ∧ St w [g] w' [.blk g T (putAt cs off [.int .u8 2])] := by
  have HC := hid hc
  have hlt : off + 1 ≤ cs.length := (List.getElem?_eq_some_iff.1 hc).1
  clear hc
  go_enter Tryz.func99, Tryz.ntmps99
  go_wp2_with (first | go_big_skip | go_big_guard | (refine wl_loadE rfl rfl rfl ?_; refine ⟨_, Loads.at [] hS HC.out, ?_⟩) | (go_at_call 143; refine (has_3_1 _).mono ?_; rintro _ w9 ⟨rfl, h4⟩; replace hS := St.call0 hS h4; clear h4) | (refine wl_store [] hS rfl rfl rfl (v := .int _ _) rfl rfl rfl hlt ?_; intro w3 hs3; clear hS))
  go_ret
  exact ⟨rfl, hs3⟩
theorem set_3_1 {w : World} {g off : Nat} {T : TypeId} {cs : List Value} (hS : St w [g] w [.blk g T cs]) (hc : cs[off]? = some (.int .u8 3)) : Calls Tryz.prog 106 #[.pointer (some ⟨g, off, none⟩), .int .u8 1] w fun e w' => e = .returned (.tuple #[]) ∧ St w [g] w' [.blk g T (putAt cs off [.int .u8 3])] := by
  have HC := hid hc
  have hlt : off + 1 ≤ cs.length := (List.getElem?_eq_some_iff.1 hc).1
  clear hc
  go_enter Tryz.func106, Tryz.ntmps106
  go_wp2_with (first | go_big_skip | go_big_guard | (refine wl_loadE rfl rfl rfl ?_; refine ⟨_, Loads.at [] hS HC.out, ?_⟩) | (refine wl_store [] hS rfl rfl rfl (v := .int _ _) rfl rfl rfl hlt ?_; intro w3 hs3; clear hS))
  go_end0
  exact ⟨rfl, hs3⟩
theorem has_3_2 (w : World) : Calls Tryz.prog 143 #[.int .u8 3, .int .u8 2] w fun e w' => e = .returned (.bool true) ∧ St w [] w' [] := by
  have hst := St.refl w
  go_enter Tryz.func143, Tryz.ntmps143
  go_wp2_with (first | go_big_skip | go_big_guard | fail)
  go_ret
  exact ⟨rfl, hst⟩
theorem use_3_2 {w : World} {g off : Nat} {T : TypeId} {cs : List Value} (hS : St w [g] w [.blk g T cs]) (hc : cs[off]? = some (.int .u8 3)) : Calls Tryz.prog 99 #[.pointer (some ⟨g, off, none⟩), .int .u8 2] w fun e w' => e = .returned (.bool true) ∧ St w [g] w' [.blk g T (putAt cs off [.int .u8 1])] := by
  have HC := hid hc
  have hlt : off + 1 ≤ cs.length := (List.getElem?_eq_some_iff.1 hc).1
  clear hc
  go_enter Tryz.func99, Tryz.ntmps99
  go_wp2_with (first | go_big_skip | go_big_guard | (refine wl_loadE rfl rfl rfl ?_; refine ⟨_, Loads.at [] hS HC.out, ?_⟩) | (go_at_call 143; refine (has_3_2 _).mono ?_; rintro _ w9 ⟨rfl, h4⟩; replace hS := St.call0 hS h4; clear h4) | (refine wl_store [] hS rfl rfl rfl (v := .int _ _) rfl rfl rfl hlt ?_; intro w3 hs3; clear hS))
  go_ret
  exact ⟨rfl, hs3⟩
theorem set_3_2 {w : World} {g off : Nat} {T : TypeId} {cs : List Value} (hS : St w [g] w [.blk g T cs]) (hc : cs[off]? = some (.int .u8 3)) : Calls Tryz.prog 106 #[.pointer (some ⟨g, off, none⟩), .int .u8 2] w fun e w' => e = .returned (.tuple #[]) ∧ St w [g] w' [.blk g T (putAt cs off [.int .u8 3])] := by
  have HC := hid hc
  have hlt : off + 1 ≤ cs.length := (List.getElem?_eq_some_iff.1 hc).1
  clear hc
  go_enter Tryz.func106, Tryz.ntmps106
  go_wp2_with (first | go_big_skip | go_big_guard | (refine wl_loadE rfl rfl rfl ?_; refine ⟨_, Loads.at [] hS HC.out, ?_⟩) | (refine wl_store [] hS rfl rfl rfl (v := .int _ _) rfl rfl rfl hlt ?_; intro w3 hs3; clear hS))
  go_end0
  exact ⟨rfl, hs3⟩
theorem use1_any {w : World} {g off : Nat} {T : TypeId} {cs : List Value} (lo st : Bool) (hS : St w [g] w [.blk g T cs]) (hc : cs[off]? = some (.int .u8 (b2i lo 1 + b2i st 2))) : Calls Tryz.prog 99 #[.pointer (some ⟨g, off, none⟩), .int .u8 1] w fun e w' => e = .returned (.bool lo) ∧ St w [g] w' [.blk g T (putAt cs off [.int .u8 (b2i false 1 + b2i st 2)])] := by
  cases lo <;> cases st
  · exact use_0_1 hS hc
  · exact use_2_1 hS hc
  · exact use_1_1 hS hc
  · exact use_3_1 hS hc
theorem use2_any {w : World} {g off : Nat} {T : TypeId} {cs : List Value} (lo st : Bool) (hS : St w [g] w [.blk g T cs]) (hc : cs[off]? = some (.int .u8 (b2i lo 1 + b2i st 2))) : Calls Tryz.prog 99 #[.pointer (some ⟨g, off, none⟩), .int .u8 2] w fun e w' => e = .returned (.bool st) ∧ St w [g] w' [.blk g T (putAt cs off [.int .u8 (b2i lo 1 + b2i false 2)])] := by
  cases lo <;> cases st
  · exact use_0_2 hS hc
  · exact use_2_2 hS hc
  · exact use_1_2 hS hc
  · exact use_3_2 hS hc
theorem set1_any {w : World} {g off : Nat} {T : TypeId} {cs : List Value} (lo st : Bool) (hS : St w [g] w [.blk g T cs]) (hc : cs[off]? = some (.int .u8 (b2i lo 1 + b2i st 2))) : Calls Tryz.prog 106 #[.pointer (some ⟨g, off, none⟩), .int .u8 1] w fun e w' => e = .returned (.tuple #[]) ∧ St w [g] w' [.blk g T (putAt cs off [.int .u8 (b2i true 1 + b2i st 2)])] := by
  cases lo <;> cases st
  · exact set_0_1 hS hc
  · exact set_2_1 hS hc
  · exact set_1_1 hS hc
  · exact set_3_1 hS hc
theorem set2_any {w : World} {g off : Nat} {T : TypeId} {cs : List Value} (lo st : Bool) (hS : St w [g] w [.blk g T cs]) (hc : cs[off]? = some (.int .u8 (b2i lo 1 + b2i st 2))) : Calls Tryz.prog 106 #[.pointer (some ⟨g, off, none⟩), .int .u8 2] w fun e w' => e = .returned (.tuple #[]) ∧ St w [g] w' [.blk g T (putAt cs off [.int .u8 (b2i lo 1 + b2i true 2)])] := by
  cases lo <;> cases st
  · exact set_0_2 hS hc
  · exact set_2_2 hS hc
  · exact set_1_2 hS hc
  · exact set_3_2 hS hc
end Go.Proofs.YtmdfbdfijnmhkaaGreat
