/- Bools lent and kept. -/
import Derived.Test.YtclleohpmgihaaaGreatJArrayScripta
import Derived.Test.YtclleohpmgihaaaGreatKTy
import Derived.Test.YtclleohpmgihaaaGreatSepQ
import Derived.IntWalk
import Derived.Test.YtclleohpmgihaaaGreatOpenB
import Derived.Deep.Slices
namespace Go.Proofs.YtclleohpmgihaaaGreat
set_option linter.unusedVariables false
set_option linter.unusedSimpArgs false
open Go.RowKit Hp
attribute [local irreducible] Go.Calls Go.wpList
set_option maxRecDepth 100000
set_option maxHeartbeats 8000000
theorem crashF_loose (t : Nat) (s : AR × Bool) (w : LW) (keep : Bool) : (crashF t s w keep).1.loose = s.1.loose := by
  unfold crashF
  split
  · rfl
  · split <;> rfl
theorem crashN_loose (a : AR) (keep : List Bool) (t : Nat) : ∀ j, (crashN a keep t j).1.loose = a.loose
  | 0 => rfl
  | j + 1 => by
    unfold crashN
    cases a.loose[j]? with
    | none => exact crashN_loose a keep t j
    | some w => rw [crashF_loose]; exact crashN_loose a keep t j
theorem crashF_steps (t : Nat) (s : AR × Bool) (w : LW) (keep : Bool) : (crashF t s w keep).1.steps = s.1.steps := by
  unfold crashF
  split
  · rfl
  · split <;> rfl
theorem crashN_steps (a : AR) (keep : List Bool) (t : Nat) : ∀ j, (crashN a keep t j).1.steps = a.steps
  | 0 => rfl
  | j + 1 => by
    unfold crashN
    cases a.loose[j]? with
    | none => exact crashN_steps a keep t j
    | some w => rw [crashF_steps]; exact crashN_steps a keep t j
theorem torn_set {a : AR} {k p t : Nat} {b : List UInt8} (hk : k < a.devs.length) : a.upd (k : Int) (tornF p b t) = a.upd (k : Int) (setF p (b.take t ++ ((a.dv (k : Int)).firm.getD p []).drop t)) := by
  unfold AR.upd
  congr 1
  apply List.ext_getElem?
  intro j
  rw [modify_get, modify_get, Int.toNat_natCast]
  split
  · rename_i h
    subst h
    have e : a.devs[k]? = some (a.dv (k : Int)) := by
      unfold AR.dv
      rw [Int.toNat_natCast, List.getD_eq_getElem?_getD, List.getElem?_eq_getElem hk]
      rfl
    rw [e]
    rfl
  · rfl
theorem row_some {w0 w : World} {M : List Nat} {L : List HA} {v : Value} {T : TypeId} {sz n : Nat} {xs : List Value} (h : St w0 M w L) (hm : HA.row v T sz n xs ∈ L) (hn : 0 < n) : ∃ g c, v = .slice (some ⟨g, 0, none⟩) n c ∧ n ≤ c ∧ c ≤ maxLen := by
  obtain ⟨hl, h2⟩ := h.owns hm
  rcases h2 with ⟨_, hz⟩ | ⟨g, cap, cur, rfl, _, hh, hnc, hcm, _⟩
  · omega
  · exact ⟨g, cap, rfl, hnc, hcm⟩
theorem slice_hi (g c t : Nat) (ht : t ≤ c) (w : World) : (Instr.slice 33 (.slice (some ⟨g, 0, none⟩) 256 c) none (some (.int .i64 (t : Int))) none).run Tryz.prog w = .ok (.slice (some ⟨g, 0, none⟩) t c) w := by
  have hz : ∀ w, (sizeOf (Tryz.prog.elem 33)).run Tryz.prog w = .ok 1 w := fun w => by kernel_rfl
  rw [run_slice_h w 33 _ _ _ (by kernel_rfl) .i64 (t : Int) (by omega) (by omega), hz]
  simp [sliced, Addr.add_mid]
theorem slice_lo (g c t : Nat) (ht : t < 256) (hc : 256 ≤ c) (w : World) : (Instr.slice 33 (.slice (some ⟨g, 0, none⟩) 256 c) (some (.int .i64 (t : Int))) none none).run Tryz.prog w = .ok (.slice (some ⟨g, t, none⟩) (256 - t) (c - t)) w := by
  have hz : ∀ w, (sizeOf (Tryz.prog.elem 33)).run Tryz.prog w = .ok 1 w := fun w => by kernel_rfl
  rw [run_slice_l w 33 _ _ _ (by kernel_rfl) .i64 (t : Int) (by omega) (by omega), hz]
  have : ¬ c = t := by omega
  simp [sliced, Addr.add_mid, this]
theorem sliceAt_hi (g c t : Nat) (ht : t ≤ c) (w : World) : (Instr.sliceAt 33 (.slice (some ⟨g, 0, none⟩) 256 c) none (some (.int .i64 (t : Int))) none).run Tryz.prog w = .ok (.slice (some ⟨g, 0, none⟩) t c) w := by
  rw [run_sliceAt_slice _ _ _ _ _ _ (by kernel_rfl)]
  exact slice_hi g c t ht w
theorem sliceAt_lo (g c t : Nat) (ht : t < 256) (hc : 256 ≤ c) (w : World) : (Instr.sliceAt 33 (.slice (some ⟨g, 0, none⟩) 256 c) (some (.int .i64 (t : Int))) none none).run Tryz.prog w = .ok (.slice (some ⟨g, t, none⟩) (256 - t) (c - t)) w := by
  rw [run_sliceAt_slice _ _ _ _ _ _ (by kernel_rfl)]
  exact slice_lo g c t ht hc w
/-- A piece more in the pool, another one behind all. -/
theorem St.pool2 {w0 w : World} {M : List Nat} {R : List HA} {gr : Nat} {x : RX} {p q : HA} (h : St w0 M w (p :: q :: (rxP gr x ++ R))) : St w0 M w (rxP gr { x with pool := x.pool ++ [p] } ++ (q :: R)) := by
  have h1 : St w0 M w (p :: (rxP gr x ++ (q :: R))) := St.perm h (List.Perm.cons _ List.perm_middle.symm)
  exact St.pool h1
theorem St.toR {w0 w : World} {M : List Nat} {R : List HA} {gr : Nat} {x : RX} {q : HA} (h : St w0 M w (q :: (rxP gr x ++ R))) : St w0 M w (rxP gr x ++ (q :: R)) := St.perm h List.perm_middle.symm
theorem St.offR {w0 w : World} {M : List Nat} {R : List HA} {gr : Nat} {x : RX} {q : HA} (h : St w0 M w (rxP gr x ++ (q :: R))) : St w0 M w (rxP gr x ++ R) := St.sub h (List.Sublist.append_left (List.sublist_cons_self _ _) _)
/-- A piece more in the pool. -/
def addP (z : RX) (p : HA) : RX := { z with pool := z.pool ++ [p] }
/-- The loose writes are gone, the array runs again. -/
def wipe (z : RX) : RX := { z with loose := [], lv := .slice none 0 0, out := false, left := -1 }
def cl1 : RDv → RDv := fun d => { d with lo := false }
def cl2 : RDv → RDv := fun d => { d with ay := -1 }
def cl3 : RDv → RDv := fun d => { d with fail := 0 }
theorem fin_nil {w0 w : World} {M : List Nat} {A B rl : HA} {T : List HA} {U : TypeId} {sz : Nat} (h : St w0 M w (A :: B :: rl :: T)) : St w0 M w (A :: B :: .row (.slice none 0 0) U sz 0 [] :: T) := by
  have h1 := St.nilR U sz (St.sub h (.cons_cons _ (.cons_cons _ (.cons _ (List.Sublist.refl _)))))
  exact St.perm h1 ((List.Perm.swap _ _ _).trans (List.Perm.cons _ (List.Perm.swap _ _ _)))
theorem upd_st1 {w0 w : World} {M : List Nat} {R : List HA} {gr m : Nat} {q : RX} (hm : m < q.devs.length) (h : St w0 M w (.blk gr 57 q.hdr :: .blk q.gd 60 (putAt q.dc (m * 5 + 1) [.bool false]) :: .row q.lv 96 3 q.loose.length q.lc :: (q.tail ++ R))) : St w0 M w (rxP gr (q.upd m cl1) ++ R) := by
  rw [RX.upd_P (f := cl1) (fun _ => rfl), ← RX.dput (f := cl1) hm (i := 1) (v := .bool false) (by decide) rfl]
  exact h
theorem upd_st2 {w0 w : World} {M : List Nat} {R : List HA} {gr m : Nat} {q : RX} (hm : m < q.devs.length) (h : St w0 M w (.blk gr 57 q.hdr :: .blk q.gd 60 (putAt q.dc (m * 5 + 2) [.int .i64 (-1)]) :: .row q.lv 96 3 q.loose.length q.lc :: (q.tail ++ R))) : St w0 M w (rxP gr (q.upd m cl2) ++ R) := by
  rw [RX.upd_P (f := cl2) (fun _ => rfl), ← RX.dput (f := cl2) hm (i := 2) (v := .int .i64 (-1)) (by decide) rfl]
  exact h
theorem upd_st3 {w0 w : World} {M : List Nat} {R : List HA} {gr m : Nat} {q : RX} (hm : m < q.devs.length) (h : St w0 M w (.blk gr 57 q.hdr :: .blk q.gd 60 (putAt q.dc (m * 5 + 3) [.int .i64 0]) :: .row q.lv 96 3 q.loose.length q.lc :: (q.tail ++ R))) : St w0 M w (rxP gr (q.upd m cl3) ++ R) := by
  rw [RX.upd_P (f := cl3) (fun _ => rfl), ← RX.dput (f := cl3) hm (i := 3) (v := .int .i64 0) (by decide) rfl]
  exact h
theorem RX.upd_upd (x : RX) (k : Nat) (f g : RDv → RDv) : (x.upd k f).upd k g = x.upd k fun d => g (f d) := by
  unfold RX.upd
  congr 1
  apply List.ext_getElem?
  intro j
  rw [modify_get, modify_get, modify_get]
  split
  · cases x.devs[j]? <;> rfl
  · rfl
theorem clean_ok {b0 : AR} {q : RX} {m : Nat} (h : RefOk (cleanN b0 m) q) (hm : m < b0.devs.length) : RefOk (cleanN b0 (m + 1)) (((q.upd m cl1).upd m cl2).upd m cl3) := by
  have hm2 : m < (cleanN b0 m).devs.length := by rw [cleanN_len]; exact hm
  rw [cleanN_succ hm, RX.upd_upd, RX.upd_upd]
  have hd := h.dv m hm2
  have hin : (cleanN b0 m).inD (m : Int) = true := by
    unfold AR.inD
    simp only [Bool.and_eq_true, decide_eq_true_eq]
    omega
  exact h.upd (f := clean) (r := fun d => cl3 (cl2 (cl1 d))) hm2 ⟨rfl, rfl, rfl, hd.gone, hd.len, hd.sec⟩ (upd_secs hin rfl)
section
theorem loadedCD (A : Addr) : loadVar 54 A = loadVarH 54 A := rfl
theorem loadedCS (A : Addr) : loadVar 58 A = loadVarH 58 A := rfl
theorem loadedCB (A : Addr) : loadVar 33 A = loadVarH 33 A := rfl
theorem loadedCI (A : Addr) : loadVar 3 A = loadVarH 3 A := rfl
attribute [local go_sem ↓] loadedCD loadedCS loadedCB loadedCI
theorem crash_odd_r {w0 w : World} {M : List Nat} {R : List HA} {gr : Nat} {a : AR} {x : RX} (hS : St w0 M w (rxP gr x ++ R)) (ro : RefOk a x) (ko : Option Addr) (kn kc : Nat) (ks : List Bool) (hr : ∀ (w' : World) (L' : List HA), St w0 M w' L' → Rd w' (.slice ko kn kc) 1 kn (boolsV ks)) (hk : ks.length = kn) (torn : Int) (ht : (decide (0 ≤ torn) && decide (torn < 256)) = false) (ok : a.Ok) : Calls Tryz.prog 29 #[.pointer (some ⟨gr, 0, none⟩), .slice ko kn kc, .int .i64 torn] w fun e w' => e = .returned (.int .i64 (a.crashE torn)) ∧ ∃ y, RefOk (a.crash ks torn) y ∧ St w0 M w' (rxP gr y ++ R) := by
  have hst : St w0 M w (.blk gr 57 x.hdr :: .blk x.gd 60 x.dc :: .row x.lv 96 3 x.loose.length x.lc :: (x.tail ++ R)) := hS
  have RO := hid ro
  clear hS ro
  have hE : a.crashE torn = 2 := by unfold AR.crashE; rw [if_neg ok.d0, ht]; rfl
  have hR : a.crash ks torn = a := by unfold AR.crash; rw [hE]; rfl
  rw [hE, hR]
  clear hE hR hr hk
  by_cases h1 : torn < 0
  · have d1 : decide (torn < 0) = true := decide_eq_true h1
    clear ht ok h1
    go_enter Tryz.func29, Tryz.ntmps29
    go_wp2_with (first | go_big_skip | go_big_guard | fail)
    go_ret
    exact ⟨rfl, x, RO.out, hst⟩
  · have h2 : 256 ≤ torn := by
      rw [decide_eq_true (by omega), Bool.true_and, decide_eq_false_iff_not] at ht
      omega
    have d1 : decide (torn < 0) = false := decide_eq_false h1
    have d2 : decide (torn ≥ 256) = true := decide_eq_true h2
    have d3 : decide (256 ≤ torn) = true := d2
    clear ht ok h1 h2
    go_enter Tryz.func29, Tryz.ntmps29
    go_wp2_with (first | go_big_skip | go_big_guard | fail)
    go_ret
    exact ⟨rfl, x, RO.out, hst⟩
theorem crash_fine_r {w0 w : World} {M : List Nat} {R : List HA} {gr : Nat} {a : AR} {x : RX} (hS : St w0 M w (rxP gr x ++ R)) (ro : RefOk a x) (ko : Option Addr) (kn kc : Nat) (ks : List Bool) (hr : ∀ (w' : World) (L' : List HA), St w0 M w' L' → Rd w' (.slice ko kn kc) 1 kn (boolsV ks)) (hk : ks.length = kn) (t : Nat) (ht : t < 256) (ok : a.Ok) (hll : a.loose.length < 1000000) : Calls Tryz.prog 29 #[.pointer (some ⟨gr, 0, none⟩), .slice ko kn kc, .int .i64 (t : Int)] w fun e w' => e = .returned (.int .i64 (a.crashE (t : Int))) ∧ ∃ y, RefOk (a.crash ks (t : Int)) y ∧ St w0 M w' (rxP gr y ++ R) := by
  have hst : St w0 M w (.blk gr 57 x.hdr :: .blk x.gd 60 x.dc :: .row x.lv 96 3 x.loose.length x.lc :: (x.tail ++ R)) := hS
  have RO := hid ro
  clear hS ro
  have hE : a.crashE (t : Int) = 0 := by unfold AR.crashE; rw [if_neg ok.d0, decide_eq_true (by omega), decide_eq_true (by omega)]; rfl
  have hR : a.crash ks (t : Int) = a.crashed ks t := by unfold AR.crash; rw [hE]; rfl
  rw [hE, hR]
  clear hE hR
  have d1 : decide ((t : Int) < 0) = false := decide_eq_false (by omega)
  have d2 : decide ((t : Int) ≥ 256) = false := decide_eq_false (by omega)
  have d3 : decide (256 ≤ (t : Int)) = false := d2
  obtain ⟨B, hB⟩ : ∃ B : Nat → AR × Bool, B = crashN a ks t := ⟨_, rfl⟩
  have HB0 : Hid (B 0 = (a, true)) := hid (by rw [hB]; rfl)
  have HBS : Hid (∀ (j : Nat) (v : LW), a.loose[j]? = some v → B (j + 1) = crashF t (B j) v (ks.getD j false)) := hid (fun j v hv => by rw [hB]; exact crashN_succ hv)
  have HBL : Hid (∀ j, (B j).1.loose = a.loose) := hid (fun j => by rw [hB]; exact crashN_loose a ks t j)
  have HBG : Hid (∀ j, Good a (B j).1) := hid (fun j => by rw [hB]; exact crashN_good ok ks (by omega) j)
  have HFIN : Hid (a.crashed ks t = ⟨(B a.loose.length).1.devs.map clean, [], -1, false, a.steps⟩) := hid (by rw [hB]; rfl)
  have HBT : Hid (∀ j, (B j).1.steps = a.steps) := hid (fun j => by rw [hB]; exact crashN_steps a ks t j)
  clear hB
  have HOK := hid ok
  have HRR := hid hr
  have HKL := hid hk
  have hbk := (hr w _ hst).bd
  have hbk1 : kn ≤ 9223372036854775807 := by have := hbk.1; have := hbk.2.1; omega
  obtain ⟨lao, lc, hlv, _, _, _⟩ := row_form hst (.tail _ (.tail _ (.head _)))
  have HLV := hid hlv
  obtain ⟨nl, hnq⟩ : ∃ nl, nl = x.loose.length := ⟨_, rfl⟩
  have HNL := hid hnq
  have hnl : nl < 1000000 := by rw [hnq, RO.out.ln]; exact hll
  have HNA : Hid (nl = a.loose.length) := hid (by rw [hnq]; exact RO.out.ln)
  have HLV2 : Hid (x.lv = .slice lao nl lc) := hid (by rw [hnq]; exact hlv)
  clear hlv hnq ok hll hr hk hbk
  go_enter Tryz.func29, Tryz.ntmps29
  go_wp2_with (first | go_big_skip | go_big_guard | fail)
  go_loopw [7, 8] (fun f i wr => ∃ (j : Nat) (z : RX), j ≤ nl ∧ i = .int .i64 (j : Int) ∧ f = .bool (B j).2 ∧ Hid (RefOk (B j).1 z) ∧ Hid (z.loose = x.loose ∧ z.lv = x.lv) ∧ St w0 M wr (rxP gr z ++ R)) (fun _ i _ => nl - (intOf i).toNat)
  case atStart => exact ⟨0, x, Nat.zero_le _, rfl, by rw [HB0.out], hid (by rw [HB0.out]; exact RO.out), hid ⟨rfl, rfl⟩, hst⟩
  case round =>
    clear hst
    obtain ⟨j, z, hj, rfl, rfl, HZ, HSA, hst0⟩ := hrel
    have hst : St w0 M wr (.blk gr 57 z.hdr :: .blk z.gd 60 z.dc :: .row z.lv 96 3 z.loose.length z.lc :: (z.tail ++ R)) := hst0
    clear hst0
    have HH2 : Hid (z.hdr[2]? = some (.slice lao nl lc)) := hid (by show some z.lv = _; rw [HSA.out.2, HLV2.out])
    have HZL : Hid (z.loose.length = nl) := hid (by rw [HSA.out.1, HNL.out])
    by_cases hlj : j < nl
    · have e1 : decide ((j : Int) < (nl : Int)) = true := decide_eq_true (by omega)
      have z1 : IntKind.i64.wrap ((j : Int) + 1) = (j : Int) + 1 := IntWalk.i64_in _ (by omega)
      obtain ⟨v, hv⟩ : ∃ v, a.loose[j]? = some v := ⟨_, List.getElem?_eq_getElem (by rw [← HNA.out]; exact hlj)⟩
      obtain ⟨r, hr, h1, h2, hsr⟩ := HZ.out.lw j v (by rw [HBL.out]; exact hv)
      have hrd := Rd.row hst (.tail _ (.tail _ (.head _)))
      rw [HSA.out.2, HLV2.out, HZL.out] at hrd
      obtain ⟨lb, lo, rfl, _⟩ := Rd.at hrd hlj
      obtain ⟨bg, bc, hbv, hbc, hbm⟩ := row_some hst (.tail _ (.tail _ (.tail _ (List.mem_append_left _ (List.mem_append_right _ hsr))))) (by decide)
      obtain ⟨rd, rp, rb⟩ := r
      simp only at h1 h2 hbv
      subst hbv
      have HWR : Hid (wr.rangeAt lb (lo + j * 3) [.int .i64 (rd : Int), .int .i64 (rp : Int), .slice (some ⟨bg, 0, none⟩) 256 bc]) := hid (loose_rangeR hrd hr)
      have HBNX := hid (HBS.out j v hv)
      have hvl := HOK.out.lw v (List.mem_of_getElem? hv)
      have hgd := HBG.out j
      have hin : (B j).1.inD (rd : Int) = true := by
        rw [hgd.inD]
        unfold AR.inD
        simp only [Bool.and_eq_true, decide_eq_true_eq]
        rw [h1]
        omega
      have hku : rd < (B j).1.devs.length := by rw [hgd.len, h1]; exact hvl.1
      have hkz : rd < z.devs.length := by rw [HZ.out.dn]; exact hku
      have hfl : ((B j).1.dv (rd : Int)).firm.length = a.secs := (hgd.fm _ (List.mem_of_getElem? (devs_get hin))).1
      have hpu : rp < ((B j).1.dv (rd : Int)).firm.length := by rw [hfl, h2]; exact hvl.2.1
      have hpz : rp < (z.dv rd).f.sv.length := by rw [(HZ.out.dv rd hku).len]; exact hpu
      have HKU := hid hku
      have HKZ := hid hkz
      have HPZ := hid hpz
      have HPU := hid hpu
      have HINU := hid hin
      have HE1 := hid h1
      have HE2 := hid h2
      have HSR := hid hsr
      have HVL := hid hvl
      have HGD := hid hgd
      clear hr hv h1 h2 hsr hrd hvl hgd hin hku hkz hfl hpu hpz
      obtain ⟨kb, hkb⟩ : ∃ kb, kb = ks.getD j false := ⟨_, rfl⟩
      have HKB0 := hid hkb
      rw [← hkb] at HBNX
      clear hkb
      by_cases hjk : j < kn
      · obtain ⟨kb2, hkb2⟩ : ∃ q, ks[j]? = some q := ⟨_, List.getElem?_eq_getElem (by rw [HKL.out]; exact hjk)⟩
        have hke : kb2 = kb := by rw [HKB0.out, List.getD_eq_getElem?_getD, hkb2]; rfl
        subst hke
        obtain ⟨kbb, kbo, rfl, _⟩ := Rd.at (HRR.out wr _ hst) hjk
        have HKBF : Hid (∀ (w' : World) (L' : List HA), St w0 M w' L' → w'.cell? ⟨kbb, kbo + j, none⟩ = some (.bool kb2)) := hid (fun w' L' h => (HRR.out w' L' h).range j _ (by unfold boolsV; rw [List.getElem?_map, hkb2]; rfl))
        have e2 : decide ((j : Int) < (kn : Int)) = true := decide_eq_true (by omega)
        clear hkb2 HKB0
        cases kb2
        · cases hfb : (B j).2
          · have hB9 : B (j + 1) = B j := by rw [HBNX.out]; unfold crashF; rw [if_neg (by decide), if_neg (by rw [hfb]; decide)]
            have HB9 := hid hB9
            have HFB := hid hfb
            clear hB9 hfb
            go_wp2_with (first | go_big_skip | go_big_guard | (refine wl_loadE rfl rfl rfl ?_; first | refine ⟨_, Loads.at [] hst HH2.out, ?_⟩ | refine ⟨_, Loads.range (T := 96) (by exact TyA.out) HWR.out, ?_⟩ | refine ⟨_, Loads.range (T := 96) (by exact TyA.out) (by rw [Nat.zero_add] at *; exact HWR.out), ?_⟩) | (refine wl_index (k := j) rfl rfl rfl rfl hlj ?_) | (refine wl_alloc (T := 96) hst rfl rfl ?_; intro g9 w3 hs1; clear hst) | (refine wl_storeA (T := 96) (vs := [.int .i64 (rd : Int), .int .i64 (rp : Int), .slice (some ⟨bg, 0, none⟩) 256 bc]) [] hs1 rfl rfl rfl rfl rfl rfl rfl ?_; intro w4 hs2; clear hs1) | (refine wl_index (k := j) rfl rfl rfl rfl hjk ?_) | (refine wl_loadE rfl rfl rfl ?_; refine ⟨_, Loads.cell (T := 4) TyS.out (by rw [Nat.mul_one]; exact HKBF.out _ _ hs2), ?_⟩))
            go_roundw
            case rel => exact ⟨j + 1, z, by omega, rfl, by rw [HB9.out, HFB.out], hid (by rw [HB9.out]; exact HZ.out), HSA, St.sub hs2 (List.sublist_cons_self _ _)⟩
            case measure => simp [intOf]; omega
          · have hB9 : B (j + 1) = ((B j).1.upd (v.dev : Int) (tornF v.pl v.b t), false) := by rw [HBNX.out]; unfold crashF; rw [if_neg (by decide), if_pos (by rw [hfb])]
            have HTS : Hid (B (j + 1) = ((B j).1.upd (rd : Int) (setF rp (v.b.take t ++ (((B j).1.dv (rd : Int)).firm.getD rp []).drop t)), false)) := hid (by rw [hB9, ← HE1.out, ← HE2.out, torn_set HKU.out])
            clear hB9 hfb
            have HCZ0 := (HZ.out.cells HKU.out).1
            obtain ⟨nf, hnf⟩ : ∃ nf, nf = ((B j).1.dv (rd : Int)).firm.length := ⟨_, rfl⟩
            have HCZ : Hid (z.dc[rd * 5]? = some (.slice (some ⟨(z.dv rd).f.g, 0, none⟩) nf (z.dv rd).f.cap)) := hid (by rw [hnf]; exact HCZ0)
            have hpn : rp < nf := by rw [hnf]; exact HPU.out
            have hkzn := HKZ.out
            obtain ⟨v0, hv0, hs0⟩ := HZ.out.sect HKU.out HPU.out
            obtain ⟨gw, cw, hv0e, hcw, hcwm⟩ := row_some hst (.tail _ (.tail _ (.tail _ (List.mem_append_left _ (List.mem_append_right _ hs0))))) (by decide)
            subst hv0e
            have HV0 := hid hv0
            have HFT := hid (RX.ftail HKZ.out)
            obtain ⟨VB, hVB⟩ : ∃ VB, VB = v.b := ⟨_, rfl⟩
            obtain ⟨WB, hWB⟩ : ∃ WB, WB = ((B j).1.dv (rd : Int)).firm.getD rp [] := ⟨_, rfl⟩
            rw [← hVB, ← hWB] at HTS
            have HWL : Hid (WB.length = 256) := hid (by
              have h := St.all hst _ (.tail _ (.tail _ (.tail _ (List.mem_append_left _ (List.mem_append_right _ hs0)))))
              rw [← hWB] at h
              have := h.1
              rw [length_bytesV] at this
              omega)
            have hsr9 := HSR.out
            rw [← hVB] at hsr9
            rw [← hWB] at hs0
            have HSR2 := hid (List.mem_append_left R (List.mem_append_right (z.devs.map fblk) hsr9))
            have HSW2 := hid (List.mem_append_left R (List.mem_append_right (z.devs.map fblk) hs0))
            clear hsr9 hs0 hv0 HCZ0 hnf hVB hWB
            have hsl1 := fun w => sliceAt_hi bg bc t (by omega) w
            have hsl2 := fun w => sliceAt_lo gw cw t ht hcw w
            have hsl3 := fun w => slice_hi bg bc t (by omega) w
            have hsl4 := fun w => slice_lo gw cw t ht hcw w
            go_wp2_with (first | go_big_skip | go_big_guard | (refine wl_loadE rfl rfl rfl ?_; first | refine ⟨_, Loads.at [] hst HH2.out, ?_⟩ | refine ⟨_, Loads.range (T := 96) (by exact TyA.out) HWR.out, ?_⟩ | refine ⟨_, Loads.range (T := 96) (by exact TyA.out) (by rw [Nat.zero_add] at *; exact HWR.out), ?_⟩) | (refine wl_index (k := j) rfl rfl rfl rfl hlj ?_) | (refine wl_alloc (T := 96) hst rfl rfl ?_; intro g9 w3 hs1; clear hst) | (refine wl_storeA (T := 96) (vs := [.int .i64 (rd : Int), .int .i64 (rp : Int), .slice (some ⟨bg, 0, none⟩) 256 bc]) [] hs1 rfl rfl rfl rfl rfl rfl rfl ?_; intro w4 hs2; clear hs1) | (refine wl_index (k := j) rfl rfl rfl rfl hjk ?_) | (refine wl_loadE rfl rfl rfl ?_; refine ⟨_, Loads.cell (T := 4) TyS.out (by rw [Nat.mul_one]; exact HKBF.out _ _ hs2), ?_⟩))
            have hX := hs2.drew
            clear hs2
            refine wp_region_held_drew (S := (fun w' => (loadVarH 54 ⟨gr, 0, none⟩).run Tryz.prog w' = .ok (.slice (some ⟨z.gd, 0, none⟩) z.devs.length z.cd) w' ∧ (loadVarH 3 ⟨g9, 0, none⟩).run Tryz.prog w' = .ok (.int .i64 (rd : Int)) w' ∧ (loadVarH 3 ⟨g9, 1, none⟩).run Tryz.prog w' = .ok (.int .i64 (rp : Int)) w' ∧ (loadVarH 58 ⟨z.gd, rd * 5, none⟩).run Tryz.prog w' = .ok (.slice (some ⟨(z.dv rd).f.g, 0, none⟩) nf (z.dv rd).f.cap) w' ∧ (loadVarH 33 ⟨(z.dv rd).f.g, rp, none⟩).run Tryz.prog w' = .ok (.slice (some ⟨gw, 0, none⟩) 256 cw) w')) (by kernel_rfl) (by exact ⟨ldS [_] hX rfl, ldS [] hX rfl, ldS [] hX rfl, ldS [_, _] hX HCZ.out, Loads.cell TyS.out (St.cell hX (off := rp) (.tail _ (.tail _ (.tail _ (.tail _ (List.mem_append_left _ HFT.out))))) HV0.out)⟩) (fun hHeld => ?_)
            refine wpAnyH_take (i := 0) (oi := ⟨some 48, _, _, _, _, _⟩) (v := ?_) rfl (by kernel_rfl) (by kernel_rfl) (by kernel_rfl) (fun _ _ _ h => h) (Or.inl ⟨by rfl, ?_⟩) (by assumption) ?_
            rotate_left
            · intro w hSw; (try dsimp only at hSw); go_simp; try with_reducible rfl
            (try simp only [Act.put, List.setIfInBounds_toArray, List.set_cons_zero, List.set_cons_succ])
            refine wpAnyH_take (i := 4) (oi := ⟨some 52, _, _, _, _, _⟩) (v := ?_) rfl (by kernel_rfl) (by kernel_rfl) (by kernel_rfl) (fun _ _ _ h => h) (Or.inl ⟨by rfl, ?_⟩) (by assumption) ?_
            rotate_left
            · intro w hSw; (try dsimp only at hSw); go_simp; try with_reducible rfl
            (try simp only [Act.put, List.setIfInBounds_toArray, List.set_cons_zero, List.set_cons_succ])
            refine wpAnyH_take (i := 9) (oi := ⟨some 57, _, _, _, _, _⟩) (v := ?_) rfl (by kernel_rfl) (by kernel_rfl) (by kernel_rfl) (fun _ _ _ h => h) (Or.inl ⟨by rfl, ?_⟩) (by assumption) ?_
            rotate_left
            · intro w hSw; (try dsimp only at hSw); go_simp; try with_reducible rfl
            (try simp only [Act.put, List.setIfInBounds_toArray, List.set_cons_zero, List.set_cons_succ])
            refine wpAnyH_take (i := 1) (oi := ⟨some 49, _, _, _, _, _⟩) (v := ?_) rfl (by kernel_rfl) (by kernel_rfl) (by kernel_rfl) (fun _ _ _ h => h) (Or.inl ⟨by rfl, ?_⟩) (by assumption) ?_
            rotate_left
            · intro w hSw; (try dsimp only at hSw); go_simp; try with_reducible rfl
            (try simp only [Act.put, List.setIfInBounds_toArray, List.set_cons_zero, List.set_cons_succ])
            refine wpAnyH_take (i := 5) (oi := ⟨some 53, _, _, _, _, _⟩) (v := ?_) rfl (by kernel_rfl) (by kernel_rfl) (by kernel_rfl) (fun _ _ _ h => h) (Or.inl ⟨by rfl, ?_⟩) (by assumption) ?_
            rotate_left
            · intro w hSw; (try dsimp only at hSw); go_simp; try with_reducible rfl
            (try simp only [Act.put, List.setIfInBounds_toArray, List.set_cons_zero, List.set_cons_succ])
            refine wpAnyH_take (i := 10) (oi := ⟨some 58, _, _, _, _, _⟩) (v := ?_) rfl (by kernel_rfl) (by kernel_rfl) (by kernel_rfl) (fun _ _ _ h => h) (Or.inl ⟨by rfl, ?_⟩) (by assumption) ?_
            rotate_left
            · intro w hSw; (try dsimp only at hSw); go_simp; try with_reducible rfl
            (try simp only [Act.put, List.setIfInBounds_toArray, List.set_cons_zero, List.set_cons_succ])
            refine wpAnyH_take (i := 2) (oi := ⟨some 50, _, _, _, _, _⟩) (v := ?_) rfl (by kernel_rfl) (by kernel_rfl) (by kernel_rfl) (fun _ _ _ h => h) (Or.inl ⟨by rfl, ?_⟩) (by assumption) ?_
            rotate_left
            · intro w hSw; (try dsimp only at hSw); go_simp; try with_reducible rfl
            (try simp only [Act.put, List.setIfInBounds_toArray, List.set_cons_zero, List.set_cons_succ])
            refine wpAnyH_take (i := 3) (oi := ⟨some 51, _, _, _, _, _⟩) (v := ?_) rfl (by kernel_rfl) (by kernel_rfl) (by kernel_rfl) (fun _ _ _ h => h) (Or.inl ⟨by rfl, ?_⟩) (by assumption) ?_
            rotate_left
            · intro w hSw; (try dsimp only at hSw); go_simp; try with_reducible rfl
            (try simp only [Act.put, List.setIfInBounds_toArray, List.set_cons_zero, List.set_cons_succ])
            refine wpAnyH_take (i := 6) (oi := ⟨some 54, _, _, _, _, _⟩) (v := ?_) rfl (by kernel_rfl) (by kernel_rfl) (by kernel_rfl) (fun _ _ _ h => h) (Or.inl ⟨by rfl, ?_⟩) (by assumption) ?_
            rotate_left
            · intro w hSw; (try dsimp only at hSw); go_simp; try with_reducible rfl
            (try simp only [Act.put, List.setIfInBounds_toArray, List.set_cons_zero, List.set_cons_succ])
            refine wpAnyH_take (i := 7) (oi := ⟨some 55, _, _, _, _, _⟩) (v := ?_) rfl (by kernel_rfl) (by kernel_rfl) (by kernel_rfl) (fun _ _ _ h => h) (Or.inl ⟨by rfl, ?_⟩) (by assumption) ?_
            rotate_left
            · intro w hSw; (try dsimp only at hSw); go_simp; try with_reducible rfl
            (try simp only [Act.put, List.setIfInBounds_toArray, List.set_cons_zero, List.set_cons_succ])
            refine wpAnyH_take (i := 8) (oi := ⟨some 56, _, _, _, _, _⟩) (v := ?_) rfl (by kernel_rfl) (by kernel_rfl) (by kernel_rfl) (fun _ _ _ h => h) (Or.inl ⟨by rfl, ?_⟩) (by assumption) ?_
            rotate_left
            · intro w hSw; (try dsimp only at hSw); go_simp; try with_reducible rfl
            (try simp only [Act.put, List.setIfInBounds_toArray, List.set_cons_zero, List.set_cons_succ])
            refine wpAnyH_take (i := 11) (oi := ⟨some 59, _, _, _, _, _⟩) (v := ?_) rfl (by kernel_rfl) (by kernel_rfl) (by kernel_rfl) (fun _ _ _ h => h) (Or.inl ⟨by rfl, ?_⟩) (by assumption) ?_
            rotate_left
            · intro w hSw; (try dsimp only at hSw); go_simp; try with_reducible rfl
            (try simp only [Act.put, List.setIfInBounds_toArray, List.set_cons_zero, List.set_cons_succ])
            refine wpAnyH_take (i := 12) (oi := ⟨some 60, _, _, _, _, _⟩) (v := ?_) rfl (by kernel_rfl) (by kernel_rfl) (by kernel_rfl) (fun _ _ _ h => h) (Or.inl ⟨by rfl, ?_⟩) (by assumption) ?_
            rotate_left
            · intro w hSw; (try dsimp only at hSw); go_simp; try with_reducible rfl
            (try simp only [Act.put, List.setIfInBounds_toArray, List.set_cons_zero, List.set_cons_succ])
            refine wpAnyH_take (i := 13) (oi := ⟨some 10, _, _, _, _, _⟩) (v := ?_) rfl (by kernel_rfl) (by kernel_rfl) (by kernel_rfl) (fun _ _ _ h => h) (Or.inl ⟨by rfl, ?_⟩) (by assumption) ?_
            rotate_left
            · intro w hSw; (try dsimp only at hSw); go_simp; try with_reducible rfl
            (try simp only [Act.put, List.setIfInBounds_toArray, List.set_cons_zero, List.set_cons_succ])
            refine wpAnyH_done (by kernel_rfl) ?_ _
            clear hHeld
            go_wp2_with (first | go_big_skip | go_big_guard | fail)
            have hY := hX.drew
            clear hX
            refine wp_region_held_drew (S := (fun w' => True)) (by kernel_rfl) (by exact trivial) (fun hHeld => ?_)
            refine wpAnyH_take (i := 1) (oi := ⟨some 62, _, _, _, _, _⟩) (v := ?_) rfl (by kernel_rfl) (by kernel_rfl) (by kernel_rfl) (fun _ _ _ h => h) (Or.inl ⟨by rfl, ?_⟩) (by assumption) ?_
            rotate_left
            · intro w hSw; (try dsimp only at hSw); go_simp; try with_reducible rfl
            (try simp only [Act.put, List.setIfInBounds_toArray, List.set_cons_zero, List.set_cons_succ])
            refine wpAnyH_take (i := 3) (oi := ⟨some 64, _, _, _, _, _⟩) (v := ?_) rfl (by kernel_rfl) (by kernel_rfl) (by kernel_rfl) (fun _ _ _ h => h) (Or.inl ⟨by rfl, ?_⟩) (by assumption) ?_
            rotate_left
            · intro w hSw; (try dsimp only at hSw); go_simp; try with_reducible rfl
            (try simp only [Act.put, List.setIfInBounds_toArray, List.set_cons_zero, List.set_cons_succ])
            refine wpAnyH_take (i := 6) (oi := ⟨some 67, _, _, _, _, _⟩) (v := ?_) rfl (by kernel_rfl) (by kernel_rfl) (by kernel_rfl) (fun _ _ _ h => h) (Or.inl ⟨by rfl, ?_⟩) (by assumption) ?_
            rotate_left
            · intro w hSw; (try dsimp only at hSw); go_simp; try with_reducible rfl
            (try simp only [Act.put, List.setIfInBounds_toArray, List.set_cons_zero, List.set_cons_succ])
            refine wpAnyH_take (i := 7) (oi := ⟨some 68, _, _, _, _, _⟩) (v := ?_) rfl (by kernel_rfl) (by kernel_rfl) (by kernel_rfl) (fun _ _ _ h => h) (Or.inl ⟨by rfl, ?_⟩) (by assumption) ?_
            rotate_left
            · intro w hSw; (try dsimp only at hSw); go_simp; try with_reducible rfl
            (try simp only [Act.put, List.setIfInBounds_toArray, List.set_cons_zero, List.set_cons_succ])
            refine wpAnyH_take (i := 8) (oi := ⟨some 69, _, _, _, _, _⟩) (v := ?_) rfl (by kernel_rfl) (by kernel_rfl) (by kernel_rfl) (fun _ _ _ h => h) (Or.inl ⟨by rfl, ?_⟩) (by assumption) ?_
            rotate_left
            · intro w hSw; (try dsimp only at hSw); go_simp; try with_reducible rfl
            (try simp only [Act.put, List.setIfInBounds_toArray, List.set_cons_zero, List.set_cons_succ])
            refine wpAnyH_ready (rs := [0, 2]) (by kernel_rfl) (by simp) ?_
            refine (AllReadyH.cons (o := ⟨some 61, _, _, _, _, _⟩) rfl (fun K hK => ?_) (AllReadyH.cons (o := ⟨some 63, _, _, _, _, _⟩) rfl (fun K hK => ?_) AllReadyH.nil))
            · rw [if_pos (by rfl)]
              refine ow_of_wl (ops := #[]) (by rfl) ?_
              apply wl_bsX (T := 33) [] [] hY
              rfl
              rfl
              exact rfl
              exact rfl
              infer_instance
              infer_instance
              rfl
              rfl
              rfl
              intro g1 w6 hB0
              have hB1 := St.toRow (n := 0) (cap := 0) (sz := 1) hB0 rfl (Nat.le_refl _) (by decide)
              clear hB0
              refine q0_nil ?_
              refine hK.out _ _ ?_ (fun hHeld => ?_)
              · exact trivial
              clear hK K
              (try simp only [Act.put, List.setIfInBounds_toArray, List.set_cons_zero, List.set_cons_succ])
              refine wpAnyH_ready (rs := [2]) (by kernel_rfl) (by simp) ?_
              refine (AllReadyH.cons (o := ⟨some 63, _, _, _, _, _⟩) rfl (fun K hK => ?_) AllReadyH.nil)
              rw [if_pos (by rfl)]
              refine ow_of_wl (ops := #[]) (by rfl) ?_
              refine wl_loadE rfl rfl rfl ?_
              refine ⟨_, Loads.at [_] hB1 rfl, ?_⟩
              refine q0_nil ?_
              refine hK.out _ _ ?_ (fun hHeld => ?_)
              · exact trivial
              clear hK K
              (try simp only [Act.put, List.setIfInBounds_toArray, List.set_cons_zero, List.set_cons_succ])
              refine wpAnyH_take (i := 4) (oi := ⟨some 65, _, _, _, _, _⟩) (v := ?_) rfl (by kernel_rfl) (by kernel_rfl) (by kernel_rfl) (fun _ _ _ h => h) (Or.inl ⟨by rfl, ?_⟩) (by assumption) ?_
              rotate_left
              · intro w hSw; (try dsimp only at hSw); go_simp; try with_reducible rfl
              (try simp only [Act.put, List.setIfInBounds_toArray, List.set_cons_zero, List.set_cons_succ])
              refine wpAnyH_ready (rs := [5]) (by kernel_rfl) (by simp) ?_
              refine (AllReadyH.cons (o := ⟨some 66, _, _, _, _, _⟩) rfl (fun K hK => ?_) AllReadyH.nil)
              rw [if_pos (by rfl)]
              refine ow_of_wl (ops := #[]) (by rfl) ?_
              apply wl_appX (m := t) (ys := bytesV (VB.take t)) [] hB1
              rfl
              rfl
              exact rfl
              exact rfl
              infer_instance
              infer_instance
              infer_instance
              exact Rd.takeN (Rd.row hB1 (.tail _ (.tail _ (.tail _ (.tail _ (.tail _ HSR2.out)))))) (by omega)
              exact ones_bytesV _
              (refine ⟨by decide, by unfold maxLen; omega, by omega⟩)
              intro v1 w7 hB2 _
              refine q0_nil ?_
              refine hK.out _ _ ?_ (fun hHeld => ?_)
              · exact trivial
              clear hK K
              (try simp only [Act.put, List.setIfInBounds_toArray, List.set_cons_zero, List.set_cons_succ])
              refine wpAnyH_ready (rs := [9]) (by kernel_rfl) (by simp) ?_
              refine (AllReadyH.cons (o := ⟨some 70, _, _, _, _, _⟩) rfl (fun K hK => ?_) AllReadyH.nil)
              rw [if_pos (by rfl)]
              refine ow_of_wl (ops := #[]) (by rfl) ?_
              apply wl_appX (m := 256 - t) (ys := bytesV (WB.drop t)) [] hB2
              rfl
              rfl
              exact rfl
              exact rfl
              infer_instance
              infer_instance
              infer_instance
              have hrw := Rd.win (off' := t) (m := 256 - t) (c' := cw - t) t (Rd.row hB2 (.tail _ (.tail _ (.tail _ (.tail _ (.tail _ HSW2.out)))))) (by omega) (by omega) (by omega)
              rw [List.take_of_length_le (by rw [List.length_drop, HWL.out]; omega)] at hrw
              exact hrw
              exact ones_bytesV _
              (refine ⟨by decide, by unfold maxLen; omega, by omega⟩)
              intro v2 w8 hB3 _
              obtain ⟨ng, nc, rfl, _, _⟩ := row_some hB3 (.head _) (by omega)
              refine q0_nil ?_
              refine hK.out _ _ ?_ (fun hHeld => ?_)
              · exact trivial
              clear hK K
              (try simp only [Act.put, List.setIfInBounds_toArray, List.set_cons_zero, List.set_cons_succ])
              refine wpAnyH_take (i := 10) (oi := ⟨some 71, _, _, _, _, _⟩) (v := ?_) rfl (by kernel_rfl) (by kernel_rfl) (by kernel_rfl) (fun _ _ _ h => h) (Or.inl ⟨by rfl, ?_⟩) (by assumption) ?_
              rotate_left
              · intro w hSw; (try dsimp only at hSw); go_simp; try with_reducible rfl
              (try simp only [Act.put, List.setIfInBounds_toArray, List.set_cons_zero, List.set_cons_succ])
              refine wpAnyH_ready (rs := [11]) (by kernel_rfl) (by simp) ?_
              refine (AllReadyH.cons (o := ⟨none, _, _, _, _, _⟩) rfl (fun K hK => ?_) AllReadyH.nil)
              rw [if_pos (by rfl)]
              refine ow_of_wl (ops := #[]) (by rfl) ?_
              refine wl_store [_] hB3 rfl rfl rfl (v := .slice _ _ _) rfl rfl rfl (by show (2 : Nat) + 1 ≤ 3; decide) ?_
              intro w9 hB4
              refine q0_nil ?_
              refine hK.out _ _ ?_ (fun hHeld => ?_)
              · exact trivial
              clear hK K
              (try simp only [Act.put, List.setIfInBounds_toArray, List.set_cons_zero, List.set_cons_succ])
              refine wpAnyH_done (by kernel_rfl) ?_ _
              clear hHeld
              have hs7 : St w0 M w9 (.row (.slice (some ⟨ng, 0, none⟩) (0 + t + (256 - t)) nc) 5 1 (0 + t + (256 - t)) ((List.take (0 * 1) [] ++ bytesV (VB.take t)) ++ bytesV (WB.drop t)) :: .blk g9 96 [.int .i64 (rd : Int), .int .i64 (rp : Int), .slice (some ⟨ng, 0, none⟩) (0 + t + (256 - t)) nc] :: (rxP gr z ++ R)) := hB4
              clear hB4
              rw [show 0 + t + (256 - t) = 256 by omega, show (List.take (0 * 1) [] ++ bytesV (VB.take t)) ++ bytesV (WB.drop t) = bytesV (VB.take t ++ WB.drop t) by unfold bytesV; simp] at hs7
              have e256 : 0 + t + (256 - t) = 256 := by omega
              rw [e256]
              have hs8 : St w0 M w9 (rxP gr (addP z (.row (.slice (some ⟨ng, 0, none⟩) 256 nc) 5 1 256 (bytesV (VB.take t ++ WB.drop t)))) ++ (_ :: R)) := St.pool2 hs7
              clear hs7 e256
              go_wp2_with (first | go_big_skip | go_big_guard | (refine wl_loadE rfl rfl rfl ?_; refine ⟨_, Loads.atA (P := Tryz.prog) (T := 96) [.int .i64 (rd : Int), .int .i64 (rp : Int), .slice (some ⟨ng, 0, none⟩) 256 nc] _ hs8 rfl rfl, ?_⟩) | (go_at_call 63; refine (lay_r (R := .blk g9 96 [.int .i64 (rd : Int), .int .i64 (rp : Int), .slice (some ⟨ng, 0, none⟩) 256 nc] :: R) (x := addP z (.row (.slice (some ⟨ng, 0, none⟩) 256 nc) 5 1 256 (bytesV (VB.take t ++ WB.drop t)))) hs8 rd rp (some ⟨ng, 0, none⟩) 256 nc HKZ.out HPZ.out).mono ?_; rintro _ w5 ⟨rfl, h4⟩; have hs5 := St.offR h4; clear h4 hs8))
              go_roundw
              case rel =>
                have hM := HZ.out.more (q := z.pool ++ [.row (.slice (some ⟨ng, 0, none⟩) 256 nc) 5 1 256 (bytesV (VB.take t ++ WB.drop t))]) (fun y hy => List.mem_append_left _ hy)
                have hL := hM.lay (k := rd) (p := rp) (bv := .slice (some ⟨ng, 0, none⟩) 256 nc) (B := VB.take t ++ WB.drop t) HKU.out HPU.out (List.mem_append_right _ (.head _)) HINU.out
                exact ⟨j + 1, (addP z (.row (.slice (some ⟨ng, 0, none⟩) 256 nc) 5 1 256 (bytesV (VB.take t ++ WB.drop t)))).lay rd rp (.slice (some ⟨ng, 0, none⟩) 256 nc), by omega, rfl, by rw [HTS.out], hid (by rw [HTS.out]; exact hL), hid ⟨HSA.out.1, HSA.out.2⟩, hs5⟩
              case measure => simp [intOf]; omega
            · rw [if_pos (by rfl)]
              refine ow_of_wl (ops := #[]) (by rfl) ?_
              refine wl_loadE rfl rfl rfl ?_
              refine ⟨_, Loads.at [] hY rfl, ?_⟩
              refine q0_nil ?_
              refine hK.out _ _ ?_ (fun hHeld => ?_)
              · exact trivial
              clear hK K
              (try simp only [Act.put, List.setIfInBounds_toArray, List.set_cons_zero, List.set_cons_succ])
              refine wpAnyH_take (i := 4) (oi := ⟨some 65, _, _, _, _, _⟩) (v := ?_) rfl (by kernel_rfl) (by kernel_rfl) (by kernel_rfl) (fun _ _ _ h => h) (Or.inl ⟨by rfl, ?_⟩) (by assumption) ?_
              rotate_left
              · intro w hSw; (try dsimp only at hSw); go_simp; try with_reducible rfl
              (try simp only [Act.put, List.setIfInBounds_toArray, List.set_cons_zero, List.set_cons_succ])
              refine wpAnyH_ready (rs := [0]) (by kernel_rfl) (by simp) ?_
              refine (AllReadyH.cons (o := ⟨some 61, _, _, _, _, _⟩) rfl (fun K hK => ?_) AllReadyH.nil)
              rw [if_pos (by rfl)]
              refine ow_of_wl (ops := #[]) (by rfl) ?_
              apply wl_bsX (T := 33) [] [] hY
              rfl
              rfl
              exact rfl
              exact rfl
              infer_instance
              infer_instance
              rfl
              rfl
              rfl
              intro g1 w6 hB0
              have hB1 := St.toRow (n := 0) (cap := 0) (sz := 1) hB0 rfl (Nat.le_refl _) (by decide)
              clear hB0
              refine q0_nil ?_
              refine hK.out _ _ ?_ (fun hHeld => ?_)
              · exact trivial
              clear hK K
              (try simp only [Act.put, List.setIfInBounds_toArray, List.set_cons_zero, List.set_cons_succ])
              refine wpAnyH_ready (rs := [5]) (by kernel_rfl) (by simp) ?_
              refine (AllReadyH.cons (o := ⟨some 66, _, _, _, _, _⟩) rfl (fun K hK => ?_) AllReadyH.nil)
              rw [if_pos (by rfl)]
              refine ow_of_wl (ops := #[]) (by rfl) ?_
              apply wl_appX (m := t) (ys := bytesV (VB.take t)) [] hB1
              rfl
              rfl
              exact rfl
              exact rfl
              infer_instance
              infer_instance
              infer_instance
              exact Rd.takeN (Rd.row hB1 (.tail _ (.tail _ (.tail _ (.tail _ (.tail _ HSR2.out)))))) (by omega)
              exact ones_bytesV _
              (refine ⟨by decide, by unfold maxLen; omega, by omega⟩)
              intro v1 w7 hB2 _
              refine q0_nil ?_
              refine hK.out _ _ ?_ (fun hHeld => ?_)
              · exact trivial
              clear hK K
              (try simp only [Act.put, List.setIfInBounds_toArray, List.set_cons_zero, List.set_cons_succ])
              refine wpAnyH_ready (rs := [9]) (by kernel_rfl) (by simp) ?_
              refine (AllReadyH.cons (o := ⟨some 70, _, _, _, _, _⟩) rfl (fun K hK => ?_) AllReadyH.nil)
              rw [if_pos (by rfl)]
              refine ow_of_wl (ops := #[]) (by rfl) ?_
              apply wl_appX (m := 256 - t) (ys := bytesV (WB.drop t)) [] hB2
              rfl
              rfl
              exact rfl
              exact rfl
              infer_instance
              infer_instance
              infer_instance
              have hrw := Rd.win (off' := t) (m := 256 - t) (c' := cw - t) t (Rd.row hB2 (.tail _ (.tail _ (.tail _ (.tail _ (.tail _ HSW2.out)))))) (by omega) (by omega) (by omega)
              rw [List.take_of_length_le (by rw [List.length_drop, HWL.out]; omega)] at hrw
              exact hrw
              exact ones_bytesV _
              (refine ⟨by decide, by unfold maxLen; omega, by omega⟩)
              intro v2 w8 hB3 _
              obtain ⟨ng, nc, rfl, _, _⟩ := row_some hB3 (.head _) (by omega)
              refine q0_nil ?_
              refine hK.out _ _ ?_ (fun hHeld => ?_)
              · exact trivial
              clear hK K
              (try simp only [Act.put, List.setIfInBounds_toArray, List.set_cons_zero, List.set_cons_succ])
              refine wpAnyH_take (i := 10) (oi := ⟨some 71, _, _, _, _, _⟩) (v := ?_) rfl (by kernel_rfl) (by kernel_rfl) (by kernel_rfl) (fun _ _ _ h => h) (Or.inl ⟨by rfl, ?_⟩) (by assumption) ?_
              rotate_left
              · intro w hSw; (try dsimp only at hSw); go_simp; try with_reducible rfl
              (try simp only [Act.put, List.setIfInBounds_toArray, List.set_cons_zero, List.set_cons_succ])
              refine wpAnyH_ready (rs := [11]) (by kernel_rfl) (by simp) ?_
              refine (AllReadyH.cons (o := ⟨none, _, _, _, _, _⟩) rfl (fun K hK => ?_) AllReadyH.nil)
              rw [if_pos (by rfl)]
              refine ow_of_wl (ops := #[]) (by rfl) ?_
              refine wl_store [_] hB3 rfl rfl rfl (v := .slice _ _ _) rfl rfl rfl (by show (2 : Nat) + 1 ≤ 3; decide) ?_
              intro w9 hB4
              refine q0_nil ?_
              refine hK.out _ _ ?_ (fun hHeld => ?_)
              · exact trivial
              clear hK K
              (try simp only [Act.put, List.setIfInBounds_toArray, List.set_cons_zero, List.set_cons_succ])
              refine wpAnyH_done (by kernel_rfl) ?_ _
              clear hHeld
              have hs7 : St w0 M w9 (.row (.slice (some ⟨ng, 0, none⟩) (0 + t + (256 - t)) nc) 5 1 (0 + t + (256 - t)) ((List.take (0 * 1) [] ++ bytesV (VB.take t)) ++ bytesV (WB.drop t)) :: .blk g9 96 [.int .i64 (rd : Int), .int .i64 (rp : Int), .slice (some ⟨ng, 0, none⟩) (0 + t + (256 - t)) nc] :: (rxP gr z ++ R)) := hB4
              clear hB4
              rw [show 0 + t + (256 - t) = 256 by omega, show (List.take (0 * 1) [] ++ bytesV (VB.take t)) ++ bytesV (WB.drop t) = bytesV (VB.take t ++ WB.drop t) by unfold bytesV; simp] at hs7
              have e256 : 0 + t + (256 - t) = 256 := by omega
              rw [e256]
              have hs8 : St w0 M w9 (rxP gr (addP z (.row (.slice (some ⟨ng, 0, none⟩) 256 nc) 5 1 256 (bytesV (VB.take t ++ WB.drop t)))) ++ (_ :: R)) := St.pool2 hs7
              clear hs7 e256
              go_wp2_with (first | go_big_skip | go_big_guard | (refine wl_loadE rfl rfl rfl ?_; refine ⟨_, Loads.atA (P := Tryz.prog) (T := 96) [.int .i64 (rd : Int), .int .i64 (rp : Int), .slice (some ⟨ng, 0, none⟩) 256 nc] _ hs8 rfl rfl, ?_⟩) | (go_at_call 63; refine (lay_r (R := .blk g9 96 [.int .i64 (rd : Int), .int .i64 (rp : Int), .slice (some ⟨ng, 0, none⟩) 256 nc] :: R) (x := addP z (.row (.slice (some ⟨ng, 0, none⟩) 256 nc) 5 1 256 (bytesV (VB.take t ++ WB.drop t)))) hs8 rd rp (some ⟨ng, 0, none⟩) 256 nc HKZ.out HPZ.out).mono ?_; rintro _ w5 ⟨rfl, h4⟩; have hs5 := St.offR h4; clear h4 hs8))
              go_roundw
              case rel =>
                have hM := HZ.out.more (q := z.pool ++ [.row (.slice (some ⟨ng, 0, none⟩) 256 nc) 5 1 256 (bytesV (VB.take t ++ WB.drop t))]) (fun y hy => List.mem_append_left _ hy)
                have hL := hM.lay (k := rd) (p := rp) (bv := .slice (some ⟨ng, 0, none⟩) 256 nc) (B := VB.take t ++ WB.drop t) HKU.out HPU.out (List.mem_append_right _ (.head _)) HINU.out
                exact ⟨j + 1, (addP z (.row (.slice (some ⟨ng, 0, none⟩) 256 nc) 5 1 256 (bytesV (VB.take t ++ WB.drop t)))).lay rd rp (.slice (some ⟨ng, 0, none⟩) 256 nc), by omega, rfl, by rw [HTS.out], hid (by rw [HTS.out]; exact hL), hid ⟨HSA.out.1, HSA.out.2⟩, hs5⟩
              case measure => simp [intOf]; omega
        · have hB9 : B (j + 1) = ((B j).1.upd (v.dev : Int) (setF v.pl v.b), (B j).2) := by rw [HBNX.out]; rfl
          have HB9 := hid hB9
          clear hB9
          go_wp2_with (first | go_big_skip | go_big_guard | (refine wl_loadE rfl rfl rfl ?_; first | refine ⟨_, Loads.at [] hst HH2.out, ?_⟩ | refine ⟨_, Loads.range (T := 96) (by exact TyA.out) HWR.out, ?_⟩ | refine ⟨_, Loads.range (T := 96) (by exact TyA.out) (by rw [Nat.zero_add] at *; exact HWR.out), ?_⟩) | (refine wl_index (k := j) rfl rfl rfl rfl hlj ?_) | (refine wl_alloc (T := 96) hst rfl rfl ?_; intro g9 w3 hs1; clear hst) | (refine wl_storeA (T := 96) (vs := [.int .i64 (rd : Int), .int .i64 (rp : Int), .slice (some ⟨bg, 0, none⟩) 256 bc]) [] hs1 rfl rfl rfl rfl rfl rfl rfl ?_; intro w4 hs2; clear hs1) | (refine wl_index (k := j) rfl rfl rfl rfl hjk ?_) | (refine wl_loadE rfl rfl rfl ?_; refine ⟨_, Loads.cell (T := 4) TyS.out (by rw [Nat.mul_one]; exact HKBF.out _ _ hs2), ?_⟩) | (refine wl_loadE rfl rfl rfl ?_; refine ⟨_, Loads.atA (P := Tryz.prog) (T := 96) [.int .i64 (rd : Int), .int .i64 (rp : Int), .slice (some ⟨bg, 0, none⟩) 256 bc] [] hs2 rfl rfl, ?_⟩) | (go_at_call 63; refine (lay_r (R := .blk g9 96 [.int .i64 (rd : Int), .int .i64 (rp : Int), .slice (some ⟨bg, 0, none⟩) 256 bc] :: R) (x := z) (St.toR hs2) rd rp (some ⟨bg, 0, none⟩) 256 bc HKZ.out HPZ.out).mono ?_; rintro _ w5 ⟨rfl, h4⟩; have hs5 := St.offR h4; clear h4 hs2))
          go_roundw
          case rel =>
            have hL := HZ.out.lay (k := rd) (p := rp) (bv := .slice (some ⟨bg, 0, none⟩) 256 bc) (B := v.b) HKU.out HPU.out HSR.out HINU.out
            exact ⟨j + 1, z.lay rd rp (.slice (some ⟨bg, 0, none⟩) 256 bc), by omega, rfl, by rw [HB9.out], hid (by rw [HB9.out, ← HE1.out, ← HE2.out]; exact hL), hid ⟨HSA.out.1, HSA.out.2⟩, hs5⟩
          case measure => simp [intOf]; omega
      · have hkf : kb = false := by rw [HKB0.out, List.getD_eq_getElem?_getD, List.getElem?_eq_none (by rw [HKL.out]; omega)]; rfl
        subst hkf
        have e2 : decide ((j : Int) < (kn : Int)) = false := decide_eq_false (by omega)
        clear HKB0
        cases hfb : (B j).2
        · have hB9 : B (j + 1) = B j := by rw [HBNX.out]; unfold crashF; rw [if_neg (by decide), if_neg (by rw [hfb]; decide)]
          have HB9 := hid hB9
          have HFB := hid hfb
          clear hB9 hfb
          go_wp2_with (first | go_big_skip | go_big_guard | (refine wl_loadE rfl rfl rfl ?_; first | refine ⟨_, Loads.at [] hst HH2.out, ?_⟩ | refine ⟨_, Loads.range (T := 96) (by exact TyA.out) HWR.out, ?_⟩ | refine ⟨_, Loads.range (T := 96) (by exact TyA.out) (by rw [Nat.zero_add] at *; exact HWR.out), ?_⟩) | (refine wl_index (k := j) rfl rfl rfl rfl hlj ?_) | (refine wl_alloc (T := 96) hst rfl rfl ?_; intro g9 w3 hs1; clear hst) | (refine wl_storeA (T := 96) (vs := [.int .i64 (rd : Int), .int .i64 (rp : Int), .slice (some ⟨bg, 0, none⟩) 256 bc]) [] hs1 rfl rfl rfl rfl rfl rfl rfl ?_; intro w4 hs2; clear hs1))
          go_roundw
          case rel => exact ⟨j + 1, z, by omega, rfl, by rw [HB9.out, HFB.out], hid (by rw [HB9.out]; exact HZ.out), HSA, St.sub hs2 (List.sublist_cons_self _ _)⟩
          case measure => simp [intOf]; omega
        · have hB9 : B (j + 1) = ((B j).1.upd (v.dev : Int) (tornF v.pl v.b t), false) := by rw [HBNX.out]; unfold crashF; rw [if_neg (by decide), if_pos (by rw [hfb])]
          have HTS : Hid (B (j + 1) = ((B j).1.upd (rd : Int) (setF rp (v.b.take t ++ (((B j).1.dv (rd : Int)).firm.getD rp []).drop t)), false)) := hid (by rw [hB9, ← HE1.out, ← HE2.out, torn_set HKU.out])
          clear hB9 hfb
          have HCZ0 := (HZ.out.cells HKU.out).1
          obtain ⟨nf, hnf⟩ : ∃ nf, nf = ((B j).1.dv (rd : Int)).firm.length := ⟨_, rfl⟩
          have HCZ : Hid (z.dc[rd * 5]? = some (.slice (some ⟨(z.dv rd).f.g, 0, none⟩) nf (z.dv rd).f.cap)) := hid (by rw [hnf]; exact HCZ0)
          have hpn : rp < nf := by rw [hnf]; exact HPU.out
          have hkzn := HKZ.out
          obtain ⟨v0, hv0, hs0⟩ := HZ.out.sect HKU.out HPU.out
          obtain ⟨gw, cw, hv0e, hcw, hcwm⟩ := row_some hst (.tail _ (.tail _ (.tail _ (List.mem_append_left _ (List.mem_append_right _ hs0))))) (by decide)
          subst hv0e
          have HV0 := hid hv0
          have HFT := hid (RX.ftail HKZ.out)
          obtain ⟨VB, hVB⟩ : ∃ VB, VB = v.b := ⟨_, rfl⟩
          obtain ⟨WB, hWB⟩ : ∃ WB, WB = ((B j).1.dv (rd : Int)).firm.getD rp [] := ⟨_, rfl⟩
          rw [← hVB, ← hWB] at HTS
          have HWL : Hid (WB.length = 256) := hid (by
            have h := St.all hst _ (.tail _ (.tail _ (.tail _ (List.mem_append_left _ (List.mem_append_right _ hs0)))))
            rw [← hWB] at h
            have := h.1
            rw [length_bytesV] at this
            omega)
          have hsr9 := HSR.out
          rw [← hVB] at hsr9
          rw [← hWB] at hs0
          have HSR2 := hid (List.mem_append_left R (List.mem_append_right (z.devs.map fblk) hsr9))
          have HSW2 := hid (List.mem_append_left R (List.mem_append_right (z.devs.map fblk) hs0))
          clear hsr9 hs0 hv0 HCZ0 hnf hVB hWB
          have hsl1 := fun w => sliceAt_hi bg bc t (by omega) w
          have hsl2 := fun w => sliceAt_lo gw cw t ht hcw w
          have hsl3 := fun w => slice_hi bg bc t (by omega) w
          have hsl4 := fun w => slice_lo gw cw t ht hcw w
          go_wp2_with (first | go_big_skip | go_big_guard | (refine wl_loadE rfl rfl rfl ?_; first | refine ⟨_, Loads.at [] hst HH2.out, ?_⟩ | refine ⟨_, Loads.range (T := 96) (by exact TyA.out) HWR.out, ?_⟩ | refine ⟨_, Loads.range (T := 96) (by exact TyA.out) (by rw [Nat.zero_add] at *; exact HWR.out), ?_⟩) | (refine wl_index (k := j) rfl rfl rfl rfl hlj ?_) | (refine wl_alloc (T := 96) hst rfl rfl ?_; intro g9 w3 hs1; clear hst) | (refine wl_storeA (T := 96) (vs := [.int .i64 (rd : Int), .int .i64 (rp : Int), .slice (some ⟨bg, 0, none⟩) 256 bc]) [] hs1 rfl rfl rfl rfl rfl rfl rfl ?_; intro w4 hs2; clear hs1))
          have hX := hs2.drew
          clear hs2
          refine wp_region_held_drew (S := (fun w' => (loadVarH 54 ⟨gr, 0, none⟩).run Tryz.prog w' = .ok (.slice (some ⟨z.gd, 0, none⟩) z.devs.length z.cd) w' ∧ (loadVarH 3 ⟨g9, 0, none⟩).run Tryz.prog w' = .ok (.int .i64 (rd : Int)) w' ∧ (loadVarH 3 ⟨g9, 1, none⟩).run Tryz.prog w' = .ok (.int .i64 (rp : Int)) w' ∧ (loadVarH 58 ⟨z.gd, rd * 5, none⟩).run Tryz.prog w' = .ok (.slice (some ⟨(z.dv rd).f.g, 0, none⟩) nf (z.dv rd).f.cap) w' ∧ (loadVarH 33 ⟨(z.dv rd).f.g, rp, none⟩).run Tryz.prog w' = .ok (.slice (some ⟨gw, 0, none⟩) 256 cw) w')) (by kernel_rfl) (by exact ⟨ldS [_] hX rfl, ldS [] hX rfl, ldS [] hX rfl, ldS [_, _] hX HCZ.out, Loads.cell TyS.out (St.cell hX (off := rp) (.tail _ (.tail _ (.tail _ (.tail _ (List.mem_append_left _ HFT.out))))) HV0.out)⟩) (fun hHeld => ?_)
          refine wpAnyH_take (i := 0) (oi := ⟨some 48, _, _, _, _, _⟩) (v := ?_) rfl (by kernel_rfl) (by kernel_rfl) (by kernel_rfl) (fun _ _ _ h => h) (Or.inl ⟨by rfl, ?_⟩) (by assumption) ?_
          rotate_left
          · intro w hSw; (try dsimp only at hSw); go_simp; try with_reducible rfl
          (try simp only [Act.put, List.setIfInBounds_toArray, List.set_cons_zero, List.set_cons_succ])
          refine wpAnyH_take (i := 4) (oi := ⟨some 52, _, _, _, _, _⟩) (v := ?_) rfl (by kernel_rfl) (by kernel_rfl) (by kernel_rfl) (fun _ _ _ h => h) (Or.inl ⟨by rfl, ?_⟩) (by assumption) ?_
          rotate_left
          · intro w hSw; (try dsimp only at hSw); go_simp; try with_reducible rfl
          (try simp only [Act.put, List.setIfInBounds_toArray, List.set_cons_zero, List.set_cons_succ])
          refine wpAnyH_take (i := 9) (oi := ⟨some 57, _, _, _, _, _⟩) (v := ?_) rfl (by kernel_rfl) (by kernel_rfl) (by kernel_rfl) (fun _ _ _ h => h) (Or.inl ⟨by rfl, ?_⟩) (by assumption) ?_
          rotate_left
          · intro w hSw; (try dsimp only at hSw); go_simp; try with_reducible rfl
          (try simp only [Act.put, List.setIfInBounds_toArray, List.set_cons_zero, List.set_cons_succ])
          refine wpAnyH_take (i := 1) (oi := ⟨some 49, _, _, _, _, _⟩) (v := ?_) rfl (by kernel_rfl) (by kernel_rfl) (by kernel_rfl) (fun _ _ _ h => h) (Or.inl ⟨by rfl, ?_⟩) (by assumption) ?_
          rotate_left
          · intro w hSw; (try dsimp only at hSw); go_simp; try with_reducible rfl
          (try simp only [Act.put, List.setIfInBounds_toArray, List.set_cons_zero, List.set_cons_succ])
          refine wpAnyH_take (i := 5) (oi := ⟨some 53, _, _, _, _, _⟩) (v := ?_) rfl (by kernel_rfl) (by kernel_rfl) (by kernel_rfl) (fun _ _ _ h => h) (Or.inl ⟨by rfl, ?_⟩) (by assumption) ?_
          rotate_left
          · intro w hSw; (try dsimp only at hSw); go_simp; try with_reducible rfl
          (try simp only [Act.put, List.setIfInBounds_toArray, List.set_cons_zero, List.set_cons_succ])
          refine wpAnyH_take (i := 10) (oi := ⟨some 58, _, _, _, _, _⟩) (v := ?_) rfl (by kernel_rfl) (by kernel_rfl) (by kernel_rfl) (fun _ _ _ h => h) (Or.inl ⟨by rfl, ?_⟩) (by assumption) ?_
          rotate_left
          · intro w hSw; (try dsimp only at hSw); go_simp; try with_reducible rfl
          (try simp only [Act.put, List.setIfInBounds_toArray, List.set_cons_zero, List.set_cons_succ])
          refine wpAnyH_take (i := 2) (oi := ⟨some 50, _, _, _, _, _⟩) (v := ?_) rfl (by kernel_rfl) (by kernel_rfl) (by kernel_rfl) (fun _ _ _ h => h) (Or.inl ⟨by rfl, ?_⟩) (by assumption) ?_
          rotate_left
          · intro w hSw; (try dsimp only at hSw); go_simp; try with_reducible rfl
          (try simp only [Act.put, List.setIfInBounds_toArray, List.set_cons_zero, List.set_cons_succ])
          refine wpAnyH_take (i := 3) (oi := ⟨some 51, _, _, _, _, _⟩) (v := ?_) rfl (by kernel_rfl) (by kernel_rfl) (by kernel_rfl) (fun _ _ _ h => h) (Or.inl ⟨by rfl, ?_⟩) (by assumption) ?_
          rotate_left
          · intro w hSw; (try dsimp only at hSw); go_simp; try with_reducible rfl
          (try simp only [Act.put, List.setIfInBounds_toArray, List.set_cons_zero, List.set_cons_succ])
          refine wpAnyH_take (i := 6) (oi := ⟨some 54, _, _, _, _, _⟩) (v := ?_) rfl (by kernel_rfl) (by kernel_rfl) (by kernel_rfl) (fun _ _ _ h => h) (Or.inl ⟨by rfl, ?_⟩) (by assumption) ?_
          rotate_left
          · intro w hSw; (try dsimp only at hSw); go_simp; try with_reducible rfl
          (try simp only [Act.put, List.setIfInBounds_toArray, List.set_cons_zero, List.set_cons_succ])
          refine wpAnyH_take (i := 7) (oi := ⟨some 55, _, _, _, _, _⟩) (v := ?_) rfl (by kernel_rfl) (by kernel_rfl) (by kernel_rfl) (fun _ _ _ h => h) (Or.inl ⟨by rfl, ?_⟩) (by assumption) ?_
          rotate_left
          · intro w hSw; (try dsimp only at hSw); go_simp; try with_reducible rfl
          (try simp only [Act.put, List.setIfInBounds_toArray, List.set_cons_zero, List.set_cons_succ])
          refine wpAnyH_take (i := 8) (oi := ⟨some 56, _, _, _, _, _⟩) (v := ?_) rfl (by kernel_rfl) (by kernel_rfl) (by kernel_rfl) (fun _ _ _ h => h) (Or.inl ⟨by rfl, ?_⟩) (by assumption) ?_
          rotate_left
          · intro w hSw; (try dsimp only at hSw); go_simp; try with_reducible rfl
          (try simp only [Act.put, List.setIfInBounds_toArray, List.set_cons_zero, List.set_cons_succ])
          refine wpAnyH_take (i := 11) (oi := ⟨some 59, _, _, _, _, _⟩) (v := ?_) rfl (by kernel_rfl) (by kernel_rfl) (by kernel_rfl) (fun _ _ _ h => h) (Or.inl ⟨by rfl, ?_⟩) (by assumption) ?_
          rotate_left
          · intro w hSw; (try dsimp only at hSw); go_simp; try with_reducible rfl
          (try simp only [Act.put, List.setIfInBounds_toArray, List.set_cons_zero, List.set_cons_succ])
          refine wpAnyH_take (i := 12) (oi := ⟨some 60, _, _, _, _, _⟩) (v := ?_) rfl (by kernel_rfl) (by kernel_rfl) (by kernel_rfl) (fun _ _ _ h => h) (Or.inl ⟨by rfl, ?_⟩) (by assumption) ?_
          rotate_left
          · intro w hSw; (try dsimp only at hSw); go_simp; try with_reducible rfl
          (try simp only [Act.put, List.setIfInBounds_toArray, List.set_cons_zero, List.set_cons_succ])
          refine wpAnyH_take (i := 13) (oi := ⟨some 10, _, _, _, _, _⟩) (v := ?_) rfl (by kernel_rfl) (by kernel_rfl) (by kernel_rfl) (fun _ _ _ h => h) (Or.inl ⟨by rfl, ?_⟩) (by assumption) ?_
          rotate_left
          · intro w hSw; (try dsimp only at hSw); go_simp; try with_reducible rfl
          (try simp only [Act.put, List.setIfInBounds_toArray, List.set_cons_zero, List.set_cons_succ])
          refine wpAnyH_done (by kernel_rfl) ?_ _
          clear hHeld
          go_wp2_with (first | go_big_skip | go_big_guard | fail)
          have hY := hX.drew
          clear hX
          refine wp_region_held_drew (S := (fun w' => True)) (by kernel_rfl) (by exact trivial) (fun hHeld => ?_)
          refine wpAnyH_take (i := 1) (oi := ⟨some 62, _, _, _, _, _⟩) (v := ?_) rfl (by kernel_rfl) (by kernel_rfl) (by kernel_rfl) (fun _ _ _ h => h) (Or.inl ⟨by rfl, ?_⟩) (by assumption) ?_
          rotate_left
          · intro w hSw; (try dsimp only at hSw); go_simp; try with_reducible rfl
          (try simp only [Act.put, List.setIfInBounds_toArray, List.set_cons_zero, List.set_cons_succ])
          refine wpAnyH_take (i := 3) (oi := ⟨some 64, _, _, _, _, _⟩) (v := ?_) rfl (by kernel_rfl) (by kernel_rfl) (by kernel_rfl) (fun _ _ _ h => h) (Or.inl ⟨by rfl, ?_⟩) (by assumption) ?_
          rotate_left
          · intro w hSw; (try dsimp only at hSw); go_simp; try with_reducible rfl
          (try simp only [Act.put, List.setIfInBounds_toArray, List.set_cons_zero, List.set_cons_succ])
          refine wpAnyH_take (i := 6) (oi := ⟨some 67, _, _, _, _, _⟩) (v := ?_) rfl (by kernel_rfl) (by kernel_rfl) (by kernel_rfl) (fun _ _ _ h => h) (Or.inl ⟨by rfl, ?_⟩) (by assumption) ?_
          rotate_left
          · intro w hSw; (try dsimp only at hSw); go_simp; try with_reducible rfl
          (try simp only [Act.put, List.setIfInBounds_toArray, List.set_cons_zero, List.set_cons_succ])
          refine wpAnyH_take (i := 7) (oi := ⟨some 68, _, _, _, _, _⟩) (v := ?_) rfl (by kernel_rfl) (by kernel_rfl) (by kernel_rfl) (fun _ _ _ h => h) (Or.inl ⟨by rfl, ?_⟩) (by assumption) ?_
          rotate_left
          · intro w hSw; (try dsimp only at hSw); go_simp; try with_reducible rfl
          (try simp only [Act.put, List.setIfInBounds_toArray, List.set_cons_zero, List.set_cons_succ])
          refine wpAnyH_take (i := 8) (oi := ⟨some 69, _, _, _, _, _⟩) (v := ?_) rfl (by kernel_rfl) (by kernel_rfl) (by kernel_rfl) (fun _ _ _ h => h) (Or.inl ⟨by rfl, ?_⟩) (by assumption) ?_
          rotate_left
          · intro w hSw; (try dsimp only at hSw); go_simp; try with_reducible rfl
          (try simp only [Act.put, List.setIfInBounds_toArray, List.set_cons_zero, List.set_cons_succ])
          refine wpAnyH_ready (rs := [0, 2]) (by kernel_rfl) (by simp) ?_
          refine (AllReadyH.cons (o := ⟨some 61, _, _, _, _, _⟩) rfl (fun K hK => ?_) (AllReadyH.cons (o := ⟨some 63, _, _, _, _, _⟩) rfl (fun K hK => ?_) AllReadyH.nil))
          · rw [if_pos (by rfl)]
            refine ow_of_wl (ops := #[]) (by rfl) ?_
            apply wl_bsX (T := 33) [] [] hY
            rfl
            rfl
            exact rfl
            exact rfl
            infer_instance
            infer_instance
            rfl
            rfl
            rfl
            intro g1 w6 hB0
            have hB1 := St.toRow (n := 0) (cap := 0) (sz := 1) hB0 rfl (Nat.le_refl _) (by decide)
            clear hB0
            refine q0_nil ?_
            refine hK.out _ _ ?_ (fun hHeld => ?_)
            · exact trivial
            clear hK K
            (try simp only [Act.put, List.setIfInBounds_toArray, List.set_cons_zero, List.set_cons_succ])
            refine wpAnyH_ready (rs := [2]) (by kernel_rfl) (by simp) ?_
            refine (AllReadyH.cons (o := ⟨some 63, _, _, _, _, _⟩) rfl (fun K hK => ?_) AllReadyH.nil)
            rw [if_pos (by rfl)]
            refine ow_of_wl (ops := #[]) (by rfl) ?_
            refine wl_loadE rfl rfl rfl ?_
            refine ⟨_, Loads.at [_] hB1 rfl, ?_⟩
            refine q0_nil ?_
            refine hK.out _ _ ?_ (fun hHeld => ?_)
            · exact trivial
            clear hK K
            (try simp only [Act.put, List.setIfInBounds_toArray, List.set_cons_zero, List.set_cons_succ])
            refine wpAnyH_take (i := 4) (oi := ⟨some 65, _, _, _, _, _⟩) (v := ?_) rfl (by kernel_rfl) (by kernel_rfl) (by kernel_rfl) (fun _ _ _ h => h) (Or.inl ⟨by rfl, ?_⟩) (by assumption) ?_
            rotate_left
            · intro w hSw; (try dsimp only at hSw); go_simp; try with_reducible rfl
            (try simp only [Act.put, List.setIfInBounds_toArray, List.set_cons_zero, List.set_cons_succ])
            refine wpAnyH_ready (rs := [5]) (by kernel_rfl) (by simp) ?_
            refine (AllReadyH.cons (o := ⟨some 66, _, _, _, _, _⟩) rfl (fun K hK => ?_) AllReadyH.nil)
            rw [if_pos (by rfl)]
            refine ow_of_wl (ops := #[]) (by rfl) ?_
            apply wl_appX (m := t) (ys := bytesV (VB.take t)) [] hB1
            rfl
            rfl
            exact rfl
            exact rfl
            infer_instance
            infer_instance
            infer_instance
            exact Rd.takeN (Rd.row hB1 (.tail _ (.tail _ (.tail _ (.tail _ (.tail _ HSR2.out)))))) (by omega)
            exact ones_bytesV _
            (refine ⟨by decide, by unfold maxLen; omega, by omega⟩)
            intro v1 w7 hB2 _
            refine q0_nil ?_
            refine hK.out _ _ ?_ (fun hHeld => ?_)
            · exact trivial
            clear hK K
            (try simp only [Act.put, List.setIfInBounds_toArray, List.set_cons_zero, List.set_cons_succ])
            refine wpAnyH_ready (rs := [9]) (by kernel_rfl) (by simp) ?_
            refine (AllReadyH.cons (o := ⟨some 70, _, _, _, _, _⟩) rfl (fun K hK => ?_) AllReadyH.nil)
            rw [if_pos (by rfl)]
            refine ow_of_wl (ops := #[]) (by rfl) ?_
            apply wl_appX (m := 256 - t) (ys := bytesV (WB.drop t)) [] hB2
            rfl
            rfl
            exact rfl
            exact rfl
            infer_instance
            infer_instance
            infer_instance
            have hrw := Rd.win (off' := t) (m := 256 - t) (c' := cw - t) t (Rd.row hB2 (.tail _ (.tail _ (.tail _ (.tail _ (.tail _ HSW2.out)))))) (by omega) (by omega) (by omega)
            rw [List.take_of_length_le (by rw [List.length_drop, HWL.out]; omega)] at hrw
            exact hrw
            exact ones_bytesV _
            (refine ⟨by decide, by unfold maxLen; omega, by omega⟩)
            intro v2 w8 hB3 _
            obtain ⟨ng, nc, rfl, _, _⟩ := row_some hB3 (.head _) (by omega)
            refine q0_nil ?_
            refine hK.out _ _ ?_ (fun hHeld => ?_)
            · exact trivial
            clear hK K
            (try simp only [Act.put, List.setIfInBounds_toArray, List.set_cons_zero, List.set_cons_succ])
            refine wpAnyH_take (i := 10) (oi := ⟨some 71, _, _, _, _, _⟩) (v := ?_) rfl (by kernel_rfl) (by kernel_rfl) (by kernel_rfl) (fun _ _ _ h => h) (Or.inl ⟨by rfl, ?_⟩) (by assumption) ?_
            rotate_left
            · intro w hSw; (try dsimp only at hSw); go_simp; try with_reducible rfl
            (try simp only [Act.put, List.setIfInBounds_toArray, List.set_cons_zero, List.set_cons_succ])
            refine wpAnyH_ready (rs := [11]) (by kernel_rfl) (by simp) ?_
            refine (AllReadyH.cons (o := ⟨none, _, _, _, _, _⟩) rfl (fun K hK => ?_) AllReadyH.nil)
            rw [if_pos (by rfl)]
            refine ow_of_wl (ops := #[]) (by rfl) ?_
            refine wl_store [_] hB3 rfl rfl rfl (v := .slice _ _ _) rfl rfl rfl (by show (2 : Nat) + 1 ≤ 3; decide) ?_
            intro w9 hB4
            refine q0_nil ?_
            refine hK.out _ _ ?_ (fun hHeld => ?_)
            · exact trivial
            clear hK K
            (try simp only [Act.put, List.setIfInBounds_toArray, List.set_cons_zero, List.set_cons_succ])
            refine wpAnyH_done (by kernel_rfl) ?_ _
            clear hHeld
            have hs7 : St w0 M w9 (.row (.slice (some ⟨ng, 0, none⟩) (0 + t + (256 - t)) nc) 5 1 (0 + t + (256 - t)) ((List.take (0 * 1) [] ++ bytesV (VB.take t)) ++ bytesV (WB.drop t)) :: .blk g9 96 [.int .i64 (rd : Int), .int .i64 (rp : Int), .slice (some ⟨ng, 0, none⟩) (0 + t + (256 - t)) nc] :: (rxP gr z ++ R)) := hB4
            clear hB4
            rw [show 0 + t + (256 - t) = 256 by omega, show (List.take (0 * 1) [] ++ bytesV (VB.take t)) ++ bytesV (WB.drop t) = bytesV (VB.take t ++ WB.drop t) by unfold bytesV; simp] at hs7
            have e256 : 0 + t + (256 - t) = 256 := by omega
            rw [e256]
            have hs8 : St w0 M w9 (rxP gr (addP z (.row (.slice (some ⟨ng, 0, none⟩) 256 nc) 5 1 256 (bytesV (VB.take t ++ WB.drop t)))) ++ (_ :: R)) := St.pool2 hs7
            clear hs7 e256
            go_wp2_with (first | go_big_skip | go_big_guard | (refine wl_loadE rfl rfl rfl ?_; refine ⟨_, Loads.atA (P := Tryz.prog) (T := 96) [.int .i64 (rd : Int), .int .i64 (rp : Int), .slice (some ⟨ng, 0, none⟩) 256 nc] _ hs8 rfl rfl, ?_⟩) | (go_at_call 63; refine (lay_r (R := .blk g9 96 [.int .i64 (rd : Int), .int .i64 (rp : Int), .slice (some ⟨ng, 0, none⟩) 256 nc] :: R) (x := addP z (.row (.slice (some ⟨ng, 0, none⟩) 256 nc) 5 1 256 (bytesV (VB.take t ++ WB.drop t)))) hs8 rd rp (some ⟨ng, 0, none⟩) 256 nc HKZ.out HPZ.out).mono ?_; rintro _ w5 ⟨rfl, h4⟩; have hs5 := St.offR h4; clear h4 hs8))
            go_roundw
            case rel =>
              have hM := HZ.out.more (q := z.pool ++ [.row (.slice (some ⟨ng, 0, none⟩) 256 nc) 5 1 256 (bytesV (VB.take t ++ WB.drop t))]) (fun y hy => List.mem_append_left _ hy)
              have hL := hM.lay (k := rd) (p := rp) (bv := .slice (some ⟨ng, 0, none⟩) 256 nc) (B := VB.take t ++ WB.drop t) HKU.out HPU.out (List.mem_append_right _ (.head _)) HINU.out
              exact ⟨j + 1, (addP z (.row (.slice (some ⟨ng, 0, none⟩) 256 nc) 5 1 256 (bytesV (VB.take t ++ WB.drop t)))).lay rd rp (.slice (some ⟨ng, 0, none⟩) 256 nc), by omega, rfl, by rw [HTS.out], hid (by rw [HTS.out]; exact hL), hid ⟨HSA.out.1, HSA.out.2⟩, hs5⟩
            case measure => simp [intOf]; omega
          · rw [if_pos (by rfl)]
            refine ow_of_wl (ops := #[]) (by rfl) ?_
            refine wl_loadE rfl rfl rfl ?_
            refine ⟨_, Loads.at [] hY rfl, ?_⟩
            refine q0_nil ?_
            refine hK.out _ _ ?_ (fun hHeld => ?_)
            · exact trivial
            clear hK K
            (try simp only [Act.put, List.setIfInBounds_toArray, List.set_cons_zero, List.set_cons_succ])
            refine wpAnyH_take (i := 4) (oi := ⟨some 65, _, _, _, _, _⟩) (v := ?_) rfl (by kernel_rfl) (by kernel_rfl) (by kernel_rfl) (fun _ _ _ h => h) (Or.inl ⟨by rfl, ?_⟩) (by assumption) ?_
            rotate_left
            · intro w hSw; (try dsimp only at hSw); go_simp; try with_reducible rfl
            (try simp only [Act.put, List.setIfInBounds_toArray, List.set_cons_zero, List.set_cons_succ])
            refine wpAnyH_ready (rs := [0]) (by kernel_rfl) (by simp) ?_
            refine (AllReadyH.cons (o := ⟨some 61, _, _, _, _, _⟩) rfl (fun K hK => ?_) AllReadyH.nil)
            rw [if_pos (by rfl)]
            refine ow_of_wl (ops := #[]) (by rfl) ?_
            apply wl_bsX (T := 33) [] [] hY
            rfl
            rfl
            exact rfl
            exact rfl
            infer_instance
            infer_instance
            rfl
            rfl
            rfl
            intro g1 w6 hB0
            have hB1 := St.toRow (n := 0) (cap := 0) (sz := 1) hB0 rfl (Nat.le_refl _) (by decide)
            clear hB0
            refine q0_nil ?_
            refine hK.out _ _ ?_ (fun hHeld => ?_)
            · exact trivial
            clear hK K
            (try simp only [Act.put, List.setIfInBounds_toArray, List.set_cons_zero, List.set_cons_succ])
            refine wpAnyH_ready (rs := [5]) (by kernel_rfl) (by simp) ?_
            refine (AllReadyH.cons (o := ⟨some 66, _, _, _, _, _⟩) rfl (fun K hK => ?_) AllReadyH.nil)
            rw [if_pos (by rfl)]
            refine ow_of_wl (ops := #[]) (by rfl) ?_
            apply wl_appX (m := t) (ys := bytesV (VB.take t)) [] hB1
            rfl
            rfl
            exact rfl
            exact rfl
            infer_instance
            infer_instance
            infer_instance
            exact Rd.takeN (Rd.row hB1 (.tail _ (.tail _ (.tail _ (.tail _ (.tail _ HSR2.out)))))) (by omega)
            exact ones_bytesV _
            (refine ⟨by decide, by unfold maxLen; omega, by omega⟩)
            intro v1 w7 hB2 _
            refine q0_nil ?_
            refine hK.out _ _ ?_ (fun hHeld => ?_)
            · exact trivial
            clear hK K
            (try simp only [Act.put, List.setIfInBounds_toArray, List.set_cons_zero, List.set_cons_succ])
            refine wpAnyH_ready (rs := [9]) (by kernel_rfl) (by simp) ?_
            refine (AllReadyH.cons (o := ⟨some 70, _, _, _, _, _⟩) rfl (fun K hK => ?_) AllReadyH.nil)
            rw [if_pos (by rfl)]
            refine ow_of_wl (ops := #[]) (by rfl) ?_
            apply wl_appX (m := 256 - t) (ys := bytesV (WB.drop t)) [] hB2
            rfl
            rfl
            exact rfl
            exact rfl
            infer_instance
            infer_instance
            infer_instance
            have hrw := Rd.win (off' := t) (m := 256 - t) (c' := cw - t) t (Rd.row hB2 (.tail _ (.tail _ (.tail _ (.tail _ (.tail _ HSW2.out)))))) (by omega) (by omega) (by omega)
            rw [List.take_of_length_le (by rw [List.length_drop, HWL.out]; omega)] at hrw
            exact hrw
            exact ones_bytesV _
            (refine ⟨by decide, by unfold maxLen; omega, by omega⟩)
            intro v2 w8 hB3 _
            obtain ⟨ng, nc, rfl, _, _⟩ := row_some hB3 (.head _) (by omega)
            refine q0_nil ?_
            refine hK.out _ _ ?_ (fun hHeld => ?_)
            · exact trivial
            clear hK K
            (try simp only [Act.put, List.setIfInBounds_toArray, List.set_cons_zero, List.set_cons_succ])
            refine wpAnyH_take (i := 10) (oi := ⟨some 71, _, _, _, _, _⟩) (v := ?_) rfl (by kernel_rfl) (by kernel_rfl) (by kernel_rfl) (fun _ _ _ h => h) (Or.inl ⟨by rfl, ?_⟩) (by assumption) ?_
            rotate_left
            · intro w hSw; (try dsimp only at hSw); go_simp; try with_reducible rfl
            (try simp only [Act.put, List.setIfInBounds_toArray, List.set_cons_zero, List.set_cons_succ])
            refine wpAnyH_ready (rs := [11]) (by kernel_rfl) (by simp) ?_
            refine (AllReadyH.cons (o := ⟨none, _, _, _, _, _⟩) rfl (fun K hK => ?_) AllReadyH.nil)
            rw [if_pos (by rfl)]
            refine ow_of_wl (ops := #[]) (by rfl) ?_
            refine wl_store [_] hB3 rfl rfl rfl (v := .slice _ _ _) rfl rfl rfl (by show (2 : Nat) + 1 ≤ 3; decide) ?_
            intro w9 hB4
            refine q0_nil ?_
            refine hK.out _ _ ?_ (fun hHeld => ?_)
            · exact trivial
            clear hK K
            (try simp only [Act.put, List.setIfInBounds_toArray, List.set_cons_zero, List.set_cons_succ])
            refine wpAnyH_done (by kernel_rfl) ?_ _
            clear hHeld
            have hs7 : St w0 M w9 (.row (.slice (some ⟨ng, 0, none⟩) (0 + t + (256 - t)) nc) 5 1 (0 + t + (256 - t)) ((List.take (0 * 1) [] ++ bytesV (VB.take t)) ++ bytesV (WB.drop t)) :: .blk g9 96 [.int .i64 (rd : Int), .int .i64 (rp : Int), .slice (some ⟨ng, 0, none⟩) (0 + t + (256 - t)) nc] :: (rxP gr z ++ R)) := hB4
            clear hB4
            rw [show 0 + t + (256 - t) = 256 by omega, show (List.take (0 * 1) [] ++ bytesV (VB.take t)) ++ bytesV (WB.drop t) = bytesV (VB.take t ++ WB.drop t) by unfold bytesV; simp] at hs7
            have e256 : 0 + t + (256 - t) = 256 := by omega
            rw [e256]
            have hs8 : St w0 M w9 (rxP gr (addP z (.row (.slice (some ⟨ng, 0, none⟩) 256 nc) 5 1 256 (bytesV (VB.take t ++ WB.drop t)))) ++ (_ :: R)) := St.pool2 hs7
            clear hs7 e256
            go_wp2_with (first | go_big_skip | go_big_guard | (refine wl_loadE rfl rfl rfl ?_; refine ⟨_, Loads.atA (P := Tryz.prog) (T := 96) [.int .i64 (rd : Int), .int .i64 (rp : Int), .slice (some ⟨ng, 0, none⟩) 256 nc] _ hs8 rfl rfl, ?_⟩) | (go_at_call 63; refine (lay_r (R := .blk g9 96 [.int .i64 (rd : Int), .int .i64 (rp : Int), .slice (some ⟨ng, 0, none⟩) 256 nc] :: R) (x := addP z (.row (.slice (some ⟨ng, 0, none⟩) 256 nc) 5 1 256 (bytesV (VB.take t ++ WB.drop t)))) hs8 rd rp (some ⟨ng, 0, none⟩) 256 nc HKZ.out HPZ.out).mono ?_; rintro _ w5 ⟨rfl, h4⟩; have hs5 := St.offR h4; clear h4 hs8))
            go_roundw
            case rel =>
              have hM := HZ.out.more (q := z.pool ++ [.row (.slice (some ⟨ng, 0, none⟩) 256 nc) 5 1 256 (bytesV (VB.take t ++ WB.drop t))]) (fun y hy => List.mem_append_left _ hy)
              have hL := hM.lay (k := rd) (p := rp) (bv := .slice (some ⟨ng, 0, none⟩) 256 nc) (B := VB.take t ++ WB.drop t) HKU.out HPU.out (List.mem_append_right _ (.head _)) HINU.out
              exact ⟨j + 1, (addP z (.row (.slice (some ⟨ng, 0, none⟩) 256 nc) 5 1 256 (bytesV (VB.take t ++ WB.drop t)))).lay rd rp (.slice (some ⟨ng, 0, none⟩) 256 nc), by omega, rfl, by rw [HTS.out], hid (by rw [HTS.out]; exact hL), hid ⟨HSA.out.1, HSA.out.2⟩, hs5⟩
            case measure => simp [intOf]; omega
    · obtain rfl : j = nl := by omega
      have e1 : decide ((j : Int) < (j : Int)) = false := decide_eq_false (by omega)
      obtain ⟨b0, hb0⟩ : ∃ b0 : AR, b0 = ⟨(B j).1.devs, [], -1, false, a.steps⟩ := ⟨_, rfl⟩
      have HX2 : Hid (RefOk b0 (wipe z)) := hid (by
        rw [hb0]
        exact ⟨HZ.out.dn, HZ.out.dv, HZ.out.mn, rfl, fun i v hv => by simp at hv, rfl, rfl, by show z.steps = a.steps; rw [HZ.out.steps, HBT.out]⟩)
      have HND : Hid ((wipe z).devs.length = b0.devs.length) := hid HX2.out.dn
      have HFN : Hid (cleanN b0 b0.devs.length = a.crashed ks t) := hid (by
        rw [HFIN.out, ← HNA.out, hb0]
        unfold cleanN
        simp)
      clear hb0
      go_wp2_with (first | go_big_skip | go_big_guard | (refine wl_loadE rfl rfl rfl ?_; refine ⟨_, Loads.at [] hst HH2.out, ?_⟩) | (first | (refine wl_store [] hst rfl rfl rfl (v := .slice none 0 0) rfl rfl rfl (by show (2 : Nat) + 1 ≤ 6; decide) ?_; intro w3 hs1; clear hst) | (refine wl_store [] hs1 rfl rfl rfl (v := .bool false) rfl rfl rfl (by show (4 : Nat) + 1 ≤ 6; decide) ?_; intro w4 hs2; clear hs1) | (refine wl_store [] hs2 rfl rfl rfl (v := .int _ (-1)) rfl rfl rfl (by show (3 : Nat) + 1 ≤ 6; decide) ?_; intro w5 hs3; clear hs2)))
      have hs4 : St w0 M w5 (rxP gr (wipe z) ++ R) := fin_nil hs3
      clear hs3
      obtain ⟨nd, hnd⟩ : ∃ nd, nd = b0.devs.length := ⟨_, rfl⟩
      have HN2 := hid hnd
      have HX3 : Hid (RefOk (cleanN b0 0) (wipe z)) := hid (by rw [cleanN_zero]; exact HX2.out)
      have hndb : nd < 100 := by rw [hnd, ← HX2.out.dn]; show z.devs.length < 100; rw [HZ.out.dn, (HBG.out j).len]; have := HOK.out.dn; omega
      clear hnd
      go_loopw [11] (fun i wr => ∃ (m : Nat) (q : RX), m ≤ nd ∧ i = .int .i64 (m : Int) ∧ Hid (RefOk (cleanN b0 m) q) ∧ St w0 M wr (rxP gr q ++ R)) (fun i _ => nd - (intOf i).toNat)
      case atStart => exact ⟨0, wipe z, Nat.zero_le _, rfl, HX3, hs4⟩
      case round =>
        clear hs4 HX3
        obtain ⟨m, q, hm, rfl, HQ, hq0⟩ := hrel
        have hqs : St w0 M wr (.blk gr 57 q.hdr :: .blk q.gd 60 q.dc :: .row q.lv 96 3 q.loose.length q.lc :: (q.tail ++ R)) := hq0
        clear hq0
        have hlen : q.devs.length = nd := by rw [HQ.out.dn, cleanN_len, HN2.out]
        have HLEN := hid hlen
        by_cases hmn : m < nd
        · have e3 : decide ((m : Int) < (q.devs.length : Int)) = true := decide_eq_true (by omega)
          have z1 : IntKind.i64.wrap ((m : Int) + 1) = (m : Int) + 1 := IntWalk.i64_in _ (by omega)
          have hj0 : m < q.devs.length := by omega
          have hj1 : m < (q.upd m cl1).devs.length := by rw [RX.upd_len]; exact hj0
          have hj2 : m < ((q.upd m cl1).upd m cl2).devs.length := by rw [RX.upd_len]; exact hj1
          have hmb : m < b0.devs.length := by rw [← HN2.out]; exact hmn
          have HMB := hid hmb
          clear hlen hmb
          go_wp2_with (first | go_big_skip | go_big_guard | (refine wl_loadE rfl rfl rfl ?_; first | refine ⟨_, Loads.at [] hqs rfl, ?_⟩ | refine ⟨_, Loads.at [] hq1 rfl, ?_⟩ | refine ⟨_, Loads.at [] hq2 rfl, ?_⟩) | (first | (refine wl_index (k := m) rfl rfl rfl rfl hj0 ?_) | (refine wl_index (k := m) rfl rfl rfl rfl hj1 ?_) | (refine wl_index (k := m) rfl rfl rfl rfl hj2 ?_)) | (first | (refine wl_store [_] hqs rfl rfl rfl (v := .bool false) rfl rfl rfl (RX.dlen hj0 (by decide)) ?_; intro w6 hqa; clear hqs; have hq1 : St w0 M w6 (.blk gr 57 (q.upd m cl1).hdr :: .blk (q.upd m cl1).gd 60 (q.upd m cl1).dc :: .row (q.upd m cl1).lv 96 3 (q.upd m cl1).loose.length (q.upd m cl1).lc :: ((q.upd m cl1).tail ++ R)) := (upd_st1 hj0 hqa); clear hqa) | (refine wl_store [_] hq1 rfl rfl rfl (v := .int _ (-1)) rfl rfl rfl (RX.dlen hj1 (by decide)) ?_; intro w7 hqb; clear hq1; have hq2 : St w0 M w7 (.blk gr 57 ((q.upd m cl1).upd m cl2).hdr :: .blk ((q.upd m cl1).upd m cl2).gd 60 ((q.upd m cl1).upd m cl2).dc :: .row ((q.upd m cl1).upd m cl2).lv 96 3 ((q.upd m cl1).upd m cl2).loose.length ((q.upd m cl1).upd m cl2).lc :: (((q.upd m cl1).upd m cl2).tail ++ R)) := (upd_st2 hj1 hqb); clear hqb) | (refine wl_store [_] hq2 rfl rfl rfl (v := .int _ 0) rfl rfl rfl (RX.dlen hj2 (by decide)) ?_; intro w8 hqc; clear hq2; have hq3 := (upd_st3 hj2 hqc); clear hqc)))
          go_roundw
          case rel => exact ⟨m + 1, ((q.upd m cl1).upd m cl2).upd m cl3, by omega, rfl, hid (clean_ok HQ.out HMB.out), hq3⟩
          case measure => simp [intOf]; omega
        · obtain rfl : m = nd := by omega
          have e3 : decide ((m : Int) < (q.devs.length : Int)) = false := decide_eq_false (by omega)
          go_wp2_with (first | go_big_skip | go_big_guard | (refine wl_loadE rfl rfl rfl ?_; refine ⟨_, Loads.at [] hqs rfl, ?_⟩))
          go_ret
          have hF := HQ.out
          rw [HN2.out, HFN.out] at hF
          exact ⟨rfl, q, hF, hqs⟩
theorem crash_r {w0 w : World} {M : List Nat} {R : List HA} {gr : Nat} {a : AR} {x : RX} (hS : St w0 M w (rxP gr x ++ R)) (ro : RefOk a x) (ko : Option Addr) (kn kc : Nat) (ks : List Bool) (hr : ∀ (w' : World) (L' : List HA), St w0 M w' L' → Rd w' (.slice ko kn kc) 1 kn (boolsV ks)) (hk : ks.length = kn) (torn : Int) (ok : a.Ok) (hll : a.loose.length < 1000000) : Calls Tryz.prog 29 #[.pointer (some ⟨gr, 0, none⟩), .slice ko kn kc, .int .i64 torn] w fun e w' => e = .returned (.int .i64 (a.crashE torn)) ∧ ∃ y, RefOk (a.crash ks torn) y ∧ St w0 M w' (rxP gr y ++ R) := by
  cases h1 : (decide (0 ≤ torn) && decide (torn < 256))
  · exact crash_odd_r hS ro ko kn kc ks hr hk torn h1 ok
  · simp only [Bool.and_eq_true, decide_eq_true_eq] at h1
    obtain ⟨t, rfl⟩ : ∃ t : Nat, torn = t := ⟨torn.toNat, by omega⟩
    exact crash_fine_r hS ro ko kn kc ks hr hk t (by omega) ok hll
end
end Go.Proofs.YtclleohpmgihaaaGreat
namespace Go.Proofs.YtclleohpmgihaaaGreat
set_option linter.unusedVariables false
set_option linter.unusedSimpArgs false
open Go.RowKit Hp
attribute [local irreducible] Go.Calls Go.wpList
set_option maxRecDepth 100000
set_option maxHeartbeats 8000000
theorem spoil_set {a : AR} {k p q : Nat} {m : UInt8} (hk : k < a.devs.length) : a.upd (k : Int) (fSpoil p q m) = a.upd (k : Int) (setF p (((a.dv (k : Int)).firm.getD p []).set q (((a.dv (k : Int)).firm.getD p []).getD q 0 ^^^ m))) := by
  unfold AR.upd
  congr 1
  apply List.ext_getElem?
  intro j
  rw [modify_get, modify_get, Int.toNat_natCast]
  split
  · rename_i h
    subst h
    have e : a.devs[k]? = some (a.dv (k : Int)) := by
      unfold AR.dv
      rw [Int.toNat_natCast, List.getD_eq_getElem?_getD, List.getElem?_eq_getElem hk]
      rfl
    rw [e]
    rfl
  · rfl
theorem bytes_q {W : List UInt8} {q : Nat} (hq : q < W.length) (rest : List Value) : (bytesV W ++ rest)[q]? = some (.int .u8 (u8I (W.getD q 0))) := by
  rw [List.getElem?_append_left (by rw [length_bytesV]; exact hq)]
  unfold bytesV
  rw [List.getElem?_map, List.getElem?_eq_getElem hq, List.getD_eq_getElem?_getD, List.getElem?_eq_getElem hq]
  rfl
theorem bytes_putq {W : List UInt8} {q : Nat} (hq : q < W.length) (hl : W.length = 256) (b : UInt8) (rest : List Value) : List.take (256 * 1) (putAt (bytesV W ++ rest) q [.int .u8 (u8I b)]) = bytesV (W.set q b) := by
  rw [putAt_one _ _ _ (by rw [List.length_append, length_bytesV]; omega), List.set_append_left _ _ (by rw [length_bytesV]; exact hq), List.take_append_of_le_length (by rw [List.length_set, length_bytesV]; omega), List.take_of_length_le (by rw [List.length_set, length_bytesV]; omega)]
  unfold bytesV
  rw [List.map_set]
  rfl
section
attribute [local go_sem 5000] xor8 xor8r
theorem length_putAt1 (l : List Value) (i : Nat) (v : Value) (hi : i < l.length) : (putAt l i [v]).length = l.length := by rw [putAt_one _ _ _ hi, List.length_set]
theorem spoil_far_r {w0 w : World} {M : List Nat} {R : List HA} {gr : Nat} {a : AR} {x : RX} (hS : St w0 M w (rxP gr x ++ R)) (ro : RefOk a x) (dev pl place : Int) (m : UInt8) (hc : a.inS dev pl = false) (ok : a.Ok) : Calls Tryz.prog 34 #[.pointer (some ⟨gr, 0, none⟩), .int .i64 dev, .int .i64 pl, .int .i64 place, .int .u8 (u8I m)] w fun e w' => e = .returned (.int .i64 (a.spoilE dev pl place)) ∧ ∃ y, RefOk (a.spoil dev pl place m) y ∧ St w0 M w' (rxP gr y ++ R) := by
  have hst : St w0 M w (.blk gr 57 x.hdr :: .blk x.gd 60 x.dc :: .row x.lv 96 3 x.loose.length x.lc :: (x.tail ++ R)) := hS
  have RO := hid ro
  clear hS ro
  have hE : a.spoilE dev pl place = 5 := by unfold AR.spoilE AR.spoilL AR.fellE; rw [hc]; rfl
  have hR : a.spoil dev pl place m = a := by unfold AR.spoil; rw [hE]; rfl
  rw [hE, hR]
  clear hE hR
  have HS := hid hc
  clear hc
  go_enter Tryz.func34, Tryz.ntmps34
  go_wp2_with (first | go_big_skip | go_big_guard | (go_at_call 60; refine (sector_r (R := R) hst RO.out dev pl).mono ?_; rw [HS.out]; rintro _ w1 ⟨rfl, h4⟩; replace hst := h4; clear h4))
  go_ret
  exact ⟨rfl, x, RO.out, hst⟩
theorem spoil_low_r {w0 w : World} {M : List Nat} {R : List HA} {gr : Nat} {a : AR} {x : RX} (hS : St w0 M w (rxP gr x ++ R)) (ro : RefOk a x) (dev pl place : Int) (m : UInt8) (hc : a.inS dev pl = true) (hp : place < 0) (ok : a.Ok) : Calls Tryz.prog 34 #[.pointer (some ⟨gr, 0, none⟩), .int .i64 dev, .int .i64 pl, .int .i64 place, .int .u8 (u8I m)] w fun e w' => e = .returned (.int .i64 (a.spoilE dev pl place)) ∧ ∃ y, RefOk (a.spoil dev pl place m) y ∧ St w0 M w' (rxP gr y ++ R) := by
  have hst : St w0 M w (.blk gr 57 x.hdr :: .blk x.gd 60 x.dc :: .row x.lv 96 3 x.loose.length x.lc :: (x.tail ++ R)) := hS
  have RO := hid ro
  clear hS ro
  have hE : a.spoilE dev pl place = 5 := by unfold AR.spoilE AR.spoilL AR.fellE; rw [hc, decide_eq_false (show ¬ 0 ≤ place by omega)]; rfl
  have hR : a.spoil dev pl place m = a := by unfold AR.spoil; rw [hE]; rfl
  rw [hE, hR]
  clear hE hR
  have HS := hid hc
  have d1 : decide (place < 0) = true := decide_eq_true hp
  clear hp
  clear hc
  go_enter Tryz.func34, Tryz.ntmps34
  go_wp2_with (first | go_big_skip | go_big_guard | (go_at_call 60; refine (sector_r (R := R) hst RO.out dev pl).mono ?_; rw [HS.out]; rintro _ w1 ⟨rfl, h4⟩; replace hst := h4; clear h4))
  go_ret
  exact ⟨rfl, x, RO.out, hst⟩
theorem spoil_high_r {w0 w : World} {M : List Nat} {R : List HA} {gr : Nat} {a : AR} {x : RX} (hS : St w0 M w (rxP gr x ++ R)) (ro : RefOk a x) (dev pl place : Int) (m : UInt8) (hc : a.inS dev pl = true) (hp : ¬ place < 0) (hq : ¬ place < 256) (ok : a.Ok) : Calls Tryz.prog 34 #[.pointer (some ⟨gr, 0, none⟩), .int .i64 dev, .int .i64 pl, .int .i64 place, .int .u8 (u8I m)] w fun e w' => e = .returned (.int .i64 (a.spoilE dev pl place)) ∧ ∃ y, RefOk (a.spoil dev pl place m) y ∧ St w0 M w' (rxP gr y ++ R) := by
  have hst : St w0 M w (.blk gr 57 x.hdr :: .blk x.gd 60 x.dc :: .row x.lv 96 3 x.loose.length x.lc :: (x.tail ++ R)) := hS
  have RO := hid ro
  clear hS ro
  have hE : a.spoilE dev pl place = 5 := by unfold AR.spoilE AR.spoilL AR.fellE; rw [hc, decide_eq_true (show 0 ≤ place by omega), decide_eq_false hq]; rfl
  have hR : a.spoil dev pl place m = a := by unfold AR.spoil; rw [hE]; rfl
  rw [hE, hR]
  clear hE hR
  have HS := hid hc
  have d1 : decide (place < 0) = false := decide_eq_false hp
  have d2 : decide (place ≥ 256) = true := decide_eq_true (by omega)
  have d3 : decide (256 ≤ place) = true := d2
  clear hp hq
  clear hc
  go_enter Tryz.func34, Tryz.ntmps34
  go_wp2_with (first | go_big_skip | go_big_guard | (go_at_call 60; refine (sector_r (R := R) hst RO.out dev pl).mono ?_; rw [HS.out]; rintro _ w1 ⟨rfl, h4⟩; replace hst := h4; clear h4))
  go_ret
  exact ⟨rfl, x, RO.out, hst⟩
theorem spoil_gone_r {w0 w : World} {M : List Nat} {R : List HA} {gr : Nat} {a : AR} {x : RX} (hS : St w0 M w (rxP gr x ++ R)) (ro : RefOk a x) (dev pl place : Int) (m : UInt8) (hc : a.inS dev pl = true) (hp : ¬ place < 0) (hq : place < 256) (hg : (a.dv dev).gone = true) (ok : a.Ok) : Calls Tryz.prog 34 #[.pointer (some ⟨gr, 0, none⟩), .int .i64 dev, .int .i64 pl, .int .i64 place, .int .u8 (u8I m)] w fun e w' => e = .returned (.int .i64 (a.spoilE dev pl place)) ∧ ∃ y, RefOk (a.spoil dev pl place m) y ∧ St w0 M w' (rxP gr y ++ R) := by
  have hst : St w0 M w (.blk gr 57 x.hdr :: .blk x.gd 60 x.dc :: .row x.lv 96 3 x.loose.length x.lc :: (x.tail ++ R)) := hS
  have RO := hid ro
  clear hS ro
  have hE : a.spoilE dev pl place = 14 := by unfold AR.spoilE AR.spoilL AR.fellE; rw [hc, decide_eq_true (show 0 ≤ place by omega), decide_eq_true hq, hg]; rfl
  have hR : a.spoil dev pl place m = a := by unfold AR.spoil; rw [hE]; rfl
  rw [hE, hR]
  clear hE hR
  have HS := hid hc
  have d1 : decide (place < 0) = false := decide_eq_false hp
  have d2 : decide (place ≥ 256) = false := decide_eq_false (by omega)
  have d3 : decide (256 ≤ place) = false := d2
  obtain ⟨k, rfl, hka⟩ := nat_dev (inS_inD hc)
  have hkx : k < x.devs.length := by rw [RO.out.dn]; exact hka
  have HC := hid (RO.out.cells hka)
  have HG : Hid (x.dc[k * 5 + 4]? = some (.bool true)) := hid (by rw [HC.out.2.2.2.2, hg])
  clear hp hq hg hc
  go_enter Tryz.func34, Tryz.ntmps34
  go_wp2_with (first | go_big_skip | go_big_guard | (refine wl_loadE rfl rfl rfl ?_; first | refine ⟨_, Loads.at [_] hst HG.out, ?_⟩ | refine ⟨_, Loads.at [] hst rfl, ?_⟩) | (refine wl_index (k := k) rfl rfl rfl rfl hkx ?_) | (go_at_call 60; refine (sector_r (R := R) hst RO.out (k : Int) pl).mono ?_; rw [HS.out]; rintro _ w1 ⟨rfl, h4⟩; replace hst := h4; clear h4))
  go_ret
  exact ⟨rfl, x, RO.out, hst⟩
theorem spoil_fine_r {w0 w : World} {M : List Nat} {R : List HA} {gr : Nat} {a : AR} {x : RX} (hS : St w0 M w (rxP gr x ++ R)) (ro : RefOk a x) (dev pl place : Int) (m : UInt8) (hc : a.inS dev pl = true) (hp : ¬ place < 0) (hq : place < 256) (hg : (a.dv dev).gone = false) (ok : a.Ok) : Calls Tryz.prog 34 #[.pointer (some ⟨gr, 0, none⟩), .int .i64 dev, .int .i64 pl, .int .i64 place, .int .u8 (u8I m)] w fun e w' => e = .returned (.int .i64 (a.spoilE dev pl place)) ∧ ∃ y, RefOk (a.spoil dev pl place m) y ∧ St w0 M w' (rxP gr y ++ R) := by
  have hst : St w0 M w (.blk gr 57 x.hdr :: .blk x.gd 60 x.dc :: .row x.lv 96 3 x.loose.length x.lc :: (x.tail ++ R)) := hS
  have RO := hid ro
  clear hS ro
  have hE : a.spoilE dev pl place = 0 := by unfold AR.spoilE AR.spoilL AR.fellE; rw [hc, decide_eq_true (show 0 ≤ place by omega), decide_eq_true hq, hg]; rfl
  have hR : a.spoil dev pl place m = a.upd dev (fSpoil pl.toNat place.toNat m) := by unfold AR.spoil; rw [hE]; rfl
  rw [hE, hR]
  clear hE hR
  have HS := hid hc
  have d1 : decide (place < 0) = false := decide_eq_false hp
  have d2 : decide (place ≥ 256) = false := decide_eq_false (by omega)
  have d3 : decide (256 ≤ place) = false := d2
  obtain ⟨k, rfl, hka⟩ := nat_dev (inS_inD hc)
  have hkx : k < x.devs.length := by rw [RO.out.dn]; exact hka
  have HC := hid (RO.out.cells hka)
  have HG : Hid (x.dc[k * 5 + 4]? = some (.bool false)) := hid (by rw [HC.out.2.2.2.2, hg])
  obtain ⟨p, rfl⟩ : ∃ p : Nat, pl = p := ⟨pl.toNat, by have := (inS_pl hc).1; omega⟩
  obtain ⟨q, rfl⟩ : ∃ q : Nat, place = q := ⟨place.toNat, by omega⟩
  have hin := inS_inD hc
  have hf := ok.dv hin
  have hpl : p < (a.dv (k : Int)).firm.length := by have := (inS_pl hc).2; rw [hf.1]; omega
  obtain ⟨v0, hv0, hs0⟩ := RO.out.sect hka hpl
  have hlp : p < (x.dv k).f.sv.length := by rw [(RO.out.dv k hka).len]; exact hpl
  obtain ⟨WB, hWB⟩ : ∃ WB, WB = (a.dv (k : Int)).firm.getD p [] := ⟨_, rfl⟩
  have hWL : WB.length = 256 := by
    rw [hWB, List.getD_eq_getElem?_getD, List.getElem?_eq_getElem hpl]
    exact hf.2.1 _ (List.getElem_mem hpl)
  have HWL := hid hWL
  rw [← hWB] at hs0
  have HUP := hid (spoil_set (p := p) (q := q) (m := m) hka)
  rw [← hWB] at HUP
  obtain ⟨V, hV⟩ : ∃ V, V = WB.getD q 0 := ⟨_, rfl⟩
  rw [← hV] at HUP
  obtain ⟨NB, hNB⟩ : ∃ NB, NB = WB.set q (V ^^^ m) := ⟨_, rfl⟩
  have HNB := hid hNB
  rw [← hNB] at HUP
  have hq256 : q < 256 := by omega
  have hqw0 : q < WB.length := by omega
  have HQW := hid hqw0
  have HQV : Hid (∀ rest, (bytesV WB ++ rest)[q]? = some (.int .u8 (u8I V))) := hid (fun rest => by rw [hV]; exact bytes_q hqw0 rest)
  clear hV hqw0
  obtain ⟨nf, hnf⟩ : ∃ nf, nf = (a.dv (k : Int)).firm.length := ⟨_, rfl⟩
  have HLAY : Hid (∀ (v : Value) (z : RX), z = addP x (.row v 5 1 256 (bytesV NB)) → RefOk (a.upd (k : Int) (setF p NB)) (z.lay k p v)) := hid (fun v z hz => by
    rw [hz]
    exact (RO.out.more (q := x.pool ++ [.row v 5 1 256 (bytesV NB)]) (fun y hy => List.mem_append_left _ hy)).lay hka hpl (List.mem_append_right _ (.head _)) hin)
  have HC0 : Hid (x.dc[k * 5]? = some (.slice (some ⟨(x.dv k).f.g, 0, none⟩) nf (x.dv k).f.cap)) := hid (by rw [hnf]; exact HC.out.1)
  have hpn : p < nf := by rw [hnf]; exact hpl
  obtain ⟨D, hD⟩ : ∃ D, D = x.dv k := ⟨_, rfl⟩
  rw [← hD] at HC0 hlp hv0
  obtain ⟨FS1, hF1⟩ : ∃ FS1, FS1 = (x.devs.take k).map fblk := ⟨_, rfl⟩
  obtain ⟨FS2, hF2⟩ : ∃ FS2, FS2 = (x.devs.drop (k + 1)).map fblk ++ x.pool := ⟨_, rfl⟩
  have hT : x.tail = FS1 ++ fblk D :: FS2 := by
    unfold RX.tail
    rw [hF1, hF2, hD]
    conv => lhs; rw [dev_split hkx]
    rw [List.map_append, List.append_assoc]
    rfl
  have HSP : Hid (HA.row v0 5 1 256 (bytesV WB) ∈ FS2) := hid (by rw [hF2]; exact List.mem_append_right _ hs0)
  have HT2 : Hid (∀ (v : Value) (r : HA), ((addP x r).lay k p v).tail = FS1 ++ .blk D.f.g 33 (D.f.sv.set p v ++ D.f.rest) :: (FS2 ++ [r])) := hid (fun v r => by
    unfold RX.tail RX.lay
    rw [mod_split (show k < (addP x r).devs.length from hkx), hF1, hF2, hD, List.map_append, List.append_assoc]
    show _ ++ (_ :: _ ++ (x.pool ++ [r])) = _
    rw [List.append_assoc]
    rfl)
  have hs1 : St w0 M w (.blk gr 57 x.hdr :: .blk x.gd 60 x.dc :: .row x.lv 96 3 x.loose.length x.lc :: (FS1 ++ .blk D.f.g 33 (D.f.sv ++ D.f.rest) :: (FS2 ++ R))) := by
    rw [hT] at hst
    simpa [fblk] using hst
  have HHL := hid (fun (v : Value) (r : HA) => lay_hdr (addP x r) k p v)
  have HDL := hid (fun (v : Value) (r : HA) => lay_dc (addP x r) k p v)
  have HPUT : Hid (∀ v : Value, putAt (D.f.sv ++ D.f.rest) p [v] = D.f.sv.set p v ++ D.f.rest) := hid (fun v => by
    rw [putAt_one _ _ _ (by rw [List.length_append]; omega), List.set_append_left _ _ hlp])
  have HFIT : Hid (p + 1 ≤ (D.f.sv ++ D.f.rest).length) := hid (by rw [List.length_append]; omega)
  have HV0 := hid hv0
  have HSPL : Hid (∀ w', St w0 M w' (rxP gr x ++ R) → St w0 M w' (.blk gr 57 x.hdr :: .blk x.gd 60 x.dc :: .row x.lv 96 3 x.loose.length x.lc :: (FS1 ++ .blk D.f.g 33 (D.f.sv ++ D.f.rest) :: (FS2 ++ R)))) := hid (fun w' h => by
    unfold rxP at h
    rw [hT] at h
    simpa [fblk] using h)
  have HST := hid hst
  clear hst hT hF1 hF2 hD hlp hs0 hv0 hf hin hpl hWB hnf hWL hc hp hq hg ok
  go_enter Tryz.func34, Tryz.ntmps34
  go_wp2_with (first | go_big_skip | go_big_guard | (go_at_call 60; refine (sector_r (R := R) HST.out RO.out (k : Int) (p : Int)).mono ?_; rw [HS.out]; rintro _ w1 ⟨rfl, h4⟩; have hs2 := HSPL.out _ h4; clear h4 hs1) | (refine wl_loadE rfl rfl rfl ?_; first | refine ⟨_, Loads.at [_] hs2 HG.out, ?_⟩ | refine ⟨_, Loads.at [_] hs2 HC0.out, ?_⟩ | refine ⟨_, Loads.cell (T := 33) TyS.out (by rw [Nat.zero_add, Nat.mul_one]; exact St.cell hs2 (off := p) (.tail _ (.tail _ (.tail _ (List.mem_append_right FS1 (.head _))))) HV0.out), ?_⟩ | refine ⟨_, Loads.at [] hs2 rfl, ?_⟩ | refine ⟨_, Loads.at [_] hs3 HC0.out, ?_⟩ | refine ⟨_, Loads.at [_, _] hs3 HC0.out, ?_⟩ | refine ⟨_, Loads.at [_] hs3 rfl, ?_⟩ | refine ⟨_, Loads.cell (T := 33) TyS.out (by rw [Nat.zero_add, Nat.mul_one]; exact St.cell hs3 (off := p) (.tail _ (.tail _ (.tail _ (.tail _ (List.mem_append_right FS1 (.head _)))))) HV0.out), ?_⟩ | refine ⟨_, Loads.cell (T := 5) TyS.out (by rw [Nat.zero_add, Nat.mul_one]; exact St.cell hs4 (off := q) (.head _) (HQV.out _)), ?_⟩ | refine ⟨_, Loads.at [_, _] hs5 HC0.out, ?_⟩ | refine ⟨_, Loads.at [_] hs5 rfl, ?_⟩) | (first | (refine wl_index (k := k) rfl rfl rfl rfl hkx ?_) | (refine wl_index (k := p) rfl rfl rfl rfl hpn ?_) | (refine wl_index (k := q) rfl rfl rfl rfl hq256 ?_)) | (apply wl_bsX (T := 33) [] [] hs2; rfl; rfl; exact rfl; exact rfl; infer_instance; infer_instance; rfl; rfl; rfl; intro g1 w6 hB0; clear hs2; have hs3 := St.toRow (n := 0) (cap := 0) (sz := 1) hB0 rfl (Nat.le_refl _) (by decide); clear hB0) | (apply wl_appX (m := 256) (ys := bytesV WB) [] hs3; rfl; rfl; exact rfl; exact rfl; infer_instance; infer_instance; infer_instance; exact Rd.row hs3 (.tail _ (.tail _ (.tail _ (.tail _ (List.mem_append_right FS1 (.tail _ (List.mem_append_left R HSP.out))))))); exact ones_bytesV _; (refine ⟨by decide, by decide, by decide⟩); intro v1 w7 hB2 _; clear hs3; obtain ⟨ng, nc, rest9, rfl, hnc1, hnc2, hnc3, hs4⟩ := row_openL (L1 := []) hB2 (by decide); simp only [Nat.zero_mul, List.take_nil, List.nil_append] at hs4 hnc3; clear hB2) | (first | (refine wl_store [] hs4 rfl rfl rfl (v := .int _ _) rfl rfl rfl (by rw [Nat.zero_add, Nat.mul_one]; show q + 1 ≤ _; rw [List.length_append, length_bytesV, HWL.out]; omega) ?_; intro w8 hs5; clear hs4) | (refine wl_store (_ :: _ :: _ :: _ :: FS1) hs5 rfl rfl rfl (v := .slice _ _ _) rfl rfl rfl (by rw [Nat.zero_add, Nat.mul_one]; exact HFIT.out) ?_; intro w9 hs6; clear hs5)))
  go_ret
  rw [Nat.zero_add, Nat.mul_one] at hs6
  have h7 : St w0 M w9 (.blk ng 5 (putAt (bytesV WB ++ rest9) q [.int .u8 (u8I (V ^^^ m))]) :: .blk gr 57 x.hdr :: .blk x.gd 60 x.dc :: .row x.lv 96 3 x.loose.length x.lc :: (FS1 ++ .blk D.f.g 33 (putAt (D.f.sv ++ D.f.rest) p [.slice (some ⟨ng, 0, none⟩) 256 nc]) :: (FS2 ++ R))) := by
    rw [Nat.zero_add, Nat.mul_one] at hs6
    exact hs6
  have h8 := St.toRow (n := 256) (cap := nc) (sz := 1) h7 (by rw [length_putAt1 _ _ _ (by rw [List.length_append, length_bytesV]; exact Nat.lt_of_lt_of_le HQW.out (Nat.le_add_right _ _))]; exact hnc3) hnc1 hnc2
  rw [bytes_putq HQW.out HWL.out, ← HNB.out, HPUT.out] at h8
  have hL := HLAY.out (.slice (some ⟨ng, 0, none⟩) 256 nc) _ rfl
  rw [← HUP.out] at hL
  refine ⟨rfl, _, hL, ?_⟩
  unfold rxP
  rw [HT2.out, HHL.out, HDL.out]
  show St w0 M w9 (_ :: _ :: _ :: ((FS1 ++ _ :: (FS2 ++ [_])) ++ R))
  rw [show (FS1 ++ HA.blk D.f.g 33 (D.f.sv.set p (.slice (some ⟨ng, 0, none⟩) 256 nc) ++ D.f.rest) :: (FS2 ++ [HA.row (.slice (some ⟨ng, 0, none⟩) 256 nc) 5 1 256 (bytesV NB)])) ++ R = (FS1 ++ HA.blk D.f.g 33 (D.f.sv.set p (.slice (some ⟨ng, 0, none⟩) 256 nc) ++ D.f.rest) :: FS2) ++ (HA.row (.slice (some ⟨ng, 0, none⟩) 256 nc) 5 1 256 (bytesV NB) :: R) by simp]
  refine St.perm h8 ?_
  rw [show FS1 ++ HA.blk D.f.g 33 (D.f.sv.set p (.slice (some ⟨ng, 0, none⟩) 256 nc) ++ D.f.rest) :: (FS2 ++ R) = (FS1 ++ HA.blk D.f.g 33 (D.f.sv.set p (.slice (some ⟨ng, 0, none⟩) 256 nc) ++ D.f.rest) :: FS2) ++ R by simp]
  exact (List.perm_middle (l₁ := _ :: _ :: _ :: (FS1 ++ HA.blk D.f.g 33 (D.f.sv.set p (.slice (some ⟨ng, 0, none⟩) 256 nc) ++ D.f.rest) :: FS2))).symm
theorem spoil_r {w0 w : World} {M : List Nat} {R : List HA} {gr : Nat} {a : AR} {x : RX} (hS : St w0 M w (rxP gr x ++ R)) (ro : RefOk a x) (dev pl place : Int) (m : UInt8) (ok : a.Ok) : Calls Tryz.prog 34 #[.pointer (some ⟨gr, 0, none⟩), .int .i64 dev, .int .i64 pl, .int .i64 place, .int .u8 (u8I m)] w fun e w' => e = .returned (.int .i64 (a.spoilE dev pl place)) ∧ ∃ y, RefOk (a.spoil dev pl place m) y ∧ St w0 M w' (rxP gr y ++ R) := by
  cases hc : a.inS dev pl
  · exact spoil_far_r hS ro dev pl place m hc ok
  · by_cases hp : place < 0
    · exact spoil_low_r hS ro dev pl place m hc hp ok
    · by_cases hq : place < 256
      · cases hg : (a.dv dev).gone
        · exact spoil_fine_r hS ro dev pl place m hc hp hq hg ok
        · exact spoil_gone_r hS ro dev pl place m hc hp hq hg ok
      · exact spoil_high_r hS ro dev pl place m hc hp hq ok
end
end Go.Proofs.YtclleohpmgihaaaGreat
namespace Go.Proofs.YtclleohpmgihaaaGreat
set_option linter.unusedVariables false
set_option linter.unusedSimpArgs false
open Go.RowKit Hp
attribute [local irreducible] Go.Calls Go.wpList
set_option maxRecDepth 100000
set_option maxHeartbeats 8000000
def zeroB : List UInt8 := List.replicate 256 0
theorem results_cell1 {fn : Func} {p : Tmp} {T : TypeId} {tmps : Array Value} {P : Program} {w : World} {A : Addr} {v : Value} (h : fn.results = #[.cell p T]) (hp : tmps.getD p undef = .pointer (some A)) (hl : Loads P w T A v) :
    (results fn tmps).run P w = .ok v w := by
  have h1 : (loadVar T A).run P w = .ok v w := hl
  have hp' : tmps[p]?.getD undef = .pointer (some A) := by simpa using hp
  simp [results, h, hp', asAddr, h1, Sem.run_bind]
theorem zero_take : List.take (256 * 1) (List.replicate 256 (Value.int .u8 0)) = bytesV zeroB := by kernel_rfl
section
theorem loadedRS11 (A : Addr) : loadVar 58 A = loadVarH 58 A := rfl
theorem blank_r {w0 w : World} {M : List Nat} {L : List HA} (hS : St w0 M w L) (s : Nat) (hs : 0 < s ∧ s ≤ 4096) : Calls Tryz.prog 19 #[.int .i64 (s : Int)] w fun e w' => ∃ fg fc sv rest P, e = .returned (.agg (List.toArray [.slice (some ⟨fg, 0, none⟩) s fc, .bool false, .int .i64 (-1), .int .i64 0, .bool false])) ∧ sv.length = s ∧ (∀ v ∈ sv, Sec P v zeroB) ∧ St w0 M w' (.blk fg 33 (sv ++ rest) :: (P ++ L)) := by
  have hst := hS
  clear hS
  go_enter Tryz.func19, Tryz.ntmps19
  go_wp2_with (first | go_big_skip | go_big_guard | (refine wl_buildX (cs := [.slice none 0 0, .bool false, .int .i64 (-1), .int .i64 0, .bool false]) [(2, _)] rfl rfl (by exact rfl) (by kernel_rfl) ?_) | (first | (refine wl_alloc hst rfl rfl ?_; intro g2 w1 hst1; clear hst) | (refine wl_alloc hst1 rfl rfl ?_; intro g3 w2 hst2; clear hst1)) | (refine wl_storeA (T := 60) (vs := [.slice none 0 0, .bool false, .int .i64 (-1), .int .i64 0, .bool false]) [] hst2 rfl rfl rfl rfl rfl rfl rfl ?_; intro w3 hst3; clear hst2))
  have hst4 : St w0 M w3 (.blk g3 60 [(.slice none 0 0), .bool false, .int .i64 (-1), .int .i64 0, .bool false] :: .row (.slice none 0 0) 33 1 0 [] :: ([] ++ (.blk g2 60 [.slice none 0 0, .bool false, .int .i64 0, .int .i64 0, .bool false] :: L))) := St.perm (St.nilR 33 1 hst3) (List.Perm.swap _ _ _)
  clear hst3
  go_loopw [4] (fun i wr => ∃ (j : Nat) (sv : List Value) (P : List HA) (fv : Value), j ≤ s ∧ i = .int .i64 (j : Int) ∧ sv.length = j ∧ Hid (∀ v ∈ sv, Sec P v zeroB) ∧ St w0 M wr (.blk g3 60 [fv, .bool false, .int .i64 (-1), .int .i64 0, .bool false] :: .row fv 33 1 j sv :: (P ++ (.blk g2 60 [.slice none 0 0, .bool false, .int .i64 0, .int .i64 0, .bool false] :: L)))) (fun i _ => s - (intOf i).toNat)
  case atStart => exact ⟨0, [], [], .slice none 0 0, Nat.zero_le _, rfl, rfl, hid (fun v hv => by cases hv), hst4⟩
  case round =>
    clear hst4
    obtain ⟨j, sv, P, fv, hj, rfl, hsl, HSV, hst⟩ := hrel
    have HSL := hid hsl
    clear hsl
    by_cases hlj : j < s
    · have d1 : decide ((j : Int) < (s : Int)) = true := decide_eq_true (by omega)
      have z1 : IntKind.i64.wrap ((j : Int) + 1) = (j : Int) + 1 := IntWalk.i64_in _ (by omega)
      go_wp2_with (first | go_big_skip | go_big_guard | fail)
      have hX := hst.drew
      clear hst
      refine wp_region_held_drew (S := (fun w' => True)) (by kernel_rfl) (by exact trivial) (fun hHeld => ?_)
      refine wpAnyH_take (i := 0) (oi := ⟨some 11, _, _, _, _, _⟩) (v := ?_) rfl (by kernel_rfl) (by kernel_rfl) (by kernel_rfl) (fun _ _ _ h => h) (Or.inl ⟨by rfl, ?_⟩) (by assumption) ?_
      rotate_left
      · intro w hSw; (try dsimp only at hSw); go_simp; try with_reducible rfl
      (try simp only [Act.put, List.setIfInBounds_toArray, List.set_cons_zero, List.set_cons_succ])
      refine wpAnyH_ready (rs := [1, 2]) (by kernel_rfl) (by simp) ?_
      refine (AllReadyH.cons (o := ⟨some 12, _, _, _, _, _⟩) rfl (fun K hK => ?_) (AllReadyH.cons (o := ⟨some 13, _, _, _, _, _⟩) rfl (fun K hK => ?_) AllReadyH.nil))
      · rw [if_pos (by rfl)]
        refine ow_of_wl (ops := #[]) (by rfl) ?_
        refine wl_loadE rfl rfl rfl ?_
        refine ⟨_, Loads.at [] hX rfl, ?_⟩
        refine q0_nil ?_
        refine hK.out _ _ ?_ (fun hHeld => ?_)
        · exact trivial
        clear hK K
        (try simp only [Act.put, List.setIfInBounds_toArray, List.set_cons_zero, List.set_cons_succ])
        refine wpAnyH_ready (rs := [2]) (by kernel_rfl) (by simp) ?_
        refine (AllReadyH.cons (o := ⟨some 13, _, _, _, _, _⟩) rfl (fun K hK => ?_) AllReadyH.nil)
        rw [if_pos (by rfl)]
        refine ow_of_wl (ops := #[]) (by rfl) ?_
        apply wl_make 256 256 hX
        rfl
        rfl
        exact rfl
        exact rfl
        infer_instance
        infer_instance
        infer_instance
        exact rfl
        exact rfl
        decide
        decide
        intro gm w4 hB1
        refine q0_nil ?_
        refine hK.out _ _ ?_ (fun hHeld => ?_)
        · exact trivial
        clear hK K
        (try simp only [Act.put, List.setIfInBounds_toArray, List.set_cons_zero, List.set_cons_succ])
        refine wpAnyH_ready (rs := [3]) (by kernel_rfl) (by simp) ?_
        refine (AllReadyH.cons (o := ⟨some 14, _, _, _, _, _⟩) rfl (fun K hK => ?_) AllReadyH.nil)
        rw [if_pos (by rfl)]
        refine ow_of_wl (ops := #[]) (by rfl) ?_
        apply wl_bsX [.slice (some ⟨gm, 0, none⟩) 256 256] [.slice (some ⟨gm, 0, none⟩) 256 256] hB1
        rfl
        rfl
        exact rfl
        exact rfl
        infer_instance
        infer_instance
        rfl
        rfl
        rfl
        intro gb w5 hB2
        refine q0_nil ?_
        refine hK.out _ _ ?_ (fun hHeld => ?_)
        · exact trivial
        clear hK K
        (try simp only [Act.put, List.setIfInBounds_toArray, List.set_cons_zero, List.set_cons_succ])
        refine wpAnyH_ready (rs := [4]) (by kernel_rfl) (by simp) ?_
        refine (AllReadyH.cons (o := ⟨some 15, _, _, _, _, _⟩) rfl (fun K hK => ?_) AllReadyH.nil)
        rw [if_pos (by rfl)]
        refine ow_of_wl (ops := #[]) (by rfl) ?_
        apply wl_appX (m := 1) (ys := [.slice (some ⟨gm, 0, none⟩) 256 256]) [_, _, _] hB2
        rfl
        rfl
        exact rfl
        exact rfl
        infer_instance
        infer_instance
        infer_instance
        exact Rd.blk (n := 1) hB2 (.head _) (Nat.le_refl _) (by decide) rfl rfl
        rfl
        (refine ⟨by decide, by unfold maxLen; omega, by omega⟩)
        intro v9 w6 hB3 _
        obtain ⟨vo, vc, rfl, _, _, _⟩ := row_form hB3 (.tail _ (.tail _ (.tail _ (.head _))))
        refine q0_nil ?_
        refine hK.out _ _ ?_ (fun hHeld => ?_)
        · exact trivial
        clear hK K
        (try simp only [Act.put, List.setIfInBounds_toArray, List.set_cons_zero, List.set_cons_succ])
        refine wpAnyH_take (i := 5) (oi := ⟨some 16, _, _, _, _, _⟩) (v := ?_) rfl (by kernel_rfl) (by kernel_rfl) (by kernel_rfl) (fun _ _ _ h => h) (Or.inl ⟨by rfl, ?_⟩) (by assumption) ?_
        rotate_left
        · intro w hSw; (try dsimp only at hSw); go_simp; try with_reducible rfl
        (try simp only [Act.put, List.setIfInBounds_toArray, List.set_cons_zero, List.set_cons_succ])
        refine wpAnyH_ready (rs := [6]) (by kernel_rfl) (by simp) ?_
        refine (AllReadyH.cons (o := ⟨none, _, _, _, _, _⟩) rfl (fun K hK => ?_) AllReadyH.nil)
        rw [if_pos (by rfl)]
        refine ow_of_wl (ops := #[]) (by rfl) ?_
        refine wl_store [_, _] hB3 rfl rfl rfl (v := .slice _ _ _) rfl rfl rfl (by show (0 : Nat) + 1 ≤ 5; decide) ?_
        intro w7 hB4
        refine q0_nil ?_
        refine hK.out _ _ ?_ (fun hHeld => ?_)
        · exact trivial
        clear hK K
        (try simp only [Act.put, List.setIfInBounds_toArray, List.set_cons_zero, List.set_cons_succ])
        refine wpAnyH_done (by kernel_rfl) ?_ _
        clear hHeld
        have h9 := (St.front (L1 := [_, _, _]) (St.front (L1 := [_, _, _]) (St.front (L1 := [_, _, _]) hB4)))
        have h10 := St.toRow (n := 256) (cap := 256) (sz := 1) h9 rfl (Nat.le_refl _) (by decide)
        rw [zero_take] at h10
        have h11 := St.sub h10 (.cons_cons _ (.cons_cons _ (.cons_cons _ (.cons _ (List.Sublist.refl _)))))
        have h12 := St.perm h11 ((List.Perm.swap _ _ _).trans (List.Perm.cons _ (List.Perm.swap _ _ _)))
        clear h9 h10 h11 hB4
        go_wp2_with (first | go_big_skip | go_big_guard | fail)
        go_roundw
        case rel => exact ⟨j + 1, sv ++ [Value.slice (some ⟨gm, 0, none⟩) 256 256], HA.row (Value.slice (some ⟨gm, 0, none⟩) 256 256) 5 1 256 (bytesV zeroB) :: P, Value.slice vo (j + 1) vc, by omega, rfl, by rw [List.length_append, HSL.out]; rfl, hid (fun v hv => by
          rcases List.mem_append.1 hv with h | h
          · exact (HSV.out v h).mono (fun y hy => .tail _ hy)
          · rw [List.mem_singleton] at h
            rw [h]
            exact .head _), h12⟩
        case measure => simp [intOf]; omega
      · rw [if_pos (by rfl)]
        refine ow_of_wl (ops := #[]) (by rfl) ?_
        apply wl_make 256 256 hX
        rfl
        rfl
        exact rfl
        exact rfl
        infer_instance
        infer_instance
        infer_instance
        exact rfl
        exact rfl
        decide
        decide
        intro gm w4 hB1
        refine q0_nil ?_
        refine hK.out _ _ ?_ (fun hHeld => ?_)
        · exact trivial
        clear hK K
        (try simp only [Act.put, List.setIfInBounds_toArray, List.set_cons_zero, List.set_cons_succ])
        refine wpAnyH_ready (rs := [1, 3]) (by kernel_rfl) (by simp) ?_
        refine (AllReadyH.cons (o := ⟨some 12, _, _, _, _, _⟩) rfl (fun K hK => ?_) (AllReadyH.cons (o := ⟨some 14, _, _, _, _, _⟩) rfl (fun K hK => ?_) AllReadyH.nil))
        · rw [if_pos (by rfl)]
          refine ow_of_wl (ops := #[]) (by rfl) ?_
          refine wl_loadE rfl rfl rfl ?_
          refine ⟨_, Loads.at [_] hB1 rfl, ?_⟩
          refine q0_nil ?_
          refine hK.out _ _ ?_ (fun hHeld => ?_)
          · exact trivial
          clear hK K
          (try simp only [Act.put, List.setIfInBounds_toArray, List.set_cons_zero, List.set_cons_succ])
          refine wpAnyH_ready (rs := [3]) (by kernel_rfl) (by simp) ?_
          refine (AllReadyH.cons (o := ⟨some 14, _, _, _, _, _⟩) rfl (fun K hK => ?_) AllReadyH.nil)
          rw [if_pos (by rfl)]
          refine ow_of_wl (ops := #[]) (by rfl) ?_
          apply wl_bsX [.slice (some ⟨gm, 0, none⟩) 256 256] [.slice (some ⟨gm, 0, none⟩) 256 256] hB1
          rfl
          rfl
          exact rfl
          exact rfl
          infer_instance
          infer_instance
          rfl
          rfl
          rfl
          intro gb w5 hB2
          refine q0_nil ?_
          refine hK.out _ _ ?_ (fun hHeld => ?_)
          · exact trivial
          clear hK K
          (try simp only [Act.put, List.setIfInBounds_toArray, List.set_cons_zero, List.set_cons_succ])
          refine wpAnyH_ready (rs := [4]) (by kernel_rfl) (by simp) ?_
          refine (AllReadyH.cons (o := ⟨some 15, _, _, _, _, _⟩) rfl (fun K hK => ?_) AllReadyH.nil)
          rw [if_pos (by rfl)]
          refine ow_of_wl (ops := #[]) (by rfl) ?_
          apply wl_appX (m := 1) (ys := [.slice (some ⟨gm, 0, none⟩) 256 256]) [_, _, _] hB2
          rfl
          rfl
          exact rfl
          exact rfl
          infer_instance
          infer_instance
          infer_instance
          exact Rd.blk (n := 1) hB2 (.head _) (Nat.le_refl _) (by decide) rfl rfl
          rfl
          (refine ⟨by decide, by unfold maxLen; omega, by omega⟩)
          intro v9 w6 hB3 _
          obtain ⟨vo, vc, rfl, _, _, _⟩ := row_form hB3 (.tail _ (.tail _ (.tail _ (.head _))))
          refine q0_nil ?_
          refine hK.out _ _ ?_ (fun hHeld => ?_)
          · exact trivial
          clear hK K
          (try simp only [Act.put, List.setIfInBounds_toArray, List.set_cons_zero, List.set_cons_succ])
          refine wpAnyH_take (i := 5) (oi := ⟨some 16, _, _, _, _, _⟩) (v := ?_) rfl (by kernel_rfl) (by kernel_rfl) (by kernel_rfl) (fun _ _ _ h => h) (Or.inl ⟨by rfl, ?_⟩) (by assumption) ?_
          rotate_left
          · intro w hSw; (try dsimp only at hSw); go_simp; try with_reducible rfl
          (try simp only [Act.put, List.setIfInBounds_toArray, List.set_cons_zero, List.set_cons_succ])
          refine wpAnyH_ready (rs := [6]) (by kernel_rfl) (by simp) ?_
          refine (AllReadyH.cons (o := ⟨none, _, _, _, _, _⟩) rfl (fun K hK => ?_) AllReadyH.nil)
          rw [if_pos (by rfl)]
          refine ow_of_wl (ops := #[]) (by rfl) ?_
          refine wl_store [_, _] hB3 rfl rfl rfl (v := .slice _ _ _) rfl rfl rfl (by show (0 : Nat) + 1 ≤ 5; decide) ?_
          intro w7 hB4
          refine q0_nil ?_
          refine hK.out _ _ ?_ (fun hHeld => ?_)
          · exact trivial
          clear hK K
          (try simp only [Act.put, List.setIfInBounds_toArray, List.set_cons_zero, List.set_cons_succ])
          refine wpAnyH_done (by kernel_rfl) ?_ _
          clear hHeld
          have h9 := (St.front (L1 := [_, _, _]) (St.front (L1 := [_, _, _]) (St.front (L1 := [_, _, _]) hB4)))
          have h10 := St.toRow (n := 256) (cap := 256) (sz := 1) h9 rfl (Nat.le_refl _) (by decide)
          rw [zero_take] at h10
          have h11 := St.sub h10 (.cons_cons _ (.cons_cons _ (.cons_cons _ (.cons _ (List.Sublist.refl _)))))
          have h12 := St.perm h11 ((List.Perm.swap _ _ _).trans (List.Perm.cons _ (List.Perm.swap _ _ _)))
          clear h9 h10 h11 hB4
          go_wp2_with (first | go_big_skip | go_big_guard | fail)
          go_roundw
          case rel => exact ⟨j + 1, sv ++ [Value.slice (some ⟨gm, 0, none⟩) 256 256], HA.row (Value.slice (some ⟨gm, 0, none⟩) 256 256) 5 1 256 (bytesV zeroB) :: P, Value.slice vo (j + 1) vc, by omega, rfl, by rw [List.length_append, HSL.out]; rfl, hid (fun v hv => by
            rcases List.mem_append.1 hv with h | h
            · exact (HSV.out v h).mono (fun y hy => .tail _ hy)
            · rw [List.mem_singleton] at h
              rw [h]
              exact .head _), h12⟩
          case measure => simp [intOf]; omega
        · rw [if_pos (by rfl)]
          refine ow_of_wl (ops := #[]) (by rfl) ?_
          apply wl_bsX [.slice (some ⟨gm, 0, none⟩) 256 256] [.slice (some ⟨gm, 0, none⟩) 256 256] hB1
          rfl
          rfl
          exact rfl
          exact rfl
          infer_instance
          infer_instance
          rfl
          rfl
          rfl
          intro gb w5 hB2
          refine q0_nil ?_
          refine hK.out _ _ ?_ (fun hHeld => ?_)
          · exact trivial
          clear hK K
          (try simp only [Act.put, List.setIfInBounds_toArray, List.set_cons_zero, List.set_cons_succ])
          refine wpAnyH_ready (rs := [1]) (by kernel_rfl) (by simp) ?_
          refine (AllReadyH.cons (o := ⟨some 12, _, _, _, _, _⟩) rfl (fun K hK => ?_) AllReadyH.nil)
          rw [if_pos (by rfl)]
          refine ow_of_wl (ops := #[]) (by rfl) ?_
          refine wl_loadE rfl rfl rfl ?_
          refine ⟨_, Loads.at [_, _] hB2 rfl, ?_⟩
          refine q0_nil ?_
          refine hK.out _ _ ?_ (fun hHeld => ?_)
          · exact trivial
          clear hK K
          (try simp only [Act.put, List.setIfInBounds_toArray, List.set_cons_zero, List.set_cons_succ])
          refine wpAnyH_ready (rs := [4]) (by kernel_rfl) (by simp) ?_
          refine (AllReadyH.cons (o := ⟨some 15, _, _, _, _, _⟩) rfl (fun K hK => ?_) AllReadyH.nil)
          rw [if_pos (by rfl)]
          refine ow_of_wl (ops := #[]) (by rfl) ?_
          apply wl_appX (m := 1) (ys := [.slice (some ⟨gm, 0, none⟩) 256 256]) [_, _, _] hB2
          rfl
          rfl
          exact rfl
          exact rfl
          infer_instance
          infer_instance
          infer_instance
          exact Rd.blk (n := 1) hB2 (.head _) (Nat.le_refl _) (by decide) rfl rfl
          rfl
          (refine ⟨by decide, by unfold maxLen; omega, by omega⟩)
          intro v9 w6 hB3 _
          obtain ⟨vo, vc, rfl, _, _, _⟩ := row_form hB3 (.tail _ (.tail _ (.tail _ (.head _))))
          refine q0_nil ?_
          refine hK.out _ _ ?_ (fun hHeld => ?_)
          · exact trivial
          clear hK K
          (try simp only [Act.put, List.setIfInBounds_toArray, List.set_cons_zero, List.set_cons_succ])
          refine wpAnyH_take (i := 5) (oi := ⟨some 16, _, _, _, _, _⟩) (v := ?_) rfl (by kernel_rfl) (by kernel_rfl) (by kernel_rfl) (fun _ _ _ h => h) (Or.inl ⟨by rfl, ?_⟩) (by assumption) ?_
          rotate_left
          · intro w hSw; (try dsimp only at hSw); go_simp; try with_reducible rfl
          (try simp only [Act.put, List.setIfInBounds_toArray, List.set_cons_zero, List.set_cons_succ])
          refine wpAnyH_ready (rs := [6]) (by kernel_rfl) (by simp) ?_
          refine (AllReadyH.cons (o := ⟨none, _, _, _, _, _⟩) rfl (fun K hK => ?_) AllReadyH.nil)
          rw [if_pos (by rfl)]
          refine ow_of_wl (ops := #[]) (by rfl) ?_
          refine wl_store [_, _] hB3 rfl rfl rfl (v := .slice _ _ _) rfl rfl rfl (by show (0 : Nat) + 1 ≤ 5; decide) ?_
          intro w7 hB4
          refine q0_nil ?_
          refine hK.out _ _ ?_ (fun hHeld => ?_)
          · exact trivial
          clear hK K
          (try simp only [Act.put, List.setIfInBounds_toArray, List.set_cons_zero, List.set_cons_succ])
          refine wpAnyH_done (by kernel_rfl) ?_ _
          clear hHeld
          have h9 := (St.front (L1 := [_, _, _]) (St.front (L1 := [_, _, _]) (St.front (L1 := [_, _, _]) hB4)))
          have h10 := St.toRow (n := 256) (cap := 256) (sz := 1) h9 rfl (Nat.le_refl _) (by decide)
          rw [zero_take] at h10
          have h11 := St.sub h10 (.cons_cons _ (.cons_cons _ (.cons_cons _ (.cons _ (List.Sublist.refl _)))))
          have h12 := St.perm h11 ((List.Perm.swap _ _ _).trans (List.Perm.cons _ (List.Perm.swap _ _ _)))
          clear h9 h10 h11 hB4
          go_wp2_with (first | go_big_skip | go_big_guard | fail)
          go_roundw
          case rel => exact ⟨j + 1, sv ++ [Value.slice (some ⟨gm, 0, none⟩) 256 256], HA.row (Value.slice (some ⟨gm, 0, none⟩) 256 256) 5 1 256 (bytesV zeroB) :: P, Value.slice vo (j + 1) vc, by omega, rfl, by rw [List.length_append, HSL.out]; rfl, hid (fun v hv => by
            rcases List.mem_append.1 hv with h | h
            · exact (HSV.out v h).mono (fun y hy => .tail _ hy)
            · rw [List.mem_singleton] at h
              rw [h]
              exact .head _), h12⟩
          case measure => simp [intOf]; omega
    · obtain rfl : j = s := by omega
      have d1 : decide ((j : Int) < (j : Int)) = false := decide_eq_false (by omega)
      obtain ⟨fg, fc, rest, rfl, _, _, _, hst1⟩ := row_openL (L1 := [_]) hst hs.1
      clear hst
      go_wp2_with (first | go_big_skip | go_big_guard | (refine wl_loadE rfl rfl rfl ?_; refine ⟨_, Loads.atA (P := Tryz.prog) (T := 60) [.slice (some ⟨fg, 0, none⟩) j fc, .bool false, .int .i64 (-1), .int .i64 0, .bool false] [] hst1 rfl rfl, ?_⟩) | (refine wl_storeA (T := 60) (vs := [.slice (some ⟨fg, 0, none⟩) j fc, .bool false, .int .i64 (-1), .int .i64 0, .bool false]) (_ :: _ :: P) hst1 rfl rfl rfl rfl rfl rfl rfl ?_; intro w8 hst2; clear hst1))
      have hl := Loads.atA (P := Tryz.prog) (off := 0) (T := 60) [.slice (some ⟨fg, 0, none⟩) j fc, .bool false, .int .i64 (-1), .int .i64 0, .bool false] (_ :: _ :: P) hst2 rfl rfl
      refine bodyPost_ret (results_cell1 rfl rfl hl) rfl ?_
      refine ⟨fg, fc, sv, rest, P, rfl, HSL.out, HSV.out, ?_⟩
      exact St.sub hst2 (.cons _ (.cons_cons _ (List.Sublist.append_left (List.sublist_cons_self _ _) _)))
end
end Go.Proofs.YtclleohpmgihaaaGreat
namespace Go.Proofs.YtclleohpmgihaaaGreat
set_option linter.unusedVariables false
set_option linter.unusedSimpArgs false
open Go.RowKit Hp
attribute [local irreducible] Go.Calls Go.wpList
set_option maxRecDepth 100000
set_option maxHeartbeats 8000000
/-- A device that is new. -/
structure NewOk (P : List HA) (s : Nat) (r : RDv) : Prop where
  lo : r.lo = false
  ay : r.ay = -1
  fail : r.fail = 0
  gone : r.gone = false
  len : r.f.sv.length = s
  sec : ∀ v ∈ r.f.sv, Sec P v zeroB
theorem NewOk.mono {p q : List HA} {s : Nat} {r : RDv} (h : NewOk p s r) (hq : ∀ y ∈ p, y ∈ q) : NewOk q s r := ⟨h.lo, h.ay, h.fail, h.gone, h.len, fun v hv => (h.sec v hv).mono hq⟩
theorem NewOk.dok {P : List HA} {s : Nat} {r : RDv} (h : NewOk P s r) (g : Nat) : DOk P (blank s g) r := by
  refine ⟨h.lo, h.ay, h.fail, h.gone, by rw [h.len]; exact (List.length_replicate).symm, fun i hi => ?_⟩
  have hi2 : i < s := by
    have e : (blank s g).firm.length = s := List.length_replicate
    omega
  have hi3 : i < r.f.sv.length := by rw [h.len]; exact hi2
  refine ⟨r.f.sv[i], List.getElem?_eq_getElem hi3, ?_⟩
  have e : (blank s g).firm.getD i [] = zeroB := by
    show (List.replicate s (List.replicate 256 (0 : UInt8))).getD i [] = _
    rw [List.getD_eq_getElem?_getD, List.getElem?_replicate, if_pos hi2]
    rfl
  rw [e]
  exact h.sec _ (List.getElem_mem hi3)
theorem newA_ref {s d : Nat} {gs : List Nat} {rds : List RDv} {P : List HA} {gd cd : Nat} {rest : List Value} {lv : Value} (hd : 0 < d) (hg : gs.length = d) (hr : rds.length = d) (hn : ∀ r ∈ rds, NewOk P s r) : RefOk (newA s gs) ⟨rds, s, [], -1, false, 0, gd, cd, rest, lv, P⟩ := by
  have hdl : (newA s gs).devs.length = d := by show (gs.map (blank s)).length = d; rw [List.length_map, hg]
  have hdv : ∀ k : Nat, k < d → (newA s gs).dv (k : Int) = blank s (gs.getD k 0) := fun k hk => by
    show (gs.map (blank s)).getD (k : Int).toNat DV.zero = _
    rw [Int.toNat_natCast, List.getD_eq_getElem?_getD, List.getElem?_map, List.getElem?_eq_getElem (by omega), List.getD_eq_getElem?_getD, List.getElem?_eq_getElem (by omega)]
    rfl
  refine ⟨by rw [hdl]; exact hr, fun k hk => ?_, ?_, rfl, (fun i v hv => by simp [newA] at hv), rfl, rfl, rfl⟩
  · rw [hdl] at hk
    rw [hdv k hk]
    have hkr : k < rds.length := by omega
    have : (⟨rds, s, [], -1, false, 0, gd, cd, rest, lv, P⟩ : RX).dv k = rds[k] := by
      unfold RX.dv
      rw [List.getD_eq_getElem?_getD, List.getElem?_eq_getElem hkr]
      rfl
    rw [this]
    exact (hn _ (List.getElem_mem hkr)).dok _
  · have h0 : (newA s gs).devs ≠ [] := fun h => by rw [h] at hdl; simp at hdl; omega
    have : (newA s gs).secs = s := by
      unfold AR.secs
      cases hq : (newA s gs).devs with
      | nil => exact absurd hq h0
      | cons D l =>
        have := hdv 0 hd
        unfold AR.dv at this
        rw [hq] at this
        show D.firm.length = s
        rw [show D = blank s (gs.getD 0 0) from this]
        exact List.length_replicate
    exact this.symm
theorem set_dc {x : RX} {k : Nat} (h : k < x.devs.length) (r : RDv) : putAt x.dc (k * 5) r.cells = (x.upd k fun _ => r).dc := by
  have := flat_putAll (f := RDv.cells) (sz := 5) (l := x.devs) (k := k) (d' := r) (fun d => rfl) h x.rest
  unfold RX.dc
  rw [this]
  show _ = (x.devs.modify k _).flatMap RDv.cells ++ x.rest
  congr 2
  apply List.ext_getElem?
  intro j
  rw [modify_get, List.getElem?_set]
  by_cases hj : k = j
  · subst hj
    rw [if_pos rfl, if_pos rfl, RX.dget h, if_pos h, Option.map_some]
  · rw [if_neg hj, if_neg hj]
/-- The old sectors are let go, the new ones are taken. -/
theorem fit_fin {w0 w : World} {M : List Nat} {R : List HA} {gr k : Nat} {x : RX} {r : RDv} {P : List HA} (hk : k < x.devs.length) (h : St w0 M w (.blk gr 57 x.hdr :: .blk x.gd 60 (putAt x.dc (k * 5) r.cells) :: .row x.lv 96 3 x.loose.length x.lc :: (x.tail ++ (fblk r :: (P ++ R))))) : St w0 M w (rxP gr { (x.upd k fun _ => r) with pool := x.pool ++ P } ++ R) := by
  rw [set_dc hk] at h
  have hT : x.tail = (x.devs.take k).map fblk ++ fblk (x.dv k) :: ((x.devs.drop (k + 1)).map fblk ++ x.pool) := by
    unfold RX.tail
    conv => lhs; rw [dev_split hk]
    rw [List.map_append, List.append_assoc]
    rfl
  have hT2 : ({ (x.upd k fun _ => r) with pool := x.pool ++ P } : RX).tail = (x.devs.take k).map fblk ++ fblk r :: ((x.devs.drop (k + 1)).map fblk ++ (x.pool ++ P)) := by
    unfold RX.tail
    show ((x.upd k fun _ => r).devs.map fblk) ++ (x.pool ++ P) = _
    rw [mod_split hk, List.map_append, List.append_assoc]
    rfl
  have hH : ({ (x.upd k fun _ => r) with pool := x.pool ++ P } : RX).hdr = x.hdr := by
    unfold RX.hdr
    show [Value.slice (some ⟨x.gd, 0, none⟩) (x.upd k fun _ => r).devs.length x.cd, _, _, _, _, _] = _
    rw [RX.upd_len]
    rfl
  unfold rxP
  rw [hT2, hH]
  rw [hT] at h
  generalize (x.devs.take k).map fblk = F1 at h ⊢
  generalize (x.devs.drop (k + 1)).map fblk = F2 at h ⊢
  have h1 := St.sub h (.cons_cons _ (.cons_cons _ (.cons_cons _ (List.Sublist.append_right (List.Sublist.append_left (List.sublist_cons_self _ _) F1) _))))
  refine St.perm h1 (List.Perm.cons _ (List.Perm.cons _ (List.Perm.cons _ ?_)))
  have e1 : (F1 ++ (F2 ++ x.pool)) ++ (fblk r :: (P ++ R)) = F1 ++ ((F2 ++ x.pool) ++ fblk r :: (P ++ R)) := by simp
  have e2 : (F1 ++ fblk r :: (F2 ++ (x.pool ++ P))) ++ R = F1 ++ (fblk r :: ((F2 ++ x.pool) ++ (P ++ R))) := by simp
  show ((F1 ++ (F2 ++ x.pool)) ++ (fblk r :: (P ++ R))).Perm ((F1 ++ fblk r :: (F2 ++ (x.pool ++ P))) ++ R)
  rw [e1, e2]
  exact List.Perm.append_left _ List.perm_middle
theorem new_perm {w0 w : World} {M : List Nat} {A B : HA} {rds : List RDv} {r : RDv} {P P9 L : List HA} (h : St w0 M w (.blk r.f.g 33 (r.f.sv ++ r.f.rest) :: (P9 ++ (A :: B :: (rds.map fblk ++ (P ++ L)))))) : St w0 M w (A :: B :: ((rds ++ [r]).map fblk ++ ((P9 ++ P) ++ L))) := by
  rw [show (rds ++ [r]).map fblk ++ ((P9 ++ P) ++ L) = rds.map fblk ++ (fblk r :: (P9 ++ (P ++ L))) by simp]
  refine St.perm h ?_
  refine List.Perm.trans (List.Perm.cons _ (List.perm_append_comm_assoc P9 (A :: B :: rds.map fblk) (P ++ L))) ?_
  exact (List.perm_middle (l₁ := A :: B :: rds.map fblk) (a := fblk r) (l₂ := P9 ++ (P ++ L))).symm
theorem fit_perm {w0 w : World} {M : List Nat} {A B C : HA} {T : List HA} {fb : HA} {P9 R : List HA} (h : St w0 M w (fb :: (P9 ++ (A :: B :: C :: (T ++ R))))) : St w0 M w (A :: B :: C :: (T ++ (fb :: (P9 ++ R)))) :=
  St.perm h (List.perm_append_comm_assoc (fb :: P9) (A :: B :: C :: T) R)
section
theorem loadedD12 (A : Addr) : loadVar 54 A = loadVarH 54 A := rfl
theorem loadedI12 (A : Addr) : loadVar 3 A = loadVarH 3 A := rfl
attribute [local go_sem ↓] loadedD12 loadedI12
theorem new_r {w0 w : World} {M : List Nat} {L : List HA} (hS : St w0 M w L) (d s : Nat) (hd : 2 ≤ d ∧ d ≤ 8) (hs : 8 ≤ s ∧ s ≤ 4096) : Calls Tryz.prog 7 #[.int .i64 (d : Int), .int .i64 (s : Int)] w fun e w' => ∃ gr x, e = .returned (.tuple #[.pointer (some ⟨gr, 0, none⟩), .int .i64 0]) ∧ (∀ gs : List Nat, gs.length = d → RefOk (newA s gs) x) ∧ St w0 M w' (rxP gr x ++ L) := by
  have hst := hS
  have d1 : decide ((d : Int) < 2) = false := decide_eq_false (by omega)
  have d2 : decide ((8 : Int) < (d : Int)) = false := decide_eq_false (by omega)
  have d3 : decide ((d : Int) > 8) = false := d2
  have d4 : decide ((s : Int) < 8) = false := decide_eq_false (by omega)
  have d5 : decide ((4096 : Int) < (s : Int)) = false := decide_eq_false (by omega)
  have d6 : decide ((s : Int) > 4096) = false := d5
  clear hS
  go_enter Tryz.func7, Tryz.ntmps7
  go_wp2_with (first | go_big_skip | go_big_guard | (refine wl_buildX (cs := [(.slice none 0 0), .int .i64 (s : Int), .slice none 0 0, .int .i64 (-1), .bool false, .int .i64 0]) [(1, _), (3, _)] rfl rfl (by exact rfl) (by kernel_rfl) ?_) | (refine wl_boxA hst rfl rfl rfl ?_; intro gr _ hst1; clear hst))
  have hst3 := St.perm (St.nilR 60 5 hst1) (List.Perm.swap _ _ _)
  clear hst1
  go_loopw [7] (fun i wr => ∃ (j : Nat) (rds : List RDv) (P : List HA) (dv : Value), j ≤ d ∧ i = .int .i64 (j : Int) ∧ rds.length = j ∧ Hid (∀ r ∈ rds, NewOk P s r) ∧ St w0 M wr (.blk gr 57 [dv, .int .i64 (s : Int), .slice none 0 0, .int .i64 (-1), .bool false, .int .i64 0] :: .row dv 60 5 j (rds.flatMap RDv.cells) :: (rds.map fblk ++ (P ++ L)))) (fun i _ => d - (intOf i).toNat)
  case atStart => exact ⟨0, [], [], .slice none 0 0, Nat.zero_le _, rfl, rfl, hid (fun v hv => by cases hv), hst3⟩
  case round =>
    clear hst3
    obtain ⟨j, rds, P, dv, hj, rfl, hrl, HNO, hst⟩ := hrel
    have HRL := hid hrl
    clear hrl
    by_cases hlj : j < d
    · have e1 : decide ((j : Int) < (d : Int)) = true := decide_eq_true (by omega)
      have z1 : IntKind.i64.wrap ((j : Int) + 1) = (j : Int) + 1 := IntWalk.i64_in _ (by omega)
      go_wp2_with (first | go_big_skip | go_big_guard | fail)
      have hX := hst.drew
      clear hst
      refine wp_region_held_drew (S := (fun w' => True)) (by kernel_rfl) (by exact trivial) (fun hHeld => ?_)
      refine wpAnyH_take (i := 0) (oi := ⟨some 30, _, _, _, _, _⟩) (v := ?_) rfl (by kernel_rfl) (by kernel_rfl) (by kernel_rfl) (fun _ _ _ h => h) (Or.inl ⟨by rfl, ?_⟩) (by assumption) ?_
      rotate_left
      · intro w hSw; (try dsimp only at hSw); go_simp; try with_reducible rfl
      (try simp only [Act.put, List.setIfInBounds_toArray, List.set_cons_zero, List.set_cons_succ])
      refine wpAnyH_take (i := 1) (oi := ⟨some 31, _, _, _, _, _⟩) (v := ?_) rfl (by kernel_rfl) (by kernel_rfl) (by kernel_rfl) (fun _ _ _ h => h) (Or.inl ⟨by rfl, ?_⟩) (by assumption) ?_
      rotate_left
      · intro w hSw; (try dsimp only at hSw); go_simp; try with_reducible rfl
      (try simp only [Act.put, List.setIfInBounds_toArray, List.set_cons_zero, List.set_cons_succ])
      refine wpAnyH_take (i := 5) (oi := ⟨some 35, _, _, _, _, _⟩) (v := ?_) rfl (by kernel_rfl) (by kernel_rfl) (by kernel_rfl) (fun _ _ _ h => h) (Or.inl ⟨by rfl, ?_⟩) (by assumption) ?_
      rotate_left
      · intro w hSw; (try dsimp only at hSw); go_simp; try with_reducible rfl
      (try simp only [Act.put, List.setIfInBounds_toArray, List.set_cons_zero, List.set_cons_succ])
      refine wpAnyH_take (i := 2) (oi := ⟨some 32, _, _, _, _, _⟩) (v := ?_) rfl (by kernel_rfl) (by kernel_rfl) (by kernel_rfl) (fun _ _ _ h => h) (Or.inl ⟨by rfl, ?_⟩) (by assumption) ?_
      rotate_left
      · intro w hSw; (try dsimp only at hSw); go_simp; try with_reducible rfl
      (try simp only [Act.put, List.setIfInBounds_toArray, List.set_cons_zero, List.set_cons_succ])
      refine wpAnyH_take (i := 3) (oi := ⟨some 33, _, _, _, _, _⟩) (v := ?_) rfl (by kernel_rfl) (by kernel_rfl) (by kernel_rfl) (fun _ _ _ h => h) (Or.inl ⟨by rfl, ?_⟩) (by assumption) ?_
      rotate_left
      · intro w hSw; (try dsimp only at hSw); go_simp; try with_reducible rfl
      (try simp only [Act.put, List.setIfInBounds_toArray, List.set_cons_zero, List.set_cons_succ])
      refine wpAnyH_ready (rs := [4, 6]) (by kernel_rfl) (by simp) ?_
      refine (AllReadyH.cons (o := ⟨some 34, _, _, _, _, _⟩) rfl (fun K hK => ?_) (AllReadyH.cons (o := ⟨some 36, _, _, _, _, _⟩) rfl (fun K hK => ?_) AllReadyH.nil))
      · rw [if_pos (by rfl)]
        refine ow_of_wl (ops := #[]) (by rfl) ?_
        refine wl_loadE rfl rfl rfl ?_
        refine ⟨_, Loads.at [] hX rfl, ?_⟩
        refine q0_nil ?_
        refine hK.out _ _ ?_ (fun hHeld => ?_)
        · exact trivial
        clear hK K
        (try simp only [Act.put, List.setIfInBounds_toArray, List.set_cons_zero, List.set_cons_succ])
        refine wpAnyH_ready (rs := [6]) (by kernel_rfl) (by simp) ?_
        refine (AllReadyH.cons (o := ⟨some 36, _, _, _, _, _⟩) rfl (fun K hK => ?_) AllReadyH.nil)
        rw [if_pos (by rfl)]
        go_simp
        go_at_call 19
        refine (blank_r hX s (by omega)).mono ?_
        rintro _ w4 ⟨fg, fc, sv, rest, P9, rfl, hsv, hsec, h4⟩
        have hB1 : St w0 M w4 (.blk gr 57 [dv, .int .i64 (s : Int), .slice none 0 0, .int .i64 (-1), .bool false, .int .i64 0] :: .row dv 60 5 j (rds.flatMap RDv.cells) :: ((rds ++ [(⟨⟨fg, fc, sv, rest⟩, false, -1, 0, false⟩ : RDv)]).map fblk ++ ((P9 ++ P) ++ L))) := new_perm (r := (⟨⟨fg, fc, sv, rest⟩, false, -1, 0, false⟩ : RDv)) h4
        have HSV := hid hsv
        have HSE := hid hsec
        clear h4 hsv hsec
        refine hK.out _ _ ?_ (fun hHeld => ?_)
        · exact trivial
        clear hK K
        (try simp only [Act.put, List.setIfInBounds_toArray, List.set_cons_zero, List.set_cons_succ])
        refine wpAnyH_ready (rs := [7]) (by kernel_rfl) (by simp) ?_
        refine (AllReadyH.cons (o := ⟨some 37, _, _, _, _, _⟩) rfl (fun K hK => ?_) AllReadyH.nil)
        rw [if_pos (by rfl)]
        refine ow_of_wl (ops := #[]) (by rfl) ?_
        apply wl_bsX [.agg (List.toArray [.slice (some ⟨fg, 0, none⟩) s fc, .bool false, .int .i64 (-1), .int .i64 0, .bool false])] ([.slice (some ⟨fg, 0, none⟩) s fc, .bool false, .int .i64 (-1), .int .i64 0, .bool false]) hB1
        rfl
        rfl
        exact rfl
        exact rfl
        infer_instance
        infer_instance
        rfl
        rfl
        rfl
        intro gb w5 hB2
        refine q0_nil ?_
        refine hK.out _ _ ?_ (fun hHeld => ?_)
        · exact trivial
        clear hK K
        (try simp only [Act.put, List.setIfInBounds_toArray, List.set_cons_zero, List.set_cons_succ])
        refine wpAnyH_ready (rs := [8]) (by kernel_rfl) (by simp) ?_
        refine (AllReadyH.cons (o := ⟨some 38, _, _, _, _, _⟩) rfl (fun K hK => ?_) AllReadyH.nil)
        rw [if_pos (by rfl)]
        refine ow_of_wl (ops := #[]) (by rfl) ?_
        apply wl_appX (m := 1) (ys := [.slice (some ⟨fg, 0, none⟩) s fc, .bool false, .int .i64 (-1), .int .i64 0, .bool false]) [_, _] hB2
        rfl
        rfl
        exact rfl
        exact rfl
        infer_instance
        infer_instance
        infer_instance
        exact Rd.blk (n := 1) hB2 (.head _) (Nat.le_refl _) (by decide) rfl rfl
        rfl
        (refine ⟨by decide, by unfold maxLen; omega, by omega⟩)
        intro v9 w6 hB3 _
        obtain ⟨vo, vc, rfl, _, _, _⟩ := row_form hB3 (.tail _ (.tail _ (.head _)))
        refine q0_nil ?_
        refine hK.out _ _ ?_ (fun hHeld => ?_)
        · exact trivial
        clear hK K
        (try simp only [Act.put, List.setIfInBounds_toArray, List.set_cons_zero, List.set_cons_succ])
        refine wpAnyH_take (i := 9) (oi := ⟨some 39, _, _, _, _, _⟩) (v := ?_) rfl (by kernel_rfl) (by kernel_rfl) (by kernel_rfl) (fun _ _ _ h => h) (Or.inl ⟨by rfl, ?_⟩) (by assumption) ?_
        rotate_left
        · intro w hSw; (try dsimp only at hSw); go_simp; try with_reducible rfl
        (try simp only [Act.put, List.setIfInBounds_toArray, List.set_cons_zero, List.set_cons_succ])
        refine wpAnyH_take (i := 10) (oi := ⟨some 40, _, _, _, _, _⟩) (v := ?_) rfl (by kernel_rfl) (by kernel_rfl) (by kernel_rfl) (fun _ _ _ h => h) (Or.inl ⟨by rfl, ?_⟩) (by assumption) ?_
        rotate_left
        · intro w hSw; (try dsimp only at hSw); go_simp; try with_reducible rfl
        (try simp only [Act.put, List.setIfInBounds_toArray, List.set_cons_zero, List.set_cons_succ])
        refine wpAnyH_ready (rs := [11]) (by kernel_rfl) (by simp) ?_
        refine (AllReadyH.cons (o := ⟨none, _, _, _, _, _⟩) rfl (fun K hK => ?_) AllReadyH.nil)
        rw [if_pos (by rfl)]
        refine ow_of_wl (ops := #[]) (by rfl) ?_
        refine wl_store [_] hB3 rfl rfl rfl (v := .slice _ _ _) rfl rfl rfl (by show (0 : Nat) + 1 ≤ 6; decide) ?_
        intro w7 hB4
        refine q0_nil ?_
        refine hK.out _ _ ?_ (fun hHeld => ?_)
        · exact trivial
        clear hK K
        (try simp only [Act.put, List.setIfInBounds_toArray, List.set_cons_zero, List.set_cons_succ])
        refine wpAnyH_done (by kernel_rfl) ?_ _
        clear hHeld
        have h12 := St.sub hB4 (List.sublist_cons_self _ _)
        clear hB4
        go_wp2_with (first | go_big_skip | go_big_guard | fail)
        go_roundw
        case rel =>
          refine ⟨j + 1, rds ++ [(⟨⟨fg, fc, sv, rest⟩, false, -1, 0, false⟩ : RDv)], P9 ++ P, .slice vo (j + 1) vc, by omega, rfl, by rw [List.length_append, HRL.out]; rfl, hid (fun r hr => ?_), ?_⟩
          · rcases List.mem_append.1 hr with h | h
            · exact (HNO.out r h).mono (fun y hy => List.mem_append_right _ hy)
            · rw [List.mem_singleton] at h
              rw [h]
              exact ⟨rfl, rfl, rfl, rfl, HSV.out, fun v hv => (HSE.out v hv).mono (fun y hy => List.mem_append_left _ hy)⟩
          · have e : (rds ++ [(⟨⟨fg, fc, sv, rest⟩, false, -1, 0, false⟩ : RDv)]).flatMap RDv.cells = rds.flatMap RDv.cells ++ [.slice (some ⟨fg, 0, none⟩) s fc, .bool false, .int .i64 (-1), .int .i64 0, .bool false] := by
              rw [List.flatMap_append]
              congr 1
              show [Value.slice (some ⟨fg, 0, none⟩) sv.length fc, _, _, _, _] = _
              rw [HSV.out]
            rw [e]
            exact h12
        case measure => simp [intOf]; omega
      · rw [if_pos (by rfl)]
        go_simp
        go_at_call 19
        refine (blank_r hX s (by omega)).mono ?_
        rintro _ w4 ⟨fg, fc, sv, rest, P9, rfl, hsv, hsec, h4⟩
        have hB1 : St w0 M w4 (.blk gr 57 [dv, .int .i64 (s : Int), .slice none 0 0, .int .i64 (-1), .bool false, .int .i64 0] :: .row dv 60 5 j (rds.flatMap RDv.cells) :: ((rds ++ [(⟨⟨fg, fc, sv, rest⟩, false, -1, 0, false⟩ : RDv)]).map fblk ++ ((P9 ++ P) ++ L))) := new_perm (r := (⟨⟨fg, fc, sv, rest⟩, false, -1, 0, false⟩ : RDv)) h4
        have HSV := hid hsv
        have HSE := hid hsec
        clear h4 hsv hsec
        refine hK.out _ _ ?_ (fun hHeld => ?_)
        · exact trivial
        clear hK K
        (try simp only [Act.put, List.setIfInBounds_toArray, List.set_cons_zero, List.set_cons_succ])
        refine wpAnyH_ready (rs := [4, 7]) (by kernel_rfl) (by simp) ?_
        refine (AllReadyH.cons (o := ⟨some 34, _, _, _, _, _⟩) rfl (fun K hK => ?_) (AllReadyH.cons (o := ⟨some 37, _, _, _, _, _⟩) rfl (fun K hK => ?_) AllReadyH.nil))
        · rw [if_pos (by rfl)]
          refine ow_of_wl (ops := #[]) (by rfl) ?_
          refine wl_loadE rfl rfl rfl ?_
          refine ⟨_, Loads.at [] hB1 rfl, ?_⟩
          refine q0_nil ?_
          refine hK.out _ _ ?_ (fun hHeld => ?_)
          · exact trivial
          clear hK K
          (try simp only [Act.put, List.setIfInBounds_toArray, List.set_cons_zero, List.set_cons_succ])
          refine wpAnyH_ready (rs := [7]) (by kernel_rfl) (by simp) ?_
          refine (AllReadyH.cons (o := ⟨some 37, _, _, _, _, _⟩) rfl (fun K hK => ?_) AllReadyH.nil)
          rw [if_pos (by rfl)]
          refine ow_of_wl (ops := #[]) (by rfl) ?_
          apply wl_bsX [.agg (List.toArray [.slice (some ⟨fg, 0, none⟩) s fc, .bool false, .int .i64 (-1), .int .i64 0, .bool false])] ([.slice (some ⟨fg, 0, none⟩) s fc, .bool false, .int .i64 (-1), .int .i64 0, .bool false]) hB1
          rfl
          rfl
          exact rfl
          exact rfl
          infer_instance
          infer_instance
          rfl
          rfl
          rfl
          intro gb w5 hB2
          refine q0_nil ?_
          refine hK.out _ _ ?_ (fun hHeld => ?_)
          · exact trivial
          clear hK K
          (try simp only [Act.put, List.setIfInBounds_toArray, List.set_cons_zero, List.set_cons_succ])
          refine wpAnyH_ready (rs := [8]) (by kernel_rfl) (by simp) ?_
          refine (AllReadyH.cons (o := ⟨some 38, _, _, _, _, _⟩) rfl (fun K hK => ?_) AllReadyH.nil)
          rw [if_pos (by rfl)]
          refine ow_of_wl (ops := #[]) (by rfl) ?_
          apply wl_appX (m := 1) (ys := [.slice (some ⟨fg, 0, none⟩) s fc, .bool false, .int .i64 (-1), .int .i64 0, .bool false]) [_, _] hB2
          rfl
          rfl
          exact rfl
          exact rfl
          infer_instance
          infer_instance
          infer_instance
          exact Rd.blk (n := 1) hB2 (.head _) (Nat.le_refl _) (by decide) rfl rfl
          rfl
          (refine ⟨by decide, by unfold maxLen; omega, by omega⟩)
          intro v9 w6 hB3 _
          obtain ⟨vo, vc, rfl, _, _, _⟩ := row_form hB3 (.tail _ (.tail _ (.head _)))
          refine q0_nil ?_
          refine hK.out _ _ ?_ (fun hHeld => ?_)
          · exact trivial
          clear hK K
          (try simp only [Act.put, List.setIfInBounds_toArray, List.set_cons_zero, List.set_cons_succ])
          refine wpAnyH_take (i := 9) (oi := ⟨some 39, _, _, _, _, _⟩) (v := ?_) rfl (by kernel_rfl) (by kernel_rfl) (by kernel_rfl) (fun _ _ _ h => h) (Or.inl ⟨by rfl, ?_⟩) (by assumption) ?_
          rotate_left
          · intro w hSw; (try dsimp only at hSw); go_simp; try with_reducible rfl
          (try simp only [Act.put, List.setIfInBounds_toArray, List.set_cons_zero, List.set_cons_succ])
          refine wpAnyH_take (i := 10) (oi := ⟨some 40, _, _, _, _, _⟩) (v := ?_) rfl (by kernel_rfl) (by kernel_rfl) (by kernel_rfl) (fun _ _ _ h => h) (Or.inl ⟨by rfl, ?_⟩) (by assumption) ?_
          rotate_left
          · intro w hSw; (try dsimp only at hSw); go_simp; try with_reducible rfl
          (try simp only [Act.put, List.setIfInBounds_toArray, List.set_cons_zero, List.set_cons_succ])
          refine wpAnyH_ready (rs := [11]) (by kernel_rfl) (by simp) ?_
          refine (AllReadyH.cons (o := ⟨none, _, _, _, _, _⟩) rfl (fun K hK => ?_) AllReadyH.nil)
          rw [if_pos (by rfl)]
          refine ow_of_wl (ops := #[]) (by rfl) ?_
          refine wl_store [_] hB3 rfl rfl rfl (v := .slice _ _ _) rfl rfl rfl (by show (0 : Nat) + 1 ≤ 6; decide) ?_
          intro w7 hB4
          refine q0_nil ?_
          refine hK.out _ _ ?_ (fun hHeld => ?_)
          · exact trivial
          clear hK K
          (try simp only [Act.put, List.setIfInBounds_toArray, List.set_cons_zero, List.set_cons_succ])
          refine wpAnyH_done (by kernel_rfl) ?_ _
          clear hHeld
          have h12 := St.sub hB4 (List.sublist_cons_self _ _)
          clear hB4
          go_wp2_with (first | go_big_skip | go_big_guard | fail)
          go_roundw
          case rel =>
            refine ⟨j + 1, rds ++ [(⟨⟨fg, fc, sv, rest⟩, false, -1, 0, false⟩ : RDv)], P9 ++ P, .slice vo (j + 1) vc, by omega, rfl, by rw [List.length_append, HRL.out]; rfl, hid (fun r hr => ?_), ?_⟩
            · rcases List.mem_append.1 hr with h | h
              · exact (HNO.out r h).mono (fun y hy => List.mem_append_right _ hy)
              · rw [List.mem_singleton] at h
                rw [h]
                exact ⟨rfl, rfl, rfl, rfl, HSV.out, fun v hv => (HSE.out v hv).mono (fun y hy => List.mem_append_left _ hy)⟩
            · have e : (rds ++ [(⟨⟨fg, fc, sv, rest⟩, false, -1, 0, false⟩ : RDv)]).flatMap RDv.cells = rds.flatMap RDv.cells ++ [.slice (some ⟨fg, 0, none⟩) s fc, .bool false, .int .i64 (-1), .int .i64 0, .bool false] := by
                rw [List.flatMap_append]
                congr 1
                show [Value.slice (some ⟨fg, 0, none⟩) sv.length fc, _, _, _, _] = _
                rw [HSV.out]
              rw [e]
              exact h12
          case measure => simp [intOf]; omega
        · rw [if_pos (by rfl)]
          refine ow_of_wl (ops := #[]) (by rfl) ?_
          apply wl_bsX [.agg (List.toArray [.slice (some ⟨fg, 0, none⟩) s fc, .bool false, .int .i64 (-1), .int .i64 0, .bool false])] ([.slice (some ⟨fg, 0, none⟩) s fc, .bool false, .int .i64 (-1), .int .i64 0, .bool false]) hB1
          rfl
          rfl
          exact rfl
          exact rfl
          infer_instance
          infer_instance
          rfl
          rfl
          rfl
          intro gb w5 hB2
          refine q0_nil ?_
          refine hK.out _ _ ?_ (fun hHeld => ?_)
          · exact trivial
          clear hK K
          (try simp only [Act.put, List.setIfInBounds_toArray, List.set_cons_zero, List.set_cons_succ])
          refine wpAnyH_ready (rs := [4]) (by kernel_rfl) (by simp) ?_
          refine (AllReadyH.cons (o := ⟨some 34, _, _, _, _, _⟩) rfl (fun K hK => ?_) AllReadyH.nil)
          rw [if_pos (by rfl)]
          refine ow_of_wl (ops := #[]) (by rfl) ?_
          refine wl_loadE rfl rfl rfl ?_
          refine ⟨_, Loads.at [_] hB2 rfl, ?_⟩
          refine q0_nil ?_
          refine hK.out _ _ ?_ (fun hHeld => ?_)
          · exact trivial
          clear hK K
          (try simp only [Act.put, List.setIfInBounds_toArray, List.set_cons_zero, List.set_cons_succ])
          refine wpAnyH_ready (rs := [8]) (by kernel_rfl) (by simp) ?_
          refine (AllReadyH.cons (o := ⟨some 38, _, _, _, _, _⟩) rfl (fun K hK => ?_) AllReadyH.nil)
          rw [if_pos (by rfl)]
          refine ow_of_wl (ops := #[]) (by rfl) ?_
          apply wl_appX (m := 1) (ys := [.slice (some ⟨fg, 0, none⟩) s fc, .bool false, .int .i64 (-1), .int .i64 0, .bool false]) [_, _] hB2
          rfl
          rfl
          exact rfl
          exact rfl
          infer_instance
          infer_instance
          infer_instance
          exact Rd.blk (n := 1) hB2 (.head _) (Nat.le_refl _) (by decide) rfl rfl
          rfl
          (refine ⟨by decide, by unfold maxLen; omega, by omega⟩)
          intro v9 w6 hB3 _
          obtain ⟨vo, vc, rfl, _, _, _⟩ := row_form hB3 (.tail _ (.tail _ (.head _)))
          refine q0_nil ?_
          refine hK.out _ _ ?_ (fun hHeld => ?_)
          · exact trivial
          clear hK K
          (try simp only [Act.put, List.setIfInBounds_toArray, List.set_cons_zero, List.set_cons_succ])
          refine wpAnyH_take (i := 9) (oi := ⟨some 39, _, _, _, _, _⟩) (v := ?_) rfl (by kernel_rfl) (by kernel_rfl) (by kernel_rfl) (fun _ _ _ h => h) (Or.inl ⟨by rfl, ?_⟩) (by assumption) ?_
          rotate_left
          · intro w hSw; (try dsimp only at hSw); go_simp; try with_reducible rfl
          (try simp only [Act.put, List.setIfInBounds_toArray, List.set_cons_zero, List.set_cons_succ])
          refine wpAnyH_take (i := 10) (oi := ⟨some 40, _, _, _, _, _⟩) (v := ?_) rfl (by kernel_rfl) (by kernel_rfl) (by kernel_rfl) (fun _ _ _ h => h) (Or.inl ⟨by rfl, ?_⟩) (by assumption) ?_
          rotate_left
          · intro w hSw; (try dsimp only at hSw); go_simp; try with_reducible rfl
          (try simp only [Act.put, List.setIfInBounds_toArray, List.set_cons_zero, List.set_cons_succ])
          refine wpAnyH_ready (rs := [11]) (by kernel_rfl) (by simp) ?_
          refine (AllReadyH.cons (o := ⟨none, _, _, _, _, _⟩) rfl (fun K hK => ?_) AllReadyH.nil)
          rw [if_pos (by rfl)]
          refine ow_of_wl (ops := #[]) (by rfl) ?_
          refine wl_store [_] hB3 rfl rfl rfl (v := .slice _ _ _) rfl rfl rfl (by show (0 : Nat) + 1 ≤ 6; decide) ?_
          intro w7 hB4
          refine q0_nil ?_
          refine hK.out _ _ ?_ (fun hHeld => ?_)
          · exact trivial
          clear hK K
          (try simp only [Act.put, List.setIfInBounds_toArray, List.set_cons_zero, List.set_cons_succ])
          refine wpAnyH_done (by kernel_rfl) ?_ _
          clear hHeld
          have h12 := St.sub hB4 (List.sublist_cons_self _ _)
          clear hB4
          go_wp2_with (first | go_big_skip | go_big_guard | fail)
          go_roundw
          case rel =>
            refine ⟨j + 1, rds ++ [(⟨⟨fg, fc, sv, rest⟩, false, -1, 0, false⟩ : RDv)], P9 ++ P, .slice vo (j + 1) vc, by omega, rfl, by rw [List.length_append, HRL.out]; rfl, hid (fun r hr => ?_), ?_⟩
            · rcases List.mem_append.1 hr with h | h
              · exact (HNO.out r h).mono (fun y hy => List.mem_append_right _ hy)
              · rw [List.mem_singleton] at h
                rw [h]
                exact ⟨rfl, rfl, rfl, rfl, HSV.out, fun v hv => (HSE.out v hv).mono (fun y hy => List.mem_append_left _ hy)⟩
            · have e : (rds ++ [(⟨⟨fg, fc, sv, rest⟩, false, -1, 0, false⟩ : RDv)]).flatMap RDv.cells = rds.flatMap RDv.cells ++ [.slice (some ⟨fg, 0, none⟩) s fc, .bool false, .int .i64 (-1), .int .i64 0, .bool false] := by
                rw [List.flatMap_append]
                congr 1
                show [Value.slice (some ⟨fg, 0, none⟩) sv.length fc, _, _, _, _] = _
                rw [HSV.out]
              rw [e]
              exact h12
          case measure => simp [intOf]; omega
    · obtain rfl : j = d := by omega
      have e1 : decide ((j : Int) < (j : Int)) = false := decide_eq_false (by omega)
      go_wp2_with (first | go_big_skip | go_big_guard | fail)
      go_ret2
      obtain ⟨gd, cd, rest, rfl, _, _, _, hst1⟩ := row_openL (L1 := [_]) hst (by omega)
      refine ⟨gr, ⟨rds, s, [], -1, false, 0, gd, cd, rest, .slice none 0 0, P⟩, rfl, fun gs hg => newA_ref (by omega) hg HRL.out HNO.out, ?_⟩
      have h2 := St.nilR 96 3 hst1
      have h3 := St.perm h2 ((List.Perm.swap _ _ _).trans (List.Perm.cons _ (List.Perm.swap _ _ _)))
      unfold rxP RX.tail RX.hdr RX.dc
      rw [show (⟨rds, s, [], -1, false, 0, gd, cd, rest, .slice none 0 0, P⟩ : RX).devs.length = j from HRL.out]
      show St w0 M _ (_ :: _ :: _ :: ((rds.map fblk ++ P) ++ L))
      rw [List.append_assoc]
      exact h3
theorem fit_far_r {w0 w : World} {M : List Nat} {R : List HA} {gr : Nat} {a : AR} {x : RX} (hS : St w0 M w (rxP gr x ++ R)) (ro : RefOk a x) (dev : Int) (g : Nat) (hc : a.inD dev = false) : Calls Tryz.prog 80 #[.pointer (some ⟨gr, 0, none⟩), .int .i64 dev] w fun e w' => e = .returned (.int .i64 (a.fitE dev)) ∧ ∃ y, RefOk (a.fit dev g) y ∧ St w0 M w' (rxP gr y ++ R) := by
  have hst : St w0 M w (.blk gr 57 x.hdr :: .blk x.gd 60 x.dc :: .row x.lv 96 3 x.loose.length x.lc :: (x.tail ++ R)) := hS
  have RO := hid ro
  clear hS ro
  have hE : a.fitE dev = 5 := by unfold AR.fitE; rw [hc]; rfl
  have hR : a.fit dev g = a := by unfold AR.fit; rw [hc]; rfl
  rw [hE, hR]
  clear hE hR
  have HS := hid hc
  clear hc
  go_enter Tryz.func80, Tryz.ntmps80
  go_wp2_with (first | go_big_skip | go_big_guard | (go_at_call 62; refine (there_r (R := R) hst RO.out dev).mono ?_; rw [HS.out]; rintro _ w1 ⟨rfl, h4⟩; replace hst := h4; clear h4))
  go_ret
  exact ⟨rfl, x, RO.out, hst⟩
theorem fit_fine_r {w0 w : World} {M : List Nat} {R : List HA} {gr : Nat} {a : AR} {x : RX} (hS : St w0 M w (rxP gr x ++ R)) (ro : RefOk a x) (dev : Int) (g : Nat) (hc : a.inD dev = true) (ok : a.Ok) (hll : a.loose.length < 1000000) (h0 : 0 < a.secs) : Calls Tryz.prog 80 #[.pointer (some ⟨gr, 0, none⟩), .int .i64 dev] w fun e w' => e = .returned (.int .i64 (a.fitE dev)) ∧ ∃ y, RefOk (a.fit dev g) y ∧ St w0 M w' (rxP gr y ++ R) := by
  have hst : St w0 M w (.blk gr 57 x.hdr :: .blk x.gd 60 x.dc :: .row x.lv 96 3 x.loose.length x.lc :: (x.tail ++ R)) := hS
  have RO := hid ro
  clear hS ro
  have hE : a.fitE dev = 0 := by unfold AR.fitE; rw [hc]; rfl
  have hR : a.fit dev g = (a.upd dev fun _ => blank a.secs g).rest dev.toNat := by unfold AR.fit; rw [hc]; rfl
  rw [hE, hR]
  clear hE hR
  have HS := hid hc
  obtain ⟨k, rfl, hka⟩ := nat_dev hc
  have hkx : k < x.devs.length := by rw [RO.out.dn]; exact hka
  have HLX : Hid (x.loose.length < 1000000) := hid (by rw [RO.out.ln]; exact hll)
  have HM : Hid (0 < x.many ∧ x.many ≤ 4096) := hid (by rw [RO.out.mn]; exact ⟨h0, ok.sn⟩)
  have HFIT : Hid (k * 5 + 5 ≤ x.dc.length) := hid (RX.dlen hkx (i := 4) (by decide))
  have HMK : Hid (∀ (P : List HA) (r : RDv), NewOk P x.many r → RefOk (a.upd (k : Int) fun _ => blank a.secs g) { (x.upd k fun _ => r) with pool := x.pool ++ P }) := hid (fun P r hn => by
    have h1 := RO.out.more (q := x.pool ++ P) (fun y hy => List.mem_append_left _ hy)
    have hlen : (blank a.secs g).firm.length = (a.dv (k : Int)).firm.length := by
      rw [(ok.dv hc).1]
      exact List.length_replicate
    refine h1.upd (f := fun _ => blank a.secs g) (r := fun _ => r) hka ?_ (upd_secs hc hlen)
    have h2 := (hn.mono (q := x.pool ++ P) (fun y hy => List.mem_append_right _ hy)).dok g
    rw [RO.out.mn] at h2
    exact h2)
  clear hc ok hll h0
  go_enter Tryz.func80, Tryz.ntmps80
  go_wp2_with (first | go_big_skip | go_big_guard | (go_at_call 62; refine (there_r (R := R) hst RO.out (k : Int)).mono ?_; rw [HS.out]; rintro _ w1 ⟨rfl, h4⟩; replace hst := h4; clear h4))
  have hX := hst.drew
  clear hst
  refine wp_region_held_drew (S := (fun w' => (loadVarH 54 ⟨gr, 0, none⟩).run Tryz.prog w' = .ok (.slice (some ⟨x.gd, 0, none⟩) x.devs.length x.cd) w' ∧ (loadVarH 3 ⟨gr, 1, none⟩).run Tryz.prog w' = .ok (.int .i64 (x.many : Int)) w')) (by kernel_rfl) (by exact ⟨ldS [] hX rfl, ldS [] hX rfl⟩) (fun hHeld => ?_)
  refine wpAnyH_take (i := 0) (oi := ⟨some 9, _, _, _, _, _⟩) (v := ?_) rfl (by kernel_rfl) (by kernel_rfl) (by kernel_rfl) (fun _ _ _ h => h) (Or.inl ⟨by rfl, ?_⟩) (by assumption) ?_
  rotate_left
  · intro w hSw; (try dsimp only at hSw); go_simp; try with_reducible rfl
  (try simp only [Act.put, List.setIfInBounds_toArray, List.set_cons_zero, List.set_cons_succ])
  refine wpAnyH_take (i := 4) (oi := ⟨some 13, _, _, _, _, _⟩) (v := ?_) rfl (by kernel_rfl) (by kernel_rfl) (by kernel_rfl) (fun _ _ _ h => h) (Or.inl ⟨by rfl, ?_⟩) (by assumption) ?_
  rotate_left
  · intro w hSw; (try dsimp only at hSw); go_simp; try with_reducible rfl
  (try simp only [Act.put, List.setIfInBounds_toArray, List.set_cons_zero, List.set_cons_succ])
  refine wpAnyH_take (i := 5) (oi := ⟨some 14, _, _, _, _, _⟩) (v := ?_) rfl (by kernel_rfl) (by kernel_rfl) (by kernel_rfl) (fun _ _ _ h => h) (Or.inl ⟨by rfl, ?_⟩) (by assumption) ?_
  rotate_left
  · intro w hSw; (try dsimp only at hSw); go_simp; try with_reducible rfl
  (try simp only [Act.put, List.setIfInBounds_toArray, List.set_cons_zero, List.set_cons_succ])
  refine wpAnyH_take (i := 1) (oi := ⟨some 10, _, _, _, _, _⟩) (v := ?_) rfl (by kernel_rfl) (by kernel_rfl) (by kernel_rfl) (fun _ _ _ h => h) (Or.inl ⟨by rfl, ?_⟩) (by assumption) ?_
  rotate_left
  · intro w hSw; (try dsimp only at hSw); go_simp; try with_reducible rfl
  (try simp only [Act.put, List.setIfInBounds_toArray, List.set_cons_zero, List.set_cons_succ])
  refine wpAnyH_take (i := 6) (oi := ⟨some 15, _, _, _, _, _⟩) (v := ?_) rfl (by kernel_rfl) (by kernel_rfl) (by kernel_rfl) (fun _ _ _ h => h) (Or.inl ⟨by rfl, ?_⟩) (by assumption) ?_
  rotate_left
  · intro w hSw; (try dsimp only at hSw); go_simp; try with_reducible rfl
  (try simp only [Act.put, List.setIfInBounds_toArray, List.set_cons_zero, List.set_cons_succ])
  refine wpAnyH_take (i := 2) (oi := ⟨some 11, _, _, _, _, _⟩) (v := ?_) rfl (by kernel_rfl) (by kernel_rfl) (by kernel_rfl) (fun _ _ _ h => h) (Or.inl ⟨by rfl, ?_⟩) (by assumption) ?_
  rotate_left
  · intro w hSw; (try dsimp only at hSw); go_simp; try with_reducible rfl
  (try simp only [Act.put, List.setIfInBounds_toArray, List.set_cons_zero, List.set_cons_succ])
  refine wpAnyH_take (i := 7) (oi := ⟨some 16, _, _, _, _, _⟩) (v := ?_) rfl (by kernel_rfl) (by kernel_rfl) (by kernel_rfl) (fun _ _ _ h => h) (Or.inl ⟨by rfl, ?_⟩) (by assumption) ?_
  rotate_left
  · intro w hSw; (try dsimp only at hSw); go_simp; try with_reducible rfl
  (try simp only [Act.put, List.setIfInBounds_toArray, List.set_cons_zero, List.set_cons_succ])
  refine wpAnyH_take (i := 3) (oi := ⟨some 12, _, _, _, _, _⟩) (v := ?_) rfl (by kernel_rfl) (by kernel_rfl) (by kernel_rfl) (fun _ _ _ h => h) (Or.inl ⟨by rfl, ?_⟩) (by assumption) ?_
  rotate_left
  · intro w hSw; (try dsimp only at hSw); go_simp; try with_reducible rfl
  (try simp only [Act.put, List.setIfInBounds_toArray, List.set_cons_zero, List.set_cons_succ])
  refine wpAnyH_take (i := 8) (oi := ⟨some 17, _, _, _, _, _⟩) (v := ?_) rfl (by kernel_rfl) (by kernel_rfl) (by kernel_rfl) (fun _ _ _ h => h) (Or.inl ⟨by rfl, ?_⟩) (by assumption) ?_
  rotate_left
  · intro w hSw; (try dsimp only at hSw); go_simp; try with_reducible rfl
  (try simp only [Act.put, List.setIfInBounds_toArray, List.set_cons_zero, List.set_cons_succ])
  refine wpAnyH_ready (rs := [9]) (by kernel_rfl) (by simp) ?_
  refine (AllReadyH.cons (o := ⟨some 18, _, _, _, _, _⟩) rfl (fun K hK => ?_) AllReadyH.nil)
  rw [if_pos (by rfl)]
  go_simp
  go_at_call 19
  refine (blank_r hX x.many HM.out).mono ?_
  rintro _ w4 ⟨fg, fc, sv, rest, P9, rfl, hsv, hsec, h4⟩
  have hB1 : St w0 M w4 (.blk gr 57 x.hdr :: .blk x.gd 60 x.dc :: .row x.lv 96 3 x.loose.length x.lc :: (x.tail ++ (fblk (⟨⟨fg, fc, sv, rest⟩, false, -1, 0, false⟩ : RDv) :: (P9 ++ R)))) := fit_perm h4
  have HSV := hid hsv
  have HSE := hid hsec
  clear h4 hsv hsec
  refine hK.out _ _ ?_ (fun hHeld => ?_)
  · exact ⟨ldS [] hB1 rfl, ldS [] hB1 rfl⟩
  clear hK K
  (try simp only [Act.put, List.setIfInBounds_toArray, List.set_cons_zero, List.set_cons_succ])
  refine wpAnyH_take (i := 10) (oi := ⟨some 19, _, _, _, _, _⟩) (v := ?_) rfl (by kernel_rfl) (by kernel_rfl) (by kernel_rfl) (fun _ _ _ h => h) (Or.inl ⟨by rfl, ?_⟩) (by assumption) ?_
  rotate_left
  · intro w hSw; (try dsimp only at hSw); go_simp; try with_reducible rfl
  (try simp only [Act.put, List.setIfInBounds_toArray, List.set_cons_zero, List.set_cons_succ])
  refine wpAnyH_ready (rs := [11]) (by kernel_rfl) (by simp) ?_
  refine (AllReadyH.cons (o := ⟨none, _, _, _, _, _⟩) rfl (fun K hK => ?_) AllReadyH.nil)
  rw [if_pos (by rfl)]
  refine ow_of_wl (ops := #[]) (by rfl) ?_
  refine wl_store [_] hB1 rfl rfl rfl (v := .agg (List.toArray [.slice (some ⟨fg, 0, none⟩) x.many fc, .bool false, .int .i64 (-1), .int .i64 0, .bool false])) (n := 5) rfl rfl rfl HFIT.out ?_
  intro w7 hB4
  refine q0_nil ?_
  refine hK.out _ _ ?_ (fun hHeld => ?_)
  · exact ⟨ldS [] hB4 rfl, ldS [] hB4 rfl⟩
  clear hK K
  (try simp only [Act.put, List.setIfInBounds_toArray, List.set_cons_zero, List.set_cons_succ])
  refine wpAnyH_done (by kernel_rfl) ?_ _
  clear hHeld
  have hnew : NewOk P9 x.many (⟨⟨fg, fc, sv, rest⟩, false, -1, 0, false⟩ : RDv) := ⟨rfl, rfl, rfl, rfl, HSV.out, HSE.out⟩
  have hB5 : St w0 M w7 (.blk gr 57 x.hdr :: .blk x.gd 60 (putAt x.dc (k * 5) ((⟨⟨fg, fc, sv, rest⟩, false, -1, 0, false⟩ : RDv)).cells) :: .row x.lv 96 3 x.loose.length x.lc :: (x.tail ++ (fblk (⟨⟨fg, fc, sv, rest⟩, false, -1, 0, false⟩ : RDv) :: (P9 ++ R)))) := by
    have e : ((⟨⟨fg, fc, sv, rest⟩, false, -1, 0, false⟩ : RDv)).cells = [.slice (some ⟨fg, 0, none⟩) x.many fc, .bool false, .int .i64 (-1), .int .i64 0, .bool false] := by
      show [Value.slice (some ⟨fg, 0, none⟩) sv.length fc, _, _, _, _] = _
      rw [HSV.out]
    rw [e]
    exact hB4
  clear hB4
  have hs8 := fit_fin hkx hB5
  have HRX := hid (HMK.out P9 (⟨⟨fg, fc, sv, rest⟩, false, -1, 0, false⟩ : RDv) hnew)
  clear hB5 hnew
  have HXL : Hid (x.loose.length < 1000000) := HLX
  go_wp2_with (first | go_big_skip | go_big_guard | (go_at_call 64; refine (rest_r (R := R) hs8 HRX.out k HXL.out).mono ?_; rintro _ w5 ⟨u, rfl, h4⟩; have hs5 := h4; clear h4 hs8; obtain ⟨uo, uc, rfl, _, _, _⟩ := row_form hs5 (.head _)) | (refine wl_store [_] hs5 rfl rfl rfl (v := .slice _ _ _) rfl rfl rfl (by show (2 : Nat) + 1 ≤ 6; decide) ?_; intro w6 hs6; clear hs5))
  go_ret
  refine ⟨rfl, _, HRX.out.rest k (.slice uo (restX k x.loose).length uc), ?_⟩
  exact fin_rest hs6
theorem fit_r {w0 w : World} {M : List Nat} {R : List HA} {gr : Nat} {a : AR} {x : RX} (hS : St w0 M w (rxP gr x ++ R)) (ro : RefOk a x) (dev : Int) (g : Nat) (ok : a.Ok) (hll : a.loose.length < 1000000) (h0 : 0 < a.secs) : Calls Tryz.prog 80 #[.pointer (some ⟨gr, 0, none⟩), .int .i64 dev] w fun e w' => e = .returned (.int .i64 (a.fitE dev)) ∧ ∃ y, RefOk (a.fit dev g) y ∧ St w0 M w' (rxP gr y ++ R) := by
  cases hc : a.inD dev
  · exact fit_far_r hS ro dev g hc
  · exact fit_fine_r hS ro dev g hc ok hll h0
end
end Go.Proofs.YtclleohpmgihaaaGreat
namespace Go.Proofs.YtclleohpmgihaaaGreat
set_option linter.unusedVariables false
set_option linter.unusedSimpArgs false
open Go.RowKit Hp
attribute [local irreducible] Go.Calls
set_option maxHeartbeats 1000000
/-- The number below n that x says. -/
def pickI (x n : Int) : Int := if n < 1 then 0 else x % n
theorem pickI_nat {x : Int} {n : Nat} (h : 0 < n) : ∃ k : Nat, k < n ∧ pickI x n = k := by
  have h1 := Int.emod_nonneg x (show (n : Int) ≠ 0 by omega)
  have h2 := Int.emod_lt_of_pos x (show (0 : Int) < n by omega)
  refine ⟨(x % n).toNat, by omega, ?_⟩
  unfold pickI
  rw [if_neg (by omega)]
  omega
end Go.Proofs.YtclleohpmgihaaaGreat
namespace Go.Proofs.YtclleohpmgihaaaGreat
set_option linter.unusedVariables false
set_option linter.unusedSimpArgs false
open Go.RowKit Hp
attribute [local irreducible] Go.Calls Go.wpList
set_option maxRecDepth 100000
set_option maxHeartbeats 8000000
structure AC where
  k : Int
  dev : Int
  pl : Int
  n : Int
  mask : UInt8
  bo : Option Addr
  bn : Nat
  bc : Nat
  B : List UInt8
  ko : Option Addr
  kn : Nat
  kc : Nat
  K : List Bool
instance : Inhabited AC := ⟨⟨0, 0, 0, 0, 0, none, 0, 0, [], none, 0, 0, []⟩⟩
def AC.cells (y : AC) : List Value := [.int .i64 y.k, .int .i64 y.dev, .int .i64 y.pl, .int .i64 y.n, .int .u8 y.mask.toNat, .slice y.bo y.bn y.bc, .slice y.ko y.kn y.kc]
def in64 (z : Int) : Prop := -9223372036854775808 ≤ z ∧ z ≤ 9223372036854775807
/-- What is known of an act that was handed in. -/
structure AC.Ok (y : AC) (w : World) : Prop where
  k : in64 y.k
  dev : in64 y.dev
  pl : in64 y.pl
  n : in64 y.n
  rb : Rd w (.slice y.bo y.bn y.bc) 1 y.bn (bytesV y.B)
  lb : y.B.length = y.bn
  rk : Rd w (.slice y.ko y.kn y.kc) 1 y.kn (boolsV y.K)
  lk : y.K.length = y.kn
instance acA : TyA Tryz.prog 36 7 := ⟨by kernel_rfl⟩
instance acN : TyN Tryz.prog 36 7 := ⟨by kernel_rfl⟩
instance acZ : TyZ Tryz.prog 36 [.int .i64 0, .int .i64 0, .int .i64 0, .int .i64 0, .int .u8 0, .slice none 0 0, .slice none 0 0] := ⟨by kernel_rfl⟩
instance acSl : TySl Tryz.prog 22 36 := ⟨by kernel_rfl⟩
instance acSb : TyS Tryz.prog 34 := ⟨by kernel_rfl⟩
theorem acs_at : ∀ {xs : List AC} {k : Nat} {x : AC}, xs[k]? = some x → ∀ j v, x.cells[j]? = some v → (xs.flatMap AC.cells)[k * 7 + j]? = some v
  | y :: xs, 0, x, h, j, v, hj => by
    cases h
    rw [List.flatMap_cons, Nat.zero_mul, Nat.zero_add, List.getElem?_append_left (List.getElem?_eq_some_iff.1 hj).1]
    exact hj
  | y :: xs, k + 1, x, h, j, v, hj => by
    have hl : y.cells.length = 7 := rfl
    rw [List.flatMap_cons, List.getElem?_append_right (by rw [hl]; omega), hl, show (k + 1) * 7 + j - 7 = k * 7 + j by omega]
    exact acs_at (by simpa using h) j v hj
  | [], _, _, h, _, _, _ => by cases h
theorem acs_range {w : World} {b off n c k : Nat} {xs : List AC} {x : AC} (h : Rd w (.slice (some ⟨b, off, none⟩) n c) 7 n (xs.flatMap AC.cells)) (hk : xs[k]? = some x) : w.rangeAt b (off + k * 7) x.cells := by
  intro j v hj
  have := h.range (k * 7 + j) v (acs_at hk j v hj)
  rwa [← Nat.add_assoc] at this
/-- Acts of at most 300 bytes and 200 bools each, at most 100. -/
def shortC (xs : List AC) (N : Nat) : Prop := N ≤ 100 ∧ ∀ x ∈ xs, x.bn ≤ 300 ∧ x.kn ≤ 200
def longC (xs : List AC) (N : Nat) (e : Ending) : Prop := ∃ b, e = .returned (.bool b) ∧ (b = false ↔ shortC xs N)
theorem longC_any (ao : Option Addr) (N c : Nat) (xs : List AC) (w : World) (hv : Rd w (.slice ao N c) 7 N (xs.flatMap AC.cells)) (hN : xs.length = N) (hx : ∀ x ∈ xs, x.Ok w) :
    Calls Tryz.prog 4 #[.slice ao N c] w fun e w' => longC xs N e ∧ St w [] w' [] := by
  have hst := St.refl w
  have HN := hid hN
  have HXX := hid hx
  have hb1 := hv.bd.1
  have hb2 := hv.bd.2.1
  clear hN hx
  go_enter Tryz.func4, Tryz.ntmps4
  go_wp2_with (first | go_big_skip | go_big_guard | fail)
  go_loop [3] (fun q => ∃ k : Nat, k ≤ N ∧ k ≤ 101 ∧ q = .int .i64 k ∧ Hid (∀ j x, j < k → xs[j]? = some x → x.bn ≤ 300 ∧ x.kn ≤ 200)) (fun q => 101 - (intOf q).toNat)
  case atStart => exact ⟨0, by omega, by omega, rfl, hid (fun j x hj => absurd hj (Nat.not_lt_zero _))⟩
  case round =>
    obtain ⟨k, hk, hk1, rfl, hall⟩ := hrel
    by_cases hkN : k < N
    · by_cases hk2 : k < 101
      · obtain ⟨x, hxk⟩ : ∃ x, xs[k]? = some x := ⟨_, List.getElem?_eq_getElem (by rw [HN.out]; exact hkN)⟩
        obtain ⟨b, off, rfl, _⟩ := hv.at hkN
        have hok := HXX.out x (List.mem_of_getElem? hxk)
        have hra := acs_range hv hxk
        have h3 := hid (show w.cell? ⟨b, off + k * 7 + 5, none⟩ = some (.slice x.bo x.bn x.bc) from hra 5 _ rfl)
        have h4 := hid (show w.cell? ⟨b, off + k * 7 + 6, none⟩ = some (.slice x.ko x.kn x.kc) from hra 6 _ rfl)
        have HXK := hid hxk
        have hm1 := hok.rb.bd.1
        have hm2 := hok.rb.bd.2.1
        have hm3 := hok.rk.bd.1
        have hm4 := hok.rk.bd.2.1
        have d1 : decide ((k : Int) < (N : Int)) = true := decide_eq_true (by omega)
        have d0 : decide ((k : Int) < 101) = true := decide_eq_true (by omega)
        clear hra hxk hok
        by_cases g1 : 300 < x.bn
        · have d2 : decide (300 < (x.bn : Int)) = true := decide_eq_true (by omega)
          go_wp2_with (first | go_big_skip | go_big_guard | (refine wl_loadE rfl rfl rfl ?_; first | refine ⟨_, Loads.old hst (h3.out), ?_⟩ | refine ⟨_, Loads.old hst (h4.out), ?_⟩))
          go_ret
          exact ⟨⟨true, rfl, ⟨fun h => (by cases h), fun h => by have := (h.2 x (List.mem_of_getElem? HXK.out)); omega⟩⟩, hst⟩
        · have d2 : decide (300 < (x.bn : Int)) = false := decide_eq_false (by omega)
          by_cases g2 : 200 < x.kn
          · have d3 : decide (200 < (x.kn : Int)) = true := decide_eq_true (by omega)
            go_wp2_with (first | go_big_skip | go_big_guard | (refine wl_loadE rfl rfl rfl ?_; first | refine ⟨_, Loads.old hst (h3.out), ?_⟩ | refine ⟨_, Loads.old hst (h4.out), ?_⟩))
            go_ret
            exact ⟨⟨true, rfl, ⟨fun h => (by cases h), fun h => by have := (h.2 x (List.mem_of_getElem? HXK.out)); omega⟩⟩, hst⟩
          · have d3 : decide (200 < (x.kn : Int)) = false := decide_eq_false (by omega)
            have z1 : IntKind.i64.wrap ((k : Int) + 1) = (k : Int) + 1 := IntWalk.i64_in _ (by omega)
            go_wp2_with (first | go_big_skip | go_big_guard | (refine wl_loadE rfl rfl rfl ?_; first | refine ⟨_, Loads.old hst (h3.out), ?_⟩ | refine ⟨_, Loads.old hst (h4.out), ?_⟩))
            go_round
            case rel =>
              refine ⟨k + 1, by omega, by omega, rfl, hid (fun j y hj hy => ?_)⟩
              rcases Nat.lt_or_ge j k with h9 | h9
              · exact hall.out j y h9 hy
              · obtain rfl : j = k := by omega
                rw [HXK.out] at hy
                cases hy
                omega
            case measure => simp [intOf]; omega
      · have d1 : decide ((k : Int) < (N : Int)) = true := decide_eq_true (by omega)
        have d0 : decide ((k : Int) < 101) = false := decide_eq_false (by omega)
        have d2 : decide (100 < (N : Int)) = true := decide_eq_true (by omega)
        go_wp2_with (first | go_big_skip | go_big_guard | fail)
        go_ret
        exact ⟨⟨true, rfl, ⟨fun h => (by cases h), fun h => by have := h.1; omega⟩⟩, hst⟩
    · have e : k = N := by omega
      subst e
      have d1 : decide ((k : Int) < (k : Int)) = false := by simp
      by_cases h100 : 100 < k
      · have d2 : decide (100 < (k : Int)) = true := decide_eq_true (by omega)
        go_wp2_with (first | go_big_skip | go_big_guard | fail)
        go_ret
        exact ⟨⟨true, rfl, ⟨fun h => (by cases h), fun h => by have := h.1; omega⟩⟩, hst⟩
      · have d2 : decide (100 < (k : Int)) = false := decide_eq_false (by omega)
        go_wp2_with (first | go_big_skip | go_big_guard | fail)
        go_ret
        refine ⟨⟨false, rfl, ⟨fun _ => ⟨by omega, fun x hx => ?_⟩, fun _ => rfl⟩⟩, hst⟩
        obtain ⟨j, hj, rfl⟩ := List.getElem_of_mem hx
        exact hall.out j _ (by rw [HN.out] at hj; exact hj) (List.getElem?_eq_getElem hj)
theorem longC_no (ao : Option Addr) (N c : Nat) (xs : List AC) (w : World) (hv : Rd w (.slice ao N c) 7 N (xs.flatMap AC.cells)) (hN : xs.length = N) (hx : ∀ x ∈ xs, x.Ok w) (h : shortC xs N) :
    Calls Tryz.prog 4 #[.slice ao N c] w fun e w' => e = .returned (.bool false) ∧ St w [] w' [] :=
  (longC_any ao N c xs w hv hN hx).mono fun e w' ⟨⟨b, he, hb⟩, hst⟩ => ⟨by rw [he, hb.2 h], hst⟩
theorem longC_yes (ao : Option Addr) (N c : Nat) (xs : List AC) (w : World) (hv : Rd w (.slice ao N c) 7 N (xs.flatMap AC.cells)) (hN : xs.length = N) (hx : ∀ x ∈ xs, x.Ok w) (h : ¬ shortC xs N) :
    Calls Tryz.prog 4 #[.slice ao N c] w fun e w' => e = .returned (.bool true) ∧ St w [] w' [] :=
  (longC_any ao N c xs w hv hN hx).mono fun e w' ⟨⟨b, he, hb⟩, hst⟩ => ⟨by
    cases b with
    | true => exact he
    | false => exact absurd (hb.1 rfl) h, hst⟩
theorem AC.Ok.old {x : AC} {w w' : World} {L : List HA} (h : x.Ok w) (hst : St w [] w' L) : x.Ok w' := ⟨h.k, h.dev, h.pl, h.n, Rd.old hst h.rb, h.lb, Rd.old hst h.rk, h.lk⟩
end Go.Proofs.YtclleohpmgihaaaGreat
namespace Go.Proofs.YtclleohpmgihaaaGreat
set_option linter.unusedVariables false
set_option linter.unusedSimpArgs false
open Go.ChangeShapes Go.WideShapes Go.ChangeAt Go.RowKit Go.Deep Go.Lib Go.Joins Hp
set_option maxRecDepth 100000
theorem flat_inv {α : Type} {f : α → List Value} {sz : Nat} (hl : ∀ a, (f a).length = sz) : ∀ (ks : List α) (k : Nat) (v : Value), (ks.flatMap f)[k]? = some v → ∃ i j x, ks[i]? = some x ∧ k = i * sz + j ∧ (f x)[j]? = some v ∧ j < sz
  | [], k, v, h => by simp at h
  | x :: ks, k, v, h => by
    rw [List.flatMap_cons] at h
    by_cases hk : k < sz
    · rw [List.getElem?_append_left (by rw [hl]; exact hk)] at h
      exact ⟨0, k, x, rfl, by omega, h, hk⟩
    · rw [List.getElem?_append_right (by rw [hl]; omega), hl] at h
      obtain ⟨i, j, y, h1, h2, h3, h4⟩ := flat_inv hl ks (k - sz) v h
      refine ⟨i + 1, j, y, by simpa using h1, ?_, h3, h4⟩
      rw [Nat.succ_mul]
      omega
theorem flat_len {α : Type} {f : α → List Value} {sz : Nat} (hl : ∀ a, (f a).length = sz) (ks : List α) : (ks.flatMap f).length = ks.length * sz := by
  induction ks with
  | nil => simp
  | cons x ks ih => rw [List.flatMap_cons, List.length_append, ih, hl, List.length_cons, Nat.succ_mul]; omega
theorem open_structs {α : Type} [Inhabited α] {f : α → List Value} {sz : Nat} (hl : ∀ a, (f a).length = sz) (ok : α → World → Prop) {H : Type} {enc : TypeId × Value → H} {W : World} {base fuel : Nat} {T e : TypeId} {v : Value} {x : DataW H × List MemPlace} (hT : Tryz.prog.underlying T = some (.slice e)) (he : Tryz.prog.cellsOf e = sz)
    (hop : ∀ (fuel : Nat) (cs : List Value) (x : DataW H × List MemPlace), cs.length = sz → DataW.trod enc Tryz.prog W 0 (fun _ => true) true fuel e cs = some x → ∃ k : α, cs = f k ∧ ok k W) (hv : Value.okWide Tryz.prog W .any base T v)
    (h : DataW.trod enc Tryz.prog W 0 (fun _ => true) true fuel T v.cells.toList = some x) : ∃ ao n c, ∃ ks : List α, v = .slice ao n c ∧ Rd W (.slice ao n c) sz n (ks.flatMap f) ∧ ks.length = n ∧ ∀ x ∈ ks, ok x W := by
  obtain ⟨a, len, cap, rfl⟩ := okWide_slice hT hv
  rcases open_slice hT h with ⟨hc, _⟩ | ⟨a', len', cap', m, n, D, Pl, hc, _, hll, hm, hmm, _, hx⟩
  · simp [Value.cells] at hc
    obtain ⟨rfl, rfl, rfl⟩ := hc
    exact ⟨none, 0, 0, [], rfl, Rd.nil _ _, rfl, by simp⟩
  · simp [Value.cells] at hc
    obtain ⟨rfl, rfl, rfl⟩ := hc
    have hs := slice_spotV hT hv
    obtain ⟨b, off, rfl⟩ : ∃ b off, a' = ⟨b, off, none⟩ := ⟨a'.block, a'.off, by cases a'; simp_all⟩
    simp only [if_true] at hmm
    rw [he] at hx
    obtain ⟨K, hK⟩ := choose_lt (α := α) (p := fun i k => ok k W ∧ ∀ j, j < sz → W.cell? ⟨b, off + i * sz + j, none⟩ = (f k)[j]?) (fun i hi => by
      obtain ⟨cs', h1, h2⟩ := hx i hi
      obtain ⟨_, hlen, hcell⟩ := World.cells?_some h1
      obtain ⟨k, rfl, hk⟩ := hop _ _ _ hlen h2
      refine ⟨k, hk, fun j hj => ?_⟩
      have := hcell j hj
      rwa [Addr.add_mid, Addr.add_mid] at this)
    refine ⟨_, len, cap, (List.range len).map K, rfl, Rd.mk hll hm (by rw [flat_len hl, List.length_map, List.length_range]) (fun k v hk => ?_), by simp, fun x hx => ?_⟩
    · obtain ⟨i, j, y, h1, rfl, h3, h4⟩ := flat_inv hl _ _ _ hk
      have hi : i < len := by
        have := (List.getElem?_eq_some_iff.1 h1).1
        simpa using this
      rw [List.getElem?_map, List.getElem?_range hi] at h1
      simp at h1
      subst h1
      rw [← Nat.add_assoc, (hK i (by omega)).2 j h4, h3]
    · obtain ⟨i, hi, rfl⟩ := List.mem_map.1 hx
      exact (hK i (by have := List.mem_range.1 hi; omega)).1
theorem trod_struct4 {H : Type} {enc : TypeId × Value → H} {P : Program} {w : World} {base : Nat} {spare : Nat → Bool} {held : Bool} {t : TypeId} {f0 f1 f2 f3 : Field} {fuel : Nat} {cs : List Value} {x : DataW H × List MemPlace} (ht : P.underlying t = some (.struct #[f0, f1, f2, f3])) (h : DataW.trod enc P w base spare held fuel t cs = some x) :
    ∃ y0 y1 y2 y3 n, DataW.trod enc P w base spare held n f0.type ((cs.drop f0.offset).take (P.cellsOf f0.type)) = some y0 ∧
      DataW.trod enc P w base spare held n f1.type ((cs.drop f1.offset).take (P.cellsOf f1.type)) = some y1 ∧ DataW.trod enc P w base spare held n f2.type ((cs.drop f2.offset).take (P.cellsOf f2.type)) = some y2 ∧
      DataW.trod enc P w base spare held n f3.type ((cs.drop f3.offset).take (P.cellsOf f3.type)) = some y3 := by
  obtain ⟨xs, n, _, rfl, hl, hlen, hf⟩ := DataW.trod_struct ht h
  match xs, hlen with
  | [y0, y1, y2, y3], _ => exact ⟨y0, y1, y2, y3, n, by simpa using hf 0 f0 rfl, by simpa using hf 1 f1 rfl, by simpa using hf 2 f2 rfl, by simpa using hf 3 f3 rfl⟩
theorem cellsLi : Tryz.prog.cellsOf 3 = 1 := by kernel_rfl
theorem cellsLu : Tryz.prog.cellsOf 5 = 1 := by kernel_rfl
theorem cellsLb : Tryz.prog.cellsOf 4 = 1 := by kernel_rfl
theorem i64_wfL {z : Int} (hw : (Lit.int .i64 z).wf = true) : -9223372036854775808 ≤ z ∧ z ≤ 9223372036854775807 := by
  simp only [Lit.wf, Bool.and_eq_true, decide_eq_true_eq] at hw
  have h3 : IntKind.i64.min = -9223372036854775808 := rfl
  have h4 : IntKind.i64.max = 9223372036854775807 := rfl
  omega
theorem u8_wfL {z : Int} (hw : (Lit.int .u8 z).wf = true) : ∃ b : UInt8, z = (b.toNat : Int) := by
  simp only [Lit.wf, Bool.and_eq_true, decide_eq_true_eq] at hw
  have h3 : IntKind.u8.min = 0 := rfl
  have h4 : IntKind.u8.max = 255 := rfl
  refine ⟨UInt8.ofNat z.toNat, ?_⟩
  rw [UInt8.toNat_ofNat', Nat.mod_eq_of_lt (by omega)]
  omega
/-- Bytes that lie within a handed value: where there is no room, the address says nothing. -/
theorem open_bytesN {H : Type} {enc : TypeId × Value → H} {W : World} {fuel : Nat} {cs : List Value} {x : DataW H × List MemPlace}
    (h : DataW.trod enc Tryz.prog W 0 (fun _ => true) true fuel 33 cs = some x) : ∃ ao n c bs, cs = [.slice ao n c] ∧ Rd W (.slice ao n c) 1 n (bytesV bs) ∧ bs.length = n := by
  rcases open_ints Tryz.underlying33 Tryz.underlying5 (by kernel_rfl) h with ⟨hc, _⟩ | ⟨a', len', cap', zs, hc, _, hl, hm, hz, _, hcell, hw⟩
  · exact ⟨none, 0, 0, [], hc, Rd.nil _ _, rfl⟩
  · by_cases h0 : cap' = 0
    · subst h0
      obtain rfl : len' = 0 := by omega
      exact ⟨some a', 0, 0, [], hc, Rd.empty _ _ _, rfl⟩
    · simp only [if_true] at hz
      have hspot : a'.spot = none := by
        have h1 := hcell 0 (by omega)
        unfold World.cell? at h1
        split at h1
        · by_cases hs : a'.spot = none
          · exact hs
          · have : ((a'.add 0).spot).isSome = true := by
              cases hq : a'.spot with
              | none => exact absurd hq hs
              | some q => simp [Addr.add, hq]
            rw [if_pos this] at h1
            cases h1
        · cases h1
      obtain ⟨b, off, rfl⟩ : ∃ b off, a' = ⟨b, off, none⟩ := ⟨a'.block, a'.off, by cases a'; simp_all⟩
      refine ⟨_, len', cap', (List.range len').map fun i => UInt8.ofNat (zs.getD i 0).toNat, hc, rd_ints _ hl hm fun i hi => ?_, by simp⟩
      have h1 := hcell i (by omega)
      rw [Addr.add_mid] at h1
      rw [h1]
      have h2 := hw (zs.getD i 0) (by rw [List.getD_eq_getElem?_getD, List.getElem?_eq_getElem (by omega)]; exact List.getElem_mem _)
      simp only [Lit.wf, Bool.and_eq_true, decide_eq_true_eq] at h2
      have h3 : IntKind.u8.min = 0 := rfl
      have h4 : IntKind.u8.max = 255 := rfl
      have h5 : ((UInt8.ofNat (zs.getD i 0).toNat).toNat : Int) = zs.getD i 0 := by rw [UInt8.toNat_ofNat']; omega
      rw [h5]
theorem spot_none {w : World} {a : Addr} {v : Value} (h : w.cell? (a.add 0) = some v) : a.spot = none := by
  unfold World.cell? at h
  split at h
  · by_cases hs : a.spot = none
    · exact hs
    · have : ((a.add 0).spot).isSome = true := by
        cases hq : a.spot with
        | none => exact absurd hq hs
        | some q => simp [Addr.add, hq]
      rw [if_pos this] at h
      cases h
  · cases h
theorem open_boolsN {H : Type} {enc : TypeId × Value → H} {W : World} {fuel : Nat} {cs : List Value} {x : DataW H × List MemPlace}
    (h : DataW.trod enc Tryz.prog W 0 (fun _ => true) true fuel 34 cs = some x) : ∃ ao n c bs, cs = [.slice ao n c] ∧ Rd W (.slice ao n c) 1 n (boolsV bs) ∧ bs.length = n := by
  rcases open_slice Tryz.underlying34 h with ⟨hc, _⟩ | ⟨a', len', cap', m, n, D, Pl, hc, _, hl, hm, hmm, _, hx⟩
  · exact ⟨none, 0, 0, [], hc, Rd.nil _ _, rfl⟩
  · simp only [if_true] at hmm
    rw [cellsLb] at hx
    have hb : ∀ i, i < cap' → ∃ b, W.cell? (a'.add (i * 1)) = some (.bool b) := by
      intro i hi
      obtain ⟨cs', h1, h2⟩ := hx i (by omega)
      obtain ⟨b, rfl, _⟩ := DataW.trod_bool Tryz.underlying4 h2
      obtain ⟨_, _, hcell⟩ := World.cells?_some h1
      have h3 := hcell 0 (by decide)
      refine ⟨b, ?_⟩
      have e : (a'.add (i * 1)).add 0 = a'.add (i * 1) := by simp [Addr.add]
      rw [e] at h3
      exact h3
    by_cases h0 : cap' = 0
    · subst h0
      obtain rfl : len' = 0 := by omega
      exact ⟨some a', 0, 0, [], hc, Rd.empty _ _ _, rfl⟩
    · obtain ⟨b0, h1⟩ := hb 0 (by omega)
      have hspot : a'.spot = none := spot_none h1
      obtain ⟨b, off, rfl⟩ : ∃ b off, a' = ⟨b, off, none⟩ := ⟨a'.block, a'.off, by cases a'; simp_all⟩
      obtain ⟨K, hK⟩ := choose_lt (α := Bool) (p := fun i k => W.cell? ⟨b, off + i, none⟩ = some (.bool k)) (fun i (hi : i < cap') => by
        obtain ⟨k, hk⟩ := hb i hi
        rw [Addr.add_mid, Nat.mul_one] at hk
        exact ⟨k, hk⟩)
      refine ⟨_, len', cap', (List.range len').map K, hc, Rd.mk hl hm (by simp [boolsV]) (fun k v hk => ?_), by simp⟩
      have hk2 : k < len' := by
        have := (List.getElem?_eq_some_iff.1 hk).1
        simpa [boolsV] using this
      have : (boolsV ((List.range len').map K))[k]? = some (.bool (K k)) := by
        unfold boolsV
        rw [List.getElem?_map, List.getElem?_map, List.getElem?_range hk2]
        rfl
      rw [this] at hk
      cases hk
      exact hK k (by omega)
theorem trod_struct7 {H : Type} {enc : TypeId × Value → H} {P : Program} {w : World} {base : Nat} {spare : Nat → Bool} {held : Bool} {t : TypeId} {f0 f1 f2 f3 f4 f5 f6 : Field} {fuel : Nat} {cs : List Value} {x : DataW H × List MemPlace} (ht : P.underlying t = some (.struct #[f0, f1, f2, f3, f4, f5, f6])) (h : DataW.trod enc P w base spare held fuel t cs = some x) :
    ∃ y0 y1 y2 y3 y4 y5 y6 n, DataW.trod enc P w base spare held n f0.type ((cs.drop f0.offset).take (P.cellsOf f0.type)) = some y0 ∧
      DataW.trod enc P w base spare held n f1.type ((cs.drop f1.offset).take (P.cellsOf f1.type)) = some y1 ∧ DataW.trod enc P w base spare held n f2.type ((cs.drop f2.offset).take (P.cellsOf f2.type)) = some y2 ∧
      DataW.trod enc P w base spare held n f3.type ((cs.drop f3.offset).take (P.cellsOf f3.type)) = some y3 ∧ DataW.trod enc P w base spare held n f4.type ((cs.drop f4.offset).take (P.cellsOf f4.type)) = some y4 ∧
      DataW.trod enc P w base spare held n f5.type ((cs.drop f5.offset).take (P.cellsOf f5.type)) = some y5 ∧ DataW.trod enc P w base spare held n f6.type ((cs.drop f6.offset).take (P.cellsOf f6.type)) = some y6 := by
  obtain ⟨xs, n, _, rfl, hl, hlen, hf⟩ := DataW.trod_struct ht h
  match xs, hlen with
  | [y0, y1, y2, y3, y4, y5, y6], _ => exact ⟨y0, y1, y2, y3, y4, y5, y6, n, by simpa using hf 0 f0 rfl, by simpa using hf 1 f1 rfl, by simpa using hf 2 f2 rfl, by simpa using hf 3 f3 rfl, by simpa using hf 4 f4 rfl, by simpa using hf 5 f5 rfl, by simpa using hf 6 f6 rfl⟩
theorem cellsLub : Tryz.prog.cellsOf 33 = 1 := by kernel_rfl
theorem cellsLbb : Tryz.prog.cellsOf 34 = 1 := by kernel_rfl
theorem cellsAct : Tryz.prog.cellsOf 36 = 7 := by kernel_rfl
theorem open_act {H : Type} {enc : TypeId × Value → H} {W : World} (fuel : Nat) (cs : List Value) (x : DataW H × List MemPlace) (hl : cs.length = 7)
    (h : DataW.trod enc Tryz.prog W 0 (fun _ => true) true fuel 36 cs = some x) : ∃ k : AC, cs = k.cells ∧ k.Ok W := by
  match cs, hl with
  | [a, b, c, d, e, f, g], _ =>
    obtain ⟨y0, y1, y2, y3, y4, y5, y6, n, h0, h1, h2, h3, h4, h5, h6⟩ := trod_struct7 Tryz.underlying36 h
    simp only [cellsLi, cellsLu, cellsLub, cellsLbb, List.drop_zero, List.drop_succ_cons, List.take_succ_cons, List.take_zero] at h0 h1 h2 h3 h4 h5 h6
    obtain ⟨z0, e0, _, w0⟩ := DataW.trod_int Tryz.underlying3 h0
    obtain ⟨z1, e1, _, w1⟩ := DataW.trod_int Tryz.underlying3 h1
    obtain ⟨z2, e2, _, w2⟩ := DataW.trod_int Tryz.underlying3 h2
    obtain ⟨z3, e3, _, w3⟩ := DataW.trod_int Tryz.underlying3 h3
    obtain ⟨z4, e4, _, w4⟩ := DataW.trod_int Tryz.underlying5 h4
    obtain ⟨bo, bn, bc, B, e5, r5, l5⟩ := open_bytesN h5
    obtain ⟨ko, kn, kc, K, e6, r6, l6⟩ := open_boolsN h6
    cases e0; cases e1; cases e2; cases e3; cases e4; cases e5; cases e6
    obtain ⟨u, rfl⟩ := u8_wfL w4
    exact ⟨⟨z0, z1, z2, z3, u, bo, bn, bc, B, ko, kn, kc, K⟩, rfl, ⟨i64_wfL w0, i64_wfL w1, i64_wfL w2, i64_wfL w3, r5, l5, r6, l6⟩⟩
theorem open_acts {H : Type} {enc : TypeId × Value → H} {W : World} {base fuel : Nat} {v : Value} {x : DataW H × List MemPlace} (hv : Value.okWide Tryz.prog W .any base 22 v)
    (h : DataW.trod enc Tryz.prog W 0 (fun _ => true) true fuel 22 v.cells.toList = some x) : ∃ ao n c, ∃ ks : List AC, v = .slice ao n c ∧ Rd W (.slice ao n c) 7 n (ks.flatMap AC.cells) ∧ ks.length = n ∧ ∀ x ∈ ks, x.Ok W :=
  open_structs (f := AC.cells) (fun _ => rfl) (fun k W => k.Ok W) Tryz.underlying22 cellsAct open_act hv h
end Go.Proofs.YtclleohpmgihaaaGreat
namespace Go.Proofs.YtclleohpmgihaaaGreat
set_option linter.unusedVariables false
set_option linter.unusedSimpArgs false
open Go.RowKit Hp
set_option maxRecDepth 100000
theorem upd_secs2 {a : AR} {dev : Int} {f : DV → DV} (hl : ∀ d, (f d).firm.length = d.firm.length) : (a.upd dev f).secs = a.secs := by
  rw [secs_eq, secs_eq]
  unfold AR.upd
  rw [modify_get]
  split
  · cases a.devs[0]? with
    | none => rfl
    | some d => simp [hl]
  · rfl
/-- How many sectors there are, whatever else: and that few more steps and loose writes are there. -/
structure Stays (a b : AR) : Prop where
  sec : b.secs = a.secs
  st : (0 ≤ a.steps → 0 ≤ b.steps) ∧ b.steps ≤ a.steps + 1
  ll : b.loose.length ≤ a.loose.length + 1
theorem Stays.refl (a : AR) : Stays a a := ⟨rfl, ⟨id, by omega⟩, Nat.le_succ _⟩
theorem Stays.upd (a : AR) (dev : Int) {f : DV → DV} (hl : ∀ d, (f d).firm.length = d.firm.length) : Stays a (a.upd dev f) := ⟨upd_secs2 hl, ⟨id, by show a.steps ≤ _; omega⟩, Nat.le_succ _⟩
theorem Stays.fell (a : AR) (dev : Int) (rs : List Int) {f : DV → DV} (hl : ∀ d, (f d).firm.length = d.firm.length) : Stays a (a.fell dev rs f) := by
  unfold AR.fell
  split
  · exact Stays.upd a dev hl
  · exact Stays.refl a
theorem Stays.read (a : AR) (dev pl : Int) : Stays a (a.read dev pl) := by
  unfold AR.read
  split
  · exact Stays.upd a dev fun _ => rfl
  · exact Stays.refl a
theorem step_stays (a : AR) : a.step.secs = a.secs ∧ ((0 ≤ a.steps → 0 ≤ a.step.steps) ∧ a.step.steps ≤ a.steps + 1) ∧ a.step.loose = a.loose := by
  refine ⟨step_secs a, ?_, step_loose a⟩
  unfold AR.step
  split
  · exact ⟨id, by show a.steps ≤ _; omega⟩
  · exact ⟨fun h => by show 0 ≤ a.steps + 1; omega, Int.le_refl _⟩
theorem Stays.write (a : AR) (dev pl : Int) (b : List UInt8) : Stays a (a.write dev pl b) := by
  obtain ⟨h1, h2, h3⟩ := step_stays a
  unfold AR.write
  split
  · exact Stays.refl a
  · split
    · exact ⟨h1, h2, by rw [h3]; exact Nat.le_succ _⟩
    · unfold AR.lay
      split
      · exact ⟨(upd_secs2 (a := a.step) (f := fun d => { d with lo := false }) fun _ => rfl).trans h1, h2, by show a.step.loose.length ≤ _; rw [h3]; exact Nat.le_succ _⟩
      · split
        · refine ⟨(upd_secs2 (a := a.step) (f := fun d => { d with st := false }) fun _ => rfl).trans h1, h2, ?_⟩
          show (a.step.loose ++ [_]).length ≤ _
          rw [h3, List.length_append]
          exact Nat.le_refl _
        · refine ⟨h1, h2, ?_⟩
          show (a.step.loose ++ [_]).length ≤ _
          rw [h3, List.length_append]
          exact Nat.le_refl _
theorem Stays.flush (a : AR) (dev : Int) : Stays a (a.flush dev) := by
  obtain ⟨h1, h2, h3⟩ := step_stays a
  unfold AR.flush
  split
  · exact Stays.refl a
  · split
    · exact ⟨h1, h2, by rw [h3]; exact Nat.le_succ _⟩
    · refine ⟨(upd_secs2 (a := a.step) (f := fun d => { d with firm := (a.step.loose.filter fun w => w.dev == dev.toNat).foldl setS d.firm }) fun d => foldS_len _ _).trans h1, h2, ?_⟩
      show (a.step.loose.filter _).length ≤ _
      rw [h3]
      exact Nat.le_trans (List.length_filter_le _ _) (Nat.le_succ _)
theorem Stays.fused (a : AR) (n : Int) : Stays a (a.fused n) := by
  unfold AR.fused
  split
  · exact ⟨rfl, ⟨id, by show a.steps ≤ _; omega⟩, Nat.le_succ _⟩
  · exact Stays.refl a
theorem Stays.spoil (a : AR) (dev pl place : Int) (m : UInt8) : Stays a (a.spoil dev pl place m) := by
  unfold AR.spoil
  split
  · exact Stays.upd a dev fun d => by unfold fSpoil; exact List.length_set
  · exact Stays.refl a
theorem Stays.pull (a : AR) (dev : Int) : Stays a (a.pull dev) := by
  unfold AR.pull
  split
  · exact ⟨upd_secs2 (f := fGone) fun _ => rfl, ⟨id, by show a.steps ≤ _; omega⟩, Nat.le_trans (List.length_filter_le _ _) (Nat.le_succ _)⟩
  · exact Stays.refl a
theorem Stays.fit {a : AR} (ok : a.Ok) (dev : Int) (g : Nat) : Stays a (a.fit dev g) := by
  unfold AR.fit
  split
  · rename_i hc
    refine ⟨?_, ⟨id, by show a.steps ≤ _; omega⟩, Nat.le_trans (List.length_filter_le _ _) (Nat.le_succ _)⟩
    exact upd_secs (a := a.rest dev.toNat) (f := fun _ => blank a.secs g) hc (by
      show (blank a.secs g).firm.length = ((a.rest dev.toNat).dv dev).firm.length
      rw [show ((a.rest dev.toNat).dv dev) = a.dv dev from rfl, (ok.dv hc).1]
      exact List.length_replicate)
  · exact Stays.refl a
theorem Stays.crash {a : AR} (ok : a.Ok) (keep : List Bool) (torn : Int) : Stays a (a.crash keep torn) := by
  have ok2 := ok.crash keep torn
  unfold AR.crash at ok2 ⊢
  split
  · rename_i h
    rw [if_pos h] at ok2
    have ht : torn.toNat ≤ 256 := by
      unfold AR.crashE at h
      rw [if_neg ok.d0] at h
      have := orE_zero (by decide) h
      simp only [Bool.and_eq_true, decide_eq_true_eq] at this
      omega
    have hg := crashN_good ok keep ht a.loose.length
    refine ⟨?_, ⟨fun h => by show 0 ≤ (a.crashed keep torn.toNat).steps; exact h, by show a.steps ≤ _; omega⟩, Nat.zero_le _⟩
    have h0 : (crashN a keep torn.toNat a.loose.length).1.devs ≠ [] := by
      intro he
      have := hg.len
      rw [he] at this
      exact ok.d0 (List.eq_nil_of_length_eq_zero this.symm)
    unfold AR.secs AR.crashed
    cases hd : (crashN a keep torn.toNat a.loose.length).1.devs with
    | nil => exact absurd hd h0
    | cons d l =>
      show (clean d).firm.length = _
      exact (hg.fm d (by rw [hd]; exact .head _)).1
  · exact Stays.refl a
/-- What is known of the array, so many calls in. -/
structure Sc (a : AR) (m : Nat) : Prop where
  ok : a.Ok
  sec : 8 ≤ a.secs
  st : 0 ≤ a.steps ∧ a.steps ≤ (m : Int)
  ll : a.loose.length ≤ m
theorem Sc.next {a b : AR} {m : Nat} (h : Sc a m) (ok : b.Ok) (hs : Stays a b) : Sc b (m + 1) := by
  have h1 := h.st
  have h2 := hs.st
  have h3 := hs.ll
  have h4 := h.ll
  exact ⟨ok, by rw [hs.sec]; exact h.sec, ⟨h2.1 h1.1, by have := h2.2; omega⟩, by omega⟩
end Go.Proofs.YtclleohpmgihaaaGreat
namespace Go.Proofs.YtclleohpmgihaaaGreat
set_option linter.unusedVariables false
set_option linter.unusedSimpArgs false
open Go.RowKit Hp
attribute [local irreducible] Go.Calls
set_option maxRecDepth 100000
set_option maxHeartbeats 4000000
instance bSl : TySl Tryz.prog 34 4 := ⟨by kernel_rfl⟩
instance bEb : TyE Tryz.prog 4 1 1 := ⟨by kernel_rfl⟩
instance bZb : TyZ Tryz.prog 4 [.bool false] := ⟨by kernel_rfl⟩
instance bNb : TyN Tryz.prog 4 1 := ⟨by kernel_rfl⟩
instance bSb : TyS Tryz.prog 4 := ⟨by kernel_rfl⟩
instance bSs : TyS Tryz.prog 34 := ⟨by kernel_rfl⟩
instance bNs : TyN Tryz.prog 34 1 := ⟨by kernel_rfl⟩
def markL (i : Nat) : Bool := i % 2 == 0
def lentL (ks : List Bool) : List Bool := ks ++ [markL ks.length, markL (ks.length + 1), markL (ks.length + 2)]
def lentS (n : Nat) : Nat → List Value
  | 0 => [.bool false, .bool false, .bool false]
  | 1 => [.bool (markL n), .bool false, .bool false]
  | 2 => [.bool (markL n), .bool (markL (n + 1)), .bool false]
  | _ => [.bool (markL n), .bool (markL (n + 1)), .bool (markL (n + 2))]
theorem boolsV_len (ks : List Bool) : (boolsV ks).length = ks.length := by simp [boolsV]
theorem lentL_V (ks : List Bool) : boolsV (lentL ks) = boolsV ks ++ lentS ks.length 3 := by simp [lentL, boolsV, lentS]
theorem lentL_len (ks : List Bool) : (lentL ks).length = ks.length + 3 := by simp [lentL]
theorem lentS_len (n j : Nat) : (lentS n j).length = 3 := by
  match j with
  | 0 => rfl
  | 1 => rfl
  | 2 => rfl
  | _ + 3 => rfl
theorem ones_boolsV (l : List Bool) : (boolsV l).all (·.oneCell') = true := by
  rw [List.all_eq_true]
  intro v hv
  simp only [boolsV, List.mem_map] at hv
  obtain ⟨x, _, rfl⟩ := hv
  rfl
theorem put_lentS (ks : List Bool) (k j : Nat) (hk : k = ks.length + j) (hj : j < 3) : putAt (boolsV ks ++ lentS ks.length j) k [.bool (markL k)] = boolsV ks ++ lentS ks.length (j + 1) := by
  subst hk
  have := put_app (boolsV ks) (lentS ks.length j) j [.bool (markL (ks.length + j))]
  rw [boolsV_len] at this
  rw [this]
  congr 1
  match j, hj with
  | 0, _ => rfl
  | 1, _ => rfl
  | 2, _ => rfl
theorem rem2 {k : Nat} (hk : k < 1000000) (T : TypeId) : binOp .rem T (.int .i64 (k : Int)) (.int .i64 2) = pure (.int .i64 ((k % 2 : Nat) : Int)) := by
  have hq : (k : Int).tmod 2 = ((k % 2 : Nat) : Int) := by rw [Int.tmod_eq_emod_of_nonneg (by omega)]; omega
  have zd : IntKind.i64.wrap ((k % 2 : Nat) : Int) = ((k % 2 : Nat) : Int) := IntWalk.i64_in _ (by omega)
  simp only [binOp]
  simp [Op.intDiv, hq, zd]
theorem lentL_any (ao : Option Addr) (n c : Nat) (ks : List Bool) (w : World) (hA : Rd w (.slice ao n c) 1 n (boolsV ks)) (hn : ks.length = n) (hb : n ≤ 100000) :
    Calls Tryz.prog 28 #[.slice ao n c] w fun e w' => ∃ g, e = .returned (.slice (some ⟨g, 0, none⟩) n (n + 3)) ∧ St w [] w' [.blk g 4 (boolsV (lentL ks))] := by
  have hst := St.refl w
  have Hn := hid hn; clear hn
  go_enter Tryz.func28, Tryz.ntmps28
  go_wp2_with (first | go_big_skip | go_big_guard | (apply wl_make (n + 3) (n + 3) hst; rfl; rfl; exact rfl; exact rfl; infer_instance; infer_instance; infer_instance; (push_cast; rfl); (push_cast; rfl); exact Nat.le_refl _; (constructor <;> omega); intro g _ hst1; clear hst) | (apply wl_copy [] hst1; rfl; rfl; exact rfl; exact rfl; infer_instance; infer_instance; exact Rd.old hst1 hA; exact ones_boolsV ks; omega; (simp <;> omega); intro w2 hst2; clear hst1))
  have e : putAt (List.replicate (n + 3) (Value.bool false)) 0 (boolsV ks) = boolsV ks ++ lentS n 0 := by
    simp only [putAt, List.take_zero, List.nil_append, boolsV_len, Hn.out, List.drop_replicate, Nat.zero_add]
    congr 1
    rw [show n + 3 - n = 3 by omega]
    rfl
  rw [e] at hst2
  clear e
  have hst3 : St w [] w2 [.blk g 4 (boolsV ks ++ lentS n 0)] := hst2
  clear hst2
  go_loopw [4] (fun i wr => ∃ k j : Nat, i = .int .i64 k ∧ Hid (k = n + j) ∧ j ≤ 3 ∧ St w [] wr [.blk g 4 (boolsV ks ++ lentS n j)]) (fun i _ => n + 3 - (intOf i).toNat)
  case atStart => exact ⟨n, 0, rfl, hid rfl, by omega, hst3⟩
  case round =>
    clear hst3
    obtain ⟨k, j, rfl, hkj, hj, hst⟩ := hrel
    by_cases hj3 : j < 3
    · have hk : k < n + 3 := by rw [hkj.out]; omega
      have f1 := rem2 (k := k) (by omega)
      obtain ⟨B, hB⟩ : ∃ B, B = markL k := ⟨_, rfl⟩
      have HB := hid hB
      have f2 : (((k % 2 : Nat) : Int) == 0) = B := by
        rw [hB]
        unfold markL
        by_cases h : k % 2 = 0
        · rw [h]; rfl
        · rw [beq_eq_false_iff_ne.2 (by omega), beq_eq_false_iff_ne.2 h]
      obtain ⟨r, hr⟩ : ∃ r : Int, r = ((k % 2 : Nat) : Int) := ⟨_, rfl⟩
      rw [← hr] at f1 f2
      clear hr hB
      go_wp2_with (first | go_big_skip | go_big_guard | (refine wl_index rfl rfl rfl rfl hk ?_) | (refine wl_store [] hst rfl rfl rfl (v := .bool B) rfl rfl rfl (by rw [Nat.zero_add, Nat.mul_one]; show k + 1 ≤ _; rw [List.length_append, boolsV_len, lentS_len, Hn.out]; omega) ?_; intro w5 hst4; clear hst))
      have e := put_lentS ks k j (by rw [Hn.out]; exact hkj.out) hj3
      rw [Hn.out, ← HB.out] at e
      rw [Nat.zero_add, Nat.mul_one] at hst4
      have e2 : putAt (boolsV ks ++ lentS n j) k (Value.bool B).cells.toList = boolsV ks ++ lentS n (j + 1) := e
      rw [e2] at hst4
      clear e e2
      have hst5 : St w [] w5 [.blk g 4 (boolsV ks ++ lentS n (j + 1))] := hst4
      clear hst4
      have Hk1 := hid (show k + 1 = n + (j + 1) by rw [hkj.out]; omega)
      go_roundw
      case rel => exact ⟨k + 1, j + 1, by go_num, Hk1, by omega, hst5⟩
      case measure => simp [intOf]; omega
    · have e : k = n + 3 := by rw [hkj.out]; omega
      have ej : j = 3 := by omega
      subst ej
      clear hkj hj hj3
      subst e
      go_wp2_with (first | go_big_skip | go_big_guard | fail)
      go_ret
      refine ⟨g, rfl, ?_⟩
      have e : boolsV (lentL ks) = boolsV ks ++ lentS n 3 := by rw [lentL_V, Hn.out]
      rw [e]; exact hst
section
theorem loadedBB (A : Addr) : loadVar 4 A = loadVarH 4 A := rfl
attribute [local go_sem ↓] loadedBB
/-- The same bools. -/
theorem sameL_any (v0 u0 : Nat) (o1 o2 n c d : Nat) (l : List Bool) (w : World) (hv : Rd w (.slice (some ⟨v0, o1, none⟩) n c) 1 n (boolsV l)) (hu : Rd w (.slice (some ⟨u0, o2, none⟩) n d) 1 n (boolsV l)) (hn : l.length = n) (hb : n ≤ 1000000) :
    Calls Tryz.prog 68 #[.slice (some ⟨v0, o1, none⟩) n c, .slice (some ⟨u0, o2, none⟩) n d] w fun e w' => e = .returned (.bool true) ∧ St w [] w' [] := by
  have hst := St.refl w
  have HN := hid hn
  clear hn
  go_enter Tryz.func68, Tryz.ntmps68
  go_wp2_with (first | go_big_skip | go_big_guard | fail)
  go_loopw [5] (fun i wr => ∃ j : Nat, j ≤ n ∧ i = .int .i64 (j : Int) ∧ St w [] wr []) (fun i _ => n - (intOf i).toNat)
  case atStart => exact ⟨0, Nat.zero_le _, rfl, hst⟩
  case round =>
    clear hst
    obtain ⟨j, hj, rfl, hst⟩ := hrel
    by_cases hlj : j < n
    · have d1 : decide ((j : Int) < (n : Int)) = true := decide_eq_true (by omega)
      have z1 : IntKind.i64.wrap ((j : Int) + 1) = (j : Int) + 1 := IntWalk.i64_in _ (by omega)
      have hji : (j : Int) < (n : Int) := by omega
      obtain ⟨b, hb⟩ : ∃ b, l[j]? = some b := ⟨_, List.getElem?_eq_getElem (by rw [HN.out]; exact hlj)⟩
      have H1 : Hid (w.cell? ⟨v0, o1 + j, none⟩ = some (.bool b)) := hid (hv.range j _ (by unfold boolsV; rw [List.getElem?_map, hb]; rfl))
      have H2 : Hid (w.cell? ⟨u0, o2 + j, none⟩ = some (.bool b)) := hid (hu.range j _ (by unfold boolsV; rw [List.getElem?_map, hb]; rfl))
      have f3 : (b != b) = false := by simp
      clear hb
      go_wp2_with (first | go_big_skip | go_big_guard | fail)
      have hX := hst.drew
      clear hst
      refine wp_region_held_drew (S := (fun w' => (loadVarH 4 ⟨v0, o1 + j, none⟩).run Tryz.prog w' = .ok (.bool b) w' ∧ (loadVarH 4 ⟨u0, o2 + j, none⟩).run Tryz.prog w' = .ok (.bool b) w')) (by kernel_rfl) (by exact ⟨ldO hX (H1.out), ldO hX (H2.out)⟩) (fun hHeld => ?_)
      refine wpAnyH_take (i := 0) (oi := ⟨some 17, _, _, _, _, _⟩) (v := ?_) rfl (by kernel_rfl) (by kernel_rfl) (by kernel_rfl) (fun _ _ _ h => h) (Or.inl ⟨by rfl, ?_⟩) (by assumption) ?_
      rotate_left
      · intro w hSw; (try dsimp only at hSw); go_simp; try with_reducible rfl
      (try simp only [Act.put, List.setIfInBounds_toArray, List.set_cons_zero, List.set_cons_succ])
      refine wpAnyH_take (i := 1) (oi := ⟨some 18, _, _, _, _, _⟩) (v := ?_) rfl (by kernel_rfl) (by kernel_rfl) (by kernel_rfl) (fun _ _ _ h => h) (Or.inl ⟨by rfl, ?_⟩) (by assumption) ?_
      rotate_left
      · intro w hSw; (try dsimp only at hSw); go_simp; try with_reducible rfl
      (try simp only [Act.put, List.setIfInBounds_toArray, List.set_cons_zero, List.set_cons_succ])
      refine wpAnyH_take (i := 4) (oi := ⟨some 21, _, _, _, _, _⟩) (v := ?_) rfl (by kernel_rfl) (by kernel_rfl) (by kernel_rfl) (fun _ _ _ h => h) (Or.inl ⟨by rfl, ?_⟩) (by assumption) ?_
      rotate_left
      · intro w hSw; (try dsimp only at hSw); go_simp; try with_reducible rfl
      (try simp only [Act.put, List.setIfInBounds_toArray, List.set_cons_zero, List.set_cons_succ])
      refine wpAnyH_take (i := 5) (oi := ⟨some 22, _, _, _, _, _⟩) (v := ?_) rfl (by kernel_rfl) (by kernel_rfl) (by kernel_rfl) (fun _ _ _ h => h) (Or.inl ⟨by rfl, ?_⟩) (by assumption) ?_
      rotate_left
      · intro w hSw; (try dsimp only at hSw); go_simp; try with_reducible rfl
      (try simp only [Act.put, List.setIfInBounds_toArray, List.set_cons_zero, List.set_cons_succ])
      refine wpAnyH_take (i := 2) (oi := ⟨some 19, _, _, _, _, _⟩) (v := ?_) rfl (by kernel_rfl) (by kernel_rfl) (by kernel_rfl) (fun _ _ _ h => h) (Or.inl ⟨by rfl, ?_⟩) (by assumption) ?_
      rotate_left
      · intro w hSw; (try dsimp only at hSw); go_simp; try with_reducible rfl
      (try simp only [Act.put, List.setIfInBounds_toArray, List.set_cons_zero, List.set_cons_succ])
      refine wpAnyH_take (i := 6) (oi := ⟨some 23, _, _, _, _, _⟩) (v := ?_) rfl (by kernel_rfl) (by kernel_rfl) (by kernel_rfl) (fun _ _ _ h => h) (Or.inl ⟨by rfl, ?_⟩) (by assumption) ?_
      rotate_left
      · intro w hSw; (try dsimp only at hSw); go_simp; try with_reducible rfl
      (try simp only [Act.put, List.setIfInBounds_toArray, List.set_cons_zero, List.set_cons_succ])
      refine wpAnyH_take (i := 3) (oi := ⟨some 20, _, _, _, _, _⟩) (v := ?_) rfl (by kernel_rfl) (by kernel_rfl) (by kernel_rfl) (fun _ _ _ h => h) (Or.inl ⟨by rfl, ?_⟩) (by assumption) ?_
      rotate_left
      · intro w hSw; (try dsimp only at hSw); go_simp; try with_reducible rfl
      (try simp only [Act.put, List.setIfInBounds_toArray, List.set_cons_zero, List.set_cons_succ])
      refine wpAnyH_take (i := 7) (oi := ⟨some 24, _, _, _, _, _⟩) (v := ?_) rfl (by kernel_rfl) (by kernel_rfl) (by kernel_rfl) (fun _ _ _ h => h) (Or.inl ⟨by rfl, ?_⟩) (by assumption) ?_
      rotate_left
      · intro w hSw; (try dsimp only at hSw); go_simp; try with_reducible rfl
      (try simp only [Act.put, List.setIfInBounds_toArray, List.set_cons_zero, List.set_cons_succ])
      refine wpAnyH_take (i := 8) (oi := ⟨some 25, _, _, _, _, _⟩) (v := ?_) rfl (by kernel_rfl) (by kernel_rfl) (by kernel_rfl) (fun _ _ _ h => h) (Or.inl ⟨by rfl, ?_⟩) (by assumption) ?_
      rotate_left
      · intro w hSw; (try dsimp only at hSw); go_simp; try with_reducible rfl
      (try simp only [Act.put, List.setIfInBounds_toArray, List.set_cons_zero, List.set_cons_succ])
      refine wpAnyH_done (by kernel_rfl) ?_ _
      clear hHeld
      go_wp2_with (first | go_big_skip | go_big_guard | fail)
      go_roundw
      case rel => exact ⟨j + 1, by omega, rfl, hX⟩
      case measure => simp [intOf]; omega
    · obtain rfl : j = n := by omega
      have d1 : decide ((j : Int) < (j : Int)) = false := decide_eq_false (by omega)
      go_wp2_with (first | go_big_skip | go_big_guard | fail)
      go_ret
      exact ⟨rfl, hst⟩
end
theorem keptL_any (ao : Option Addr) (g n c : Nat) (ks : List Bool) (w : World) (L : List HA) (w0 : World) (M : List Nat) (hst0 : St w0 M w L) (hg : HA.blk g 4 (boolsV (lentL ks)) ∈ L) (hA : Rd w (.slice ao n c) 1 n (boolsV ks)) (hn : ks.length = n) (hb : n ≤ 100000) :
    Calls Tryz.prog 30 #[.slice (some ⟨g, 0, none⟩) n (n + 3), .slice ao n c] w fun e w' => e = .returned (.bool true) ∧ St w [] w' [] := by
  have hl : Rd w (.slice (some ⟨g, 0, none⟩) (n + 3) (n + 3)) 1 (n + 3) (boolsV (lentL ks)) := Rd.blk hst0 hg (Nat.le_refl _) (by unfold maxLen; omega) (by rw [boolsV_len, lentL_len, hn]; omega) (by rw [List.drop_zero, List.take_length])
  clear hst0 hg
  have Hn := hid hn; clear hn
  have hst := St.refl w
  have a0 : (0 : Int) ≤ (n : Int) + 3 := by omega
  have a1 : ((n : Int) + 3).toNat = n + 3 := by omega
  have a2 : IntKind.i64.wrap ((n : Int) + 3) = (n : Int) + 3 := IntWalk.i64_in _ (by omega)
  have a3 : ((n + 3 : Nat) : Int) = (n : Int) + 3 := by omega
  have a4 : (n : Int) + 3 ≤ 9223372036854775807 := by omega
  go_enter Tryz.func30, Tryz.ntmps30
  go_wp2_with (first | go_big_skip | go_big_guard | fail)
  have hD := hst.drew; clear hst
  go_region_held3 (fun _ => True) (trivial) (first
    | (go_at_call 28; refine (lentL_any ao n c ks _ (Rd.old hD hA) Hn.out hb).mono ?_; rintro _ _ ⟨g2, rfl, h4⟩; have hst2 := St.call hD h4; clear h4 hD)
    | (go_at_call 68; refine (sameL_any g g2 0 0 (n + 3) (n + 3) (n + 3) (lentL ks) _ (Rd.old hst2 hl) (Rd.blk0 hst2 (by rw [boolsV_len, lentL_len, Hn.out]; omega) (by omega)) (by rw [lentL_len, Hn.out]) (by omega)).mono ?_; rintro _ _ ⟨rfl, h4⟩; have hst3 := St.call0 hst2 h4; clear h4 hst2))
  go_goals
  all_goals (go_wp2; go_ret; exact ⟨rfl, hst3.nil⟩)
end Go.Proofs.YtclleohpmgihaaaGreat
