/- PROVED: the law MirrorTells returns true at any input, and nothing that was there has turned. No condition. -/
import Derived.Test.YtmdfbdfijnmhkaaGreatJMirrorTellsg
import Derived.Test.YtmdfbdfijnmhkaaGreatPost
import Derived.Test.YtmdfbdfijnmhkaaGreatOpenC
import Derived.Test.YtmdfbdfijnmhkaaGreatJMirrorTellsf
namespace Go.Proofs.YtmdfbdfijnmhkaaGreat
set_option linter.unusedVariables false
set_option linter.unusedSimpArgs false
open Go.RowKit Hp
attribute [local irreducible] Go.Calls Go.wpList
set_option maxRecDepth 100000
set_option maxHeartbeats 8000000
def zAct16 : List Value := .int .i64 0 :: .int .i64 0 :: (ptrCells (.slice none 0 0) 0 0 nones ++ [.slice none 0 0, .int .i64 0, .int .i64 0, .int .i64 0, .int .i64 0, .int .u8 0, .slice none 0 0, .slice none 0 0])
instance mtZ : TyZ Tryz.prog 69 zAct16 := ⟨by kernel_rfl⟩
instance mtN : TyN Tryz.prog 71 3 := ⟨by kernel_rfl⟩
theorem lds16t {P : Program} {w : World} {T : TypeId} {A : Addr} {v : Value} (h : Loads P w T A v) : (loadVarH T A).run P w = .ok v w := h
section
theorem loadedP6 (A : Addr) : loadVar 34 A = loadVarH 34 A := rfl
theorem loadedS6 (A : Addr) : loadVar 59 A = loadVarH 59 A := rfl
theorem loadedA6 (A : Addr) : loadVar 69 A = loadVarH 69 A := rfl
theorem loadedB6 (A : Addr) : loadVar 49 A = loadVarH 49 A := rfl
theorem loadedI6 (A : Addr) : loadVar 3 A = loadVarH 3 A := rfl
theorem loadedD6 (A : Addr) : loadVar 32 A = loadVarH 32 A := rfl
theorem loadedL6 (A : Addr) : loadVar 30 A = loadVarH 30 A := rfl
theorem loadedU6 (A : Addr) : loadVar 28 A = loadVarH 28 A := rfl
theorem storedA6 (A : Addr) (v : Value) : storeVar 69 A v = storeVarH 69 A v := rfl
attribute [local go_sem ↓] loadedP6 loadedS6 loadedA6 loadedB6 loadedI6 loadedD6 loadedL6 loadedU6 storedA6 neqScan guardScn
attribute [local irreducible] Hp.Loads
theorem tells16_any (zd : Int) (ao : Option Addr) (n cc : Nat) (ys : List MC) (w : World) (hzd : -9223372036854775808 ≤ zd ∧ zd ≤ 9223372036854775807) (hv : Rd w (.slice ao n cc) 45 n (ys.flatMap MC.cells)) (hN : ys.length = n) (hy : ∀ y ∈ ys, y.Ok w) :
    Calls Tryz.prog 6 #[.int .i64 zd, .slice ao n cc] w fun e w' => e = .returned (.bool true) ∧ St w [] w' [] := by
  have hst := St.refl w
  obtain ⟨dp, hdp, hpd⟩ := pickI_nat (x := zd) (n := 7) (by decide)
  have HPD := hid (show pickI zd 7 = (dp : Int) from hpd)
  obtain ⟨d, hd⟩ : ∃ d, d = 2 + dp := ⟨_, rfl⟩
  have hd2 : 2 ≤ d ∧ d ≤ 8 := by omega
  have zk : IntKind.i64.wrap (2 + (dp : Int)) = (d : Int) := by rw [hd]; rw [IntWalk.i64_in _ (by omega)]; push_cast; omega
  have HD2 := hid hd2
  have HDD := hid hd
  have HZD := hid hzd
  have HN := hid hN
  have HYY := hid hy
  have HV := hid hv
  have hb1 := hv.bd.1
  have hb2 := hv.bd.2.1
  clear hdp hpd hd hzd hN hy hv hd2
  by_cases hsh : shortM ys n
  rotate_left
  · have HSH := hid hsh
    clear hsh
    go_enter Tryz.func6, Tryz.ntmps6
    go_wp2_with (first | go_big_skip | go_big_guard | (go_at_call 8; refine (awake16_any _).mono ?_; rintro _ w3 ⟨rfl, h4⟩; have hst3 := St.call0 hst h4; clear h4 hst) | (go_at_call 10; refine (pick_spec zd 7 _ HZD.out (by decide)).mono ?_; rw [HPD.out]; rintro _ _ ⟨rfl, h4⟩; have hst4 := St.call0 hst3 h4; clear h4 hst3) | (go_at_call 28; refine (newM_any d 12 HD2.out (by decide) _).mono ?_; rintro _ _ ⟨ga, x0, gs, rfl, hgl, h4⟩; have hst5 : St w [] _ (arP ga x0 (newA 12 gs) ++ []) := St.call hst4 h4; have HGL := hid hgl; clear h4 hgl hst4) | (go_at_call 29; refine (longM_is ao n cc ys _ (Rd.old hst5 HV.out) HN.out (fun y hy => (HYY.out y hy).old hst5) true ⟨fun h => (by cases h), fun h => absurd h HSH.out⟩).mono ?_; rintro _ _ ⟨rfl, h4⟩; have hst6 := St.call0 hst5 h4; clear h4 hst5))
    go_ret
    exact ⟨rfl, St.nil hst6⟩
  · have HSH := hid hsh
    clear hsh
    go_enter Tryz.func6, Tryz.ntmps6
    go_wp2_with (first | go_big_skip | go_big_guard | (go_at_call 8; refine (awake16_any _).mono ?_; rintro _ w3 ⟨rfl, h4⟩; have hst3 := St.call0 hst h4; clear h4 hst) | (go_at_call 10; refine (pick_spec zd 7 _ HZD.out (by decide)).mono ?_; rw [HPD.out]; rintro _ _ ⟨rfl, h4⟩; have hst4 := St.call0 hst3 h4; clear h4 hst3) | (go_at_call 28; refine (newM_any d 12 HD2.out (by decide) _).mono ?_; rintro _ _ ⟨ga, x0, gs, rfl, hgl, h4⟩; have hst5 : St w [] _ (arP ga x0 (newA 12 gs) ++ []) := St.call hst4 h4; have HGL := hid hgl; clear h4 hgl hst4) | (go_at_call 29; refine (longM_is ao n cc ys _ (Rd.old hst5 HV.out) HN.out (fun y hy => (HYY.out y hy).old hst5) false ⟨fun _ => HSH.out, fun _ => rfl⟩).mono ?_; rintro _ _ ⟨rfl, h4⟩; have hst6 := St.call0 hst5 h4; clear h4 hst5) | (go_at_call 30; refine (mirNew_any hst6 (by intro h; have h2 := congrArg List.length h; rw [show (newA 12 gs).devs.length = d from (List.length_map _).trans HGL.out] at h2; have h3 := HD2.out; simp at h2; omega)).mono ?_; rintro _ _ ⟨gm, rfl, h4⟩; have hm0 : St w [] _ (mP gm ga x0 ⟨newA 12 gs, zeroE⟩ ++ []) := h4; clear h4 hst6; unfold PM))
    have HM0 := hid (tells_start HD2.out HGL.out)
    go_loopw [10] (fun ii wr => ∃ (i : Nat) (x' : GA) (m' : MV), i ≤ n ∧ ii = .int .i64 (i : Int) ∧ Hid (Mat d m' (50 * i)) ∧ St w [] wr (mP gm ga x' m' ++ [])) (fun ii _ => n - (intOf ii).toNat)
    case atStart => exact ⟨0, x0, _, Nat.zero_le _, rfl, hid (by rw [Nat.mul_zero]; exact HM0.out), hm0⟩
    case round =>
      clear hm0 HM0
      obtain ⟨i, x1, m1, hi, rfl, HM, hst⟩ := hrel
      by_cases hli : i < n
      · obtain ⟨y, hyk⟩ : ∃ y, ys[i]? = some y := ⟨_, List.getElem?_eq_getElem (by rw [HN.out]; exact hli)⟩
        have hyc := List.mem_of_getElem? hyk
        have hok := HYY.out y hyc
        have hsm := HSH.out.2 y hyc
        have hn100 := HSH.out.1
        obtain ⟨b, off, rfl, _⟩ := HV.out.at hli
        have hra := mcs_range (fun y hy => (HYY.out y hy).p.1) HV.out hyk
        obtain ⟨hL, po, pn, pc, he, hpr, hpl⟩ := hok.p
        obtain ⟨CS, hCS⟩ : ∃ CS, CS = y.cells := ⟨_, rfl⟩
        have HY := hid hok
        have HL := hid hL
        have HPR := hid hpr
        have HPL := hid hpl
        have HP20 := hid hsm.1
        have HLEN := hid (show CS.length = 45 from by rw [hCS]; exact MC.len hL)
        have HONE := hid (show CS.all (·.oneCell') = true from by rw [hCS]; exact MC.ones hok)
        have HRA := hid (show w.rangeAt b (off + i * 45) CS from by rw [hCS]; exact hra)
        have c0 := hid (show CS[0]? = some (.int .i64 y.k) from by rw [hCS]; rfl)
        have c1 := hid (show CS[1]? = some (.int .i64 y.dev) from by rw [hCS]; rfl)
        have c2 := hid (show CS[2]? = some (.slice po pn pc) from by rw [hCS, MC.pc hL (j := 0) rfl, he])
        have c37 := hid (show CS[37]? = some (.slice y.bo y.bn y.bc) from by rw [hCS]; exact MC.qc hL 0)
        have cP := hid (show (CS.drop 2).take (ptrCells (.slice po pn pc) y.p.b y.p.v y.p.S).length = (ptrCells (.slice po pn pc) y.p.b y.p.v y.p.S) from by
          rw [hCS, ← he]
          show ((y.p.cells ++ _).take y.p.cells.length) = y.p.cells
          rw [List.take_left'] <;> rfl)
        have cS := hid (show (CS.drop 5).take (bytesV y.p.S).length = bytesV y.p.S from by
          have h9 := cP.out
          have h8 : CS.drop 5 = (CS.drop 2).drop 3 := by rw [List.drop_drop]
          have h7 : (CS.drop 2) = (ptrCells (.slice po pn pc) y.p.b y.p.v y.p.S) ++ (CS.drop 2).drop 35 := by
            conv => lhs; rw [← List.take_append_drop 35 (CS.drop 2)]
            congr 1
            rw [← h9, ptr_len hL]
          rw [h8, h7]
          show ((bytesV y.p.S ++ _).take _) = _
          rw [List.take_left'] <;> rfl)
        have cX := hid (show (CS.drop 38).take y.x.cells.length = y.x.cells from by
          rw [hCS]
          have h9 : y.cells.drop 38 = y.x.cells := by
            apply List.ext_getElem?
            intro j
            rw [List.getElem?_drop, show 38 + j = 37 + (j + 1) by omega, MC.qc hL]
            rfl
          rw [h9, List.take_length])
        have hpn : pn ≤ 20 := by rw [← HPL.out]; exact HP20.out
        obtain ⟨E1, hE1⟩ : ∃ E1, E1 = m1.errs 0 := ⟨_, rfl⟩
        have HE1 := hid hE1.symm
        clear hyk hyc hok hsm hra he hpr hpl hCS hE1 hL
        have d1 : decide ((i : Int) < (n : Int)) = true := decide_eq_true (by omega)
        have z1 : IntKind.i64.wrap ((i : Int) + 1) = (i : Int) + 1 := IntWalk.i64_in _ (by omega)
        by_cases h0 : y.k = 0
        · have hk := h0
          clear h0
          have q0 : (y.k == 0) = true := by rw [hk]; rfl
          clear hk
          obtain ⟨m9, hm9⟩ : ∃ m9 : MV, m9 = m1.withA (m1.put y.p.l y.B).a := ⟨_, rfl⟩
          have HM9 := hid hm9
          have HW := hid (show Went d m1 m9 (50 * i + 50) from by rw [hm9]; exact went_put HM.out _ _ (show y.p.l.length ≤ 20 from HP20.out))
          clear hm9
          obtain ⟨E9, hE9⟩ : ∃ E9, E9 = m9.errs 0 := ⟨_, rfl⟩
          have HE9 := hid hE9.symm
          have hle : E1.le E9 := (by rw [hE9, ← HE1.out]; exact HW.out.2)
          have d5 : decide (E9.rd < E1.rd) = false := decide_eq_false (by have := hle.1; omega)
          have d6 : decide (E9.sm < E1.sm) = false := decide_eq_false (by have := hle.2.1; omega)
          have d7 : decide (E9.he < E1.he) = false := decide_eq_false (by have := hle.2.2; omega)
          clear hle hE9
          go_wp2_with (first | go_big_skip | go_big_guard | (refine wl_loadE rfl rfl rfl ?_; refine ⟨_, Loads.oldA (P := Tryz.prog) (T := 69) (cs := CS) hst HLEN.out HRA.out, ?_⟩) | (refine wl_alloc (T := 69) hst rfl rfl ?_; intro g11 _ hm11; clear hst) | (refine wl_storeA [] hm11 rfl rfl rfl rfl HLEN.out HONE.out rfl ?_; intro _ hm12; clear hm11; have hm13 := St.behind (A := (mP gm ga x1 m1)) hm12; clear hm12) | (go_at_call 31; have HQ := errs_any hm13 HM.out.good 0; rw [HE1.out] at HQ; refine HQ.mono ?_; clear HQ; unfold ER.cells; rintro _ _ ⟨rfl, h4⟩; have hm14 := St.call0 hm13 h4; clear h4 hm13) | (refine wl_alloc (T := 71) hm14 rfl rfl ?_; intro g12 _ hm15; clear hm14) | (refine wl_storeA [] hm15 rfl rfl rfl rfl rfl rfl rfl ?_; intro _ hm16; clear hm15; have hm17 := St.behind (A := (mP gm ga x1 m1)) hm16; clear hm16) | (refine wl_loadE rfl rfl rfl ?_; refine ⟨_, Loads.blk (P := Tryz.prog) (T := 3) (off := 0) (v := .int .i64 y.k) hm17 TyS.out (List.mem_append_right _ (.tail _ (.head _))) c0.out, ?_⟩) | (refine wl_loadE rfl rfl rfl ?_; refine ⟨_, Loads.blk (P := Tryz.prog) (T := 30) (off := 2) (v := .slice po pn pc) hm17 TyS.out (List.mem_append_right _ (.tail _ (.head _))) c2.out, ?_⟩) | (refine wl_loadE rfl rfl rfl ?_; refine ⟨_, Loads.blk (P := Tryz.prog) (T := 28) (off := 37) (v := .slice y.bo y.bn y.bc) hm17 TyS.out (List.mem_append_right _ (.tail _ (.head _))) c37.out, ?_⟩) | (go_at_call 24; have HC := put_any hm17 HM.out.good po pn pc y.p.l (fun _ h => Rd.old h HPR.out) HPL.out y.bo y.bn y.bc y.B (GB.old HY.out.rb HY.out.lb) (by omega); rw [← HM9.out] at HC; refine HC.mono ?_; clear HC; rintro _ _ ⟨x9, rfl, h4⟩; have hm18 : St _ _ _ ((mP gm ga x9 m9) ++ _) := h4; clear h4 hm17) | (go_at_call 31; have HQ := errs_any hm18 HW.out.1.good 0; rw [HE9.out] at HQ; refine HQ.mono ?_; clear HQ; unfold ER.cells; rintro _ _ ⟨rfl, h4⟩; have hm19 := St.call0 hm18 h4; clear h4 hm18) | (refine wl_alloc (T := 71) hm19 rfl rfl ?_; intro g17 _ hm20; clear hm19) | (refine wl_storeA [] hm20 rfl rfl rfl rfl rfl rfl rfl ?_; intro _ hm21; clear hm20; have hm22 := St.behind (A := (mP gm ga x9 m9)) hm21; clear hm21) | (refine wl_loadE rfl rfl rfl ?_; refine ⟨_, Loads.blk (P := Tryz.prog) (T := 3) (off := 0) (v := .int .i64 E9.rd) hm22 TyS.out (List.mem_append_right _ (.head _)) rfl, ?_⟩) | (refine wl_loadE rfl rfl rfl ?_; refine ⟨_, Loads.blk (P := Tryz.prog) (T := 3) (off := 0) (v := .int .i64 E1.rd) hm22 TyS.out (List.mem_append_right _ (.tail _ (.head _))) rfl, ?_⟩) | (refine wl_loadE rfl rfl rfl ?_; refine ⟨_, Loads.blk (P := Tryz.prog) (T := 3) (off := 1) (v := .int .i64 E9.sm) hm22 TyS.out (List.mem_append_right _ (.head _)) rfl, ?_⟩) | (refine wl_loadE rfl rfl rfl ?_; refine ⟨_, Loads.blk (P := Tryz.prog) (T := 3) (off := 1) (v := .int .i64 E1.sm) hm22 TyS.out (List.mem_append_right _ (.tail _ (.head _))) rfl, ?_⟩) | (refine wl_loadE rfl rfl rfl ?_; refine ⟨_, Loads.blk (P := Tryz.prog) (T := 3) (off := 2) (v := .int .i64 E9.he) hm22 TyS.out (List.mem_append_right _ (.head _)) rfl, ?_⟩) | (refine wl_loadE rfl rfl rfl ?_; refine ⟨_, Loads.blk (P := Tryz.prog) (T := 3) (off := 2) (v := .int .i64 E1.he) hm22 TyS.out (List.mem_append_right _ (.tail _ (.head _))) rfl, ?_⟩))
          go_roundw
          case rel => exact ⟨i + 1, x9, m9, by omega, by go_num, hid HW.out.1, St.sub hm22 (by rw [List.append_nil]; exact List.sublist_append_left _ _)⟩
          case measure => simp [intOf]; omega
        by_cases h1 : y.k = 1
        · have hk := h1
          clear h0 h1
          have q0 : (y.k == 0) = false := by rw [hk]; rfl
          have q1 : (y.k == 1) = true := by rw [hk]; rfl
          clear hk
          obtain ⟨m9, hm9⟩ : ∃ m9 : MV, m9 = m1.withA m1.flush.a := ⟨_, rfl⟩
          have HM9 := hid hm9
          have HW := hid (show Went d m1 m9 (50 * i + 50) from by rw [hm9]; exact went_flush HM.out HD2.out.2)
          clear hm9
          obtain ⟨E9, hE9⟩ : ∃ E9, E9 = m9.errs 0 := ⟨_, rfl⟩
          have HE9 := hid hE9.symm
          have hle : E1.le E9 := (by rw [hE9, ← HE1.out]; exact HW.out.2)
          have d5 : decide (E9.rd < E1.rd) = false := decide_eq_false (by have := hle.1; omega)
          have d6 : decide (E9.sm < E1.sm) = false := decide_eq_false (by have := hle.2.1; omega)
          have d7 : decide (E9.he < E1.he) = false := decide_eq_false (by have := hle.2.2; omega)
          clear hle hE9
          go_wp2_with (first | go_big_skip | go_big_guard | (refine wl_loadE rfl rfl rfl ?_; refine ⟨_, Loads.oldA (P := Tryz.prog) (T := 69) (cs := CS) hst HLEN.out HRA.out, ?_⟩) | (refine wl_alloc (T := 69) hst rfl rfl ?_; intro g11 _ hm11; clear hst) | (refine wl_storeA [] hm11 rfl rfl rfl rfl HLEN.out HONE.out rfl ?_; intro _ hm12; clear hm11; have hm13 := St.behind (A := (mP gm ga x1 m1)) hm12; clear hm12) | (go_at_call 31; have HQ := errs_any hm13 HM.out.good 0; rw [HE1.out] at HQ; refine HQ.mono ?_; clear HQ; unfold ER.cells; rintro _ _ ⟨rfl, h4⟩; have hm14 := St.call0 hm13 h4; clear h4 hm13) | (refine wl_alloc (T := 71) hm14 rfl rfl ?_; intro g12 _ hm15; clear hm14) | (refine wl_storeA [] hm15 rfl rfl rfl rfl rfl rfl rfl ?_; intro _ hm16; clear hm15; have hm17 := St.behind (A := (mP gm ga x1 m1)) hm16; clear hm16) | (refine wl_loadE rfl rfl rfl ?_; refine ⟨_, Loads.blk (P := Tryz.prog) (T := 3) (off := 0) (v := .int .i64 y.k) hm17 TyS.out (List.mem_append_right _ (.tail _ (.head _))) c0.out, ?_⟩) | (go_at_call 26; have HC := mflush_any hm17 HM.out.good (by omega); rw [← HM9.out] at HC; refine HC.mono ?_; clear HC; rintro _ _ ⟨x9, rfl, h4⟩; have hm18 : St _ _ _ ((mP gm ga x9 m9) ++ _) := h4; clear h4 hm17) | (go_at_call 31; have HQ := errs_any hm18 HW.out.1.good 0; rw [HE9.out] at HQ; refine HQ.mono ?_; clear HQ; unfold ER.cells; rintro _ _ ⟨rfl, h4⟩; have hm19 := St.call0 hm18 h4; clear h4 hm18) | (refine wl_alloc (T := 71) hm19 rfl rfl ?_; intro g17 _ hm20; clear hm19) | (refine wl_storeA [] hm20 rfl rfl rfl rfl rfl rfl rfl ?_; intro _ hm21; clear hm20; have hm22 := St.behind (A := (mP gm ga x9 m9)) hm21; clear hm21) | (refine wl_loadE rfl rfl rfl ?_; refine ⟨_, Loads.blk (P := Tryz.prog) (T := 3) (off := 0) (v := .int .i64 E9.rd) hm22 TyS.out (List.mem_append_right _ (.head _)) rfl, ?_⟩) | (refine wl_loadE rfl rfl rfl ?_; refine ⟨_, Loads.blk (P := Tryz.prog) (T := 3) (off := 0) (v := .int .i64 E1.rd) hm22 TyS.out (List.mem_append_right _ (.tail _ (.head _))) rfl, ?_⟩) | (refine wl_loadE rfl rfl rfl ?_; refine ⟨_, Loads.blk (P := Tryz.prog) (T := 3) (off := 1) (v := .int .i64 E9.sm) hm22 TyS.out (List.mem_append_right _ (.head _)) rfl, ?_⟩) | (refine wl_loadE rfl rfl rfl ?_; refine ⟨_, Loads.blk (P := Tryz.prog) (T := 3) (off := 1) (v := .int .i64 E1.sm) hm22 TyS.out (List.mem_append_right _ (.tail _ (.head _))) rfl, ?_⟩) | (refine wl_loadE rfl rfl rfl ?_; refine ⟨_, Loads.blk (P := Tryz.prog) (T := 3) (off := 2) (v := .int .i64 E9.he) hm22 TyS.out (List.mem_append_right _ (.head _)) rfl, ?_⟩) | (refine wl_loadE rfl rfl rfl ?_; refine ⟨_, Loads.blk (P := Tryz.prog) (T := 3) (off := 2) (v := .int .i64 E1.he) hm22 TyS.out (List.mem_append_right _ (.tail _ (.head _))) rfl, ?_⟩))
          go_roundw
          case rel => exact ⟨i + 1, x9, m9, by omega, by go_num, hid HW.out.1, St.sub hm22 (by rw [List.append_nil]; exact List.sublist_append_left _ _)⟩
          case measure => simp [intOf]; omega
        by_cases h2 : y.k = 2
        · have hk := h2
          clear h0 h1 h2
          have q0 : (y.k == 0) = false := by rw [hk]; rfl
          have q1 : (y.k == 1) = false := by rw [hk]; rfl
          have q2 : (y.k == 2) = true := by rw [hk]; rfl
          clear hk
          obtain ⟨EE, B, m9, hget, hway, hw⟩ := tells_get HM.out (PVof po pn pc y.p.l y.p.b y.p.v y.p.S) (show y.p.l.length ≤ 20 from HP20.out)
          have HGET := hid hget
          have HW := hid hw
          clear hget hw
          obtain ⟨E9, hE9⟩ : ∃ E9, E9 = m9.errs 0 := ⟨_, rfl⟩
          have HE9 := hid hE9.symm
          have hle : E1.le E9 := (by rw [hE9, ← HE1.out]; exact HW.out.2)
          have d5 : decide (E9.rd < E1.rd) = false := decide_eq_false (by have := hle.1; omega)
          have d6 : decide (E9.sm < E1.sm) = false := decide_eq_false (by have := hle.2.1; omega)
          have d7 : decide (E9.he < E1.he) = false := decide_eq_false (by have := hle.2.2; omega)
          clear hle hE9
          rcases hway with ⟨hE, hbl, hbs⟩ | ⟨hE, hbl⟩
          · have HBL := hid hbl
            have HBS := hid (show sumB B = y.p.S from hbs)
            subst hE
            have HB32 := hid (show (sumB B).length = 32 from length_bytesS _)
            clear hbl hbs
            go_wp2_with (first | go_big_skip | go_big_guard | (refine wl_loadE rfl rfl rfl ?_; refine ⟨_, Loads.oldA (P := Tryz.prog) (T := 69) (cs := CS) hst HLEN.out HRA.out, ?_⟩) | (refine wl_alloc (T := 69) hst rfl rfl ?_; intro g11 _ hm11; clear hst) | (refine wl_storeA [] hm11 rfl rfl rfl rfl HLEN.out HONE.out rfl ?_; intro _ hm12; clear hm11; have hm13 := St.behind (A := (mP gm ga x1 m1)) hm12; clear hm12) | (go_at_call 31; have HQ := errs_any hm13 HM.out.good 0; rw [HE1.out] at HQ; refine HQ.mono ?_; clear HQ; unfold ER.cells; rintro _ _ ⟨rfl, h4⟩; have hm14 := St.call0 hm13 h4; clear h4 hm13) | (refine wl_alloc (T := 71) hm14 rfl rfl ?_; intro g12 _ hm15; clear hm14) | (refine wl_storeA [] hm15 rfl rfl rfl rfl rfl rfl rfl ?_; intro _ hm16; clear hm15; have hm17 := St.behind (A := (mP gm ga x1 m1)) hm16; clear hm16) | (refine wl_loadE rfl rfl rfl ?_; refine ⟨_, Loads.blk (P := Tryz.prog) (T := 3) (off := 0) (v := .int .i64 y.k) hm17 TyS.out (List.mem_append_right _ (.tail _ (.head _))) c0.out, ?_⟩) | (refine wl_loadE rfl rfl rfl ?_; refine ⟨_, Loads.blkA (P := Tryz.prog) (T := 34) (off := 2) (vs := (ptrCells (.slice po pn pc) y.p.b y.p.v y.p.S)) hm17 (by rw [ptr_len HL.out]; exact TyA.out) (List.mem_append_right _ (.tail _ (.head _))) cP.out, ?_⟩) | (go_at_call 22; have HC := get_any hm17 HM.out.good po pn pc y.p.l y.p.b y.p.v y.p.S HL.out HPL.out (fun _ h => Rd.old h HPR.out) (by omega); rw [HGET.out] at HC; dsimp only at HC; rw [HBL.out] at HC; refine HC.mono ?_; clear HC; rintro _ _ ⟨u, x9, rfl, h4⟩; obtain ⟨ua, uc, rfl⟩ := St.rowPSlice [] h4; have hm18 := St.behind (A := mP gm ga x9 m9) h4; clear h4 hm17))
            have hY := hm18.drew
            clear hm18
            refine wp_region_held_drew (S := (fun w' => (loadVarH 32 ⟨g11, 5, none⟩).run Tryz.prog w' = .ok (.agg (List.toArray (bytesV y.p.S))) w')) (by kernel_rfl) (by exact lds16t (Loads.blkA (P := Tryz.prog) (T := 32) (off := 5) (vs := bytesV y.p.S) hY (by rw [HL.out.v]; exact TyA.out) (List.mem_append_right _ (.tail _ (.tail _ (.head _)))) cS.out)) (fun hHeld => ?_)
            refine tkH 0 92 ?_ rfl (by kernel_rfl) (fun _ _ _ h => h) (by rfl) (by assumption) ?_ ?_
            rotate_left
            · intro w hSw; (try dsimp only at hSw); go_simp; try with_reducible rfl
            (try simp only [pmL, pnL, sc0, sc1])
            refine tkH 1 93 ?_ rfl (by kernel_rfl) (fun _ _ _ h => h) (by rfl) (by assumption) ?_ ?_
            rotate_left
            · intro w hSw; (try dsimp only at hSw); go_simp; try with_reducible rfl
            (try simp only [pmL, pnL, sc0, sc1])
            refine tkH 2 94 ?_ rfl (by kernel_rfl) (fun _ _ _ h => h) (by rfl) (by assumption) ?_ ?_
            rotate_left
            · intro w hSw; (try dsimp only at hSw); go_simp; try with_reducible rfl
            (try simp only [pmL, pnL, sc0, sc1])
            refine tkH 3 95 ?_ rfl (by kernel_rfl) (fun _ _ _ h => h) (by rfl) (by assumption) ?_ ?_
            rotate_left
            · intro w hSw; (try dsimp only at hSw); go_simp; try with_reducible rfl
            (try simp only [pmL, pnL, sc0, sc1])
            refine tkH 4 96 ?_ rfl (by kernel_rfl) (fun _ _ _ h => h) (by rfl) (by assumption) ?_ ?_
            rotate_left
            · intro w hSw; (try dsimp only at hSw); go_simp; try with_reducible rfl
            (try simp only [pmL, pnL, sc0, sc1])
            refine tkH 5 97 ?_ rfl (by kernel_rfl) (fun _ _ _ h => h) (by rfl) (by assumption) ?_ ?_
            rotate_left
            · intro w hSw; (try dsimp only at hSw); go_simp; try with_reducible rfl
            (try simp only [pmL, pnL, sc0, sc1])
            refine tkH 6 98 ?_ rfl (by kernel_rfl) (fun _ _ _ h => h) (by rfl) (by assumption) ?_ ?_
            rotate_left
            · intro w hSw; (try dsimp only at hSw); go_simp; try with_reducible rfl
            (try simp only [pmL, pnL, sc0, sc1])
            refine tkH 7 99 ?_ rfl (by kernel_rfl) (fun _ _ _ h => h) (by rfl) (by assumption) ?_ ?_
            rotate_left
            · intro w hSw; (try dsimp only at hSw); go_simp; try with_reducible rfl
            (try simp only [pmL, pnL, sc0, sc1])
            refine tkH 9 101 ?_ rfl (by kernel_rfl) (fun _ _ _ h => h) (by rfl) (by assumption) ?_ ?_
            rotate_left
            · intro w hSw; (try dsimp only at hSw); go_simp; try with_reducible rfl
            (try simp only [pmL, pnL, sc0, sc1])
            refine tkH 10 102 ?_ rfl (by kernel_rfl) (fun _ _ _ h => h) (by rfl) (by assumption) ?_ ?_
            rotate_left
            · intro w hSw; (try dsimp only at hSw); go_simp; try with_reducible rfl
            (try simp only [pmL, pnL, sc0, sc1])
            refine tkH 11 103 ?_ rfl (by kernel_rfl) (fun _ _ _ h => h) (by rfl) (by assumption) ?_ ?_
            rotate_left
            · intro w hSw; (try dsimp only at hSw); go_simp; try with_reducible rfl
            (try simp only [pmL, pnL, sc0, sc1])
            refine wpAnyH_ready (rs := [8]) (by kernel_rfl) (by simp) ?_
            refine (AllReadyH.cons (o := ⟨some 100, _, _, _, _, _⟩) rfl (fun K hK => ?_) AllReadyH.nil)
            rw [if_pos (by rfl)]
            go_simp
            go_at_call 23
            have HC := sum_any ua 256 uc B _ (Rd.rowP hY (List.mem_append_right _ (.head _))) HBL.out (by decide)
            refine HC.mono ?_
            clear HC
            rintro _ _ ⟨rfl, h4⟩
            have hm19 := St.call0 hY h4
            clear h4 hY
            refine hK.out _ _ ?_ (fun hHeld => ?_)
            · exact lds16t (Loads.blkA (P := Tryz.prog) (T := 32) (off := 5) (vs := bytesV y.p.S) hm19 (by rw [HL.out.v]; exact TyA.out) (List.mem_append_right _ (.tail _ (.tail _ (.head _)))) cS.out)
            clear hK K
            (try simp only [pmL, pnL, sc0, sc1])
            refine wpAnyH_ready (rs := [12]) (by kernel_rfl) (by simp) ?_
            refine (AllReadyH.cons (o := ⟨some 104, _, _, _, _, _⟩) rfl (fun K hK => ?_) AllReadyH.nil)
            refine ow_if16 (by rfl) ?_
            refine wl_neq_bytes rfl (by rfl) rfl rfl ⟨HB32.out, HL.out⟩ ?_
            rw [HBS.out, show (y.p.S == y.p.S) = true from beq_self_eq_true _]
            refine q0_nil ?_
            refine hK.out _ _ ?_ (fun hHeld => ?_)
            · exact lds16t (Loads.blkA (P := Tryz.prog) (T := 32) (off := 5) (vs := bytesV y.p.S) hm19 (by rw [HL.out.v]; exact TyA.out) (List.mem_append_right _ (.tail _ (.tail _ (.head _)))) cS.out)
            clear hK K
            (try simp only [pmL, pnL, sc0, sc1])
            refine tkH 13 105 ?_ rfl (by kernel_rfl) (fun _ _ _ h => h) (by rfl) (by assumption) ?_ ?_
            rotate_left
            · intro w hSw; (try dsimp only at hSw); go_simp; try with_reducible rfl
            (try simp only [pmL, pnL, sc0, sc1])
            refine tkH 14 106 ?_ rfl (by kernel_rfl) (fun _ _ _ h => h) (by rfl) (by assumption) ?_ ?_
            rotate_left
            · intro w hSw; (try dsimp only at hSw); go_simp; try with_reducible rfl
            (try simp only [pmL, pnL, sc0, sc1])
            refine tkH 15 107 ?_ rfl (by kernel_rfl) (fun _ _ _ h => h) (by rfl) (by assumption) ?_ ?_
            rotate_left
            · intro w hSw; (try dsimp only at hSw); go_simp; try with_reducible rfl
            (try simp only [pmL, pnL, sc0, sc1])
            refine tkH 16 108 ?_ rfl (by kernel_rfl) (fun _ _ _ h => h) (by rfl) (by assumption) ?_ ?_
            rotate_left
            · intro w hSw; (try dsimp only at hSw); go_simp; try with_reducible rfl
            (try simp only [pmL, pnL, sc0, sc1])
            refine tkH 17 109 ?_ rfl (by kernel_rfl) (fun _ _ _ h => h) (by rfl) (by assumption) ?_ ?_
            rotate_left
            · intro w hSw; (try dsimp only at hSw); go_simp; try with_reducible rfl
            (try simp only [pmL, pnL, sc0, sc1])
            refine tkH 18 110 ?_ rfl (by kernel_rfl) (fun _ _ _ h => h) (by rfl) (by assumption) ?_ ?_
            rotate_left
            · intro w hSw; (try dsimp only at hSw); go_simp; try with_reducible rfl
            (try simp only [pmL, pnL, sc0, sc1])
            refine ukH 19 111 rfl (by kernel_rfl) (fun _ _ _ h => h) (by rfl) (by assumption) ?_
            (try simp only [pmL, pnL, sc0, sc1])
            refine ukH 20 112 rfl (by kernel_rfl) (fun _ _ _ h => h) (by rfl) (by assumption) ?_
            (try simp only [pmL, pnL, sc0, sc1])
            refine ukH 21 113 rfl (by kernel_rfl) (fun _ _ _ h => h) (by rfl) (by assumption) ?_
            (try simp only [pmL, pnL, sc0, sc1])
            refine tkH 22 114 ?_ rfl (by kernel_rfl) (fun _ _ _ h => h) (by rfl) (by assumption) ?_ ?_
            rotate_left
            · intro w hSw; (try dsimp only at hSw); go_simp; try with_reducible rfl
            (try simp only [pmL, pnL, sc0, sc1])
            refine tkH 23 115 ?_ rfl (by kernel_rfl) (fun _ _ _ h => h) (by rfl) (by assumption) ?_ ?_
            rotate_left
            · intro w hSw; (try dsimp only at hSw); go_simp; try with_reducible rfl
            (try simp only [pmL, pnL, sc0, sc1])
            refine wpAnyH_done (by kernel_rfl) ?_ _
            clear hHeld
            go_wp2_with (first | go_big_skip | go_big_guard | (go_at_call 31; have HQ := errs_any hm19 HW.out.1.good 0; rw [HE9.out] at HQ; refine HQ.mono ?_; clear HQ; unfold ER.cells; rintro _ _ ⟨rfl, h4⟩; have hm20 := St.call0 hm19 h4; clear h4 hm19) | (refine wl_alloc (T := 71) hm20 rfl rfl ?_; intro g17 _ hm21; clear hm20) | (refine wl_storeA [] hm21 rfl rfl rfl rfl rfl rfl rfl ?_; intro _ hm22; clear hm21; have hm23 := St.behind (A := (mP gm ga x9 m9)) hm22; clear hm22) | (refine wl_loadE rfl rfl rfl ?_; refine ⟨_, Loads.blk (P := Tryz.prog) (T := 3) (off := 0) (v := .int .i64 E9.rd) hm23 TyS.out (List.mem_append_right _ (.head _)) rfl, ?_⟩) | (refine wl_loadE rfl rfl rfl ?_; refine ⟨_, Loads.blk (P := Tryz.prog) (T := 3) (off := 0) (v := .int .i64 E1.rd) hm23 TyS.out (List.mem_append_right _ (.tail _ (.tail _ (.head _)))) rfl, ?_⟩) | (refine wl_loadE rfl rfl rfl ?_; refine ⟨_, Loads.blk (P := Tryz.prog) (T := 3) (off := 1) (v := .int .i64 E9.sm) hm23 TyS.out (List.mem_append_right _ (.head _)) rfl, ?_⟩) | (refine wl_loadE rfl rfl rfl ?_; refine ⟨_, Loads.blk (P := Tryz.prog) (T := 3) (off := 1) (v := .int .i64 E1.sm) hm23 TyS.out (List.mem_append_right _ (.tail _ (.tail _ (.head _)))) rfl, ?_⟩) | (refine wl_loadE rfl rfl rfl ?_; refine ⟨_, Loads.blk (P := Tryz.prog) (T := 3) (off := 2) (v := .int .i64 E9.he) hm23 TyS.out (List.mem_append_right _ (.head _)) rfl, ?_⟩) | (refine wl_loadE rfl rfl rfl ?_; refine ⟨_, Loads.blk (P := Tryz.prog) (T := 3) (off := 2) (v := .int .i64 E1.he) hm23 TyS.out (List.mem_append_right _ (.tail _ (.tail _ (.head _)))) rfl, ?_⟩))
            go_roundw
            case rel => exact ⟨i + 1, x9, m9, by omega, by go_num, hid HW.out.1, St.sub hm23 (by rw [List.append_nil]; exact List.sublist_append_left _ _)⟩
            case measure => simp [intOf]; omega
          · subst hbl
            have e1 : (EE == 0) = false := beq_eq_false_iff_ne.2 hE
            have e2 : (EE != 0) = true := bne_iff_ne.2 hE
            clear hE
            go_wp2_with (first | go_big_skip | go_big_guard | (refine wl_loadE rfl rfl rfl ?_; refine ⟨_, Loads.oldA (P := Tryz.prog) (T := 69) (cs := CS) hst HLEN.out HRA.out, ?_⟩) | (refine wl_alloc (T := 69) hst rfl rfl ?_; intro g11 _ hm11; clear hst) | (refine wl_storeA [] hm11 rfl rfl rfl rfl HLEN.out HONE.out rfl ?_; intro _ hm12; clear hm11; have hm13 := St.behind (A := (mP gm ga x1 m1)) hm12; clear hm12) | (go_at_call 31; have HQ := errs_any hm13 HM.out.good 0; rw [HE1.out] at HQ; refine HQ.mono ?_; clear HQ; unfold ER.cells; rintro _ _ ⟨rfl, h4⟩; have hm14 := St.call0 hm13 h4; clear h4 hm13) | (refine wl_alloc (T := 71) hm14 rfl rfl ?_; intro g12 _ hm15; clear hm14) | (refine wl_storeA [] hm15 rfl rfl rfl rfl rfl rfl rfl ?_; intro _ hm16; clear hm15; have hm17 := St.behind (A := (mP gm ga x1 m1)) hm16; clear hm16) | (refine wl_loadE rfl rfl rfl ?_; refine ⟨_, Loads.blk (P := Tryz.prog) (T := 3) (off := 0) (v := .int .i64 y.k) hm17 TyS.out (List.mem_append_right _ (.tail _ (.head _))) c0.out, ?_⟩) | (refine wl_loadE rfl rfl rfl ?_; refine ⟨_, Loads.blkA (P := Tryz.prog) (T := 34) (off := 2) (vs := (ptrCells (.slice po pn pc) y.p.b y.p.v y.p.S)) hm17 (by rw [ptr_len HL.out]; exact TyA.out) (List.mem_append_right _ (.tail _ (.head _))) cP.out, ?_⟩) | (go_at_call 22; have HC := get_any hm17 HM.out.good po pn pc y.p.l y.p.b y.p.v y.p.S HL.out HPL.out (fun _ h => Rd.old h HPR.out) (by omega); rw [HGET.out] at HC; dsimp only at HC; rw [show ([] : List UInt8).length = 0 from rfl] at HC; refine HC.mono ?_; clear HC; rintro _ _ ⟨u, x9, rfl, h4⟩; obtain ⟨ua, uc, rfl⟩ := St.rowPSlice [] h4; have hm18 := St.behind (A := mP gm ga x9 m9) h4; clear h4 hm17))
            have hY := hm18.drew
            clear hm18
            refine wp_region_held_drew (S := (fun w' => True)) (by kernel_rfl) (by exact trivial) (fun hHeld => ?_)
            refine tkH 0 92 ?_ rfl (by kernel_rfl) (fun _ _ _ h => h) (by rfl) (by assumption) ?_ ?_
            rotate_left
            · intro w hSw; (try dsimp only at hSw); go_simp; try with_reducible rfl
            (try simp only [pmL, pnL, sc0, sc1])
            refine tkH 1 93 ?_ rfl (by kernel_rfl) (fun _ _ _ h => h) (by rfl) (by assumption) ?_ ?_
            rotate_left
            · intro w hSw; (try dsimp only at hSw); go_simp; try with_reducible rfl
            (try simp only [pmL, pnL, sc0, sc1])
            refine tkH 2 94 ?_ rfl (by kernel_rfl) (fun _ _ _ h => h) (by rfl) (by assumption) ?_ ?_
            rotate_left
            · intro w hSw; (try dsimp only at hSw); go_simp; try with_reducible rfl
            (try simp only [pmL, pnL, sc0, sc1])
            refine ukH 3 95 rfl (by kernel_rfl) (fun _ _ _ h => h) (by rfl) (by assumption) ?_
            (try simp only [pmL, pnL, sc0, sc1])
            refine ukH 4 96 rfl (by kernel_rfl) (fun _ _ _ h => h) (by rfl) (by assumption) ?_
            (try simp only [pmL, pnL, sc0, sc1])
            refine ukH 5 97 rfl (by kernel_rfl) (fun _ _ _ h => h) (by rfl) (by assumption) ?_
            (try simp only [pmL, pnL, sc0, sc1])
            refine ukH 6 98 rfl (by kernel_rfl) (fun _ _ _ h => h) (by rfl) (by assumption) ?_
            (try simp only [pmL, pnL, sc0, sc1])
            refine ukH 7 99 rfl (by kernel_rfl) (fun _ _ _ h => h) (by rfl) (by assumption) ?_
            (try simp only [pmL, pnL, sc0, sc1])
            refine ukH 9 101 rfl (by kernel_rfl) (fun _ _ _ h => h) (by rfl) (by assumption) ?_
            (try simp only [pmL, pnL, sc0, sc1])
            refine ukH 10 102 rfl (by kernel_rfl) (fun _ _ _ h => h) (by rfl) (by assumption) ?_
            (try simp only [pmL, pnL, sc0, sc1])
            refine ukH 11 103 rfl (by kernel_rfl) (fun _ _ _ h => h) (by rfl) (by assumption) ?_
            (try simp only [pmL, pnL, sc0, sc1])
            refine wpAnyH_ready (rs := [8]) (by kernel_rfl) (by simp) ?_
            refine (AllReadyH.cons (o := ⟨some 100, _, _, _, _, _⟩) rfl (fun K hK => ?_) AllReadyH.nil)
            rw [if_neg (by rw [show Region.wanted _ _ = false from rfl]; exact Bool.false_ne_true)]
            refine hK.out _ _ ?_ (fun hHeld => ?_)
            · exact trivial
            clear hK K
            (try simp only [pmL, pnL, sc0, sc1])
            refine ukH 12 104 rfl (by kernel_rfl) (fun _ _ _ h => h) (by rfl) (by assumption) ?_
            (try simp only [pmL, pnL, sc0, sc1])
            refine ukH 13 105 rfl (by kernel_rfl) (fun _ _ _ h => h) (by rfl) (by assumption) ?_
            (try simp only [pmL, pnL, sc0, sc1])
            refine tkH 14 106 ?_ rfl (by kernel_rfl) (fun _ _ _ h => h) (by rfl) (by assumption) ?_ ?_
            rotate_left
            · intro w hSw; (try dsimp only at hSw); go_simp; try with_reducible rfl
            (try simp only [pmL, pnL, sc0, sc1])
            refine tkH 15 107 ?_ rfl (by kernel_rfl) (fun _ _ _ h => h) (by rfl) (by assumption) ?_ ?_
            rotate_left
            · intro w hSw; (try dsimp only at hSw); go_simp; try with_reducible rfl
            (try simp only [pmL, pnL, sc0, sc1])
            refine tkH 16 108 ?_ rfl (by kernel_rfl) (fun _ _ _ h => h) (by rfl) (by assumption) ?_ ?_
            rotate_left
            · intro w hSw; (try dsimp only at hSw); go_simp; try with_reducible rfl
            (try simp only [pmL, pnL, sc0, sc1])
            refine tkH 17 109 ?_ rfl (by kernel_rfl) (fun _ _ _ h => h) (by rfl) (by assumption) ?_ ?_
            rotate_left
            · intro w hSw; (try dsimp only at hSw); go_simp; try with_reducible rfl
            (try simp only [pmL, pnL, sc0, sc1])
            refine tkH 18 110 ?_ rfl (by kernel_rfl) (fun _ _ _ h => h) (by rfl) (by assumption) ?_ ?_
            rotate_left
            · intro w hSw; (try dsimp only at hSw); go_simp; try with_reducible rfl
            (try simp only [pmL, pnL, sc0, sc1])
            refine tkH 19 111 ?_ rfl (by kernel_rfl) (fun _ _ _ h => h) (by rfl) (by assumption) ?_ ?_
            rotate_left
            · intro w hSw; (try dsimp only at hSw); go_simp; try with_reducible rfl
            (try simp only [pmL, pnL, sc0, sc1])
            refine tkH 20 112 ?_ rfl (by kernel_rfl) (fun _ _ _ h => h) (by rfl) (by assumption) ?_ ?_
            rotate_left
            · intro w hSw; (try dsimp only at hSw); go_simp; try with_reducible rfl
            (try simp only [pmL, pnL, sc0, sc1])
            refine tkH 21 113 ?_ rfl (by kernel_rfl) (fun _ _ _ h => h) (by rfl) (by assumption) ?_ ?_
            rotate_left
            · intro w hSw; (try dsimp only at hSw); go_simp; try with_reducible rfl
            (try simp only [pmL, pnL, sc0, sc1])
            refine tkH 22 114 ?_ rfl (by kernel_rfl) (fun _ _ _ h => h) (by rfl) (by assumption) ?_ ?_
            rotate_left
            · intro w hSw; (try dsimp only at hSw); go_simp; try with_reducible rfl
            (try simp only [pmL, pnL, sc0, sc1])
            refine tkH 23 115 ?_ rfl (by kernel_rfl) (fun _ _ _ h => h) (by rfl) (by assumption) ?_ ?_
            rotate_left
            · intro w hSw; (try dsimp only at hSw); go_simp; try with_reducible rfl
            (try simp only [pmL, pnL, sc0, sc1])
            refine wpAnyH_done (by kernel_rfl) ?_ _
            clear hHeld
            go_wp2_with (first | go_big_skip | go_big_guard | (go_at_call 31; have HQ := errs_any hY HW.out.1.good 0; rw [HE9.out] at HQ; refine HQ.mono ?_; clear HQ; unfold ER.cells; rintro _ _ ⟨rfl, h4⟩; have hm19 := St.call0 hY h4; clear h4 hY) | (refine wl_alloc (T := 71) hm19 rfl rfl ?_; intro g17 _ hm20; clear hm19) | (refine wl_storeA [] hm20 rfl rfl rfl rfl rfl rfl rfl ?_; intro _ hm21; clear hm20; have hm22 := St.behind (A := (mP gm ga x9 m9)) hm21; clear hm21) | (refine wl_loadE rfl rfl rfl ?_; refine ⟨_, Loads.blk (P := Tryz.prog) (T := 3) (off := 0) (v := .int .i64 E9.rd) hm22 TyS.out (List.mem_append_right _ (.head _)) rfl, ?_⟩) | (refine wl_loadE rfl rfl rfl ?_; refine ⟨_, Loads.blk (P := Tryz.prog) (T := 3) (off := 0) (v := .int .i64 E1.rd) hm22 TyS.out (List.mem_append_right _ (.tail _ (.tail _ (.head _)))) rfl, ?_⟩) | (refine wl_loadE rfl rfl rfl ?_; refine ⟨_, Loads.blk (P := Tryz.prog) (T := 3) (off := 1) (v := .int .i64 E9.sm) hm22 TyS.out (List.mem_append_right _ (.head _)) rfl, ?_⟩) | (refine wl_loadE rfl rfl rfl ?_; refine ⟨_, Loads.blk (P := Tryz.prog) (T := 3) (off := 1) (v := .int .i64 E1.sm) hm22 TyS.out (List.mem_append_right _ (.tail _ (.tail _ (.head _)))) rfl, ?_⟩) | (refine wl_loadE rfl rfl rfl ?_; refine ⟨_, Loads.blk (P := Tryz.prog) (T := 3) (off := 2) (v := .int .i64 E9.he) hm22 TyS.out (List.mem_append_right _ (.head _)) rfl, ?_⟩) | (refine wl_loadE rfl rfl rfl ?_; refine ⟨_, Loads.blk (P := Tryz.prog) (T := 3) (off := 2) (v := .int .i64 E1.he) hm22 TyS.out (List.mem_append_right _ (.tail _ (.tail _ (.head _)))) rfl, ?_⟩))
            go_roundw
            case rel => exact ⟨i + 1, x9, m9, by omega, by go_num, hid HW.out.1, St.sub hm22 (by rw [List.append_nil]; exact List.sublist_append_left _ _)⟩
            case measure => simp [intOf]; omega
        by_cases h3 : y.k = 3
        · have hk := h3
          clear h0 h1 h2 h3
          have q0 : (y.k == 0) = false := by rw [hk]; rfl
          have q1 : (y.k == 1) = false := by rw [hk]; rfl
          have q2 : (y.k == 2) = false := by rw [hk]; rfl
          have q3 : (y.k == 3) = true := by rw [hk]; rfl
          clear hk
          obtain ⟨EE, sg, se, sb, sl, m9, hscan, hway, hw⟩ := tells_scan HM.out (PVof po pn pc y.p.l y.p.b y.p.v y.p.S) (show y.p.l.length ≤ 20 from HP20.out)
          have HSCAN := hid hscan
          have HW := hid hw
          clear hscan hw
          obtain ⟨E9, hE9⟩ : ∃ E9, E9 = m9.errs 0 := ⟨_, rfl⟩
          have HE9 := hid hE9.symm
          have hle : E1.le E9 := (by rw [hE9, ← HE1.out]; exact HW.out.2)
          have d5 : decide (E9.rd < E1.rd) = false := decide_eq_false (by have := hle.1; omega)
          have d6 : decide (E9.sm < E1.sm) = false := decide_eq_false (by have := hle.2.1; omega)
          have d7 : decide (E9.he < E1.he) = false := decide_eq_false (by have := hle.2.2; omega)
          clear hle hE9
          rcases hway with ⟨hE, hsum⟩ | ⟨hE, h1, h2, h3, h4⟩
          · subst hE
            have hs9 : sg + se + sb + sl = pn := hsum.trans HPL.out
            have h20 : pn ≤ 20 := by rw [← HPL.out]; exact HP20.out
            obtain ⟨t1, ht1⟩ : ∃ t, t = sg + se := ⟨_, rfl⟩
            obtain ⟨t2, ht2⟩ : ∃ t, t = t1 + sb := ⟨_, rfl⟩
            have z2 : IntKind.i64.wrap ((sg : Int) + (se : Int)) = (t1 : Int) := by rw [IntWalk.i64_in _ (by omega), ht1]; push_cast; rfl
            have z3 : IntKind.i64.wrap ((t1 : Int) + (sb : Int)) = (t2 : Int) := by rw [IntWalk.i64_in _ (by omega), ht2]; push_cast; rfl
            have z4 : IntKind.i64.wrap ((t2 : Int) + (sl : Int)) = (pn : Int) := by rw [IntWalk.i64_in _ (by omega)]; omega
            clear hsum hs9 h20 ht1 ht2
            go_wp2_with (first | go_big_skip | go_big_guard | (refine wl_loadE rfl rfl rfl ?_; refine ⟨_, Loads.oldA (P := Tryz.prog) (T := 69) (cs := CS) hst HLEN.out HRA.out, ?_⟩) | (refine wl_alloc (T := 69) hst rfl rfl ?_; intro g11 _ hm11; clear hst) | (refine wl_storeA [] hm11 rfl rfl rfl rfl HLEN.out HONE.out rfl ?_; intro _ hm12; clear hm11; have hm13 := St.behind (A := (mP gm ga x1 m1)) hm12; clear hm12) | (go_at_call 31; have HQ := errs_any hm13 HM.out.good 0; rw [HE1.out] at HQ; refine HQ.mono ?_; clear HQ; unfold ER.cells; rintro _ _ ⟨rfl, h4⟩; have hm14 := St.call0 hm13 h4; clear h4 hm13) | (refine wl_alloc (T := 71) hm14 rfl rfl ?_; intro g12 _ hm15; clear hm14) | (refine wl_storeA [] hm15 rfl rfl rfl rfl rfl rfl rfl ?_; intro _ hm16; clear hm15; have hm17 := St.behind (A := (mP gm ga x1 m1)) hm16; clear hm16) | (refine wl_loadE rfl rfl rfl ?_; refine ⟨_, Loads.blk (P := Tryz.prog) (T := 3) (off := 0) (v := .int .i64 y.k) hm17 TyS.out (List.mem_append_right _ (.tail _ (.head _))) c0.out, ?_⟩) | (refine wl_loadE rfl rfl rfl ?_; refine ⟨_, Loads.blkA (P := Tryz.prog) (T := 34) (off := 2) (vs := (ptrCells (.slice po pn pc) y.p.b y.p.v y.p.S)) hm17 (by rw [ptr_len HL.out]; exact TyA.out) (List.mem_append_right _ (.tail _ (.head _))) cP.out, ?_⟩) | (go_at_call 27; have HC := scan_any hm17 HM.out.good po pn pc y.p.l y.p.b y.p.v y.p.S HL.out HPL.out (fun _ h => Rd.old h HPR.out) (by omega); rw [HSCAN.out, show SR.cells _ = ([.int .i64 (sg : Int), .int .i64 (se : Int), .int .i64 (sb : Int), .int .i64 (sl : Int)] : List Value) from rfl] at HC; refine HC.mono ?_; clear HC; rintro _ _ ⟨x9, rfl, h4⟩; have hm18 : St _ _ _ ((mP gm ga x9 m9) ++ _) := h4; clear h4 hm17) | (refine wl_alloc (T := 59) hm18 rfl rfl ?_; intro g15 _ hm19; clear hm18) | (refine wl_storeA [] hm19 rfl rfl rfl rfl rfl rfl rfl ?_; intro _ hm20; clear hm19; have hm21 := St.behind (A := (mP gm ga x9 m9)) hm20; clear hm20) | (refine wl_loadE rfl rfl rfl ?_; refine ⟨_, Loads.blk (P := Tryz.prog) (T := 3) (off := 0) (v := .int .i64 (sg : Int)) hm21 TyS.out (List.mem_append_right _ (.head _)) rfl, ?_⟩) | (refine wl_loadE rfl rfl rfl ?_; refine ⟨_, Loads.blk (P := Tryz.prog) (T := 3) (off := 1) (v := .int .i64 (se : Int)) hm21 TyS.out (List.mem_append_right _ (.head _)) rfl, ?_⟩) | (refine wl_loadE rfl rfl rfl ?_; refine ⟨_, Loads.blk (P := Tryz.prog) (T := 3) (off := 2) (v := .int .i64 (sb : Int)) hm21 TyS.out (List.mem_append_right _ (.head _)) rfl, ?_⟩) | (refine wl_loadE rfl rfl rfl ?_; refine ⟨_, Loads.blk (P := Tryz.prog) (T := 3) (off := 3) (v := .int .i64 (sl : Int)) hm21 TyS.out (List.mem_append_right _ (.head _)) rfl, ?_⟩) | (refine wl_loadE rfl rfl rfl ?_; refine ⟨_, Loads.blk (P := Tryz.prog) (T := 30) (off := 2) (v := .slice po pn pc) hm21 TyS.out (List.mem_append_right _ (.tail _ (.tail _ (.head _)))) c2.out, ?_⟩) | (go_at_call 31; have HQ := errs_any hm21 HW.out.1.good 0; rw [HE9.out] at HQ; refine HQ.mono ?_; clear HQ; unfold ER.cells; rintro _ _ ⟨rfl, h4⟩; have hm22 := St.call0 hm21 h4; clear h4 hm21) | (refine wl_alloc (T := 71) hm22 rfl rfl ?_; intro g17 _ hm23; clear hm22) | (refine wl_storeA [] hm23 rfl rfl rfl rfl rfl rfl rfl ?_; intro _ hm24; clear hm23; have hm25 := St.behind (A := (mP gm ga x9 m9)) hm24; clear hm24) | (refine wl_loadE rfl rfl rfl ?_; refine ⟨_, Loads.blk (P := Tryz.prog) (T := 3) (off := 0) (v := .int .i64 E9.rd) hm25 TyS.out (List.mem_append_right _ (.head _)) rfl, ?_⟩) | (refine wl_loadE rfl rfl rfl ?_; refine ⟨_, Loads.blk (P := Tryz.prog) (T := 3) (off := 0) (v := .int .i64 E1.rd) hm25 TyS.out (List.mem_append_right _ (.tail _ (.tail _ (.head _)))) rfl, ?_⟩) | (refine wl_loadE rfl rfl rfl ?_; refine ⟨_, Loads.blk (P := Tryz.prog) (T := 3) (off := 1) (v := .int .i64 E9.sm) hm25 TyS.out (List.mem_append_right _ (.head _)) rfl, ?_⟩) | (refine wl_loadE rfl rfl rfl ?_; refine ⟨_, Loads.blk (P := Tryz.prog) (T := 3) (off := 1) (v := .int .i64 E1.sm) hm25 TyS.out (List.mem_append_right _ (.tail _ (.tail _ (.head _)))) rfl, ?_⟩) | (refine wl_loadE rfl rfl rfl ?_; refine ⟨_, Loads.blk (P := Tryz.prog) (T := 3) (off := 2) (v := .int .i64 E9.he) hm25 TyS.out (List.mem_append_right _ (.head _)) rfl, ?_⟩) | (refine wl_loadE rfl rfl rfl ?_; refine ⟨_, Loads.blk (P := Tryz.prog) (T := 3) (off := 2) (v := .int .i64 E1.he) hm25 TyS.out (List.mem_append_right _ (.tail _ (.tail _ (.head _)))) rfl, ?_⟩))
            go_roundw
            case rel => exact ⟨i + 1, x9, m9, by omega, by go_num, hid HW.out.1, St.sub hm25 (by rw [List.append_nil]; exact List.sublist_append_left _ _)⟩
            case measure => simp [intOf]; omega
          · subst h1 h2 h3 h4
            have e1 : (EE == 0) = false := beq_eq_false_iff_ne.2 hE
            have e2 : (EE != 0) = true := bne_iff_ne.2 hE
            clear hE
            go_wp2_with (first | go_big_skip | go_big_guard | (refine wl_loadE rfl rfl rfl ?_; refine ⟨_, Loads.oldA (P := Tryz.prog) (T := 69) (cs := CS) hst HLEN.out HRA.out, ?_⟩) | (refine wl_alloc (T := 69) hst rfl rfl ?_; intro g11 _ hm11; clear hst) | (refine wl_storeA [] hm11 rfl rfl rfl rfl HLEN.out HONE.out rfl ?_; intro _ hm12; clear hm11; have hm13 := St.behind (A := (mP gm ga x1 m1)) hm12; clear hm12) | (go_at_call 31; have HQ := errs_any hm13 HM.out.good 0; rw [HE1.out] at HQ; refine HQ.mono ?_; clear HQ; unfold ER.cells; rintro _ _ ⟨rfl, h4⟩; have hm14 := St.call0 hm13 h4; clear h4 hm13) | (refine wl_alloc (T := 71) hm14 rfl rfl ?_; intro g12 _ hm15; clear hm14) | (refine wl_storeA [] hm15 rfl rfl rfl rfl rfl rfl rfl ?_; intro _ hm16; clear hm15; have hm17 := St.behind (A := (mP gm ga x1 m1)) hm16; clear hm16) | (refine wl_loadE rfl rfl rfl ?_; refine ⟨_, Loads.blk (P := Tryz.prog) (T := 3) (off := 0) (v := .int .i64 y.k) hm17 TyS.out (List.mem_append_right _ (.tail _ (.head _))) c0.out, ?_⟩) | (refine wl_loadE rfl rfl rfl ?_; refine ⟨_, Loads.blkA (P := Tryz.prog) (T := 34) (off := 2) (vs := (ptrCells (.slice po pn pc) y.p.b y.p.v y.p.S)) hm17 (by rw [ptr_len HL.out]; exact TyA.out) (List.mem_append_right _ (.tail _ (.head _))) cP.out, ?_⟩) | (go_at_call 27; have HC := scan_any hm17 HM.out.good po pn pc y.p.l y.p.b y.p.v y.p.S HL.out HPL.out (fun _ h => Rd.old h HPR.out) (by omega); rw [HSCAN.out, show SR.cells _ = ([.int .i64 0, .int .i64 0, .int .i64 0, .int .i64 0] : List Value) from rfl] at HC; refine HC.mono ?_; clear HC; rintro _ _ ⟨x9, rfl, h4⟩; have hm18 : St _ _ _ ((mP gm ga x9 m9) ++ _) := h4; clear h4 hm17) | (refine wl_alloc (T := 59) hm18 rfl rfl ?_; intro g15 _ hm19; clear hm18) | (refine wl_storeA [] hm19 rfl rfl rfl rfl rfl rfl rfl ?_; intro _ hm20; clear hm19; have hm21 := St.behind (A := (mP gm ga x9 m9)) hm20; clear hm20) | (refine wl_loadE rfl rfl rfl ?_; refine ⟨_, Loads.blk (P := Tryz.prog) (T := 3) (off := 0) (v := .int .i64 0) hm21 TyS.out (List.mem_append_right _ (.head _)) rfl, ?_⟩) | (refine wl_loadE rfl rfl rfl ?_; refine ⟨_, Loads.blk (P := Tryz.prog) (T := 3) (off := 1) (v := .int .i64 0) hm21 TyS.out (List.mem_append_right _ (.head _)) rfl, ?_⟩) | (refine wl_loadE rfl rfl rfl ?_; refine ⟨_, Loads.blk (P := Tryz.prog) (T := 3) (off := 2) (v := .int .i64 0) hm21 TyS.out (List.mem_append_right _ (.head _)) rfl, ?_⟩) | (refine wl_loadE rfl rfl rfl ?_; refine ⟨_, Loads.blk (P := Tryz.prog) (T := 3) (off := 3) (v := .int .i64 0) hm21 TyS.out (List.mem_append_right _ (.head _)) rfl, ?_⟩) | (refine wl_loadE rfl rfl rfl ?_; refine ⟨_, Loads.blk (P := Tryz.prog) (T := 30) (off := 2) (v := .slice po pn pc) hm21 TyS.out (List.mem_append_right _ (.tail _ (.tail _ (.head _)))) c2.out, ?_⟩) | (refine wl_loadE rfl rfl rfl ?_; refine ⟨_, Loads.blkA (P := Tryz.prog) (T := 59) (vs := [.int .i64 0, .int .i64 0, .int .i64 0, .int .i64 0]) hm21 (TyA.out (n := 4)) (List.mem_append_right _ (.head _)) rfl, ?_⟩) | (refine wl_build0 rfl rfl ?_) | (go_at_call 31; have HQ := errs_any hm21 HW.out.1.good 0; rw [HE9.out] at HQ; refine HQ.mono ?_; clear HQ; unfold ER.cells; rintro _ _ ⟨rfl, h4⟩; have hm22 := St.call0 hm21 h4; clear h4 hm21) | (refine wl_alloc (T := 71) hm22 rfl rfl ?_; intro g17 _ hm23; clear hm22) | (refine wl_storeA [] hm23 rfl rfl rfl rfl rfl rfl rfl ?_; intro _ hm24; clear hm23; have hm25 := St.behind (A := (mP gm ga x9 m9)) hm24; clear hm24) | (refine wl_loadE rfl rfl rfl ?_; refine ⟨_, Loads.blk (P := Tryz.prog) (T := 3) (off := 0) (v := .int .i64 E9.rd) hm25 TyS.out (List.mem_append_right _ (.head _)) rfl, ?_⟩) | (refine wl_loadE rfl rfl rfl ?_; refine ⟨_, Loads.blk (P := Tryz.prog) (T := 3) (off := 0) (v := .int .i64 E1.rd) hm25 TyS.out (List.mem_append_right _ (.tail _ (.tail _ (.head _)))) rfl, ?_⟩) | (refine wl_loadE rfl rfl rfl ?_; refine ⟨_, Loads.blk (P := Tryz.prog) (T := 3) (off := 1) (v := .int .i64 E9.sm) hm25 TyS.out (List.mem_append_right _ (.head _)) rfl, ?_⟩) | (refine wl_loadE rfl rfl rfl ?_; refine ⟨_, Loads.blk (P := Tryz.prog) (T := 3) (off := 1) (v := .int .i64 E1.sm) hm25 TyS.out (List.mem_append_right _ (.tail _ (.tail _ (.head _)))) rfl, ?_⟩) | (refine wl_loadE rfl rfl rfl ?_; refine ⟨_, Loads.blk (P := Tryz.prog) (T := 3) (off := 2) (v := .int .i64 E9.he) hm25 TyS.out (List.mem_append_right _ (.head _)) rfl, ?_⟩) | (refine wl_loadE rfl rfl rfl ?_; refine ⟨_, Loads.blk (P := Tryz.prog) (T := 3) (off := 2) (v := .int .i64 E1.he) hm25 TyS.out (List.mem_append_right _ (.tail _ (.tail _ (.head _)))) rfl, ?_⟩))
            go_roundw
            case rel => exact ⟨i + 1, x9, m9, by omega, by go_num, hid HW.out.1, St.sub hm25 (by rw [List.append_nil]; exact List.sublist_append_left _ _)⟩
            case measure => simp [intOf]; omega
        by_cases h4 : y.k = 4
        · have hk := h4
          clear h0 h1 h2 h3 h4
          have q0 : (y.k == 0) = false := by rw [hk]; rfl
          have q1 : (y.k == 1) = false := by rw [hk]; rfl
          have q2 : (y.k == 2) = false := by rw [hk]; rfl
          have q3 : (y.k == 3) = false := by rw [hk]; rfl
          have q4 : (y.k == 4) = true := by rw [hk]; rfl
          clear hk
          obtain ⟨m9, hm9⟩ : ∃ m9 : MV, m9 = (m1.restore (PVof po pn pc y.p.l y.p.b y.p.v y.p.S) y.dev).m := ⟨_, rfl⟩
          have HM9 := hid hm9
          have HW := hid (show Went d m1 m9 (50 * i + 50) from by rw [hm9]; exact went_restore HM.out _ _ (show y.p.l.length ≤ 20 from HP20.out))
          clear hm9
          obtain ⟨E9, hE9⟩ : ∃ E9, E9 = m9.errs 0 := ⟨_, rfl⟩
          have HE9 := hid hE9.symm
          have hle : E1.le E9 := (by rw [hE9, ← HE1.out]; exact HW.out.2)
          have d5 : decide (E9.rd < E1.rd) = false := decide_eq_false (by have := hle.1; omega)
          have d6 : decide (E9.sm < E1.sm) = false := decide_eq_false (by have := hle.2.1; omega)
          have d7 : decide (E9.he < E1.he) = false := decide_eq_false (by have := hle.2.2; omega)
          clear hle hE9
          go_wp2_with (first | go_big_skip | go_big_guard | (refine wl_loadE rfl rfl rfl ?_; refine ⟨_, Loads.oldA (P := Tryz.prog) (T := 69) (cs := CS) hst HLEN.out HRA.out, ?_⟩) | (refine wl_alloc (T := 69) hst rfl rfl ?_; intro g11 _ hm11; clear hst) | (refine wl_storeA [] hm11 rfl rfl rfl rfl HLEN.out HONE.out rfl ?_; intro _ hm12; clear hm11; have hm13 := St.behind (A := (mP gm ga x1 m1)) hm12; clear hm12) | (go_at_call 31; have HQ := errs_any hm13 HM.out.good 0; rw [HE1.out] at HQ; refine HQ.mono ?_; clear HQ; unfold ER.cells; rintro _ _ ⟨rfl, h4⟩; have hm14 := St.call0 hm13 h4; clear h4 hm13) | (refine wl_alloc (T := 71) hm14 rfl rfl ?_; intro g12 _ hm15; clear hm14) | (refine wl_storeA [] hm15 rfl rfl rfl rfl rfl rfl rfl ?_; intro _ hm16; clear hm15; have hm17 := St.behind (A := (mP gm ga x1 m1)) hm16; clear hm16) | (refine wl_loadE rfl rfl rfl ?_; refine ⟨_, Loads.blk (P := Tryz.prog) (T := 3) (off := 0) (v := .int .i64 y.k) hm17 TyS.out (List.mem_append_right _ (.tail _ (.head _))) c0.out, ?_⟩) | (refine wl_loadE rfl rfl rfl ?_; refine ⟨_, Loads.blkA (P := Tryz.prog) (T := 34) (off := 2) (vs := (ptrCells (.slice po pn pc) y.p.b y.p.v y.p.S)) hm17 (by rw [ptr_len HL.out]; exact TyA.out) (List.mem_append_right _ (.tail _ (.head _))) cP.out, ?_⟩) | (refine wl_loadE rfl rfl rfl ?_; refine ⟨_, Loads.blk (P := Tryz.prog) (T := 3) (off := 1) (v := .int .i64 y.dev) hm17 TyS.out (List.mem_append_right _ (.tail _ (.head _))) c1.out, ?_⟩) | (go_at_call 15; have HC := restore_any hm17 HM.out.good po pn pc y.p.l y.p.b y.p.v y.p.S HL.out HPL.out (fun _ h => Rd.old h HPR.out) (by omega) y.dev; rw [← HM9.out] at HC; refine HC.mono ?_; clear HC; rintro _ _ ⟨x9, rfl, h4⟩; have hm18 : St _ _ _ ((mP gm ga x9 m9) ++ _) := h4; clear h4 hm17) | (go_at_call 31; have HQ := errs_any hm18 HW.out.1.good 0; rw [HE9.out] at HQ; refine HQ.mono ?_; clear HQ; unfold ER.cells; rintro _ _ ⟨rfl, h4⟩; have hm19 := St.call0 hm18 h4; clear h4 hm18) | (refine wl_alloc (T := 71) hm19 rfl rfl ?_; intro g17 _ hm20; clear hm19) | (refine wl_storeA [] hm20 rfl rfl rfl rfl rfl rfl rfl ?_; intro _ hm21; clear hm20; have hm22 := St.behind (A := (mP gm ga x9 m9)) hm21; clear hm21) | (refine wl_loadE rfl rfl rfl ?_; refine ⟨_, Loads.blk (P := Tryz.prog) (T := 3) (off := 0) (v := .int .i64 E9.rd) hm22 TyS.out (List.mem_append_right _ (.head _)) rfl, ?_⟩) | (refine wl_loadE rfl rfl rfl ?_; refine ⟨_, Loads.blk (P := Tryz.prog) (T := 3) (off := 0) (v := .int .i64 E1.rd) hm22 TyS.out (List.mem_append_right _ (.tail _ (.head _))) rfl, ?_⟩) | (refine wl_loadE rfl rfl rfl ?_; refine ⟨_, Loads.blk (P := Tryz.prog) (T := 3) (off := 1) (v := .int .i64 E9.sm) hm22 TyS.out (List.mem_append_right _ (.head _)) rfl, ?_⟩) | (refine wl_loadE rfl rfl rfl ?_; refine ⟨_, Loads.blk (P := Tryz.prog) (T := 3) (off := 1) (v := .int .i64 E1.sm) hm22 TyS.out (List.mem_append_right _ (.tail _ (.head _))) rfl, ?_⟩) | (refine wl_loadE rfl rfl rfl ?_; refine ⟨_, Loads.blk (P := Tryz.prog) (T := 3) (off := 2) (v := .int .i64 E9.he) hm22 TyS.out (List.mem_append_right _ (.head _)) rfl, ?_⟩) | (refine wl_loadE rfl rfl rfl ?_; refine ⟨_, Loads.blk (P := Tryz.prog) (T := 3) (off := 2) (v := .int .i64 E1.he) hm22 TyS.out (List.mem_append_right _ (.tail _ (.head _))) rfl, ?_⟩))
          go_roundw
          case rel => exact ⟨i + 1, x9, m9, by omega, by go_num, hid HW.out.1, St.sub hm22 (by rw [List.append_nil]; exact List.sublist_append_left _ _)⟩
          case measure => simp [intOf]; omega
        by_cases h5 : y.k = 5
        · have hk := h5
          clear h0 h1 h2 h3 h4 h5
          have q0 : (y.k == 0) = false := by rw [hk]; rfl
          have q1 : (y.k == 1) = false := by rw [hk]; rfl
          have q2 : (y.k == 2) = false := by rw [hk]; rfl
          have q3 : (y.k == 3) = false := by rw [hk]; rfl
          have q4 : (y.k == 4) = false := by rw [hk]; rfl
          have q5 : (y.k == 5) = true := by rw [hk]; rfl
          clear hk
          go_wp2_with (first | go_big_skip | go_big_guard | (refine wl_loadE rfl rfl rfl ?_; refine ⟨_, Loads.oldA (P := Tryz.prog) (T := 69) (cs := CS) hst HLEN.out HRA.out, ?_⟩) | (refine wl_alloc (T := 69) hst rfl rfl ?_; intro g11 _ hm11; clear hst) | (refine wl_storeA [] hm11 rfl rfl rfl rfl HLEN.out HONE.out rfl ?_; intro _ hm12; clear hm11; have hm13 := St.behind (A := (mP gm ga x1 m1)) hm12; clear hm12) | (go_at_call 31; have HQ := errs_any hm13 HM.out.good 0; rw [HE1.out] at HQ; refine HQ.mono ?_; clear HQ; unfold ER.cells; rintro _ _ ⟨rfl, h4⟩; have hm14 := St.call0 hm13 h4; clear h4 hm13) | (refine wl_alloc (T := 71) hm14 rfl rfl ?_; intro g12 _ hm15; clear hm14) | (refine wl_storeA [] hm15 rfl rfl rfl rfl rfl rfl rfl ?_; intro _ hm16; clear hm15; have hm17 := St.behind (A := (mP gm ga x1 m1)) hm16; clear hm16) | (refine wl_loadE rfl rfl rfl ?_; refine ⟨_, Loads.blk (P := Tryz.prog) (T := 3) (off := 0) (v := .int .i64 y.k) hm17 TyS.out (List.mem_append_right _ (.tail _ (.head _))) c0.out, ?_⟩) | (refine wl_loadE rfl rfl rfl ?_; refine ⟨_, Loads.blkA (P := Tryz.prog) (T := 49) (off := 38) (vs := y.x.cells) hm17 (show tyA _ _ 7 = true from TyA.out) (List.mem_append_right _ (.tail _ (.head _))) cX.out, ?_⟩) | (go_at_call 21; refine (befalls16_any hm17 HM.out.good (by omega) y.x HY.out.x).mono ?_; rintro _ _ ⟨rfl, x9, a8, hbef, hgd, h4⟩; have hm18 := h4; obtain ⟨m9, hm9⟩ : ∃ m9 : MV, m9 = m1.withA a8 := ⟨_, rfl⟩; have HW := hid (show Went d m1 m9 (50 * i + 50) from by rw [hm9]; exact went_bef HM.out hbef hgd); rw [← hm9] at hm18; clear hm9 h4 hbef hgd hm17; obtain ⟨E9, hE9⟩ : ∃ E9, E9 = m9.errs 0 := ⟨_, rfl⟩; have HE9 := hid hE9.symm; have hle : E1.le E9 := (by rw [hE9, ← HE1.out]; exact HW.out.2); have d5 : decide (E9.rd < E1.rd) = false := decide_eq_false (by have := hle.1; omega); have d6 : decide (E9.sm < E1.sm) = false := decide_eq_false (by have := hle.2.1; omega); have d7 : decide (E9.he < E1.he) = false := decide_eq_false (by have := hle.2.2; omega); clear hle hE9) | (go_at_call 31; have HQ := errs_any hm18 HW.out.1.good 0; rw [HE9.out] at HQ; refine HQ.mono ?_; clear HQ; unfold ER.cells; rintro _ _ ⟨rfl, h4⟩; have hm19 := St.call0 hm18 h4; clear h4 hm18) | (refine wl_alloc (T := 71) hm19 rfl rfl ?_; intro g17 _ hm20; clear hm19) | (refine wl_storeA [] hm20 rfl rfl rfl rfl rfl rfl rfl ?_; intro _ hm21; clear hm20; have hm22 := St.behind (A := (mP gm ga x9 m9)) hm21; clear hm21) | (refine wl_loadE rfl rfl rfl ?_; refine ⟨_, Loads.blk (P := Tryz.prog) (T := 3) (off := 0) (v := .int .i64 E9.rd) hm22 TyS.out (List.mem_append_right _ (.head _)) rfl, ?_⟩) | (refine wl_loadE rfl rfl rfl ?_; refine ⟨_, Loads.blk (P := Tryz.prog) (T := 3) (off := 0) (v := .int .i64 E1.rd) hm22 TyS.out (List.mem_append_right _ (.tail _ (.head _))) rfl, ?_⟩) | (refine wl_loadE rfl rfl rfl ?_; refine ⟨_, Loads.blk (P := Tryz.prog) (T := 3) (off := 1) (v := .int .i64 E9.sm) hm22 TyS.out (List.mem_append_right _ (.head _)) rfl, ?_⟩) | (refine wl_loadE rfl rfl rfl ?_; refine ⟨_, Loads.blk (P := Tryz.prog) (T := 3) (off := 1) (v := .int .i64 E1.sm) hm22 TyS.out (List.mem_append_right _ (.tail _ (.head _))) rfl, ?_⟩) | (refine wl_loadE rfl rfl rfl ?_; refine ⟨_, Loads.blk (P := Tryz.prog) (T := 3) (off := 2) (v := .int .i64 E9.he) hm22 TyS.out (List.mem_append_right _ (.head _)) rfl, ?_⟩) | (refine wl_loadE rfl rfl rfl ?_; refine ⟨_, Loads.blk (P := Tryz.prog) (T := 3) (off := 2) (v := .int .i64 E1.he) hm22 TyS.out (List.mem_append_right _ (.tail _ (.head _))) rfl, ?_⟩))
          go_roundw
          case rel => exact ⟨i + 1, x9, m9, by omega, by go_num, hid HW.out.1, St.sub hm22 (by rw [List.append_nil]; exact List.sublist_append_left _ _)⟩
          case measure => simp [intOf]; omega
        have q0 : (y.k == 0) = false := beq_eq_false_iff_ne.2 h0
        have q1 : (y.k == 1) = false := beq_eq_false_iff_ne.2 h1
        have q2 : (y.k == 2) = false := beq_eq_false_iff_ne.2 h2
        have q3 : (y.k == 3) = false := beq_eq_false_iff_ne.2 h3
        have q4 : (y.k == 4) = false := beq_eq_false_iff_ne.2 h4
        have q5 : (y.k == 5) = false := beq_eq_false_iff_ne.2 h5
        clear h0 h1 h2 h3 h4 h5
        obtain ⟨m9, hm9⟩ : ∃ m9 : MV, m9 = m1 := ⟨_, rfl⟩
        subst hm9
        have HW := hid (show Went d m9 m9 (50 * i + 50) from went_none HM.out)
        obtain ⟨E9, hE9⟩ : ∃ E9, E9 = E1 := ⟨_, rfl⟩
        subst hE9
        have HE9 := HE1
        have d5 : decide (E9.rd < E9.rd) = false := decide_eq_false (by omega)
        have d6 : decide (E9.sm < E9.sm) = false := decide_eq_false (by omega)
        have d7 : decide (E9.he < E9.he) = false := decide_eq_false (by omega)
        go_wp2_with (first | go_big_skip | go_big_guard | (refine wl_loadE rfl rfl rfl ?_; refine ⟨_, Loads.oldA (P := Tryz.prog) (T := 69) (cs := CS) hst HLEN.out HRA.out, ?_⟩) | (refine wl_alloc (T := 69) hst rfl rfl ?_; intro g11 _ hm11; clear hst) | (refine wl_storeA [] hm11 rfl rfl rfl rfl HLEN.out HONE.out rfl ?_; intro _ hm12; clear hm11; have hm13 := St.behind (A := (mP gm ga x1 m9)) hm12; clear hm12) | (go_at_call 31; have HQ := errs_any hm13 HM.out.good 0; rw [HE9.out] at HQ; refine HQ.mono ?_; clear HQ; unfold ER.cells; rintro _ _ ⟨rfl, h4⟩; have hm14 := St.call0 hm13 h4; clear h4 hm13) | (refine wl_alloc (T := 71) hm14 rfl rfl ?_; intro g12 _ hm15; clear hm14) | (refine wl_storeA [] hm15 rfl rfl rfl rfl rfl rfl rfl ?_; intro _ hm16; clear hm15; have hm17 := St.behind (A := (mP gm ga x1 m9)) hm16; clear hm16) | (refine wl_loadE rfl rfl rfl ?_; refine ⟨_, Loads.blk (P := Tryz.prog) (T := 3) (off := 0) (v := .int .i64 y.k) hm17 TyS.out (List.mem_append_right _ (.tail _ (.head _))) c0.out, ?_⟩) | (go_at_call 31; have HQ := errs_any hm17 HW.out.1.good 0; rw [HE9.out] at HQ; refine HQ.mono ?_; clear HQ; unfold ER.cells; rintro _ _ ⟨rfl, h4⟩; have hm18 := St.call0 hm17 h4; clear h4 hm17) | (refine wl_alloc (T := 71) hm18 rfl rfl ?_; intro g17 _ hm19; clear hm18) | (refine wl_storeA [] hm19 rfl rfl rfl rfl rfl rfl rfl ?_; intro _ hm20; clear hm19; have hm21 := St.behind (A := (mP gm ga x1 m9)) hm20; clear hm20) | (refine wl_loadE rfl rfl rfl ?_; refine ⟨_, Loads.blk (P := Tryz.prog) (T := 3) (off := 0) (v := .int .i64 E9.rd) hm21 TyS.out (List.mem_append_right _ (.head _)) rfl, ?_⟩) | (refine wl_loadE rfl rfl rfl ?_; refine ⟨_, Loads.blk (P := Tryz.prog) (T := 3) (off := 0) (v := .int .i64 E9.rd) hm21 TyS.out (List.mem_append_right _ (.tail _ (.head _))) rfl, ?_⟩) | (refine wl_loadE rfl rfl rfl ?_; refine ⟨_, Loads.blk (P := Tryz.prog) (T := 3) (off := 1) (v := .int .i64 E9.sm) hm21 TyS.out (List.mem_append_right _ (.head _)) rfl, ?_⟩) | (refine wl_loadE rfl rfl rfl ?_; refine ⟨_, Loads.blk (P := Tryz.prog) (T := 3) (off := 1) (v := .int .i64 E9.sm) hm21 TyS.out (List.mem_append_right _ (.tail _ (.head _))) rfl, ?_⟩) | (refine wl_loadE rfl rfl rfl ?_; refine ⟨_, Loads.blk (P := Tryz.prog) (T := 3) (off := 2) (v := .int .i64 E9.he) hm21 TyS.out (List.mem_append_right _ (.head _)) rfl, ?_⟩) | (refine wl_loadE rfl rfl rfl ?_; refine ⟨_, Loads.blk (P := Tryz.prog) (T := 3) (off := 2) (v := .int .i64 E9.he) hm21 TyS.out (List.mem_append_right _ (.tail _ (.head _))) rfl, ?_⟩))
        go_roundw
        case rel => exact ⟨i + 1, x1, m9, by omega, by go_num, hid HW.out.1, St.sub hm21 (by rw [List.append_nil]; exact List.sublist_append_left _ _)⟩
        case measure => simp [intOf]; omega
      · have d1 : decide ((i : Int) < (n : Int)) = false := decide_eq_false (by omega)
        go_wp2_with (first | go_big_skip | go_big_guard | fail)
        go_ret
        exact ⟨rfl, St.nil hst⟩
end
end Go.Proofs.YtmdfbdfijnmhkaaGreat
namespace Go.Proofs.YtmdfbdfijnmhkaaGreat
set_option linter.unusedVariables false
set_option linter.unusedSimpArgs false
open Go.ChangeShapes Go.WideShapes Go.ChangeAt Go.RowKit Hp
set_option maxRecDepth 100000 in
theorem mirrorTells_lifted (os : Os) (started : os.Started) (H : Type) (enc : TypeId × Value → H) :
    ReturnsInHanded {} Tryz.checked os 6 .any (Rows.mirrorTellsSpec.pre6 enc Tryz.prog Tryz.f6 Rows.mirrorTellsRow.domain false) (Rows.mirrorTellsSpec.post enc Tryz.prog Tryz.f6 false true false false) := by
  refine returnsInHanded_of_change (C := Tryz.checked) own started (by kernel_rfl) Tryz.func6
    (ChangeSpec.witness6 (enc := enc) (C := Tryz.checked) false ⟨#[], #[.int .i64 0, .slice none 0 0], []⟩ 8 (by kernel_rfl) (by kernel_rfl) (by kernel_rfl) (by kernel_rfl)) ?_
  intro W base args ds gs before hval0 hW hcnd _
  have hval : ∀ (j : Nat) t v, Tryz.f6.params[j]? = some t → args[j]? = some v → Value.okWide Tryz.prog W .any base t v := hval0
  have hW' := hW
  obtain ⟨p, q, hAA0, hV, rfl, hfz, hnd⟩ := hW
  have hA : DataW.TrodAll enc Tryz.prog W 0 (fun _ => true) true Tryz.f6.params.toList args.toList ds p := hAA0
  rw [Tryz.params6] at hA hval
  have hk := hA
  obtain ⟨v0, v1, d0, d1, p0, p1, rfl, rfl, rfl, h0, h1⟩ := trodAll_two hA
  obtain ⟨rfl, rfl⟩ := trodVars_none hV
  obtain ⟨n0, h0⟩ := h0
  obtain ⟨z0, rfl, hl0, hu0⟩ := open_int (hval 0 _ v0 rfl rfl) h0
  obtain ⟨n1, h1⟩ := h1
  obtain ⟨ao1, n1, c1, ys1, rfl, hA1, hn1, hk1⟩ := open_actsMV (hval 1 _ v1 rfl rfl) h1
  clear hAA0 hval0
  simp only [List.append_nil] at hW'
  refine (tells16_any z0 ao1 n1 c1 ys1 W ⟨hl0, hu0⟩ hA1 hn1 hk1).mono fun e W' ⟨he, hg⟩ => ?_
  subst he
  exact ⟨_, rfl, post_of_kept (pv := []) hW' (fun _ _ _ => (trodAll_cons_mk (shut_bool Tryz.underlying4 _) trodAll_mk0)) (fun sp hsp => by
      rw [Tryz.params6]
      exact args_kept (by decide) hk hg.below (fun p hp => hW'.lt p hp) sp hsp) (fun _ _ => rfl) (by simp)
    (hg.below.frame _)⟩
theorem mirrorTells_over : Rows.mirrorTellsRow.holds Tryz.pinned (OpenSpec.ofChange Rows.mirrorTellsSpec) :=
  OpenClaim.holds_of_wide 6 Tryz.f6 rfl rfl rfl rfl rfl rfl rfl ⟨rfl, rfl, rfl, rfl, rfl⟩ rfl rfl rfl rfl rfl (by kernel_rfl) Tryz.func6 (by kernel_rfl)
    (of_decide_eq_true (by kernel_rfl)) (by unfold Func.isWrapper; first | (rw [if_pos (by decide +kernel)]; kernel_rfl) | (rw [if_neg (by decide +kernel)]; exact ⟨rfl, rfl⟩))
    (fun os started H enc _ => mirrorTells_lifted os started H enc)
theorem mirrorTells_proved : Rows.MirrorTellsSaid :=
  mirrorTells_over
end Go.Proofs.YtmdfbdfijnmhkaaGreat
