import Derived.Test.YtilgjldnlgfehaaH9
import Derived.Test.YtilgjldnlgfehaaH6
import Derived.Test.YtilgjldnlgfehaaSepN
namespace Go.Proofs.Ytilgjldnlgfehaa
set_option linter.unusedVariables false
set_option linter.unusedSimpArgs false
open Go.RowKit Go.Shelf Hp
attribute [local irreducible] Go.Calls
set_option maxRecDepth 100000
set_option maxHeartbeats 4000000
theorem Hp.wl_ixS {P : Program} {ops : Array Oper} {rest : List Oper} {o : Oper} {a : Act} {w : World} {Q : Exit → Act → World → Prop} {T e : TypeId} {x y : Operand} {cs : List Value} {k n : Nat} (v : Value)
    (hop : o.op = .index T x y) (hw : Region.wanted o (yielded ops a.tmps) = true) (hx : a.eval x = .agg cs.toArray) (hy : a.eval y = .int .i64 k) (hT : P.underlying T = some (.array n e)) (he : tyS P e = true) (hk : k < n) (hv : cs[k]? = some v)
    (h : wpList P ops Q rest (a.put o.dst v) w) : wpList P ops Q (o :: rest) a w := by
  obtain ⟨⟨d, hd, hr⟩, hi⟩ := tyS_spec he
  have hagg : (isAgg e).run P w = .ok false w := by
    unfold isAgg
    rw [Sem.run_bind, run_underlying hd w]
    cases d <;> simp_all [TypeDesc.isRow]
  have hsz : (sizeOf e).run P w = .ok 1 w := by
    cases hq : P.info? e with
    | none => simp [hq] at hi
    | some i => simp [hq] at hi; simp [sizeOf, typeInfo, hq, hi]
  have hk2 : (0 : Int) ≤ (k : Int) ∧ (k : Int) < (n : Int) := ⟨by omega, by omega⟩
  obtain ⟨hkl, hke⟩ := List.getElem?_eq_some_iff.1 hv
  refine wl_run hw ?_ h
  unfold execOp
  simp only [hop, hx, hy, Instr.index, asIntOf, Sem.run_bind, Sem.run_pure, Result.andThen_ok, run_underlying hT, Sem.run_ite, hk2, if_true, and_self, hsz, part, hagg, Int.toNat_natCast]
  simp [hke, hkl, hv]
theorem rowsB_at {T : TypeId} : ∀ {vs : List Value} {ps : List (List UInt8)} {k : Nat} {p : List UInt8}, vs.length = ps.length → ps[k]? = some p → ∃ v, vs[k]? = some v ∧ HA.rowP isB v T 1 p.length (bytesV p) ∈ rowsB T vs ps
  | v :: vs, q :: ps, 0, p, _, h => by
    cases h
    exact ⟨v, rfl, .head _⟩
  | v :: vs, q :: ps, k + 1, p, hl, h => by
    obtain ⟨u, h1, h2⟩ := rowsB_at (T := T) (k := k) (p := p) (by simpa using hl) (by simpa using h)
    exact ⟨u, by simpa using h1, .tail _ h2⟩
  | [], [], _, _, _, h => by cases h
theorem byte_of (x : Wd) : wI x % 256 = ((UInt8.ofNat x.toNat).toNat : Int) := by
  rw [UInt8.toNat_ofNat']
  show (x.toNat : Int) % 256 = ((x.toNat % 2 ^ 8 : Nat) : Int)
  omega
def foldP (ps : List (List UInt8)) (k : Nat) : S8 := (ps.take k).foldl S8.turn S8.start
theorem foldP_succ {ps : List (List UInt8)} {k : Nat} {p : List UInt8} (h : ps[k]? = some p) : foldP ps (k + 1) = (foldP ps k).turn p := by
  simp [foldP, List.take_add_one, h]
theorem foldP_zero (ps : List (List UInt8)) : foldP ps 0 = S8.start := by simp [foldP]
theorem foldP_all {ps : List (List UInt8)} {k : Nat} (h : k = ps.length) : foldP ps k = ps.foldl S8.turn S8.start := by
  subst h; simp [foldP]
def outB (l : List UInt8) (n : Nat) : List UInt8 := l.take n ++ List.replicate (32 - n) 0
theorem length_outB {l : List UInt8} {n : Nat} (hl : l.length = 32) (h : n ≤ 32) : (outB l n).length = 32 := by
  simp [outB]; omega
theorem put_outB {l : List UInt8} {n : Nat} {y : UInt8} (hl : l.length = 32) (h : n < 32) (hy : l.getD n 0 = y) : putAt (bytesV (outB l n)) n [.int .u8 (y.toNat : Int)] = bytesV (outB l (n + 1)) := by
  have h1 : l[n]? = some y := by
    rw [List.getD, List.getElem?_eq_getElem (by omega)] at hy
    rw [List.getElem?_eq_getElem (by omega)]
    exact congrArg some hy
  have h2 : outB l n = l.take n ++ (0 :: List.replicate (32 - (n + 1)) 0) := by
    rw [outB, show 32 - n = (32 - (n + 1)) + 1 by omega, List.replicate_succ]
  have h3 : outB l (n + 1) = l.take n ++ (y :: List.replicate (32 - (n + 1)) 0) := by
    rw [outB, List.take_add_one, h1]
    simp
  rw [h2, h3]
  have h4 : (bytesV (l.take n)).length = n := by rw [length_bytesV]; simp; omega
  unfold putAt
  rw [bytesV_append, bytesV_append, List.take_left' h4, ← List.drop_drop, List.drop_left' h4]
  rfl
theorem length_bytesS (s : S8) : s.bytes.length = 32 := rfl
theorem byteS_at : ∀ (s : S8) (j i : Nat), j < 8 → i < 4 → s.bytes.getD (4 * j + i) 0 = UInt8.ofNat (s.list.getD j 0 >>> (24 - 8 * i)).toNat := by
  intro s j i hj hi
  rcases j with _ | _ | _ | _ | _ | _ | _ | _ | j <;> first | omega | (rcases i with _ | _ | _ | _ | i <;> first | omega | rfl)
theorem outB_0 (l : List UInt8) : bytesV (outB l 0) = List.replicate 32 (.int .u8 0) := rfl
theorem outB_all {l : List UInt8} (hl : l.length = 32) : outB l 32 = l := by
  simp [outB, ← hl]
instance tyA29 : TyA Try.prog 29 32 := ⟨by kernel_rfl⟩
instance tyN29 : TyN Try.prog 29 32 := ⟨by kernel_rfl⟩
instance tyZ29 : TyZ Try.prog 29 (List.replicate 32 (.int .u8 0)) := ⟨by kernel_rfl⟩
theorem sum_any (ao : Option Addr) (n c : Nat) (bs : List UInt8) (w : World) (hA : Rd w (.slice ao n c) 1 n (bytesV bs)) (hn : bs.length = n) (hb : n ≤ 100000) :
    Calls Try.prog 14 #[.slice ao n c] w fun e w' => e = .returned (.agg (bytesV (sumB bs)).toArray) ∧ St w [] w' [] := by
  have hst := St.refl w
  obtain ⟨ps, hps⟩ : ∃ ps, ps = pieces bs := ⟨_, rfl⟩
  have HP := hid hps
  have hp64 : ∀ (k : Nat) (p : List UInt8), ps[k]? = some p → p.length = 64 := by
    intro k p hk
    rw [hps, pieces, List.getElem?_map] at hk
    cases hq : (List.range ((filled bs).length / 64))[k]? with
    | none => rw [hq] at hk; cases hk
    | some x =>
      rw [hq] at hk
      cases hk
      rw [List.getElem?_eq_some_iff] at hq
      obtain ⟨hx, rfl⟩ := hq
      simp at hx
      refine length_cut64 (m := (filled bs).length / 64) ?_ (by simpa using hx)
      have h1 := filled_mod bs
      omega
  have H64 := hid hp64
  clear hp64 hps
  go_enter Try.func14, Try.ntmps14
  go_wp2_with (first | go_big_skip | go_big_guard | (refine wl_alloc hst rfl rfl ?_; intro g2 _ hst1; clear hst) | (go_at_call 21; refine (start_any _).mono ?_; rintro _ _ ⟨rfl, h4⟩; have hst2 := St.call0 hst1 h4; clear h4 hst1) | (refine wl_alloc hst2 rfl rfl ?_; intro g3 _ hst3; clear hst2) | (refine wl_storeA [] hst3 rfl rfl rfl rfl rfl rfl rfl ?_; intro _ hst4; clear hst3) | (go_at_call 11; refine (fill_any ao n c bs _ (Rd.old hst4 hA) hn hb).mono ?_; rw [← HP.out]; rintro _ w5 ⟨out, vs, rfl, hvl, h4⟩; have hst5 := St.call hst4 h4; clear h4 hst4; obtain ⟨N, hN⟩ : ∃ N, N = vs.length := ⟨_, rfl⟩; rw [← hN] at hst5; obtain ⟨ax, cx, rfl⟩ := St.rowSliceAt [] hst5; have HN := hid hN; have HV := hid hvl; clear hN hvl))
  have hbd := (Rd.row hst5 (.head _)).bd
  have hbd1 := hbd.1
  have hbd2 := hbd.2.1
  clear hbd
  obtain ⟨Z, hZ⟩ : ∃ Z : List Value, Z = List.replicate 32 (.int .u8 0) := ⟨_, rfl⟩
  have HZ := hid hZ
  have hst6 : St w [] w5 (.blk g3 58 (wordsV (foldP ps 0).list) :: .blk g2 29 Z :: .row (.slice ax N cx) 22 1 N vs :: rowsB 5 vs ps) := by
    rw [hZ, foldP_zero]
    exact St.perm hst5 (by
      refine (List.perm_append_comm (l₁ := _ :: rowsB 5 vs ps)).trans ?_
      exact List.Perm.refl _)
  clear hst5 hZ
  go_loopw [14] (fun q wr => ∃ k : Nat, k ≤ N ∧ q = .int .i64 k ∧ St w [] wr (.blk g3 58 (wordsV (foldP ps k).list) :: .blk g2 29 Z :: .row (.slice ax N cx) 22 1 N vs :: rowsB 5 vs ps)) (fun q _ => N - (intOf q).toNat)
  case atStart => exact ⟨0, by omega, rfl, hst6⟩
  case round =>
    clear hst6
    obtain ⟨k, hk, rfl, hst⟩ := hrel
    by_cases hkN : k < N
    · obtain ⟨p, hp⟩ : ∃ p, ps[k]? = some p := ⟨_, List.getElem?_eq_getElem (by rw [← HV.out, ← HN.out]; exact hkN)⟩
      obtain ⟨v, hv, hm⟩ := rowsB_at (T := 5) HV.out hp
      have hl64 := H64.out k p hp
      obtain ⟨S, hS⟩ : ∃ S, S = foldP ps k := ⟨_, rfl⟩
      obtain ⟨T, hT⟩ : ∃ T, T = S.turn p := ⟨_, rfl⟩
      have HS := hid (show foldP ps (k + 1) = T by rw [hT, hS, foldP_succ hp])
      have HT := hid hT
      rw [← hS] at hst
      obtain ⟨bq, cq, rfl, _, _⟩ := rowP_some hst (.tail _ (.tail _ (.tail _ hm))) (by omega)
      obtain ⟨b, off, rfl, hr⟩ := (Rd.row hst (.tail _ (.tail _ (.head _)))).at hkN
      have hc := hr k _ hv
      rw [hl64] at hc hm
      have HL := hid hl64
      have HM := hid hm
      have hk2 : (k : Int) < (N : Int) := by omega
      clear hr hv hS hp hl64 hm hT
      go_wp2_with (first | go_big_skip | go_big_guard | (refine wl_loadE rfl rfl rfl ?_; first | refine ⟨_, Loads.atA (wordsV S.list) [] hst (rfl) (rfl), ?_⟩) | (go_at_call 36; refine (turned_any S p bq 0 cq _ (Rd.rowP hst (.tail _ (.tail _ (.tail _ HM.out)))) HL.out).mono ?_; rw [← HT.out]; rintro _ _ ⟨rfl, h4⟩; have hst1 := St.call0 hst h4; clear h4 hst) | (refine wl_storeA [] hst1 rfl rfl rfl rfl rfl rfl rfl ?_; intro _ hst2; clear hst1))
      go_roundw
      case rel => exact ⟨k + 1, by omega, by go_num, by rw [HS.out]; exact hst2⟩
      case measure => simp [intOf]; omega
    · have ek : k = N := by omega
      subst ek
      have e : (foldP ps k).bytes = sumB bs := by rw [foldP_all (HN.out.trans HV.out), HP.out]; rfl
      obtain ⟨S, hS⟩ : ∃ S, S = foldP ps k := ⟨_, rfl⟩
      rw [← hS] at e hst
      have HE := hid e
      clear e hS
      go_wp2_with (first | go_big_skip | go_big_guard | (refine wl_alloc hst rfl rfl ?_; intro g6 w6 hst1; clear hst) | (refine wl_loadE rfl rfl rfl ?_; first | refine ⟨_, Loads.atA (wordsV S.list) [_] hst1 (rfl) (rfl), ?_⟩))
      clear hk hkN
      obtain ⟨R, hR⟩ : ∃ R : List HA, R = .row (.slice ax k cx) 22 1 k vs :: rowsB 5 vs ps := ⟨_, rfl⟩
      have hst2 : St w [] w6 (.blk g6 29 (bytesV (outB S.bytes (4 * 0))) :: .blk g3 58 (wordsV S.list) :: .blk g2 29 Z :: R) := by rw [hR, show 4 * 0 = 0 from rfl, outB_0]; exact hst1
      clear hst1 hR
      go_loopw [23] (fun q wr => ∃ j : Nat, j ≤ 8 ∧ q = .int .i64 j ∧ St w [] wr (.blk g6 29 (bytesV (outB S.bytes (4 * j))) :: .blk g3 58 (wordsV S.list) :: .blk g2 29 Z :: R)) (fun q _ => 8 - (intOf q).toNat)
      case atStart => exact ⟨0, by omega, rfl, hst2⟩
      case round =>
        clear hst2
        obtain ⟨j, hj, rfl, hst⟩ := hrel
        by_cases hj8 : j < 8
        · obtain ⟨x, hx⟩ : ∃ x, x = S.list.getD j 0 := ⟨_, rfl⟩
          have gx := words_get S.list (show j < S.list.length from hj8)
          rw [← hx] at gx
          have HX := hid hx
          have hj2 : (j : Int) < 8 := by omega
          have GX := hid gx
          clear hx gx
          go_wp2_with (first | go_big_skip | go_big_guard | (refine wl_ixS (.int .u32 (wI x)) rfl rfl rfl rfl Try.underlying58 (by kernel_rfl) hj8 GX.out ?_))
          have hst2 : St w [] _ (.blk g6 29 (bytesV (outB S.bytes (4 * j + 0))) :: .blk g3 58 (wordsV S.list) :: .blk g2 29 Z :: R) := hst
          clear hst
          go_loopw [27] (fun q wr => ∃ i : Nat, i ≤ 4 ∧ q = .int .i64 i ∧ St w [] wr (.blk g6 29 (bytesV (outB S.bytes (4 * j + i))) :: .blk g3 58 (wordsV S.list) :: .blk g2 29 Z :: R)) (fun q _ => 4 - (intOf q).toNat)
          case atStart => exact ⟨0, by omega, rfl, hst2⟩
          case round =>
            clear hst2
            obtain ⟨i, hi, rfl, hst⟩ := hrel
            by_cases hi4 : i < 4
            · obtain ⟨Y, hY⟩ : ∃ Y, Y = UInt8.ofNat (x >>> (24 - 8 * i)).toNat := ⟨_, rfl⟩
              obtain ⟨X, hX⟩ : ∃ X : Int, X = wI (x >>> (24 - 8 * i)) := ⟨_, rfl⟩
              have f1 : ∀ T, binOp .shr T (.int .u32 (wI x)) (.int .i64 (24 - 8 * (i : Int))) = pure (.int .u32 X) := by
                intro T
                rw [show (24 - 8 * (i : Int)) = ((24 - 8 * i : Nat) : Int) by omega, shrN T x .i64 (24 - 8 * i) (by omega), hX]
              have f3 : X % 256 = (Y.toNat : Int) := by
                rw [hX, hY, byte_of]
              have f2 : IntKind.u8.wrap X = (Y.toNat : Int) := f3
              have HY := hid (show S.bytes.getD (4 * j + i) 0 = Y by rw [byteS_at S j i hj8 hi4, ← HX.out, hY])
              have HO := hid (length_outB (l := S.bytes) (n := 4 * j + i) (length_bytesS S) (by omega))
              have z0 : IntKind.i64.wrap (4 * (j : Int)) = 4 * (j : Int) := IntWalk.i64_in _ (by omega)
              have z1 : IntKind.i64.wrap (4 * (j : Int) + (i : Int)) = 4 * (j : Int) + (i : Int) := IntWalk.i64_in _ (by omega)
              have n1 : (4 * (j : Int) + (i : Int)).toNat = 4 * j + i := by omega
              have b1 : 4 * (j : Int) + (i : Int) < 32 := by omega
              have c1 : 0 ≤ 4 * (j : Int) + (i : Int) := by omega
              clear hX hY
              go_wp2_with (first | go_big_skip | go_big_guard | (refine wl_store [] hst rfl rfl rfl (v := .int _ _) rfl rfl rfl ?_ ?_; (rw [length_bytesV, HO.out]; show 4 * j + i + 1 ≤ 32; omega); intro w9 hst2; clear hst))
              have hst3 : St w [] w9 (.blk g6 29 (bytesV (outB S.bytes (4 * j + (i + 1)))) :: .blk g3 58 (wordsV S.list) :: .blk g2 29 Z :: R) := by
                have h := put_outB (length_bytesS S) (show 4 * j + i < 32 by omega) HY.out
                rw [← Nat.add_assoc, ← h]
                exact hst2
              clear hst2
              go_roundw
              case rel => exact ⟨i + 1, by omega, by go_num, hst3⟩
              case measure => simp [intOf]; omega
            · have e : i = 4 := by omega
              subst e
              rw [show 4 * j + 4 = 4 * (j + 1) by omega] at hst
              go_wp2_with (first | go_big_skip | go_big_guard | fail)
              go_roundw
              case rel => exact ⟨j + 1, by omega, by go_num, hst⟩
              case measure => simp [intOf]; omega
        · have e : j = 8 := by omega
          subst e
          rw [show 4 * 8 = 32 from rfl, outB_all (length_bytesS S), HE.out] at hst
          have h32 : (bytesV (sumB bs)).length = 32 := by rw [← HE.out]; rfl
          go_wp2_with (first | go_big_skip | go_big_guard | (refine wl_loadE rfl rfl rfl ?_; first | refine ⟨_, Loads.atA (bytesV (sumB bs)) [] hst (h32) (by rw [List.drop_zero, List.take_length]), ?_⟩) | (refine wl_storeA [_, _] hst rfl rfl rfl rfl (h32) (ones_bytesV _) (by rw [HZ.out]; rfl) ?_; intro w12 hst12; clear hst))
          have hl := Loads.atA (P := Try.prog) (off := 0) (T := 29) (bytesV (sumB bs)) [_, _] hst12 h32 (by rw [List.drop_zero, List.take_length])
          refine bodyPost_ret (results_cellL rfl rfl hl) rfl ⟨rfl, hst12.nil⟩
end Go.Proofs.Ytilgjldnlgfehaa
