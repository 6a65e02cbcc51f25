import Derived.Test.YtmdfbdfijnmhkaaGreatJMirrorScriptf
import Derived.Test.YtmdfbdfijnmhkaaGreatJMirrorScriptb
import Derived.RangeFuncFrom
import Derived.Sort.CutIn
import Derived.Test.YtmdfbdfijnmhkaaGreatJMirrorScripte
import Derived.Test.YtmdfbdfijnmhkaaGreatJMirrorScriptd
namespace Go.Proofs.YtmdfbdfijnmhkaaGreat
set_option linter.unusedVariables false
set_option linter.unusedSimpArgs false
set_option maxRecDepth 100000
set_option maxHeartbeats 4000000
section
open Go.RowKit Go.Shelf Hp
attribute [local irreducible] Go.Calls
theorem Hp.wl_ixS {P : Program} {ops : Array Oper} {rest : List Oper} {o : Oper} {a : Act} {w : World} {Q : Exit → Act → World → Prop} {T e : TypeId} {x y : Operand} {cs : List Value} {k n : Nat} (v : Value)
  (hop : o.op = .index T x y) (hw : Region.wanted o (yielded ops a.tmps) = true) (hx : a.eval x = .agg cs.toArray) (hy : a.eval y = .int .i64 k) (hT : P.underlying T = some (.array n e)) (he : tyS P e = true) (hk : k < n) (hv : cs[k]? = some v)
  (h : wpList P ops Q rest (a.put o.dst v) w) : wpList P ops Q (o :: rest) a w := by
 obtain ⟨⟨d, hd, hr⟩, hi⟩ := tyS_spec he; have hagg : (isAgg e).run P w = .ok false w := by
  unfold isAgg; rw [Sem.run_bind, run_underlying hd w]; cases d <;> simp_all [TypeDesc.isRow]
 have hsz : (sizeOf e).run P w = .ok 1 w := by
  cases hq : P.info? e with
  | none => simp [hq] at hi
  | some i => simp [hq] at hi; simp [sizeOf, typeInfo, hq, hi]
 have hk2 : (0 : Int) ≤ (k : Int) ∧ (k : Int) < (n : Int) := ⟨by omega, by omega⟩; obtain ⟨hkl, hke⟩ := List.getElem?_eq_some_iff.1 hv; refine jW hw ?_ h; unfold execOp; simp only [hop, hx, hy, Instr.index, asIntOf, Sem.run_bind, Sem.run_pure, Result.andThen_ok, run_underlying hT, Sem.run_ite, hk2, if_true, and_self, hsz, part, hagg, Int.toNat_natCast]; simp [hke, hkl, hv]
theorem rowsB_at {T : TypeId} : ∀ {vs : List Value} {ps : List (List UInt8)} {k : Nat} {p : List UInt8}, vs.length = ps.length → ps[k]? = some p → ∃ v, vs[k]? = some v ∧ HA.rowP yP v T 1 p.length (yb p) ∈ jJ T vs ps
 | v :: vs, q :: ps, 0, p, _, h => by
  cases h; exact ⟨v, rfl, .head _⟩
 | v :: vs, q :: ps, k + 1, p, hl, h => by
  obtain ⟨u, h1, h2⟩ := rowsB_at (T := T) (k := k) (p := p) (by simpa using hl) (by simpa using h); exact ⟨u, by simpa using h1, zT h2⟩
 | [], [], _, _, _, h => by cases h
theorem byte_of (x : Wd) : wI x % 256 = ((UInt8.ofNat x.toNat).toNat : Int) := by
 rw [UInt8.toNat_ofNat']; show (x.toNat : Int) % 256 = ((x.toNat % 2 ^ 8 : Nat) : Int); omega
def qf (ps : List (List UInt8)) (k : Nat) : S8 := (ps.take k).foldl S8.turn S8.start
theorem foldP_succ {ps : List (List UInt8)} {k : Nat} {p : List UInt8} (h : ps[k]? = some p) : qf ps (k + 1) = (qf ps k).turn p := by
 simp [qf, List.take_add_one, h]
theorem foldP_zero (ps : List (List UInt8)) : qf ps 0 = S8.start := by simp [qf]
theorem foldP_all {ps : List (List UInt8)} {k : Nat} (h : k = ps.length) : qf ps k = ps.foldl S8.turn S8.start := by
 subst h; simp [qf]
def qV (l : List UInt8) (n : Nat) : List UInt8 := l.take n ++ List.replicate (32 - n) 0
theorem length_outB {l : List UInt8} {n : Nat} (hl : l.length = 32) (h : n ≤ 32) : (qV l n).length = 32 := by
 simp [qV]; omega
theorem put_outB {l : List UInt8} {n : Nat} {y : UInt8} (hl : l.length = 32) (h : n < 32) (hy : l.getD n 0 = y) : yw (yb (qV l n)) n [.int .u8 (y.toNat : Int)] = yb (qV l (n + 1)) := by
 have h1 : l[n]? = some y := by
  rw [List.getD, List.getElem?_eq_getElem (by omega)] at hy; rw [List.getElem?_eq_getElem (by omega)]; exact congrArg some hy
 have h2 : qV l n = l.take n ++ (0 :: List.replicate (32 - (n + 1)) 0) := by
  rw [qV, show 32 - n = (32 - (n + 1)) + 1 by omega, List.replicate_succ]
 have h3 : qV l (n + 1) = l.take n ++ (y :: List.replicate (32 - (n + 1)) 0) := by
  rw [qV, List.take_add_one, h1]; simp
 rw [h2, h3]; have h4 : (yb (l.take n)).length = n := by rw [length_bytesV]; simp; omega
 unfold yw; rw [yaW, yaW, List.take_left' h4, ← List.drop_drop, List.drop_left' h4]; rfl
theorem zZ (s : S8) : s.bytes.length = 32 := rfl
theorem byteS_at : ∀ (s : S8) (j i : Nat), j < 8 → i < 4 → s.bytes.getD (4 * j + i) 0 = UInt8.ofNat (s.list.getD j 0 >>> (24 - 8 * i)).toNat := by
 intro s j i hj hi; rcases j with _ | _ | _ | _ | _ | _ | _ | _ | j <;> first | omega | (rcases i with _ | _ | _ | _ | i <;> first | omega | rfl)
theorem outB_0 (l : List UInt8) : yb (qV l 0) = List.replicate 32 (.int .u8 0) := rfl
theorem outB_all {l : List UInt8} (hl : l.length = 32) : qV l 32 = l := by
 simp [qV, ← hl]
instance hyA29 : TyA Tryz.prog 32 32 := ⟨by kernel_rfl⟩
instance hyN29 : TyN Tryz.prog 32 32 := ⟨by kernel_rfl⟩
instance hyZ29 : TyZ Tryz.prog 32 (List.replicate 32 (.int .u8 0)) := ⟨by kernel_rfl⟩
theorem sum_any (ao : Option Addr) (n c : Nat) (bs : List UInt8) (w : World) (hA : Rd w (.slice ao n c) 1 n (yb bs)) (hn : bs.length = n) (hb : n ≤ 100000) :
  Calls Tryz.prog 23 #[.slice ao n c] w fun e w' => e = .returned (.agg (yb (z8 bs)).toArray) ∧ St w [] w' [] := by
 have hst := St.refl w; obtain ⟨ps, hps⟩ : ∃ ps, ps = pieces bs := ⟨_, rfl⟩; have HP := ya hps; have hp64 : ∀ (k : Nat) (p : List UInt8), ps[k]? = some p → p.length = 64 := by
  intro k p hk; rw [hps, pieces, List.getElem?_map] at hk; cases hq : (List.range ((qP bs).length / 64))[k]? with
  | none => rw [hq] at hk; cases hk
  | some x =>
   rw [hq] at hk; cases hk; rw [List.getElem?_eq_some_iff] at hq; obtain ⟨hx, rfl⟩ := hq; simp at hx; refine ybd (m := (qP bs).length / 64) ?_ (by simpa using hx); have h1 := filled_mod bs; omega
 have H64 := ya hp64; clear hp64 hps; go_enter Tryz.func23, Tryz.ntmps23; go_wp2_with (first | (refine yN hst fun g2 _ hst1 => ?_; clear hst) | (go_at_call 59; refine jc hst1 (start_any _) fun _ hst2 => ?_; clear hst1) | (refine yN hst2 fun g3 _ hst3 => ?_; clear hst2) | (refine ji [] hst3 fun _ hst4 => ?_; clear hst3) | (go_at_call 60; refine (fill_any ao n c bs _ (Rd.old hst4 hA) hn hb).mono ?_; rw [← HP]; rintro _ w5 ⟨out, vs, rfl, hvl, h4⟩; have hst5 := St.call hst4 h4; clear h4 hst4; obtain ⟨N, hN⟩ : ∃ N, N = vs.length := ⟨_, rfl⟩; rw [← hN] at hst5; obtain ⟨ax, cx, rfl⟩ := yZ [] hst5; have HN := ya hN; have HV := ya hvl; clear hN hvl)); have hbd := (Rd.row hst5 zH).bd; have hbd1 := hbd.1; have hbd2 := hbd.2.1; clear hbd; obtain ⟨Z, hZ⟩ : ∃ Z : List Value, Z = List.replicate 32 (.int .u8 0) := ⟨_, rfl⟩; have HZ := ya hZ; have hst6 : St w [] w5 (.blk g3 117 (yf (qf ps 0).list) :: .blk g2 32 Z :: .row (.slice ax N cx) 28 1 N vs :: jJ 5 vs ps) := by
  rw [hZ, foldP_zero]; exact St.perm hst5 (by
   refine (List.perm_append_comm (l₁ := _ :: jJ 5 vs ps)).trans ?_; exact List.Perm.refl _)
 clear hst5 hZ; go_loopw [14] (fun q wr => ∃ k : Nat, k ≤ N ∧ q = .int .i64 k ∧ St w [] wr (.blk g3 117 (yf (qf ps k).list) :: .blk g2 32 Z :: .row (.slice ax N cx) 28 1 N vs :: jJ 5 vs ps)) (fun q _ => N - (intOf q).toNat)
 case atStart => exact ⟨0, by omega, rfl, hst6⟩
 case round =>
  clear hst6; obtain ⟨k, hk, rfl, hst⟩ := hrel; by_cases hkN : k < N
  ·obtain ⟨p, hp⟩ : ∃ p, ps[k]? = some p := ⟨_, List.getElem?_eq_getElem (by rw [← HV, ← HN]; exact hkN)⟩; obtain ⟨v, hv, hm⟩ := rowsB_at (T := 5) HV.out hp; have hl64 := H64.out k p hp; obtain ⟨S, hS⟩ : ∃ S, S = qf ps k := ⟨_, rfl⟩; obtain ⟨T, hT⟩ : ∃ T, T = S.turn p := ⟨_, rfl⟩; have HS := ya (show qf ps (k + 1) = T by rw [hT, hS, foldP_succ hp]); have HT := ya hT; rw [← hS] at hst; obtain ⟨bq, cq, rfl, _, _⟩ := rowP_some hst (zT (zT (zT hm))) (by omega); obtain ⟨b, off, rfl, hr⟩ := (Rd.row hst (zT (zT zH))).at hkN; have hc := hr k _ hv; rw [hl64] at hc hm; have HL := ya hl64; have HM := ya hm; have hk2 : (k : Int) < (N : Int) := by omega
   clear hr hv hS hp hl64 hm hT; go_wp2_with (first | (refine jl (yl (yf S.list) [] hst (rfl) (rfl)) ?_) | (go_at_call 61; refine (turned_any S p bq 0 cq _ (Rd.rowP hst (zT (zT (zT HM.out)))) HL.out).mono ?_; rw [← HT]; rintro _ _ ⟨rfl, h4⟩; have hst1 := St.call0 hst h4; clear h4 hst) | (refine ji [] hst1 fun _ hst2 => ?_; clear hst1)); go_roundw
   case rel => exact ⟨k + 1, by omega, by go_num, by rw [HS]; exact hst2⟩
   case measure => simp [intOf]; omega
  ·have ek : k = N := by omega
   subst ek; have e : (qf ps k).bytes = z8 bs := by rw [foldP_all (HN.trans HV.out), HP]; rfl
   obtain ⟨S, hS⟩ : ∃ S, S = qf ps k := ⟨_, rfl⟩; rw [← hS] at e hst; have HE := ya e; clear e hS; go_wp2_with (first | (refine yN hst fun g6 w6 hst1 => ?_; clear hst) | (refine jl (yl (yf S.list) [_] hst1 (rfl) (rfl)) ?_)); clear hk hkN; obtain ⟨R, hR⟩ : ∃ R : List HA, R = .row (.slice ax k cx) 28 1 k vs :: jJ 5 vs ps := ⟨_, rfl⟩; have hst2 : St w [] w6 (.blk g6 32 (yb (qV S.bytes (4 * 0))) :: .blk g3 117 (yf S.list) :: .blk g2 32 Z :: R) := by rw [hR, show 4 * 0 = 0 from rfl, outB_0]; exact hst1
   clear hst1 hR; go_loopw [23] (fun q wr => ∃ j : Nat, j ≤ 8 ∧ q = .int .i64 j ∧ St w [] wr (.blk g6 32 (yb (qV S.bytes (4 * j))) :: .blk g3 117 (yf S.list) :: .blk g2 32 Z :: R)) (fun q _ => 8 - (intOf q).toNat)
   case atStart => exact ⟨0, by omega, rfl, hst2⟩
   case round =>
    clear hst2; obtain ⟨j, hj, rfl, hst⟩ := hrel; by_cases hj8 : j < 8
    ·obtain ⟨x, hx⟩ : ∃ x, x = S.list.getD j 0 := ⟨_, rfl⟩; have gx := zx S.list (show j < S.list.length from hj8); rw [← hx] at gx; have HX := ya hx; have hj2 : (j : Int) < 8 := by omega
     have GX := ya gx; clear hx gx; go_wp2_with (first | (refine wl_ixS (.int .u32 (wI x)) rfl rfl rfl rfl Tryz.underlying117 (by kernel_rfl) hj8 GX.out ?_)); have hst2 : St w [] _ (.blk g6 32 (yb (qV S.bytes (4 * j + 0))) :: .blk g3 117 (yf S.list) :: .blk g2 32 Z :: R) := hst; clear hst; go_loopw [27] (fun q wr => ∃ i : Nat, i ≤ 4 ∧ q = .int .i64 i ∧ St w [] wr (.blk g6 32 (yb (qV S.bytes (4 * j + i))) :: .blk g3 117 (yf S.list) :: .blk g2 32 Z :: R)) (fun q _ => 4 - (intOf q).toNat)
     case atStart => exact ⟨0, by omega, rfl, hst2⟩
     case round =>
      clear hst2; obtain ⟨i, hi, rfl, hst⟩ := hrel; by_cases hi4 : i < 4
      ·obtain ⟨Y, hY⟩ : ∃ Y, Y = UInt8.ofNat (x >>> (24 - 8 * i)).toNat := ⟨_, rfl⟩; obtain ⟨X, hX⟩ : ∃ X : Int, X = wI (x >>> (24 - 8 * i)) := ⟨_, rfl⟩; have f1 : ∀ T, binOp .shr T (.int .u32 (wI x)) (.int .i64 (24 - 8 * (i : Int))) = pure (.int .u32 X) := by
        intro T; rw [show (24 - 8 * (i : Int)) = ((24 - 8 * i : Nat) : Int) by omega, shrN T x .i64 (24 - 8 * i) (by omega), hX]
       have f3 : X % 256 = (Y.toNat : Int) := by
        rw [hX, hY, byte_of]
       have f2 : IntKind.u8.wrap X = (Y.toNat : Int) := f3; have HY := ya (show S.bytes.getD (4 * j + i) 0 = Y by rw [byteS_at S j i hj8 hi4, ← HX, hY]); have HO := ya (length_outB (l := S.bytes) (n := 4 * j + i) (zZ S) (by omega)); have z0 : IntKind.i64.wrap (4 * (j : Int)) = 4 * (j : Int) := IntWalk.i64_in _ (by omega); have z1 : IntKind.i64.wrap (4 * (j : Int) + (i : Int)) = 4 * (j : Int) + (i : Int) := IntWalk.i64_in _ (by omega); have n1 : (4 * (j : Int) + (i : Int)).toNat = 4 * j + i := by omega
       have b1 : 4 * (j : Int) + (i : Int) < 32 := by omega
       have c1 : 0 ≤ 4 * (j : Int) + (i : Int) := by omega
       clear hX hY; go_wp2_with (first | (refine ye [] hst rfl rfl rfl (v := .int _ _) rfl rfl rfl ?_ ?_; (rw [length_bytesV, HO]; show 4 * j + i + 1 ≤ 32; omega); intro w9 hst2; clear hst)); have hst3 : St w [] w9 (.blk g6 32 (yb (qV S.bytes (4 * j + (i + 1)))) :: .blk g3 117 (yf S.list) :: .blk g2 32 Z :: R) := by
        have h := put_outB (zZ S) (show 4 * j + i < 32 by omega) HY.out; rw [← Nat.add_assoc, ← h]; exact hst2
       clear hst2; go_roundw
       case rel => exact ⟨i + 1, by omega, by go_num, hst3⟩
       case measure => simp [intOf]; omega
      ·have e : i = 4 := by omega
       subst e; rw [show 4 * j + 4 = 4 * (j + 1) by omega] at hst; go_wp2; go_roundw
       case rel => exact ⟨j + 1, by omega, by go_num, hst⟩
       case measure => simp [intOf]; omega
    ·have e : j = 8 := by omega
     subst e; rw [show 4 * 8 = 32 from rfl, outB_all (zZ S), HE] at hst; have h32 : (yb (z8 bs)).length = 32 := by rw [← HE]; rfl
     go_wp2_with (first | (refine jl (yl (yb (z8 bs)) [] hst (h32) (by rw [List.drop_zero, List.take_length])) ?_) | (refine yx [_, _] hst rfl rfl rfl rfl (h32) (yD _) (by rw [HZ]; rfl) ?_; intro w12 hst12; clear hst)); have hl := yl (P := Tryz.prog) (off := 0) (T := 32) (yb (z8 bs)) [_, _] hst12 h32 (by rw [List.drop_zero, List.take_length]); refine bodyPost_ret (yW rfl rfl hl) rfl ⟨rfl, hst12.nil⟩
end
section
open Go.RowKit Hp
attribute [local irreducible] Go.Calls Go.wpList
theorem mirC_get {ga : Nat} {m : MV} {k : Nat} {e : ER} (h : m.e[k]? = some e) {i : Nat} {v : Value} (hv : e.cells[i]? = some v) (hi : i < 3) : (mirC ga m)[1 + k * 3 + i]? = some v := by
 have := yaf (sz := 3) (f := ER.cells) (fun d => rfl) h i hi; rw [show 1 + k * 3 + i = (k * 3 + i) + 1 by omega]; unfold mirC; rw [List.getElem?_cons_succ, this, hv]
theorem mirC_put {ga : Nat} {m : MV} {k : Nat} {e : ER} {f : ER → ER} (h : m.e[k]? = some e) {i : Nat} {v : Value} (hi : i < 3) (hf : yw e.cells i [v] = (f e).cells) : yw (mirC ga m) (1 + k * 3 + i) [v] = mirC ga { m with e := m.e.modify k f } := by
 have := flat_put (sz := 3) (f := ER.cells) (fun d => rfl) h hi hf []; rw [List.append_nil, List.append_nil] at this; have hm : m.e.set k (f e) = m.e.modify k f := by
  apply List.ext_getElem?; intro j; rw [yS, List.getElem?_set]; by_cases hj : k = j
  ·subst hj; rw [if_pos rfl, if_pos rfl, h, if_pos (List.getElem?_eq_some_iff.1 h).1, Option.map_some]
  ·rw [if_neg hj, if_neg hj]
 unfold mirC; rw [← hm, ← this, show 1 + k * 3 + i = (k * 3 + i) + 1 by omega]; simp [yw, Nat.add_right_comm]
theorem er_get {m : MV} {N : Nat} (h : MGood m N) {k : Nat} (hk : k < m.a.devs.length) : m.e[k]? = some (m.er (k : Int)) := by
 have hl := h.el; have hd := h.sc.ok.dn; unfold MV.er; rw [List.getD_eq_getElem?_getD, Int.toNat_natCast, List.getElem?_eq_getElem (by omega)]; rfl
theorem er_in {m : MV} {N : Nat} (h : MGood m N) {k : Nat} (hk : k < m.a.devs.length) : 0 ≤ (m.er (k : Int)).rd ∧ (m.er (k : Int)).rd ≤ N ∧ 0 ≤ (m.er (k : Int)).sm ∧ (m.er (k : Int)).sm ≤ N ∧ 0 ≤ (m.er (k : Int)).he ∧ (m.er (k : Int)).he ≤ N := h.en _ (List.mem_of_getElem? (er_get h hk))
section
variable {w0 w : World} {M : List Nat} {R : List HA} {g : Nat} {cs : List Value} {k : Nat} {z : Int} (hS : St w0 M w (.blk g 97 cs :: R))
include hS
theorem bump_rd (hk : cs[1 + k * 3 + 0]? = some (.int .i64 z)) (hz : 0 ≤ z ∧ z ≤ 1000000) :
  Calls Tryz.prog 148 #[.pointer (some ⟨g, 1 + k * 3, none⟩)] w fun e w' => e = .returned (.tuple #[]) ∧ St w0 M w' (.blk g 97 (yw cs (1 + k * 3 + 0) [.int .i64 (z + 1)]) :: R) := by
 have hst := hS; have HK := ya hk; have HF := ya (show 1 + k * 3 + 0 + 1 ≤ cs.length from (List.getElem?_eq_some_iff.1 hk).1); have z1 : IntKind.i64.wrap (z + 1) = z + 1 := IntWalk.i64_in _ (by omega); clear hS hk; go_enter Tryz.func148, Tryz.ntmps148; go_wp2_with (first | (refine jl (Loads.at [] hst HK.out) ?_) | (refine ye [] hst rfl rfl rfl (off := 1 + k * 3 + 0) (v := .int .i64 (z + 1)) rfl rfl rfl ?_ ?_; (exact HF.out); intro _ hst2; clear hst)); go_end0; exact ⟨rfl, hst2⟩
theorem bump_sm (hk : cs[1 + k * 3 + 1]? = some (.int .i64 z)) (hz : 0 ≤ z ∧ z ≤ 1000000) :
  Calls Tryz.prog 149 #[.pointer (some ⟨g, 1 + k * 3, none⟩)] w fun e w' => e = .returned (.tuple #[]) ∧ St w0 M w' (.blk g 97 (yw cs (1 + k * 3 + 1) [.int .i64 (z + 1)]) :: R) := by
 have hst := hS; have HK := ya hk; have HF := ya (show 1 + k * 3 + 1 + 1 ≤ cs.length from (List.getElem?_eq_some_iff.1 hk).1); have z1 : IntKind.i64.wrap (z + 1) = z + 1 := IntWalk.i64_in _ (by omega); clear hS hk; go_enter Tryz.func149, Tryz.ntmps149; go_wp2_with (first | (refine jl (Loads.at [] hst HK.out) ?_) | (refine ye [] hst rfl rfl rfl (off := 1 + k * 3 + 1) (v := .int .i64 (z + 1)) rfl rfl rfl ?_ ?_; (exact HF.out); intro _ hst2; clear hst)); go_end0; exact ⟨rfl, hst2⟩
theorem bump_he (hk : cs[1 + k * 3 + 2]? = some (.int .i64 z)) (hz : 0 ≤ z ∧ z ≤ 1000000) :
  Calls Tryz.prog 111 #[.pointer (some ⟨g, 1 + k * 3, none⟩)] w fun e w' => e = .returned (.tuple #[]) ∧ St w0 M w' (.blk g 97 (yw cs (1 + k * 3 + 2) [.int .i64 (z + 1)]) :: R) := by
 have hst := hS; have HK := ya hk; have HF := ya (show 1 + k * 3 + 2 + 1 ≤ cs.length from (List.getElem?_eq_some_iff.1 hk).1); have z1 : IntKind.i64.wrap (z + 1) = z + 1 := IntWalk.i64_in _ (by omega); clear hS hk; go_enter Tryz.func111, Tryz.ntmps111; go_wp2_with (first | (refine jl (Loads.at [] hst HK.out) ?_) | (refine ye [] hst rfl rfl rfl (off := 1 + k * 3 + 2) (v := .int .i64 (z + 1)) rfl rfl rfl ?_ ?_; (exact HF.out); intro _ hst2; clear hst)); go_end0; exact ⟨rfl, hst2⟩
end
section
variable {w0 w : World} {M : List Nat} {R : List HA} {gm ga : Nat} {m : MV} {N : Nat} (hS : St w0 M w (mB gm ga m :: R)) (hg : MGood m N) (hN : N ≤ 1000000) (k : Nat) (hk : k < m.a.devs.length)
include hS hg hN k hk
theorem counts_rd :
  Calls Tryz.prog 110 #[PM gm, .int .i64 (k : Int), .func (.func 148) #[] #[]] w fun e w' => e = .returned (.tuple #[]) ∧ St w0 M w' (mB gm ga { m with e := m.e.modify k fRd } :: R) := by
 have hst : St w0 M w (.blk gm 97 (mirC ga m) :: R) := hS; have hd := hg.sc.ok.dn; have h8 : k < 8 := by omega
 have HC := ya (mirC_get (ga := ga) (er_get hg hk) (i := 0) rfl (by decide)); have HP := ya (mirC_put (ga := ga) (er_get hg hk) (f := fRd) (i := 0) (v := .int .i64 ((m.er (k : Int)).rd + 1)) (by decide) rfl); have HZ := ya (show 0 ≤ (m.er (k : Int)).rd ∧ (m.er (k : Int)).rd ≤ 1000000 by have := er_in hg hk; omega); clear hS hg hd hk; unfold PM; go_enter Tryz.func110, Tryz.ntmps110; go_wp2_with (first | (go_at_call 148; refine (bump_rd (k := k) hst HC.out HZ.out).mono ?_; rw [HP]; rintro _ w9 ⟨rfl, hst2⟩; clear hst)); go_end0; exact ⟨rfl, hst2⟩
theorem counts_sm :
  Calls Tryz.prog 110 #[PM gm, .int .i64 (k : Int), .func (.func 149) #[] #[]] w fun e w' => e = .returned (.tuple #[]) ∧ St w0 M w' (mB gm ga { m with e := m.e.modify k fSm } :: R) := by
 have hst : St w0 M w (.blk gm 97 (mirC ga m) :: R) := hS; have hd := hg.sc.ok.dn; have h8 : k < 8 := by omega
 have HC := ya (mirC_get (ga := ga) (er_get hg hk) (i := 1) rfl (by decide)); have HP := ya (mirC_put (ga := ga) (er_get hg hk) (f := fSm) (i := 1) (v := .int .i64 ((m.er (k : Int)).sm + 1)) (by decide) rfl); have HZ := ya (show 0 ≤ (m.er (k : Int)).sm ∧ (m.er (k : Int)).sm ≤ 1000000 by have := er_in hg hk; omega); clear hS hg hd hk; unfold PM; go_enter Tryz.func110, Tryz.ntmps110; go_wp2_with (first | (go_at_call 149; refine (bump_sm (k := k) hst HC.out HZ.out).mono ?_; rw [HP]; rintro _ w9 ⟨rfl, hst2⟩; clear hst)); go_end0; exact ⟨rfl, hst2⟩
theorem counts_he :
  Calls Tryz.prog 110 #[PM gm, .int .i64 (k : Int), .func (.func 111) #[] #[]] w fun e w' => e = .returned (.tuple #[]) ∧ St w0 M w' (mB gm ga { m with e := m.e.modify k fHe } :: R) := by
 have hst : St w0 M w (.blk gm 97 (mirC ga m) :: R) := hS; have hd := hg.sc.ok.dn; have h8 : k < 8 := by omega
 have HC := ya (mirC_get (ga := ga) (er_get hg hk) (i := 2) rfl (by decide)); have HP := ya (mirC_put (ga := ga) (er_get hg hk) (f := fHe) (i := 2) (v := .int .i64 ((m.er (k : Int)).he + 1)) (by decide) rfl); have HZ := ya (show 0 ≤ (m.er (k : Int)).he ∧ (m.er (k : Int)).he ≤ 1000000 by have := er_in hg hk; omega); clear hS hg hd hk; unfold PM; go_enter Tryz.func110, Tryz.ntmps110; go_wp2_with (first | (go_at_call 111; refine (bump_he (k := k) hst HC.out HZ.out).mono ?_; rw [HP]; rintro _ w9 ⟨rfl, hst2⟩; clear hst)); go_end0; exact ⟨rfl, hst2⟩
end
theorem readE_inS {a : AR} {dev pl : Int} (h : a.readE dev pl = 0 ∨ a.readE dev pl = 13) : a.inS dev pl = true := by
 unfold AR.readE at h; split at h
 ·rcases h with h | h <;> cases h
 ·split at h
  ·rcases h with h | h <;> cases h
  ·split at h
   ·rcases h with h | h <;> cases h
   ·rename_i h2
    simpa using h2
theorem readB_len {a : AR} (ok : a.Ok) {dev pl : Int} (h : a.readE dev pl = 0) : (a.readB dev pl).length = 256 := by
 have hs := readE_inS (.inl h); have hp := jE hs; have hd := yQ (yG hs); unfold AR.readB; rw [if_pos h]; obtain ⟨k, rfl⟩ : ∃ k : Nat, dev = k := ⟨dev.toNat, by omega⟩; obtain ⟨p, rfl⟩ : ∃ p : Nat, pl = p := ⟨pl.toNat, by omega⟩; have hT := qU ok hs a.loose.length; rwa [List.take_length] at hT
theorem writeE_inS {a : AR} {dev pl : Int} {b : List UInt8} (h : a.writeE dev pl b = 0) : a.inS dev pl = true := by
 unfold AR.writeE at h; split at h
 ·cases h
 ·split at h
  ·cases h
  ·split at h
   ·cases h
   ·rename_i h2
    simpa using h2
theorem inS_dev {a : AR} {dev pl : Int} (h : a.inS dev pl = true) : ∃ k : Nat, dev = k ∧ k < a.devs.length := by
 have := yQ (yG h); exact ⟨dev.toNat, by omega, by omega⟩
theorem MGood.ll {m : MV} {N : Nat} (h : MGood m N) (hN : N ≤ 900000) : m.a.loose.length < 1000000 := by have := h.sc.ll; omega
theorem MGood.st {m : MV} {N : Nat} (h : MGood m N) (hN : N ≤ 900000) : 0 ≤ m.a.steps ∧ m.a.steps < 4611686018427387904 := by have := h.sc.st; omega
section
theorem loadedIm3 (A : Addr) : loadVar 3 A = yn 3 A := rfl
theorem loadedAm3 (A : Addr) : loadVar 23 A = yn 23 A := rfl
theorem loadedDm3 (A : Addr) : loadVar 32 A = yn 32 A := rfl
attribute [local go_sem ↓] loadedIm3 loadedAm3 loadedDm3
section
variable {w0 w : World} {M : List Nat} {R : List HA} {gm ga : Nat} {x : GA} {m : MV} {N : Nat} (hS : St w0 M w (mP gm ga x m ++ R)) (hg : MGood m N) (hN : N ≤ 900000) (dev pl : Int) (S : List UInt8) (hL : L32 S)
include hS hg hN dev pl S hL
theorem look_out (h1 : m.a.readE dev pl = 10) :
  Calls Tryz.prog 118 #[PM gm, .agg #[.int .i64 dev, .int .i64 pl], .agg (yb S).toArray] w fun e w' => ∃ v, e = .returned (.agg #[.int .i64 (m.kind dev pl S), v]) ∧ St w0 M w' (.rowP yP v 5 1 (m.lookB dev pl S).length (yb (m.lookB dev pl S)) :: (mP gm ga x (m.looked dev pl S) ++ R)) := by
 have hk : m.kind dev pl S = 3 := by unfold MV.kind; rw [if_pos h1]
 have hb : m.lookB dev pl S = [] := by unfold MV.lookB; rw [hk]; rfl
 have hm : m.looked dev pl S = ⟨m.a.read dev pl, m.e⟩ := by unfold MV.looked; rw [if_neg (by rw [h1]; decide), if_neg (by rw [hk]; decide)]
 rw [hk, hb, hm]; have HG := ya hg; have HLL := ya (hg.ll hN); have HL := ya hL; obtain ⟨B, hB⟩ : ∃ B, B = m.a.readB dev pl := ⟨_, rfl⟩; have HB := ya hB.symm; obtain ⟨A', hA⟩ : ∃ A', A' = m.a.read dev pl := ⟨_, rfl⟩; have HA := ya hA.symm; rw [← hA]; have HE := ya h1; have hst := hS; clear hS hg hk hb hm h1 hB hA hL; unfold PM; go_enter Tryz.func118, Tryz.ntmps118; go_wp2_with (first | (refine zj hst fun g4 w1 hst1 => ?_; clear hst) | (refine zj hst1 fun g5 w2 hst2 => ?_; clear hst1) | (refine yN (T := 128) hst2 fun g6 w3 hst3 => ?_; clear hst2)); have hX := hst3.drew; clear hst3; refine wD (S := fun w' => Ld 3 g4 0 (.int .i64 dev) w' ∧ Ld 3 g4 1 (.int .i64 pl) w' ∧ Ld 23 gm 0 (.pointer (some ⟨ga, 0, none⟩)) w') ⟨Loads.at [_, _] hX rfl, Loads.at [_, _] hX rfl, Loads.at [_, _, _] hX rfl⟩ fun hHeld => ?_; refine jt 0 (h:=jt 4 (h:=jt 6 (h:=jt 1 (h:=jt 5 (h:=jt 7 (h:=jt 2 (h:=jt 3 (h:=?_)))))))); refine yF 8 (h0:=fun K hK => ?_); go_simp; go_at_call 36; have HC := qi (zJ (P := [_, _, _]) (Bs := [_]) hX) HG.out.sc.ok HLL.out dev pl; rw [HE, HB, HA] at HC; refine HC.mono ?_; clear HC; rintro _ w4 ⟨u, rfl, h4⟩; obtain ⟨ua, uc, rfl⟩ := St.rowPSlice [] h4; have hE : St w0 M w4 (.rowP yP (.slice ua B.length uc) 5 1 B.length (yb B) :: .blk g6 128 [.int .i64 0, .slice none 0 0] :: .blk g5 32 (yb S) :: .blk g4 83 [.int .i64 dev, .int .i64 pl] :: mB gm ga m :: (yj ga x A' ++ R)) := qJ (P := [_, _, _]) (Bs := [_]) (Q := [_]) hX h4; clear h4; refine kD hK ⟨Loads.at [_, _, _] hE rfl, Loads.at [_, _, _] hE rfl, Loads.at [_, _, _, _] hE rfl⟩ (h:=fun hHeld => ?_); refine jt 9 (h:=jt 10 (h:=jt 11 (h:=jt 12 (h:=jt 13 (h:=?_))))); refine jn ?_; clear hHeld; go_wp2_with (first | (refine yH (cs := [.int .i64 3, .slice none 0 0]) [(0, .int .i64 3)] rfl rfl (by exact rfl) (by kernel_rfl) ?_) | (refine ji [_] hE fun _ hst6 => ?_; clear hE)); have hl := yl (P := Tryz.prog) (off := 0) (T := 128) [.int .i64 3, .slice none 0 0] [_] hst6 rfl rfl; refine bodyPost_ret (yW rfl rfl hl) rfl ⟨.slice none 0 0, rfl, qo yP _ 1 (St.sub hst6 (.cons _ (.cons _ (.cons _ (.cons _ (List.Sublist.refl _))))))⟩
theorem look_fail (h1 : m.a.readE dev pl = 13) :
  Calls Tryz.prog 118 #[PM gm, .agg #[.int .i64 dev, .int .i64 pl], .agg (yb S).toArray] w fun e w' => ∃ v, e = .returned (.agg #[.int .i64 (m.kind dev pl S), v]) ∧ St w0 M w' (.rowP yP v 5 1 (m.lookB dev pl S).length (yb (m.lookB dev pl S)) :: (mP gm ga x (m.looked dev pl S) ++ R)) := by
 have hk : m.kind dev pl S = 2 := by unfold MV.kind; rw [if_neg (by rw [h1]; decide), if_pos (by rw [h1]; decide)]
 have hb : m.lookB dev pl S = [] := by unfold MV.lookB; rw [hk]; rfl
 have hm : m.looked dev pl S = ⟨m.a.read dev pl, m.e.modify dev.toNat fRd⟩ := by unfold MV.looked; rw [if_pos h1]
 rw [hk, hb, hm]; have HG := ya hg; have HLL := ya (hg.ll hN); have HL := ya hL; obtain ⟨B, hB⟩ : ∃ B, B = m.a.readB dev pl := ⟨_, rfl⟩; have HB := ya hB.symm; obtain ⟨A', hA⟩ : ∃ A', A' = m.a.read dev pl := ⟨_, rfl⟩; have HA := ya hA.symm; rw [← hA]; have HE := ya h1; obtain ⟨kd, rfl, hkd⟩ := inS_dev (readE_inS (.inr h1)); have HKD := ya hkd; rw [Int.toNat_natCast]; have hst := hS; clear hS hg hk hb hm h1 hB hA hL hkd; unfold PM; go_enter Tryz.func118, Tryz.ntmps118; go_wp2_with (first | (refine zj hst fun g4 w1 hst1 => ?_; clear hst) | (refine zj hst1 fun g5 w2 hst2 => ?_; clear hst1) | (refine yN (T := 128) hst2 fun g6 w3 hst3 => ?_; clear hst2)); have hX := hst3.drew; clear hst3; refine wD (S := fun w' => Ld 3 g4 0 (.int .i64 (kd : Int)) w' ∧ Ld 3 g4 1 (.int .i64 pl) w' ∧ Ld 23 gm 0 (.pointer (some ⟨ga, 0, none⟩)) w') ⟨Loads.at [_, _] hX rfl, Loads.at [_, _] hX rfl, Loads.at [_, _, _] hX rfl⟩ fun hHeld => ?_; refine jt 0 (h:=jt 4 (h:=jt 6 (h:=jt 1 (h:=jt 5 (h:=jt 7 (h:=jt 2 (h:=jt 3 (h:=?_)))))))); refine yF 8 (h0:=fun K hK => ?_); go_simp; go_at_call 36; have HC := qi (zJ (P := [_, _, _]) (Bs := [_]) hX) HG.out.sc.ok HLL.out (kd : Int) pl; rw [HE, HB, HA] at HC; refine HC.mono ?_; clear HC; rintro _ w4 ⟨u, rfl, h4⟩; obtain ⟨ua, uc, rfl⟩ := St.rowPSlice [] h4; have hE : St w0 M w4 (.rowP yP (.slice ua B.length uc) 5 1 B.length (yb B) :: .blk g6 128 [.int .i64 0, .slice none 0 0] :: .blk g5 32 (yb S) :: .blk g4 83 [.int .i64 (kd : Int), .int .i64 pl] :: mB gm ga m :: (yj ga x A' ++ R)) := qJ (P := [_, _, _]) (Bs := [_]) (Q := [_]) hX h4; clear h4; refine kD hK ⟨Loads.at [_, _, _] hE rfl, Loads.at [_, _, _] hE rfl, Loads.at [_, _, _, _] hE rfl⟩ (h:=fun hHeld => ?_); refine jt 9 (h:=jt 10 (h:=jt 11 (h:=jt 12 (h:=jt 13 (h:=?_))))); refine jn ?_; clear hHeld; go_wp2_with (first | (refine jl (Loads.at [_, _, _] hE rfl) ?_) | (go_at_call 110; refine je (counts_rd (yy (L1 := [_, _, _, _]) hE) HG.out (by omega) kd HKD.out) fun w6 hst5 => ?_; clear hE) | (refine yH (cs := [.int .i64 2, .slice none 0 0]) [(0, .int .i64 2)] rfl rfl (by exact rfl) (by kernel_rfl) ?_) | (refine ji [_, _] hst5 fun _ hst6 => ?_; clear hst5)); have hl := yl (P := Tryz.prog) (off := 0) (T := 128) [.int .i64 2, .slice none 0 0] [_, _] hst6 rfl rfl; refine bodyPost_ret (yW rfl rfl hl) rfl ⟨.slice none 0 0, rfl, qo yP _ 1 (St.sub hst6 (.cons_cons _ (.cons _ (.cons _ (.cons _ (.cons _ (List.Sublist.refl _)))))))⟩
theorem look_lost (h1 : m.a.readE dev pl ≠ 0) (h2 : m.a.readE dev pl ≠ 10) (h3 : m.a.readE dev pl ≠ 13) :
  Calls Tryz.prog 118 #[PM gm, .agg #[.int .i64 dev, .int .i64 pl], .agg (yb S).toArray] w fun e w' => ∃ v, e = .returned (.agg #[.int .i64 (m.kind dev pl S), v]) ∧ St w0 M w' (.rowP yP v 5 1 (m.lookB dev pl S).length (yb (m.lookB dev pl S)) :: (mP gm ga x (m.looked dev pl S) ++ R)) := by
 have hk : m.kind dev pl S = 2 := by unfold MV.kind; rw [if_neg h2, if_pos h1]
 have hb : m.lookB dev pl S = [] := by unfold MV.lookB; rw [hk]; rfl
 have hm : m.looked dev pl S = ⟨m.a.read dev pl, m.e⟩ := by unfold MV.looked; rw [if_neg h3, if_neg (by rw [hk]; decide)]
 rw [hk, hb, hm]; have HG := ya hg; have HLL := ya (hg.ll hN); have HL := ya hL; obtain ⟨B, hB⟩ : ∃ B, B = m.a.readB dev pl := ⟨_, rfl⟩; have HB := ya hB.symm; obtain ⟨A', hA⟩ : ∃ A', A' = m.a.read dev pl := ⟨_, rfl⟩; have HA := ya hA.symm; rw [← hA]; obtain ⟨E, hE⟩ : ∃ E, E = m.a.readE dev pl := ⟨_, rfl⟩; rw [← hE] at h1 h2 h3; have HE := ya hE.symm; have d1 : (E == 10) = false := beq_eq_false_iff_ne.2 h2; have d2 : (E == 13) = false := beq_eq_false_iff_ne.2 h3; have d3 : (E != 0) = true := by simpa using h1
 clear hE h3; have hst := hS; clear hS hg hk hb hm h1 hB hA hL h2; unfold PM; go_enter Tryz.func118, Tryz.ntmps118; go_wp2_with (first | (refine zj hst fun g4 w1 hst1 => ?_; clear hst) | (refine zj hst1 fun g5 w2 hst2 => ?_; clear hst1) | (refine yN (T := 128) hst2 fun g6 w3 hst3 => ?_; clear hst2)); have hX := hst3.drew; clear hst3; refine wD (S := fun w' => Ld 3 g4 0 (.int .i64 dev) w' ∧ Ld 3 g4 1 (.int .i64 pl) w' ∧ Ld 23 gm 0 (.pointer (some ⟨ga, 0, none⟩)) w') ⟨Loads.at [_, _] hX rfl, Loads.at [_, _] hX rfl, Loads.at [_, _, _] hX rfl⟩ fun hHeld => ?_; refine jt 0 (h:=jt 4 (h:=jt 6 (h:=jt 1 (h:=jt 5 (h:=jt 7 (h:=jt 2 (h:=jt 3 (h:=?_)))))))); refine yF 8 (h0:=fun K hK => ?_); go_simp; go_at_call 36; have HC := qi (zJ (P := [_, _, _]) (Bs := [_]) hX) HG.out.sc.ok HLL.out dev pl; rw [HE, HB, HA] at HC; refine HC.mono ?_; clear HC; rintro _ w4 ⟨u, rfl, h4⟩; obtain ⟨ua, uc, rfl⟩ := St.rowPSlice [] h4; have hE : St w0 M w4 (.rowP yP (.slice ua B.length uc) 5 1 B.length (yb B) :: .blk g6 128 [.int .i64 0, .slice none 0 0] :: .blk g5 32 (yb S) :: .blk g4 83 [.int .i64 dev, .int .i64 pl] :: mB gm ga m :: (yj ga x A' ++ R)) := qJ (P := [_, _, _]) (Bs := [_]) (Q := [_]) hX h4; clear h4; refine kD hK ⟨Loads.at [_, _, _] hE rfl, Loads.at [_, _, _] hE rfl, Loads.at [_, _, _, _] hE rfl⟩ (h:=fun hHeld => ?_); refine jt 9 (h:=jt 10 (h:=jt 11 (h:=jt 12 (h:=jt 13 (h:=?_))))); refine jn ?_; clear hHeld; go_wp2_with (first | (refine yH (cs := [.int .i64 2, .slice none 0 0]) [(0, .int .i64 2)] rfl rfl (by exact rfl) (by kernel_rfl) ?_) | (refine ji [_] hE fun _ hst6 => ?_; clear hE)); have hl := yl (P := Tryz.prog) (off := 0) (T := 128) [.int .i64 2, .slice none 0 0] [_] hst6 rfl rfl; refine bodyPost_ret (yW rfl rfl hl) rfl ⟨.slice none 0 0, rfl, qo yP _ 1 (St.sub hst6 (.cons _ (.cons _ (.cons _ (.cons _ (List.Sublist.refl _))))))⟩
theorem look_bad (h1 : m.a.readE dev pl = 0) (h2 : z8 (m.a.readB dev pl) ≠ S) :
  Calls Tryz.prog 118 #[PM gm, .agg #[.int .i64 dev, .int .i64 pl], .agg (yb S).toArray] w fun e w' => ∃ v, e = .returned (.agg #[.int .i64 (m.kind dev pl S), v]) ∧ St w0 M w' (.rowP yP v 5 1 (m.lookB dev pl S).length (yb (m.lookB dev pl S)) :: (mP gm ga x (m.looked dev pl S) ++ R)) := by
 have hk : m.kind dev pl S = 1 := by unfold MV.kind; rw [if_neg (by rw [h1]; decide), if_neg (by rw [h1]; decide), if_neg h2]
 have hb : m.lookB dev pl S = [] := by unfold MV.lookB; rw [hk]; rfl
 have hm : m.looked dev pl S = ⟨m.a.read dev pl, m.e.modify dev.toNat fSm⟩ := by unfold MV.looked; rw [if_neg (by rw [h1]; decide), if_pos hk]
 rw [hk, hb, hm]; have HG := ya hg; have HLL := ya (hg.ll hN); have HL := ya hL; obtain ⟨B, hB⟩ : ∃ B, B = m.a.readB dev pl := ⟨_, rfl⟩; have HB := ya hB.symm; obtain ⟨A', hA⟩ : ∃ A', A' = m.a.read dev pl := ⟨_, rfl⟩; have HA := ya hA.symm; rw [← hA]; have HE := ya h1; obtain ⟨kd, rfl, hkd⟩ := inS_dev (readE_inS (.inl h1)); have HKD := ya hkd; rw [Int.toNat_natCast]; have HBL := ya (show B.length ≤ 100000 from by rw [hB, readB_len hg.sc.ok h1]; decide); have HQ : Hid ((z8 B == S) = false) := ya (by rw [hB]; exact beq_eq_false_iff_ne.2 h2); have HS32 := ya (show (z8 B).length = 32 from zZ _); have hst := hS; clear hS hg hk hb hm h1 hB hA hL h2 hkd; unfold PM; go_enter Tryz.func118, Tryz.ntmps118; go_wp2_with (first | (refine zj hst fun g4 w1 hst1 => ?_; clear hst) | (refine zj hst1 fun g5 w2 hst2 => ?_; clear hst1) | (refine yN (T := 128) hst2 fun g6 w3 hst3 => ?_; clear hst2)); have hX := hst3.drew; clear hst3; refine wD (S := fun w' => Ld 3 g4 0 (.int .i64 (kd : Int)) w' ∧ Ld 3 g4 1 (.int .i64 pl) w' ∧ Ld 23 gm 0 (.pointer (some ⟨ga, 0, none⟩)) w') ⟨Loads.at [_, _] hX rfl, Loads.at [_, _] hX rfl, Loads.at [_, _, _] hX rfl⟩ fun hHeld => ?_; refine jt 0 (h:=jt 4 (h:=jt 6 (h:=jt 1 (h:=jt 5 (h:=jt 7 (h:=jt 2 (h:=jt 3 (h:=?_)))))))); refine yF 8 (h0:=fun K hK => ?_); go_simp; go_at_call 36; have HC := qi (zJ (P := [_, _, _]) (Bs := [_]) hX) HG.out.sc.ok HLL.out (kd : Int) pl; rw [HE, HB, HA] at HC; refine HC.mono ?_; clear HC; rintro _ w4 ⟨u, rfl, h4⟩; obtain ⟨ua, uc, rfl⟩ := St.rowPSlice [] h4; have hE : St w0 M w4 (.rowP yP (.slice ua B.length uc) 5 1 B.length (yb B) :: .blk g6 128 [.int .i64 0, .slice none 0 0] :: .blk g5 32 (yb S) :: .blk g4 83 [.int .i64 (kd : Int), .int .i64 pl] :: mB gm ga m :: (yj ga x A' ++ R)) := qJ (P := [_, _, _]) (Bs := [_]) (Q := [_]) hX h4; clear h4; refine kD hK ⟨Loads.at [_, _, _] hE rfl, Loads.at [_, _, _] hE rfl, Loads.at [_, _, _, _] hE rfl⟩ (h:=fun hHeld => ?_); refine jt 9 (h:=jt 10 (h:=jt 11 (h:=jt 12 (h:=jt 13 (h:=?_))))); refine jn ?_; clear hHeld; go_wp2; have hY := hE.drew; clear hE; refine wD (S := fun w' => Ld 32 g5 0 (.agg (List.toArray (yb S))) w') (yl (yb S) [_, _] hY HL.out.v List.take_length) fun hHeld => ?_; refine jt 0 (h:=jt 2 (h:=?_)); refine yF 1 (h0:=fun K hK => ?_); go_simp; go_at_call 23; refine jc hY (sum_any ua B.length uc B _ (Rd.rowP hY zH) rfl HBL.out) fun w5 hF => ?_; refine kD hK (yl (yb S) [_, _] hF HL.out.v List.take_length) (h:=fun hHeld => ?_); refine rW 3 (h:=fun K hK => ?_); refine wl_neq_bytes rfl rfl rfl rfl ⟨HS32.out, HL.out⟩ ?_; rw [HQ]; refine kQ hK (yl (yb S) [_, _] hF HL.out.v List.take_length) (h:=fun hHeld => ?_); refine jt 4 (h:=?_); refine jn ?_; clear hHeld; go_wp2_with (first | (refine jl (Loads.at [_, _, _] hF rfl) ?_) | (go_at_call 110; refine je (counts_sm (yy (L1 := [_, _, _, _]) hF) HG.out (by omega) kd HKD.out) fun w6 hst5 => ?_; clear hF) | (refine yH (cs := [.int .i64 1, .slice none 0 0]) [(0, .int .i64 1)] rfl rfl (by exact rfl) (by kernel_rfl) ?_) | (refine ji [_, _] hst5 fun _ hst6 => ?_; clear hst5)); have hl := yl (P := Tryz.prog) (off := 0) (T := 128) [.int .i64 1, .slice none 0 0] [_, _] hst6 rfl rfl; refine bodyPost_ret (yW rfl rfl hl) rfl ⟨.slice none 0 0, rfl, qo yP _ 1 (St.sub hst6 (.cons_cons _ (.cons _ (.cons _ (.cons _ (.cons _ (List.Sublist.refl _)))))))⟩
theorem look_good (h1 : m.a.readE dev pl = 0) (h2 : z8 (m.a.readB dev pl) = S) :
  Calls Tryz.prog 118 #[PM gm, .agg #[.int .i64 dev, .int .i64 pl], .agg (yb S).toArray] w fun e w' => ∃ v, e = .returned (.agg #[.int .i64 (m.kind dev pl S), v]) ∧ St w0 M w' (.rowP yP v 5 1 (m.lookB dev pl S).length (yb (m.lookB dev pl S)) :: (mP gm ga x (m.looked dev pl S) ++ R)) := by
 have hk : m.kind dev pl S = 0 := by unfold MV.kind; rw [if_neg (by rw [h1]; decide), if_neg (by rw [h1]; decide), if_pos h2]
 have hb : m.lookB dev pl S = m.a.readB dev pl := by unfold MV.lookB; rw [hk]; rfl
 have hm : m.looked dev pl S = ⟨m.a.read dev pl, m.e⟩ := by unfold MV.looked; rw [if_neg (by rw [h1]; decide), if_neg (by rw [hk]; decide)]
 rw [hk, hb, hm]; have HG := ya hg; have HLL := ya (hg.ll hN); have HL := ya hL; obtain ⟨B, hB⟩ : ∃ B, B = m.a.readB dev pl := ⟨_, rfl⟩; have HB := ya hB.symm; obtain ⟨A', hA⟩ : ∃ A', A' = m.a.read dev pl := ⟨_, rfl⟩; have HA := ya hA.symm; rw [← hB]; rw [← hA]; have HE := ya h1; have HBL := ya (show B.length ≤ 100000 from by rw [hB, readB_len hg.sc.ok h1]; decide); have HQ : Hid ((z8 B == S) = true) := ya (by rw [hB]; exact beq_iff_eq.2 h2); have HS32 := ya (show (z8 B).length = 32 from zZ _); have hst := hS; clear hS hg hk hb hm h1 hB hA hL h2; unfold PM; go_enter Tryz.func118, Tryz.ntmps118; go_wp2_with (first | (refine zj hst fun g4 w1 hst1 => ?_; clear hst) | (refine zj hst1 fun g5 w2 hst2 => ?_; clear hst1) | (refine yN (T := 128) hst2 fun g6 w3 hst3 => ?_; clear hst2)); have hX := hst3.drew; clear hst3; refine wD (S := fun w' => Ld 3 g4 0 (.int .i64 dev) w' ∧ Ld 3 g4 1 (.int .i64 pl) w' ∧ Ld 23 gm 0 (.pointer (some ⟨ga, 0, none⟩)) w') ⟨Loads.at [_, _] hX rfl, Loads.at [_, _] hX rfl, Loads.at [_, _, _] hX rfl⟩ fun hHeld => ?_; refine jt 0 (h:=jt 4 (h:=jt 6 (h:=jt 1 (h:=jt 5 (h:=jt 7 (h:=jt 2 (h:=jt 3 (h:=?_)))))))); refine yF 8 (h0:=fun K hK => ?_); go_simp; go_at_call 36; have HC := qi (zJ (P := [_, _, _]) (Bs := [_]) hX) HG.out.sc.ok HLL.out dev pl; rw [HE, HB, HA] at HC; refine HC.mono ?_; clear HC; rintro _ w4 ⟨u, rfl, h4⟩; obtain ⟨ua, uc, rfl⟩ := St.rowPSlice [] h4; have hE : St w0 M w4 (.rowP yP (.slice ua B.length uc) 5 1 B.length (yb B) :: .blk g6 128 [.int .i64 0, .slice none 0 0] :: .blk g5 32 (yb S) :: .blk g4 83 [.int .i64 dev, .int .i64 pl] :: mB gm ga m :: (yj ga x A' ++ R)) := qJ (P := [_, _, _]) (Bs := [_]) (Q := [_]) hX h4; clear h4; refine kD hK ⟨Loads.at [_, _, _] hE rfl, Loads.at [_, _, _] hE rfl, Loads.at [_, _, _, _] hE rfl⟩ (h:=fun hHeld => ?_); refine jt 9 (h:=jt 10 (h:=jt 11 (h:=jt 12 (h:=jt 13 (h:=?_))))); refine jn ?_; clear hHeld; go_wp2; have hY := hE.drew; clear hE; refine wD (S := fun w' => Ld 32 g5 0 (.agg (List.toArray (yb S))) w') (yl (yb S) [_, _] hY HL.out.v List.take_length) fun hHeld => ?_; refine jt 0 (h:=jt 2 (h:=?_)); refine yF 1 (h0:=fun K hK => ?_); go_simp; go_at_call 23; refine jc hY (sum_any ua B.length uc B _ (Rd.rowP hY zH) rfl HBL.out) fun w5 hF => ?_; refine kD hK (yl (yb S) [_, _] hF HL.out.v List.take_length) (h:=fun hHeld => ?_); refine rW 3 (h:=fun K hK => ?_); refine wl_neq_bytes rfl rfl rfl rfl ⟨HS32.out, HL.out⟩ ?_; rw [HQ]; refine kQ hK (yl (yb S) [_, _] hF HL.out.v List.take_length) (h:=fun hHeld => ?_); refine jt 4 (h:=?_); refine jn ?_; clear hHeld; go_wp2_with (first | (refine yH (cs := [.int .i64 0, .slice ua B.length uc]) [(0, .int .i64 0), (1, .slice ua B.length uc)] rfl rfl (by exact rfl) (by kernel_rfl) ?_) | (refine ji [_] hF fun _ hst6 => ?_; clear hF)); have hl := yl (P := Tryz.prog) (off := 0) (T := 128) [.int .i64 0, .slice ua B.length uc] [_] hst6 rfl rfl; refine bodyPost_ret (yW rfl rfl hl) rfl ⟨.slice ua B.length uc, rfl, St.sub hst6 (.cons_cons _ (.cons _ (.cons _ (.cons _ (List.Sublist.refl _)))))⟩
theorem look_any :
  Calls Tryz.prog 118 #[PM gm, .agg #[.int .i64 dev, .int .i64 pl], .agg (yb S).toArray] w fun e w' => ∃ v, e = .returned (.agg #[.int .i64 (m.kind dev pl S), v]) ∧ St w0 M w' (.rowP yP v 5 1 (m.lookB dev pl S).length (yb (m.lookB dev pl S)) :: (mP gm ga x (m.looked dev pl S) ++ R)) := by
 by_cases h1 : m.a.readE dev pl = 10
 ·exact look_out hS hg hN dev pl S hL h1
 by_cases h2 : m.a.readE dev pl = 13
 ·exact look_fail hS hg hN dev pl S hL h2
 by_cases h3 : m.a.readE dev pl = 0
 ·by_cases h4 : z8 (m.a.readB dev pl) = S
  ·exact look_good hS hg hN dev pl S hL h3 h4
  ·exact look_bad hS hg hN dev pl S hL h3 h4
 ·exact look_lost hS hg hN dev pl S hL h3 h1 h2
end
end
structure GB (w0 : World) (M : List Nat) (R : List HA) (v : Value) (n : Nat) (bs : List UInt8) : Prop where
 rd : ∀ w, St w0 M w R → Rd w v 1 n (yb bs)
 len : bs.length = n
 out : ∀ A k c, v = .slice (some A) k c → 0 < k → (∃ q ∈ R, q.foot = some A.block) ∨ (A.block < w0.heap.size ∧ A.block ∉ M)
theorem GB.off {w0 w : World} {M : List Nat} {P R : List HA} {v : Value} {n : Nat} {bs : List UInt8} (hb : GB w0 M R v n bs) (h : St w0 M w (P ++ R)) : Off v (P.filterMap HA.foot) := by
 intro A k c he hk hF; obtain ⟨p, hp, hf⟩ := List.mem_filterMap.1 hF; have hap := h.apart; unfold jK at hap; rw [List.pairwise_append] at hap; rcases hb.out A k c he hk with ⟨q, hq, hqf⟩ | ⟨h1, h2⟩
 ·exact hap.2.2 p hp q hq _ hf hqf
 ·rcases h.own p (List.mem_append_left _ hp) _ hf with h3 | h3
  ·omega
  ·exact h2 h3
theorem GB.more {w0 : World} {M : List Nat} {P R : List HA} {v : Value} {n : Nat} {bs : List UInt8} (hb : GB w0 M R v n bs) : GB w0 M (P ++ R) v n bs :=
 ⟨fun w h => hb.rd w (St.sub h zA), hb.len, fun A k c he hk => (hb.out A k c he hk).imp (fun ⟨q, hq, hf⟩ => ⟨q, zR hq, hf⟩) id⟩
theorem GB.old {w : World} {R : List HA} {ao : Option Addr} {n c : Nat} {bs : List UInt8} (h : Rd w (.slice ao n c) 1 n (yb bs)) (hl : bs.length = n) : GB w [] R (.slice ao n c) n bs := by
 refine ⟨fun w' hst => Rd.old hst h, hl, fun A k c' he hk => .inr ⟨?_, by simp⟩⟩; cases he; obtain ⟨b, off, hA, hr⟩ := h.at (k := 0) hk; cases hA; cases bs with
 | nil => simp at hl; omega
 | cons y l => exact World.block_lt_of_cell? w ⟨b, off + 0, none⟩ (hr 0 _ rfl)
theorem GB.row {w0 : World} {M : List Nat} {R : List HA} {ao : Option Addr} {n c : Nat} {bs : List UInt8} {T : TypeId} (hm : HA.rowP yP (.slice ao n c) T 1 n (yb bs) ∈ R) (hl : bs.length = n) : GB w0 M R (.slice ao n c) n bs := by
 refine ⟨fun w' hst => Rd.rowP hst hm, hl, fun A k c' he hk => .inl ⟨_, hm, ?_⟩⟩; cases he; rfl
theorem GB.blk {w0 : World} {M : List Nat} {R : List HA} {g n c : Nat} {bs cs : List UInt8} {T : TypeId} (hm : HA.blk g T (yb cs) ∈ R) (hl : bs.length = n) (hc : cs.take n = bs) (hn : n ≤ c) (hcm : c ≤ maxLen) : GB w0 M R (.slice (some ⟨g, 0, none⟩) n c) n bs := by
 refine ⟨fun w' hst => Rd.blk hst hm hn hcm (by rw [length_bytesV, hl, Nat.mul_one]) ?_, hl, fun A k c' he hk => .inl ⟨_, hm, ?_⟩⟩
 ·rw [List.drop_zero, length_bytesV, hl, ← hc]; simp [yb, List.map_take]
 ·cases he; rfl
section
attribute [local go_sem ↓] loadedIm3 loadedAm3
section
variable {w0 w : World} {M : List Nat} {R : List HA} {gm ga : Nat} {x : GA} {m : MV} {N : Nat} (hS : St w0 M w (mP gm ga x m ++ R)) (hg : MGood m N) (hN : N ≤ 900000) (dev pl : Int) (ao : Option Addr) (n c : Nat) (bs : List UInt8) (hb : GB w0 M R (.slice ao n c) n bs)
include hS hg hN dev pl ao n c bs hb
theorem heal_ok (h1 : m.a.writeE dev pl bs = 0) :
  Calls Tryz.prog 58 #[PM gm, .agg #[.int .i64 dev, .int .i64 pl], .slice ao n c] w fun e w' => ∃ x', e = .returned (.bool (m.a.writeE dev pl bs == 0)) ∧ St w0 M w' (mP gm ga x' (m.healed dev pl bs) ++ R) := by
 have hm : m.healed dev pl bs = ⟨m.a.write dev pl bs, m.e.modify dev.toNat fHe⟩ := by unfold MV.healed; rw [if_pos h1]
 rw [hm]; have HG := ya hg; have HLL := ya (hg.ll hN); have HST := ya (hg.st hN); have HB := ya hb; have HOF : Hid (∀ w' x', St w0 M w' (yj ga x' m.a ++ R) → Off (.slice ao n c) (yT ga x' m.a)) := ya (fun w' x' h => hb.off h); obtain ⟨A', hA⟩ : ∃ A', A' = m.a.write dev pl bs := ⟨_, rfl⟩; have HA := ya hA.symm; rw [← hA]; have HE := ya h1; rw [h1]; obtain ⟨kd, rfl, hkd⟩ := inS_dev (writeE_inS h1); have HKD := ya hkd; rw [Int.toNat_natCast]; clear hkd; have hst := hS; clear hS hg hm h1 hA hb; unfold PM; go_enter Tryz.func58, Tryz.ntmps58; go_wp2_with (first | (refine zj hst fun g4 w1 hst1 => ?_; clear hst)); have hX := hst1.drew; clear hst1; refine wD (S := fun w' => Ld 3 g4 0 (.int .i64 (kd : Int)) w' ∧ Ld 3 g4 1 (.int .i64 pl) w' ∧ Ld 23 gm 0 (.pointer (some ⟨ga, 0, none⟩)) w') ⟨Loads.at [] hX rfl, Loads.at [] hX rfl, Loads.at [_] hX rfl⟩ fun hHeld => ?_; refine jt 0 (h:=jt 4 (h:=jt 6 (h:=jt 8 (h:=jt 1 (h:=jt 5 (h:=jt 7 (h:=jt 2 (h:=jt 3 (h:=?_))))))))); refine yF 9 (h0:=fun K hK => ?_); go_simp; go_at_call 44; have HC := yai (zJ (P := [_]) (Bs := [_]) hX) HG.out.sc.ok HST.out HLL.out (kd : Int) pl ao n c bs (HB.out.rd _ (St.sub hX (.cons _ (.cons _ zA)))) HB.out.len (HOF.out _ _ (St.sub hX (.cons _ (.cons _ (List.Sublist.refl _))))); rw [HE, HA] at HC; refine HC.mono ?_; clear HC; rintro _ w4 ⟨rfl, x2, h4⟩; have hE : St w0 M w4 (.blk g4 83 [.int .i64 (kd : Int), .int .i64 pl] :: mB gm ga m :: (yj ga x2 A' ++ R)) := jg (P := [_]) (Bs := [_]) hX h4; clear h4; refine kD hK ⟨Loads.at [] hE rfl, Loads.at [] hE rfl, Loads.at [_] hE rfl⟩ (h:=fun hHeld => ?_); refine jt 10 (h:=?_); refine jn ?_; clear hHeld; go_wp2_with (first | (refine jl (Loads.at [] hE rfl) ?_) | (go_at_call 110; refine je (counts_he (yy (L1 := [_]) hE) HG.out (by omega) kd HKD.out) fun w6 hst5 => ?_; clear hE)); go_ret; exact ⟨x2, rfl, St.sub hst5 (.cons_cons _ (.cons _ (List.Sublist.refl _)))⟩
theorem heal_no (h1 : m.a.writeE dev pl bs ≠ 0) :
  Calls Tryz.prog 58 #[PM gm, .agg #[.int .i64 dev, .int .i64 pl], .slice ao n c] w fun e w' => ∃ x', e = .returned (.bool (m.a.writeE dev pl bs == 0)) ∧ St w0 M w' (mP gm ga x' (m.healed dev pl bs) ++ R) := by
 have hm : m.healed dev pl bs = ⟨m.a.write dev pl bs, m.e⟩ := by unfold MV.healed; rw [if_neg h1]
 rw [hm]; have HG := ya hg; have HLL := ya (hg.ll hN); have HST := ya (hg.st hN); have HB := ya hb; have HOF : Hid (∀ w' x', St w0 M w' (yj ga x' m.a ++ R) → Off (.slice ao n c) (yT ga x' m.a)) := ya (fun w' x' h => hb.off h); obtain ⟨A', hA⟩ : ∃ A', A' = m.a.write dev pl bs := ⟨_, rfl⟩; have HA := ya hA.symm; rw [← hA]; obtain ⟨E, hE⟩ : ∃ E, E = m.a.writeE dev pl bs := ⟨_, rfl⟩; rw [← hE] at h1 ⊢; have HE := ya hE.symm; have d1 : (E != 0) = true := by simpa using h1
 have d2 : (E == 0) = false := beq_eq_false_iff_ne.2 h1; rw [d2]; clear hE; have hst := hS; clear hS hg hm h1 hA hb; unfold PM; go_enter Tryz.func58, Tryz.ntmps58; go_wp2_with (first | (refine zj hst fun g4 w1 hst1 => ?_; clear hst)); have hX := hst1.drew; clear hst1; refine wD (S := fun w' => Ld 3 g4 0 (.int .i64 dev) w' ∧ Ld 3 g4 1 (.int .i64 pl) w' ∧ Ld 23 gm 0 (.pointer (some ⟨ga, 0, none⟩)) w') ⟨Loads.at [] hX rfl, Loads.at [] hX rfl, Loads.at [_] hX rfl⟩ fun hHeld => ?_; refine jt 0 (h:=jt 4 (h:=jt 6 (h:=jt 8 (h:=jt 1 (h:=jt 5 (h:=jt 7 (h:=jt 2 (h:=jt 3 (h:=?_))))))))); refine yF 9 (h0:=fun K hK => ?_); go_simp; go_at_call 44; have HC := yai (zJ (P := [_]) (Bs := [_]) hX) HG.out.sc.ok HST.out HLL.out dev pl ao n c bs (HB.out.rd _ (St.sub hX (.cons _ (.cons _ zA)))) HB.out.len (HOF.out _ _ (St.sub hX (.cons _ (.cons _ (List.Sublist.refl _))))); rw [HE, HA] at HC; refine HC.mono ?_; clear HC; rintro _ w4 ⟨rfl, x2, h4⟩; have hE : St w0 M w4 (.blk g4 83 [.int .i64 dev, .int .i64 pl] :: mB gm ga m :: (yj ga x2 A' ++ R)) := jg (P := [_]) (Bs := [_]) hX h4; clear h4; refine kD hK ⟨Loads.at [] hE rfl, Loads.at [] hE rfl, Loads.at [_] hE rfl⟩ (h:=fun hHeld => ?_); refine jt 10 (h:=?_); refine jn ?_; clear hHeld; go_wp2; go_ret; exact ⟨x2, rfl, St.sub hE (.cons _ (List.Sublist.refl _))⟩
theorem heal_any :
  Calls Tryz.prog 58 #[PM gm, .agg #[.int .i64 dev, .int .i64 pl], .slice ao n c] w fun e w' => ∃ x', e = .returned (.bool (m.a.writeE dev pl bs == 0)) ∧ St w0 M w' (mP gm ga x' (m.healed dev pl bs) ++ R) := by
 by_cases h1 : m.a.writeE dev pl bs = 0
 ·exact heal_ok hS hg hN dev pl ao n c bs hb h1
 ·exact heal_no hS hg hN dev pl ao n c bs hb h1
end
end
theorem readE_out {a : AR} (hn : a.devs ≠ []) : a.readE (-1) 0 = (if a.out then 10 else 5) ∧ a.read (-1) 0 = a := by
 have h1 : a.inS (-1) 0 = false := by unfold AR.inS AR.inD; rfl
 have h2 : a.readE (-1) 0 = (if a.out then 10 else 5) := by
  unfold AR.readE; rw [if_neg hn, h1]; rfl
 refine ⟨h2, ?_⟩; unfold AR.read; rw [h2, if_neg (by split <;> decide)]
theorem broken_any {w0 w : World} {M : List Nat} {R : List HA} {gm ga : Nat} {x : GA} {m : MV} {N : Nat} (hS : St w0 M w (mP gm ga x m ++ R)) (hg : MGood m N) (hN : N ≤ 900000) :
  Calls Tryz.prog 66 #[PM gm] w fun e w' => e = .returned (.bool m.a.out) ∧ St w0 M w' (mP gm ga x m ++ R) := by
 have hr := readE_out hg.sc.ok.d0; have HG := ya hg; have HLL := ya (hg.ll hN); have hst := hS; cases ho : m.a.out
 ·rw [ho] at hr; have HE := ya (show m.a.readE (-1) 0 = 5 from hr.1); have HA := ya hr.2; clear hr ho hS hg; unfold PM; go_enter Tryz.func66, Tryz.ntmps66; go_wp2_with (first | (refine jl (Loads.at [] hst rfl) ?_) | (go_at_call 36; have HC := qi (zJ (P := []) (Bs := [_]) hst) HG.out.sc.ok HLL.out (-1) 0; rw [HE, HA] at HC; refine HC.mono ?_; clear HC; rintro _ w4 ⟨u, rfl, h4⟩; have hst2 : St w0 M w4 (mP gm ga x m ++ R) := St.sub (qJ (P := []) (Bs := [_]) (Q := [_]) hst h4) (.cons _ (List.Sublist.refl _)); clear h4 hst)); go_ret; exact ⟨rfl, hst2⟩
 ·rw [ho] at hr; have HE := ya (show m.a.readE (-1) 0 = 10 from hr.1); have HA := ya hr.2; clear hr ho hS hg; unfold PM; go_enter Tryz.func66, Tryz.ntmps66; go_wp2_with (first | (refine jl (Loads.at [] hst rfl) ?_) | (go_at_call 36; have HC := qi (zJ (P := []) (Bs := [_]) hst) HG.out.sc.ok HLL.out (-1) 0; rw [HE, HA] at HC; refine HC.mono ?_; clear HC; rintro _ w4 ⟨u, rfl, h4⟩; have hst2 : St w0 M w4 (mP gm ga x m ++ R) := St.sub (qJ (P := []) (Bs := [_]) (Q := [_]) hst h4) (.cons _ (List.Sublist.refl _)); clear h4 hst)); go_ret; exact ⟨rfl, hst2⟩
theorem apart16_any (ao : Option Addr) (n c : Nat) (l : List (Int × Int)) (w : World) (hA : Rd w (.slice ao n c) 2 n (yu l)) (hn : l.length = n) :
  Calls Tryz.prog 64 #[.slice ao n c] w fun e w' => e = .returned (.bool (qQ l)) ∧ St w [] w' [] := by
 have hst := St.refl w; have hbd := hA.bd; have hbd1 := hbd.1; have hbd2 := hbd.2.1; clear hbd; have Hn := ya hn; clear hn; go_enter Tryz.func64, Tryz.ntmps64; go_wp2; go_loopw [9] (fun i wr => ∃ k : Nat, k ≤ n ∧ i = .int .i64 k ∧ Hid (∀ i j, i < k → j < i → (l.getD i (0, 0)).1 ≠ (l.getD j (0, 0)).1) ∧ St w [] wr []) (fun i _ => n - (intOf i).toNat)
 case atStart => exact ⟨0, Nat.zero_le _, rfl, ya (fun i j hi => by omega), hst⟩
 case round =>
  clear hst; obtain ⟨k, hk, rfl, hq, hst2⟩ := hrel; by_cases hlt : k < n
  ·obtain ⟨b, off, rfl, hr⟩ := hA.at hlt; obtain ⟨z, hz⟩ : ∃ z, z = l.getD k (0, 0) := ⟨_, rfl⟩; have hb := z7 hr (k := k) (by rw [Hn]; exact hlt); rw [← hz] at hb; have Hz := ya hz; have HB := ya hb; have HR := ya hr; have HQ := ya hq; clear hz hb hq; have d0 : decide ((k : Int) < (n : Int)) = true := zD (by omega); have d9 : (0 : Int) ≤ (k : Int) := by omega
   have d8 : (k : Int) ≤ (c : Int) := by omega
   go_wp2_with (first | (refine yA (hlt) ?_) | (refine jl (zf hst2 rfl (HB.out)) ?_) | (refine yN hst2 fun g4 w3 hst3 => ?_; clear hst2) | (refine ye [] hst3 rfl rfl rfl (v := .agg (List.toArray _)) rfl rfl rfl ?_ ?_; (exact Nat.le_refl _); intro w4 hst4; clear hst3; (simp [yw] at hst4))); go_loopw [18] (fun j wr => ∃ q : Nat, q ≤ k ∧ j = .int .i64 q ∧ Hid (∀ r, r < q → z.1 ≠ (l.getD r (0, 0)).1) ∧ St w [] wr [.blk g4 83 [.int .i64 z.1, .int .i64 z.2]]) (fun j _ => k - (intOf j).toNat)
   case atStart => exact ⟨0, Nat.zero_le _, rfl, ya (fun r hr => by omega), hst4⟩
   case round =>
    clear hst4; obtain ⟨q, hqk, rfl, hne, hst5⟩ := hrel; by_cases hlq : q < k
    ·obtain ⟨y, hy⟩ : ∃ y, y = l.getD q (0, 0) := ⟨_, rfl⟩; have hc := z7 HR.out (k := q) (by rw [Hn]; omega); rw [← hy] at hc; have Hy := ya hy; have HC := ya hc; have HNE := ya hne; clear hy hc hne; have d1 : decide ((q : Int) < (k : Int)) = true := zD (by omega); by_cases he : z.1 = y.1
     ·have d2 : (z.1 == y.1) = true := by simpa using he
      go_wp2_with (first | (refine yA (hlq) ?_) | (refine jl (zf hst5 rfl (HC.out)) ?_) | (refine yN hst5 fun g6 w5 hst6 => ?_; clear hst5) | (refine ye [] hst6 rfl rfl rfl (v := .agg (List.toArray _)) rfl rfl rfl ?_ ?_; (exact Nat.le_refl _); intro w6 hst7; clear hst6; (simp [yw] at hst7)) | (refine jl (Loads.at [] hst7 rfl) ?_) | (refine jl (Loads.at [_] hst7 rfl) ?_)); go_ret; exact ⟨zO (apart_no (i := k) (j := q) (by rw [Hn]; exact hlt) hlq (by rw [← Hz, ← Hy]; exact he)).symm, hst7.nil⟩
     ·have d2 : (z.1 == y.1) = false := by simpa using he
      have HE := ya he; clear he; go_wp2_with (first | (refine yA (hlq) ?_) | (refine jl (zf hst5 rfl (HC.out)) ?_) | (refine yN hst5 fun g6 w5 hst6 => ?_; clear hst5) | (refine ye [] hst6 rfl rfl rfl (v := .agg (List.toArray _)) rfl rfl rfl ?_ ?_; (exact Nat.le_refl _); intro w6 hst7; clear hst6; (simp [yw] at hst7)) | (refine jl (Loads.at [] hst7 rfl) ?_) | (refine jl (Loads.at [_] hst7 rfl) ?_)); have hne2 : Hid (∀ r, r < q + 1 → z.1 ≠ (l.getD r (0, 0)).1) := ya (fun r hr => by
       by_cases e : r = q
       ·rw [e, ← Hy]; exact HE.out
       ·exact HNE.out r (by omega))
      go_roundw
      case rel => exact ⟨q + 1, by omega, by go_num, hne2, St.sub hst7 (.cons _ (List.Sublist.refl _))⟩
      case measure => simp [intOf]; omega
    ·have d1 : decide ((q : Int) < (k : Int)) = false := zF (by omega); obtain rfl : q = k := by omega
     have hq2 : Hid (∀ i j, i < q + 1 → j < i → (l.getD i (0, 0)).1 ≠ (l.getD j (0, 0)).1) := ya (fun i j hi hj => by
      by_cases e : i = q
      ·rw [e, ← Hz]; exact hne.out j (by omega)
      ·exact HQ.out i j (by omega) hj)
     clear hne; go_wp2; go_roundw
     case rel => exact ⟨q + 1, by omega, by go_num, hq2, hst5.nil⟩
     case measure => simp [intOf]; omega
  ·have d0 : decide ((k : Int) < (n : Int)) = false := zF (by omega); have HY := ya (apart_yes (l := l) fun i j hi hj => hq.out i j (by rw [Hn] at hi; omega) hj); clear hq; go_wp2; go_ret; exact ⟨zO HY.symm, hst2⟩
section
variable {w0 w : World} {M : List Nat} {R : List HA} {gm ga : Nat} {x : GA} {m : MV} {N : Nat} (hS : St w0 M w (mP gm ga x m ++ R)) (hg : MGood m N)
include hS hg
theorem mirC_range {k : Nat} (hk : k < m.a.devs.length) : w.rangeAt gm (1 + k * 3) (m.er (k : Int)).cells := by
 intro j v hj; have hj3 : j < 3 := (List.getElem?_eq_some_iff.1 hj).1; exact hS.cell (T := 97) (cs := mirC ga m) zH (mirC_get (er_get hg hk) hj hj3)
theorem errs_lo (dev : Int) (h : dev < 0) :
  Calls Tryz.prog 31 #[PM gm, .int .i64 dev] w fun e w' => e = .returned (.agg (List.toArray (m.errs dev).cells)) ∧ St w [] w' [] := by
 have hin : m.a.inD dev = false := by unfold AR.inD; rw [zF (by omega), Bool.false_and]
 have hs : m.errs dev = ⟨0, 0, 0⟩ := by unfold MV.errs; rw [hin]; rfl
 rw [hs]; have hst := St.refl w; have H := ya (zw hS hg.sc.ok.d0); obtain ⟨nd, hnd⟩ : ∃ nd, nd = m.a.devs.length := ⟨_, rfl⟩; have Hnd := ya hnd; have d1 : decide (dev < 0) = true := zD h; clear hS hg hin hs hnd; unfold PM; go_enter Tryz.func31, Tryz.ntmps31; go_wp2_with (first | (refine yN (T := 71) hst fun g4 w1 hst1 => ?_; clear hst) | (go_at_call 62; refine jc hst1 (zM (MirAt.later hst1 H.out)) fun w2 hst2 => ?_; clear hst1) | (refine jP rfl rfl ?_) | (refine ji [] hst2 fun _ hst6 => ?_; clear hst2)); have hl := yl (P := Tryz.prog) (off := 0) (T := 71) ([.int .i64 0, .int .i64 0, .int .i64 0]) [] hst6 rfl rfl; refine bodyPost_ret (yW rfl rfl hl) rfl ⟨rfl, hst6.nil⟩
theorem errs_hi (dev : Int) (h0 : ¬ dev < 0) (h : (m.a.devs.length : Int) ≤ dev) :
  Calls Tryz.prog 31 #[PM gm, .int .i64 dev] w fun e w' => e = .returned (.agg (List.toArray (m.errs dev).cells)) ∧ St w [] w' [] := by
 have hin : m.a.inD dev = false := by unfold AR.inD; rw [decide_eq_false (p := dev < _) (by omega), Bool.and_false]
 have hs : m.errs dev = ⟨0, 0, 0⟩ := by unfold MV.errs; rw [hin]; rfl
 rw [hs]; have hst := St.refl w; have H := ya (zw hS hg.sc.ok.d0); obtain ⟨nd, hnd⟩ : ∃ nd, nd = m.a.devs.length := ⟨_, rfl⟩; have Hnd := ya hnd; rw [← hnd] at h; have d1 : decide (dev < 0) = false := zF (by omega); have d2 : decide (dev ≥ (nd : Int)) = true := zD (by omega); clear hS hg hin hs hnd; unfold PM; go_enter Tryz.func31, Tryz.ntmps31; go_wp2_with (first | (refine yN (T := 71) hst fun g4 w1 hst1 => ?_; clear hst) | (go_at_call 62; refine jc hst1 (zM (MirAt.later hst1 H.out)) fun w2 hst2 => ?_; clear hst1) | (refine jl (Loads.old hst2 H.out.c) ?_) | (go_at_call 67; have HD9 := yag (ArrAt.later hst2 H.out.arr.toArrAt); rw [← Hnd] at HD9; refine HD9.mono ?_; clear HD9; rintro _ w3 ⟨rfl, h4⟩; have hst3 := St.call0 hst2 h4; clear h4 hst2) | (refine jP rfl rfl ?_) | (refine ji [] hst3 fun _ hst6 => ?_; clear hst3)); have hl := yl (P := Tryz.prog) (off := 0) (T := 71) ([.int .i64 0, .int .i64 0, .int .i64 0]) [] hst6 rfl rfl; refine bodyPost_ret (yW rfl rfl hl) rfl ⟨rfl, hst6.nil⟩
theorem errs_ok (dev : Int) (h0 : ¬ dev < 0) (h : ¬ (m.a.devs.length : Int) ≤ dev) :
  Calls Tryz.prog 31 #[PM gm, .int .i64 dev] w fun e w' => e = .returned (.agg (List.toArray (m.errs dev).cells)) ∧ St w [] w' [] := by
 have hin : m.a.inD dev = true := by unfold AR.inD; simp; omega
 have hs : m.errs dev = m.er dev := by unfold MV.errs; rw [hin]; rfl
 rw [hs]; have hst := St.refl w; have H := ya (zw hS hg.sc.ok.d0); obtain ⟨nd, hnd⟩ : ∃ nd, nd = m.a.devs.length := ⟨_, rfl⟩; have Hnd := ya hnd; obtain ⟨kd, rfl⟩ : ∃ kd : Nat, dev = kd := ⟨dev.toNat, by omega⟩; have h8 : kd < 8 := by have := hg.sc.ok.dn; omega
 have HRG := ya (mirC_range hS hg (k := kd) (by omega)); obtain ⟨y, hy⟩ : ∃ y, y = m.er (kd : Int) := ⟨_, rfl⟩; rw [← hy] at HRG ⊢; rw [← hnd] at h; have d1 : decide ((kd : Int) < 0) = false := zF (by omega); have d2 : decide ((kd : Int) ≥ (nd : Int)) = false := zF (by omega); clear hS hg hin hs hnd hy; unfold PM; go_enter Tryz.func31, Tryz.ntmps31; go_wp2_with (first | (refine yN (T := 71) hst fun g4 w1 hst1 => ?_; clear hst) | (go_at_call 62; refine jc hst1 (zM (MirAt.later hst1 H.out)) fun w2 hst2 => ?_; clear hst1) | (refine jl (Loads.old hst2 H.out.c) ?_) | (go_at_call 67; have HD9 := yag (ArrAt.later hst2 H.out.arr.toArrAt); rw [← Hnd] at HD9; refine HD9.mono ?_; clear HD9; rintro _ w3 ⟨rfl, h4⟩; have hst3 := St.call0 hst2 h4; clear h4 hst2) | (refine jl (zf (T := 71) (n := 3) hst3 rfl HRG.out) ?_) | (refine ji [] hst3 fun _ hst6 => ?_; clear hst3)); have hl := yl (P := Tryz.prog) (off := 0) (T := 71) (y.cells) [] hst6 rfl rfl; refine bodyPost_ret (yW rfl rfl hl) rfl ⟨rfl, hst6.nil⟩
theorem errs_any (dev : Int) :
  Calls Tryz.prog 31 #[PM gm, .int .i64 dev] w fun e w' => e = .returned (.agg (List.toArray (m.errs dev).cells)) ∧ St w [] w' [] := by
 by_cases h0 : dev < 0
 ·exact errs_lo hS hg dev h0
 ·by_cases h : (m.a.devs.length : Int) ≤ dev
  ·exact errs_hi hS hg dev h0 h
  ·exact errs_ok hS hg dev h0 h
end
end
section
open Go.RowKit Go.Shelf
namespace Hp
variable {P : Program} {F : Fence} {n : Nat}
def mPost {σ : Type} (I : σ → World → Prop) (N : σ → Prop) (Ix : Code → World → Prop) (W : World) : Exit → Act → World → Prop
 | .normal, _, W' => KeepsOthers W W' ∧ ∃ s, N s ∧ I s W'
 | .ret, _, W' => KeepsOthers W W' ∧ Ix .ret W'
 | .exit id, _, W' => KeepsOthers W W' ∧ Ix (.exit id) W'
 | .goto t, _, W' => KeepsOthers W W' ∧ Ix (.goto t) W'
 | .panic _, _, _ => False
 | .outgrown, _, _ => False
def SeqM {σ ξ : Type} (F : Fence) (n : Nat) (P : Program) (g : Nat) (lb : Array Value) (encs : ξ → Array Value) (I : σ → World → Prop) (Y : ξ → World → Prop) (nx : ξ → σ → Prop) (s0 : σ) (E : σ → Prop) : Prop :=
 ∀ (l : Nat) (R Jx : World → Prop), (∀ W W', R W → KeepsOthers W W' → R W') →
  (∀ x W, Y x W → R W → YieldAt F (n - 1) P l (encs x) W fun e W' => (e = .returned (.bool true) ∧ (∃ s, nx x s ∧ I s W') ∧ R W') ∨ (e = .returned (.bool false) ∧ Jx W')) →
  ∀ W, I s0 W → R W → CallsIn F n P g (#[.func (.yield l) #[] #[]] ++ lb) W fun e W' => (∃ v, e = .returned v) ∧ ((∃ s, E s ∧ I s W' ∧ R W') ∨ Jx W')
theorem wpIn_rangeM {σ ξ : Type} {g : Operand} {ps : Array Tmp} {assign body : Code} {Q : Exit → Act → World → Prop} {a : Act} {w : World}
  (hro : F.round = none) (h1 : 1 ≤ n) {gf : Nat} {lb : Array Value} (hg : a.eval g = .func (.func gf) #[] lb) (hFg : F.fn gf) (eg : ∀ args w, (callFunc gf args).run P w = .ok (.enter gf args) w)
  {encs : ξ → Array Value} (hps : ∀ x, (encs x).size = ps.size) (I : σ → World → Prop) (Y : ξ → World → Prop) (B : ξ → Act → World → Prop) (Ix : Code → World → Prop) (nx : ξ → σ → Prop) (s0 : σ) (E : σ → Prop)
  (hseq : SeqM F (n - 1) P gf lb encs I Y nx s0 E)
  (hI : OwnFrom w.heap.size I) (hB : ∀ x a', OwnFrom w.heap.size (fun (_ : Unit) W => B x a' W)) (hIx : OwnFrom w.heap.size Ix) (h0 : I s0 w)
  (hassign : ∀ (l : Nat) (x : ξ) (W : World) (K : Act → World → Prop), Y x W → (∀ a' W', KeepsOthers W W' → B x a' W' → K a' W') →
   assign.wpIn (F.inRound l) (n - 1 - 1) P (Exit.then K (fun _ _ _ => False)) { tmps := (ps.zip (encs x)).foldl (fun t (p, v) => t.setIfInBounds p v) a.tmps, defers := [] } W)
  (hbody : ∀ (l : Nat) (x : ξ) (a' : Act) (W : World), B x a' W → body.wpIn (F.inRound l) (n - 1 - 1) P (mPost I (nx x) Ix W) a' W)
  (hdone : ∀ (D : Nat) (s : σ) (W : World), w.heap.size ≤ D → E s → I s W → W.heap[D]? = some (.deferred (some [])) → Q .normal { a with defers := { target := .collected D, args := #[] } :: a.defers } W)
  (hstop : ∀ (D : Nat) (c : Code) (W : World), w.heap.size ≤ D → Ix c W → W.heap[D]? = some (.deferred (some [])) → c.wpIn F n P Q { a with defers := { target := .collected D, args := #[] } :: a.defers } W) :
  (Code.rangeFunc g ps assign body).wpIn F n P Q a w := by
 refine wpIn_rangeFunc ?_; intro fn hfn; rw [hro]; obtain ⟨rec, hrec⟩ : ∃ rec : LoopState → Option Code → Loop, rec = fun st pe => { state := st, pending := pe, fn, tmps := a.tmps, params := ps, assign, body, defers := w.heap.size } := ⟨_, rfl⟩; obtain ⟨W1, hW1⟩ : ∃ W1, (w.alloc (.deferred (some []))).alloc (.loop (rec .ready none)) = W1 := ⟨_, rfl⟩; have hL1 : W1.heap[w.heap.size + 1]? = some (.loop (rec .ready none)) := by
  rw [← hW1]; have := World.alloc_heap_new (w.alloc (.deferred (some []))) (.loop (rec .ready none)); rwa [World.size_alloc] at this
 have hK1 : W1.heap[w.heap.size]? = some (.deferred (some [])) := by
  rw [← hW1]; exact (Below.heap_alloc _ _ _ (by simp)).trans (World.alloc_heap_new w _)
 have hI1 : I s0 W1 := by rw [← hW1]; exact hI.alloc _ (hI.alloc _ h0)
 refine ⟨w.heap.size + 1, [{ target := .collected w.heap.size, args := #[] }], W1, { target := .fn (.func gf) lb, args := #[.func (.yield (w.heap.size + 1)) #[] #[]] }, W1, gf,
  #[.func (.yield (w.heap.size + 1)) #[] #[]] ++ lb, W1, ?_, ?_, ?_, ?_, fun _ => h1, ?_⟩
 ·rw [← hW1, hrec]; exact run_enterLoop_outer _ _ _ _ _
 ·simp only [resolve, hg]; simp [go_sem]
 ·intro f' hf'; simp [Target.leads] at hf'; subst hf'; exact hFg
 ·simp [invoke, go_sem, eg]
 ·refine (hseq (w.heap.size + 1)
   (fun W => W.heap[w.heap.size + 1]? = some (.loop (rec .ready none)) ∧ W.heap[w.heap.size]? = some (.deferred (some [])))
   (fun W => ∃ c, Ix c W ∧ W.heap[w.heap.size + 1]? = some (.loop (rec .done (some c))) ∧ W.heap[w.heap.size]? = some (.deferred (some [])))
   (fun A B hs hk => ⟨hk.same _ _ hs.1 rfl, hk.same _ _ hs.2 rfl⟩) ?_ W1 hI1 ⟨hL1, hK1⟩).mono ?_
  ·rintro x W hyx ⟨hl, hk⟩; have hy := run_yield (P := P) (args := encs x) hl (by rw [hrec]; exact hps x); rw [hrec] at hy; refine ⟨fn, _, assign, body, hy, roundIn_of_wpIn hfn (hassign _ x W _ hyx ?_)⟩; clear hy; intro a' Wa hkfa hax; replace hl := hkfa.same _ _ hl rfl; replace hk := hkfa.same _ _ hk rfl; clear hkfa hyx; obtain ⟨V, rfl⟩ : ∃ V, V = Wa := ⟨_, rfl⟩; have hlt : w.heap.size + 1 < V.heap.size := (Array.getElem?_eq_some_iff.1 hl).1; refine ⟨_, run_beginRound hl (by rw [hrec]), ?_⟩; have hl2 : (V.putObj (w.heap.size + 1) (.loop { rec .ready none with state := .busy })).heap[w.heap.size + 1]? = some (.loop { rec .ready none with state := .busy }) := World.putObj_heap_same hlt; have hk2 : (V.putObj (w.heap.size + 1) (.loop { rec .ready none with state := .busy })).heap[w.heap.size]? = some (.deferred (some [])) := (World.putObj_heap_other (by omega)).trans hk; refine wpIn_mono (hbody _ x a' _ ((hB x a').putObj (s := ()) _ hax (by omega) hl rfl)) ?_; have fin : ∀ (jump : Option Code) (W3 : World), KeepsOthers (V.putObj (w.heap.size + 1) (.loop { rec .ready none with state := .busy })) W3 →
     (Instr.endRound (w.heap.size + 1) jump).run P W3 = .ok (.bool jump.isNone) (W3.putObj (w.heap.size + 1) (.loop (rec (if jump.isNone then .ready else .done) jump))) ∧
     W3.heap[w.heap.size + 1]? = some (.loop { rec .ready none with state := .busy }) ∧
     (W3.putObj (w.heap.size + 1) (.loop (rec (if jump.isNone then .ready else .done) jump))).heap[w.heap.size + 1]? = some (.loop (rec (if jump.isNone then .ready else .done) jump)) ∧
     (W3.putObj (w.heap.size + 1) (.loop (rec (if jump.isNone then .ready else .done) jump))).heap[w.heap.size]? = some (.deferred (some [])) := fun jump W3 hk3 => by
    have hl3 := hk3.same _ _ hl2 rfl; have := run_endRound (P := P) jump hl3; rw [hrec] at this ⊢; exact ⟨this, by rw [hrec] at hl3; exact hl3, World.putObj_heap_same (Array.getElem?_eq_some_iff.1 hl3).1, (World.putObj_heap_other (by omega)).trans (hk3.same _ _ hk2 rfl)⟩
   rintro e a3 W3 hp; cases e with
   | normal =>
    obtain ⟨hk3, s, hns, hi3⟩ := hp; obtain ⟨hr, hl3, hl4, hk4⟩ := fin none W3 hk3; exact ⟨_, _, hr, .inl ⟨rfl, ⟨s, hns, hI.putObj _ hi3 (by omega) hl3 rfl⟩, hl4, hk4⟩⟩
   | ret =>
    obtain ⟨hk3, hi3⟩ := hp; obtain ⟨hr, hl3, hl4, hk4⟩ := fin (some .ret) W3 hk3; exact ⟨_, _, hr, .inr ⟨rfl, .ret, hIx.putObj _ hi3 (by omega) hl3 rfl, hl4, hk4⟩⟩
   | exit id =>
    obtain ⟨hk3, hi3⟩ := hp; obtain ⟨hr, hl3, hl4, hk4⟩ := fin (some (.exit id)) W3 hk3; exact ⟨_, _, hr, .inr ⟨rfl, .exit id, hIx.putObj _ hi3 (by omega) hl3 rfl, hl4, hk4⟩⟩
   | goto t =>
    obtain ⟨hk3, hi3⟩ := hp; obtain ⟨hr, hl3, hl4, hk4⟩ := fin (some (.goto t)) W3 hk3; exact ⟨_, _, hr, .inr ⟨rfl, .goto t, hIx.putObj _ hi3 (by omega) hl3 rfl, hl4, hk4⟩⟩
   | panic ch => exact hp.elim
   | outgrown => exact hp.elim
  ·rintro e W2 ⟨⟨v, rfl⟩, (⟨s, hE, hi, hl, hk⟩ | ⟨c, hi, hl, hk⟩)⟩
   ·exact ⟨none, _, by have := run_endLoop (P := P) hl (by rw [hrec]; simp); rw [hrec] at this; exact this, hdone _ s _ (Nat.le_refl _) hE (hI.putObj _ hi (by omega) hl rfl) ((World.putObj_heap_other (by omega)).trans hk)⟩
   ·exact ⟨some c, _, by have := run_endLoop (P := P) hl (by rw [hrec]; simp); rw [hrec] at this; exact this, hstop _ c _ (Nat.le_refl _) (hIx.putObj _ hi (by omega) hl rfl) ((World.putObj_heap_other (by omega)).trans hk)⟩
theorem wp_rangeM {σ ξ : Type} (p q : Nat) {g : Operand} {assign body : Code} {Q : Exit → Act → World → Prop} {a : Act} {w : World}
  {gf : Nat} {lb : Array Value} (hg : a.eval g = .func (.func gf) #[] lb) (eg : Enters P gf)
  {enc : ξ → Value × Value} (I : σ → World → Prop) (Y : ξ → World → Prop) (B : Act → ξ → Act → World → Prop) (Ix : Code → World → Prop) (nx : ξ → σ → Prop) (s0 : σ) (E : σ → Prop)
  (hseq : SeqM Fence.wide 4 P gf lb (fun x => #[(enc x).1, (enc x).2]) I Y nx s0 E)
  (hI : OwnFrom w.heap.size I) (hB : ∀ x a', OwnFrom w.heap.size (fun (_ : Unit) W => B a x a' W)) (hIx : OwnFrom w.heap.size Ix) (h0 : I s0 w)
  (hassign : ∀ (l : Nat) (x : ξ) (W : World) (K : Act → World → Prop), Y x W → (∀ a' W', KeepsOthers W W' → B a x a' W' → K a' W') →
   assign.wpIn (Fence.wide.inRound l) 3 P (Exit.then K (fun _ _ _ => False)) { tmps := (a.tmps.setIfInBounds p (enc x).1).setIfInBounds q (enc x).2, defers := [] } W)
  (hbody : ∀ (l : Nat) (x : ξ) (a' : Act) (W : World), B a x a' W → body.wpIn (Fence.wide.inRound l) 3 P (mPost I (nx x) Ix W) a' W)
  (hdone : ∀ (D : Nat) (s : σ) (W : World), w.heap.size ≤ D → E s → I s W → W.heap[D]? = some (.deferred (some [])) → Q .normal { a with defers := { target := .collected D, args := #[] } :: a.defers } W)
  (hstop : ∀ (D : Nat) (c : Code) (W : World), w.heap.size ≤ D → Ix c W → W.heap[D]? = some (.deferred (some [])) → c.wp P Q { a with defers := { target := .collected D, args := #[] } :: a.defers } W) :
  (Code.rangeFunc g #[p, q] assign body).wp P Q a w := by
 refine (wpIn_wide (n := 5)).1 ?_; exact wpIn_rangeM (F := Fence.wide) (n := 5) rfl (by decide) hg trivial eg (fun _ => rfl) I Y (B a) Ix nx s0 E hseq hI hB hIx h0
  (fun l x W K hy hK => by
   have h := hassign l x W K hy hK; have e : Array.foldl (fun (t : Array Value) (q : Tmp × Value) => match q with | (p, v) => t.setIfInBounds p v) a.tmps (#[p, q].zip #[(enc x).1, (enc x).2]) = (a.tmps.setIfInBounds p (enc x).1).setIfInBounds q (enc x).2 := by simp
   rw [← e] at h; exact h) hbody hdone (fun D c W hD hi hk => wpIn_wide.2 (hstop D c W hD hi hk))
end Hp
end
section
open Go.RowKit
namespace Hp
variable {P : Program} {F : Fence} {n : Nat}
def chainB (ops : Array Oper) (o : Oper) : Bool :=
 o.after.all (fun e => decide (e.on < ops.size)) && (
 (List.range ops.size).all (fun j => o.after.any (fun e => Region.binds .any e && e.on == j) || (List.range ops.size).any fun k => decide (j < k) && match ops[k]? with
  | some ok => ok.after.any fun e => Region.binds .any e && e.on == j
  | none => false) &&
 (List.range ops.size).all (fun i => match ops[i]? with
  | some oi => oi.after.all (fun e => decide (e.on < i)) && (match oi.guard with | none => true | some (j, _) => decide (j < ops.size))
  | none => false))
theorem chainB.on {ops : Array Oper} {o : Oper} (h : chainB ops o = true) : ∀ e ∈ o.after, e.on < ops.size := by
 simp only [chainB, Bool.and_eq_true] at h; intro e he; have := Array.all_eq_true'.1 h.1 e he; simpa using this
theorem chainB.back {ops : Array Oper} {o : Oper} (h : chainB ops o = true) {i : Nat} (hi : i < ops.size) : (∀ e ∈ (ops[i]).after, e.on < i) ∧ ∀ j b, (ops[i]).guard = some (j, b) → j < ops.size := by
 simp only [chainB, Bool.and_eq_true, List.all_eq_true, List.mem_range] at h; have h2 := h.2.2 i hi; rw [Array.getElem?_eq_getElem hi] at h2; simp only [Bool.and_eq_true] at h2; refine ⟨fun e he => ?_, fun j b hg => ?_⟩
 ·have := Array.all_eq_true'.1 h2.1 e he; simpa using this
 ·have := h2.2; rw [hg] at this; simpa using this
theorem chainB.next {ops : Array Oper} {o : Oper} (h : chainB ops o = true) {j : Nat} (hj : j < ops.size) : (∃ e ∈ o.after, Region.binds .any e = true ∧ e.on = j) ∨ ∃ (k : Nat) (hk : k < ops.size), j < k ∧ ∃ e ∈ (ops[k]).after, Region.binds .any e = true ∧ e.on = j := by
 simp only [chainB, Bool.and_eq_true, List.all_eq_true, List.mem_range] at h; have h1 := h.2.1 j hj; rw [Bool.or_eq_true] at h1; rcases h1 with h1 | h1
 ·obtain ⟨e, he, hb⟩ := Array.any_eq_true'.1 h1; simp only [Bool.and_eq_true, beq_iff_eq] at hb; exact .inl ⟨e, he, hb.1, hb.2⟩
 ·rw [List.any_eq_true] at h1; obtain ⟨k, hk, hb⟩ := h1; rw [List.mem_range] at hk; rw [Array.getElem?_eq_getElem hk, Bool.and_eq_true, decide_eq_true_eq] at hb; obtain ⟨e, he, hb2⟩ := Array.any_eq_true'.1 hb.2; simp only [Bool.and_eq_true, beq_iff_eq] at hb2; exact .inr ⟨k, hk, hb.1, e, he, hb2.1, hb2.2⟩
def Cl (ops : Array Oper) (listed : Array Bool) : Prop := ∀ i (hi : i < ops.size), listed.getD i true = true → ∀ e ∈ (ops[i]).after, Region.binds .any e = true → listed.getD e.on false = true
theorem getD_any {l : Array Bool} {i : Nat} (h : i < l.size) (d d' : Bool) : l.getD i d = l.getD i d' := by
 simp [Array.getD_eq_getD_getElem?, Array.getElem?_eq_getElem h]
theorem Cl.start (ops : Array Oper) : Cl ops (Array.replicate ops.size false) := by
 intro i hi h; rw [Array.getD_eq_getD_getElem?, Array.getElem?_eq_getElem (by simpa using hi)] at h; simp at h
theorem Cl.add {ops : Array Oper} {listed : Array Bool} (h : Cl ops listed) (hs : listed.size = ops.size) {i : Nat} (hr : i ∈ Region.ready .any ops listed) : Cl ops (listed.setIfInBounds i true) := by
 obtain ⟨hi, _, ha⟩ := zy.1 hr; have key : ∀ (j : Nat) (d : Bool), listed.getD j d = true → (listed.setIfInBounds i true).getD j d = true := by
  intro j d hj; rw [Array.getD_eq_getD_getElem?] at hj ⊢; by_cases e : i = j
  ·subst e; rw [Array.getElem?_setIfInBounds_self_of_lt (by omega)]; rfl
  ·rw [Array.getElem?_setIfInBounds_ne e]; exact hj
 intro j hj hl e he hb; by_cases e1 : i = j
 ·subst e1; exact key _ _ (ha e he hb)
 ·refine key _ _ (h j hj ?_ e he hb); rw [Array.getD_eq_getD_getElem?, Array.getElem?_setIfInBounds_ne e1] at hl; rwa [Array.getD_eq_getD_getElem?]
theorem chain_all {ops : Array Oper} {o : Oper} (h : chainB ops o = true) {listed : Array Bool} (hs : listed.size = ops.size) (hc : Cl ops listed) (ha : ∀ e ∈ o.after, Region.binds .any e = true → listed.getD e.on false = true) : ∀ d j, ops.size = j + d → 0 < d → listed.getD j true = true := by
 intro d
 induction d using Nat.strongRecOn with
 | _ d ih =>
  intro j hd h0; rcases chainB.next h (j := j) (by omega) with ⟨e, he, hb, rfl⟩ | ⟨k, hk, hjk, e, he, hb, rfl⟩
  ·rw [getD_any (by omega) true false]; exact ha e he hb
  ·have h1 := ih (ops.size - k) (by omega) k (by omega) (by omega); rw [getD_any (by omega) true false]; exact hc k hk h1 e he hb
def QLI (F : Fence) (n : Nat) (P : Program) (ops : Array Oper) (o : Oper) (Q : Exit → Act → World → Prop) : Exit → Act → World → Prop
 | .normal, a, w => wpOpIn F n P (ops.push o) Q ops.size (fun a' w' => Q .normal a' w') a w
 | e, a, w => Q e a w
theorem QLI.letsOut {ops : Array Oper} {o : Oper} {Q : Exit → Act → World → Prop} (h : LetsOut (QLI F n P ops o Q)) : LetsOut Q := h
theorem ybo {o : Oper} {a : Act} {w : World} {K K' : Act → World → Prop} {Q Q' : Exit → Act → World → Prop} (h : ∀ a w, K a w → K' a w) (hp : ∀ c a w, Q (.panic c) a w → Q' (.panic c) a w) (hl : LetsOut Q → LetsOut Q')
  (hh : o.wpIn F n P a w K Q) : o.wpIn F n P a w K' Q' := by
 unfold Oper.wpIn at *; refine ⟨hh.1, ?_⟩; have hh := hh.2; generalize (o.semAt F.round a.eval).run P w = r at *; cases r with
 | ok x w' =>
  cases x with
  | value v => exact h _ _ hh
  | skip => exact h _ _ hh
  | defer d => exact h _ _ hh
  | enter f args => exact ⟨hh.1, CallsIn.mono hh.2 (fun e w'' he => by cases e <;> first | exact h _ _ he | exact hp _ _ _ he | exact hl he)⟩
  | row r args => exact ⟨hh.1, RowsIn.mono hh.2 (fun _ _ he => h _ _ he)⟩
  | round l f tmps assign body => exact ⟨hh.1, RoundIn.mono hh.2 (fun e w'' he => by cases e <;> first | exact h _ _ he | exact hp _ _ _ he | exact hl he)⟩
  | _ => exact hh
 | halt x w' => cases x <;> first | exact hp _ _ _ hh | exact hh
section
variable {ops : Array Oper} {o : Oper} {Q : Exit → Act → World → Prop}
theorem chainB.wanted (h : chainB ops o = true) {i : Nat} (hi : i < ops.size) (t : Array Value) : Region.wanted ops[i] (yielded (ops.push o) t) = Region.wanted ops[i] (yielded ops t) := by
 unfold Region.wanted; cases hg : (ops[i]).guard with
 | none => rfl
 | some p =>
  obtain ⟨j, b⟩ := p; have hj := (chainB.back h hi).2 j b hg; simp only [yielded, Array.getElem?_push, Nat.ne_of_lt hj, if_false]
theorem ybp (h : chainB ops o = true) {listed : Array Bool} (hs : listed.size = ops.size) (x : Bool) {i : Nat} (hi : i < ops.size) : i ∈ Region.ready .any (ops.push o) (listed.push x) ↔ i ∈ Region.ready .any ops listed := by
 rw [zy, zy]; have he : (ops.push o)[i]'(by simp; omega) = ops[i] := by simp [Array.getElem_push, hi]
 constructor
 ·rintro ⟨hi', hl, ha⟩; rw [zY (by omega)] at hl; refine ⟨hi, hl, fun e hm hb => ?_⟩; have h1 := (chainB.back h hi).1 e hm; have := ha e (by rw [he]; exact hm) hb; rwa [zY (by omega)] at this
 ·rintro ⟨hi', hl, ha⟩; refine ⟨by simp; omega, by rw [zY (by omega)]; exact hl, fun e hm hb => ?_⟩; rw [he] at hm; have h1 := (chainB.back h hi).1 e hm; rw [zY (by omega)]; exact ha e hm hb
theorem ready_nilC (h : chainB ops o = true) {listed : Array Bool} (hs : listed.size = ops.size) (hr : Region.ready .any ops listed = []) : ∀ i, i < ops.size → listed.getD i true = true := by
 intro i
 induction i using Nat.strongRecOn with
 | _ i ih =>
  intro hi; rw [← Bool.not_eq_false]; intro hf; have : i ∈ Region.ready .any ops listed := zy.2 ⟨hi, hf, fun e he hb => by
   have h1 := (chainB.back h hi).1 e he; have h2 := ih e.on h1 (by omega); rwa [getD_any (by omega) true false] at h2⟩
  rw [hr] at this; cases this
theorem wpAnyIn_last (h : chainB ops o = true) : ∀ (fuel : Nat) (listed : Array Bool) (a : Act) (w : World), listed.size = ops.size → Cl ops listed → wpAnyIn F n P .any ops (QLI F n P ops o Q) fuel listed a w → wpAnyIn F n P .any (ops.push o) Q (fuel + 1) (listed.push false) a w := by
 have fin : ∀ (fuel : Nat) (listed : Array Bool) (a : Act) (w : World), listed.size = ops.size → Region.ready .any ops listed = [] → QLI F n P ops o Q .normal a w → wpAnyIn F n P .any (ops.push o) Q (fuel + 1) (listed.push false) a w := by
  intro fuel listed a w hs hr hq; have hall := ready_nilC h hs hr; have hn : ops.size ∈ Region.ready .any (ops.push o) (listed.push false) := by
   refine zy.2 ⟨by simp, by rw [← hs]; simp, fun e he hb => ?_⟩; have he' : (ops.push o)[ops.size]'(by simp) = o := by simp
   rw [he'] at he; have h1 := chainB.on h e he; rw [zY (by omega)]; have h2 := hall e.on h1; rwa [getD_any (by omega) true false] at h2
  refine ⟨fun h0 => ?_, fun i hi => ?_⟩
  ·rw [h0] at hn; cases hn
  ·have hin : i = ops.size := by
    obtain ⟨h1, _⟩ := zy.1 hi; simp at h1; rcases Nat.lt_or_ge i ops.size with h2 | h2
    ·have := (ybp h hs false h2).1 hi; rw [hr] at this; cases this
    ·omega
   subst hin; refine wpOpIn_mono (fun a' w' hq' => ?_) hq; have hr2 : Region.ready .any (ops.push o) ((listed.push false).setIfInBounds ops.size true) = [] := by
    have e : (listed.push false).setIfInBounds ops.size true = listed.push true := by
     apply Array.ext
     ·simp
     ·intro i h1 h2; simp at h1; rw [Array.getElem_setIfInBounds (by simpa using h1)]; simp only [Array.getElem_push]; by_cases hj : i < listed.size
      ·rw [dif_pos hj, dif_pos hj, if_neg (by omega)]
      ·rw [dif_neg hj, dif_neg hj, if_pos (by omega)]
    rw [e]; refine List.eq_nil_iff_forall_not_mem.2 fun i hi => ?_; obtain ⟨h1, h2, _⟩ := zy.1 hi; simp at h1; rcases Nat.lt_or_ge i ops.size with h3 | h3
    ·have := (ybp h hs true h3).1 hi; rw [hr] at this; cases this
    ·have : i = ops.size := by omega
     subst this; have h4 : (listed.push true).getD ops.size true = true := by rw [← hs]; simp
     rw [h4] at h2; cases h2
   cases fuel with
   | zero => exact ⟨hr2, hq'⟩
   | succ fuel => exact ⟨fun _ => hq', fun i hi => by rw [hr2] at hi; cases hi⟩
 intro fuel
 induction fuel with
 | zero => intro listed a w hs _ hq; exact fin 0 listed a w hs hq.1 hq.2
 | succ fuel ih =>
  intro listed a w hs hcl hq; by_cases hr : Region.ready .any ops listed = []
  ·exact fin _ listed a w hs hr (hq.1 hr)
  ·have hnot : ops.size ∉ Region.ready .any (ops.push o) (listed.push false) := by
    intro hm; obtain ⟨h1, h2, h3⟩ := zy.1 hm; have he' : (ops.push o)[ops.size]'(by simp) = o := by simp
    rw [he'] at h3; have hall := chain_all h hs hcl (fun e he hb => by
     have := h3 e he hb; rwa [zY (by rw [hs]; exact chainB.on h e he)] at this)
    obtain ⟨i, hi⟩ := List.exists_mem_of_ne_nil _ hr; obtain ⟨hi1, hi2, _⟩ := zy.1 hi; rw [hall (ops.size - i) i (by omega) (by omega)] at hi2; cases hi2
   refine ⟨fun h0 => absurd ?_ hr, fun i hi => ?_⟩
   ·refine List.eq_nil_iff_forall_not_mem.2 fun i hi => ?_; obtain ⟨h1, _⟩ := zy.1 hi; have := (ybp h hs false h1).2 hi; rw [h0] at this; cases this
   ·have hlt : i < ops.size := by
     obtain ⟨h1, _⟩ := zy.1 hi; simp at h1; rcases Nat.lt_or_ge i ops.size with h2 | h2
     ·exact h2
     ·exact absurd (by rwa [show i = ops.size by omega] at hi) hnot
    have hi' := (ybp h hs false hlt).1 hi; have hw := hq.2 i hi'; have e : (listed.push false).setIfInBounds i true = (listed.setIfInBounds i true).push false := by
     apply Array.ext
     ·simp
     ·intro j h1 h2; simp at h1; rw [Array.getElem_setIfInBounds (by simpa using h1)]; simp only [Array.getElem_push, Array.size_setIfInBounds]; by_cases hj : j < listed.size
      ·rw [dif_pos hj, dif_pos hj, Array.getElem_setIfInBounds hj]
      ·rw [dif_neg hj, dif_neg hj, if_neg (by omega)]
    rw [e]; unfold wpOpIn at hw ⊢; have g1 : (ops.push o)[i]? = some ops[i] := by simp [Array.getElem?_push, Nat.ne_of_lt hlt, hlt]
    rw [g1]; rw [Array.getElem?_eq_getElem hlt] at hw; simp only [chainB.wanted h hlt] at hw ⊢; have hcl2 := hcl.add hs hi'; split
    ·rename_i hwt
     simp only [hwt, if_true] at hw; exact ybo (fun a' w' hk => ih _ a' w' (by simpa using hs) hcl2 hk) (Q := QLI F n P ops o Q) (fun c a w hp => hp) (QLI.letsOut (F := F) (n := n) (P := P) (ops := ops) (o := o)) hw
    ·rename_i hwt
     simp only [hwt] at hw; exact ⟨hw.1, ih _ _ _ (by simpa using hs) hcl2 hw.2⟩
end
theorem op_wide {o : Oper} {a : Act} {w : World} {K : Act → World → Prop} {Q : Exit → Act → World → Prop} (h : o.wp P a w K Q) : o.wpIn Fence.wide n P a w K Q := by
 refine ⟨fun _ _ => trivial, ?_⟩; rw [show Fence.wide.round = none from rfl, Oper.semAt_none]; unfold Oper.wp at h
 revert h
 generalize (execOp a.eval o).run P w = r; intro h; cases r with
 | ok x w' =>
  cases x <;> simp only [Oper.upon, Oper.uponIn] at h ⊢ <;>
   first
    | exact h
    | exact h.elim
    | exact ⟨fun h => (by cases h), callsIn_wide.2 h⟩
    | exact ⟨fun h => (by cases h), fun c cs _ => let ⟨v, w', r, s⟩ := h c cs; ⟨v, w', r, stepsIn_wide.2 s⟩⟩
 | halt x w' => cases x <;> simp only [Oper.upon, Oper.uponIn] at h ⊢ <;> exact h
theorem any_wide {ops : Array Oper} {Q : Exit → Act → World → Prop} {md : Region.Mode} (hQ : ¬ LetsOut Q) : ∀ (fuel : Nat) (listed : Array Bool) (a : Act) (w : World), wpAny P md ops Q fuel listed a w → wpAnyIn Fence.wide n P md ops Q fuel listed a w
 | 0, _, _, _, h => h
 | fuel + 1, listed, a, w, h => ⟨h.1, fun i hi => by
  have h2 := h.2 i hi; unfold wpOp at h2; unfold wpOpIn; cases ho : ops[i]? with
  | none => rw [ho] at h2; exact any_wide hQ fuel _ a w h2
  | some o =>
   simp only [ho] at h2 ⊢; split
   ·rename_i hw
    simp only [hw, if_true] at h2; rcases h2 with h2 | h2
    ·exact op_wide (Oper.wp_swap (fun a w hh => any_wide hQ fuel _ a w hh) (fun _ _ _ h => h) id h2)
    ·exact absurd h2.2 hQ
   ·rename_i hw
    simp only [hw] at h2; exact ⟨fun _ _ => trivial, any_wide hQ fuel _ _ w h2⟩⟩
theorem QLI_intro {ops : Array Oper} {o : Oper} {Q : Exit → Act → World → Prop} {a : Act} {w : World} (h : wpListIn F n P (ops.push o) Q [o] a w) : QLI F n P ops o Q .normal a w := by
 show wpOpIn _ _ _ _ _ _ _ _ _; unfold wpOpIn; simp only [Array.getElem?_push_size]; unfold wpListIn at h; exact h
def QT (T : Act → World → Prop) : Exit → Act → World → Prop
 | .normal, a, w => T a w
 | _, _, _ => False
theorem jp {T : Act → World → Prop} {a : Act} {w : World} (h : T a w) : QT T .normal a w := h
theorem QT_out {T : Act → World → Prop} : ¬ LetsOut (QT T) := fun ⟨_, _, h⟩ => h
theorem anyIn_QT {ops : Array Oper} {Q : Exit → Act → World → Prop} {md : Region.Mode} : ∀ (fuel : Nat) (listed : Array Bool) (a : Act) (w : World), wpAnyIn F n P md ops (QT (Q .normal)) fuel listed a w → wpAnyIn F n P md ops Q fuel listed a w
 | 0, _, _, _, h => h
 | fuel + 1, listed, a, w, h => ⟨h.1, fun i hi => by
  have h2 := h.2 i hi; unfold wpOpIn at h2 ⊢; cases ho : ops[i]? with
  | none => rw [ho] at h2; exact anyIn_QT fuel _ a w h2
  | some o =>
   simp only [ho] at h2 ⊢; split
   ·rename_i hw
    simp only [hw, if_true] at h2; exact ybo (fun a w hh => anyIn_QT fuel _ a w hh) (fun _ _ _ h => h.elim) (fun h => absurd h QT_out) h2
   ·rename_i hw
    simp only [hw] at h2; exact ⟨h2.1, anyIn_QT fuel _ _ w h2.2⟩⟩
theorem listIn_QT {ops : Array Oper} {Q : Exit → Act → World → Prop} : ∀ (L : List Oper) (a : Act) (w : World), wpListIn F n P ops (QT (Q .normal)) L a w → wpListIn F n P ops Q L a w
 | [], _, _, h => h
 | o :: L, a, w, h => by
  unfold wpListIn at h ⊢; split
  ·rename_i hw
   simp only [hw, if_true] at h; exact ybo (fun a w hh => listIn_QT L a w hh) (fun _ _ _ h => h.elim) (fun h => absurd h QT_out) h
  ·rename_i hw
   simp only [hw] at h; exact ⟨h.1, listIn_QT L _ w h.2⟩
theorem jb {l : Nat} {ops : Array Oper} {Q : Exit → Act → World → Prop} {L : List Oper} {a : Act} {w : World} (hd : yaO L = true) (h : wpList P ops (QT (Q .normal)) L a w) : wpListIn (Fence.wide.inRound l) n P ops Q L a w :=
 listIn_QT L a w (list_inRound QT_out L a w hd h)
theorem region_round {l id : Nat} {L : Array Oper} {S : World → Prop} {a : Act} {w : World} {Q : Exit → Act → World → Prop} (hm : P.follows .mixedOrders = true) (hd : yaO L.toList = true) (hS : S w.drew)
  (h : S w.drew → wpAnyH P .any L (QT (Q .normal)) S L.size (Array.replicate L.size false) a w.drew) : (Code.region id L true).wpIn (Fence.wide.inRound l) n P Q a w :=
 wpIn_region_any hm (anyIn_QT _ _ a _ (any_inRound hd QT_out _ _ a _ (wpAny_of_held _ _ _ _ (h hS))))
theorem region_last3 {id : Nat} {L : Array Oper} {o1 o2 o3 : Oper} {S : World → Prop} {a : Act} {w : World} {Q : Exit → Act → World → Prop} (hm : P.follows .mixedOrders = true)
  (e3 : L.back? = some o3) (e2 : L.pop.back? = some o2) (e1 : L.pop.pop.back? = some o1) (h1 : chainB L.pop.pop.pop o1 = true) (h2 : chainB L.pop.pop o2 = true) (h3 : chainB L.pop o3 = true) (hS : S w.drew)
  (h : S w.drew → wpAnyH P .any L.pop.pop.pop (QT (QLI Fence.wide n P L.pop.pop.pop o1 (QLI Fence.wide n P L.pop.pop o2 (QLI Fence.wide n P L.pop o3 Q)) .normal)) S L.pop.pop.pop.size (Array.replicate L.pop.pop.pop.size false) a w.drew) :
  (Code.region id L true).wpIn Fence.wide n P Q a w := by
 have p3 := push_pop e3; have p2 := push_pop e2; have p1 := push_pop e1; obtain ⟨ops, hops⟩ : ∃ ops, ops = L.pop.pop.pop := ⟨_, rfl⟩; rw [← hops] at h h1 p1; rw [← p1] at p2 h2 h; rw [← p2] at p3 h3 h; rw [← p3]; refine wpIn_region_any hm ?_; have hr : ∀ k : Nat, (Array.replicate k false).push false = Array.replicate (k + 1) false := fun k => by rw [Array.replicate_succ]
 have g0 := anyIn_QT _ _ a w.drew (any_wide (n := n) QT_out _ _ a w.drew (wpAny_of_held _ _ _ _ (h hS))); have g1 := wpAnyIn_last h1 _ _ a w.drew (by simp) (Cl.start ops) g0; have g2 := wpAnyIn_last h2 _ _ a w.drew (by simp) (by have := Cl.start (ops.push o1); rw [Array.size_push] at this; rw [hr]; exact this) g1; have g3 := wpAnyIn_last h3 _ _ a w.drew (by simp) (by have := Cl.start ((ops.push o1).push o2); rw [Array.size_push, Array.size_push] at this; rw [hr, hr]; exact this) g2; rw [hr, hr, hr] at g3; simpa using g3
end Hp
end
section
open Go.RowKit Hp
attribute [local irreducible] Go.Calls Go.wpList
def bxP (g3 g4 g5 gm : Nat) (but : Int) (pc : List Value) : List HA := [.blk g5 3 [.int .i64 but], .blk g4 34 pc, .blk g3 24 [PM gm]]
def copiesV (g3 g4 g5 : Nat) : Array Value := #[.pointer (some ⟨g4, 0, none⟩), .pointer (some ⟨g5, 0, none⟩), .pointer (some ⟨g3, 0, none⟩)]
theorem copies_any {w0 w : World} {M : List Nat} {L : List HA} (hS : St w0 M w L) (gm : Nat) (but : Int) (ao : Option Addr) (n c : Nat) (b v : Int) (S : List UInt8) :
  Calls Tryz.prog 68 #[PM gm, .agg (yd (.slice ao n c) b v S).toArray, .int .i64 but] w fun e w' => ∃ g3 g4 g5, e = .returned (.func (.func 117) #[] (copiesV g3 g4 g5)) ∧ St w0 M w' (bxP g3 g4 g5 gm but (yd (.slice ao n c) b v S) ++ L) := by
 have hst := hS; clear hS; unfold PM; go_enter Tryz.func68, Tryz.ntmps68; go_wp2_with (first | (refine zbo hst fun g3 _ hst1 => ?_; clear hst) | (refine zj hst1 fun g4 _ hst2 => ?_; clear hst1) | (refine zbo hst2 fun g5 _ hst3 => ?_; clear hst2)); go_ret; exact ⟨g3, g4, g5, rfl, hst3⟩
structure YV where
 k : Nat
 m : MV
 v : Value
section
variable (w0 : World) (M : List Nat) (gm ga : Nat) (x : GA) (bx : List HA) (l : List (Int × Int)) (but : Int) (S : List UInt8) (N0 : Nat) (Xp : Nat → MV → List HA → Prop)
def cI (s : Nat × MV) (W : World) : Prop := s.1 ≤ l.length ∧ MGood s.2 (N0 + s.1) ∧ ∃ X, Xp s.1 s.2 X ∧ St w0 M W (mP gm ga x s.2 ++ (bx ++ X))
def YV.pl (y : YV) : Int × Int := l.getD y.k (0, 0)
def YV.B (y : YV) : List UInt8 := y.m.lookB (y.pl l).1 (y.pl l).2 S
def YV.next (y : YV) : MV := y.m.looked (y.pl l).1 (y.pl l).2 S
def cY (y : YV) (W : World) : Prop := y.k < l.length ∧ (y.pl l).1 ≠ but ∧ MGood y.m (N0 + y.k) ∧ ∃ X, Xp y.k y.m X ∧ St w0 M W (.rowP yP y.v 5 1 (y.B l S).length (yb (y.B l S)) :: (mP gm ga x (y.next l S) ++ (bx ++ X)))
def cE (y : YV) : Value × Value := (.agg #[.int .i64 (y.pl l).1, .int .i64 (y.pl l).2], .agg #[.int .i64 (y.m.kind (y.pl l).1 (y.pl l).2 S), y.v])
def cN (y : YV) (s : Nat × MV) : Prop := s = (y.k + 1, y.next l S)
end
attribute [local go_sem] Oper.semAt_some
theorem loadedIm6 (A : Addr) : loadVar 3 A = yn 3 A := rfl
theorem loadedAd6 (A : Addr) : loadVar 83 A = yn 83 A := rfl
theorem loadedMi6 (A : Addr) : loadVar 24 A = yn 24 A := rfl
theorem loadedID6 (A : Addr) : loadVar 32 A = yn 32 A := rfl
theorem sub_x {w0 w : World} {M : List Nat} {A X : List HA} {p : HA} (h : St w0 M w (A ++ (p :: X))) : St w0 M w (A ++ X) := St.sub h (List.Sublist.append_left zC _)
section
attribute [local go_sem ↓] loadedIm6 loadedAd6 loadedMi6 loadedID6
theorem copies1_seq {w0 : World} {M : List Nat} {gm ga : Nat} {x : GA} {g3 g4 g5 : Nat} (l : List (Int × Int)) (ao : Option Addr) (n c : Nat) (b v : Int) (S : List UInt8) (but : Int) (N0 : Nat) (m0 : MV) (hL : L32 S) (hn : l.length = n) (hN : N0 + n ≤ 900000) (Xp : Nat → MV → List HA → Prop)
  (hA : ∀ k m X W, Xp k m X → St w0 M W X → Rd W (.slice ao n c) 2 n (yu l)) (hskip : ∀ k m X, k < n → (l.getD k (0, 0)).1 = but → Xp k m X → Xp (k + 1) m X) :
  SeqM Fence.wide 4 Tryz.prog 117 (copiesV g3 g4 g5) (fun y => #[(cE l S y).1, (cE l S y).2]) (cI w0 M gm ga x (bxP g3 g4 g5 gm but (yd (.slice ao n c) b v S)) l N0 Xp) (cY w0 M gm ga x (bxP g3 g4 g5 gm but (yd (.slice ao n c) b v S)) l but S N0 Xp) (cN l S) (0, m0) (fun s => s.1 = l.length) := by
 intro lp R Jx hR hY W hI0 hR0; refine callsIn_of_wp Tryz.func117 rfl trivial ?_ rfl; simp only [Tryz.ntmps117, copiesV, List.size_toArray, List.length_cons, List.length_nil, Nat.reduceAdd, Nat.reduceSub, Array.replicate_succ, Array.replicate_zero, List.push_toArray, List.append_toArray, List.nil_append, List.cons_append]; have c1 : W.cell? ⟨g4, 0, none⟩ = some (.slice ao n c) := by
  obtain ⟨_, _, X, _, hst⟩ := hI0; exact hst.cell (T := 34) (cs := yd (.slice ao n c) b v S) (zR (zT zH)) rfl
 gi_wp2; gi_loopw [10] (fun i wr => ∃ (k : Nat) (m : MV), i = .int .i64 k ∧ cI w0 M gm ga x (bxP g3 g4 g5 gm but (yd (.slice ao n c) b v S)) l N0 Xp (k, m) wr ∧ R wr) (fun i _ => n - (intOf i).toNat)
 case atStart => exact ⟨0, m0, rfl, hI0, hR0⟩
 case round =>
  clear c1 hI0 hR0; obtain ⟨k, m, rfl, hI1, hR1⟩ := hrel; by_cases hlt : k < n
  ·have d0 : decide ((k : Int) < (n : Int)) = true := zD (by omega); obtain ⟨_, hg, X, hX, hst⟩ := hI1; obtain ⟨bb, off, rfl, hr⟩ := (hA k m X wr hX (St.sub hst (zA.trans zA))).at hlt; obtain ⟨z, hz⟩ : ∃ z, z = l.getD k (0, 0) := ⟨_, rfl⟩; have hb := z7 hr (k := k) (by rw [hn]; exact hlt); rw [← hz] at hb; have HB := ya hb; have HZ := ya hz; have HST := ya hst; have HX := ya hX; have HG := ya hg; have HL := ya hL; have hs := hst.selfM
   gi_upto_region 2 with (fail)
   refine wpIn_wide.2 ?_; clear hz hb hr hst hX hg; have HR := ya hR1; clear hR1; go_wp2_with (first | (refine yA (hlt) ?_) | (refine jl (Loads.range (cs := [.int .i64 z.1, .int .i64 z.2]) (TyA.out (n := 2)) HB.out) ?_) | (refine yN hs fun g6 w3 hs1 => ?_; clear hs) | (refine ji [] hs1 fun w4 hs2 => ?_; clear hs1)); have hs3 : St wr _ w4 (mP gm ga x m ++ (.blk g6 83 [.int .i64 z.1, .int .i64 z.2] :: (bxP g3 g4 g5 gm but (yd (.slice (some ⟨bb, off, none⟩) n c) b v S) ++ X))) := zB (A := mP gm ga x m) hs2; clear hs2; have HN := ya hn
   gi_upto_region 3 with (fail)
   by_cases he : z.1 = but
   ·have d1 : (z.1 != but) = false := by simpa using he
    refine wpIn_wide.2 ?_; have hX := hs3.drew; clear hs3; refine wD (S := fun w' => Ld 3 g6 0 (.int .i64 z.1) w' ∧ Ld 3 g5 0 (.int .i64 but) w' ∧ Ld 83 g6 0 (.agg (List.toArray [.int .i64 z.1, .int .i64 z.2])) w' ∧ Ld 24 g3 0 (.pointer (some ⟨gm, 0, none⟩)) w' ∧ Ld 32 g4 3 (.agg (List.toArray (yb S))) w') ⟨Loads.blk (T := 3) hX TyS.out (zR zH) rfl, Loads.blk (T := 3) hX TyS.out (zR (zT zH)) rfl, Loads.blkA (T := 83) (vs := [.int .i64 z.1, .int .i64 z.2]) hX (TyA.out (n := 2)) (zR zH) (rfl), Loads.blk (T := 24) hX TyS.out (zR (zT (zT (zT zH)))) rfl, Loads.blkA (T := 32) (vs := yb S) hX ((by rw [HL.out.v]; exact TyA.out)) (zR (zT (zT zH))) (qu _ _ _ _)⟩ fun hHeld => ?_; refine jt 0 (h:=jt 2 (h:=jt 1 (h:=jt 3 (h:=jt 4 (h:=ju 5 (h:=ju 6 (h:=ju 7 (h:=ju 8 (h:=ju 9 (h:=ju 10 (h:=?_))))))))))); refine wpAnyH_ready (rs := [11]) (by kernel_rfl) (by simp) ?_; refine (AllReadyH.cons (o := ⟨some 25, _, _, _, _, _⟩) rfl (fun K hK => ?_) AllReadyH.nil); rw [if_neg (by rw [show Region.wanted _ _ = false from rfl]; exact Bool.false_ne_true)]; refine kD hK ⟨Loads.blk (T := 3) hX TyS.out (zR zH) rfl, Loads.blk (T := 3) hX TyS.out (zR (zT zH)) rfl, Loads.blkA (T := 83) (vs := [.int .i64 z.1, .int .i64 z.2]) hX (TyA.out (n := 2)) (zR zH) (rfl), Loads.blk (T := 24) hX TyS.out (zR (zT (zT (zT zH)))) rfl, Loads.blkA (T := 32) (vs := yb S) hX ((by rw [HL.out.v]; exact TyA.out)) (zR (zT (zT zH))) (qu _ _ _ _)⟩ (h:=fun hHeld => ?_); refine wpAnyH_ready (rs := [12]) (by kernel_rfl) (by simp) ?_; refine (AllReadyH.cons (o := ⟨some 26, _, _, _, _, _⟩) rfl (fun K hK => ?_) AllReadyH.nil); rw [if_neg (by rw [show Region.wanted _ _ = false from rfl]; exact Bool.false_ne_true)]; refine kD hK ⟨Loads.blk (T := 3) hX TyS.out (zR zH) rfl, Loads.blk (T := 3) hX TyS.out (zR (zT zH)) rfl, Loads.blkA (T := 83) (vs := [.int .i64 z.1, .int .i64 z.2]) hX (TyA.out (n := 2)) (zR zH) (rfl), Loads.blk (T := 24) hX TyS.out (zR (zT (zT (zT zH)))) rfl, Loads.blkA (T := 32) (vs := yb S) hX ((by rw [HL.out.v]; exact TyA.out)) (zR (zT (zT zH))) (qu _ _ _ _)⟩ (h:=fun hHeld => ?_); refine ju 13 (h:=jt 14 (h:=?_)); refine jn ?_; clear hHeld; go_wp2; have hI2 : cI w0 M gm ga x (bxP g3 g4 g5 gm but (yd (.slice (some ⟨bb, off, none⟩) n c) b v S)) l N0 Xp (k + 1, m) _ := ⟨by show k + 1 ≤ _; omega, HG.out.mono (by show N0 + k ≤ N0 + (k + 1); omega), X, hskip k m X hlt (by rw [← HZ]; exact he) HX.out, sub_x (zm HST.out hX)⟩; have hR2 := hR _ _ HR.out (zP HST.out hX); gi_wp2; go_roundw
    case rel => exact ⟨k + 1, m, by go_num, hI2, hR2⟩
    case measure => simp [intOf]; omega
   ·have d1 : (z.1 != but) = true := by simpa using he
    have hX := hs3.drew; clear hs3; refine region_last3 (S := (fun w' => (yn 3 ⟨g6, 0, none⟩).run Tryz.prog w' = .ok (.int .i64 z.1) w' ∧ (yn 3 ⟨g5, 0, none⟩).run Tryz.prog w' = .ok (.int .i64 but) w' ∧ (yn 83 ⟨g6, 0, none⟩).run Tryz.prog w' = .ok (.agg (List.toArray [.int .i64 z.1, .int .i64 z.2])) w' ∧ (yn 24 ⟨g3, 0, none⟩).run Tryz.prog w' = .ok (.pointer (some ⟨gm, 0, none⟩)) w' ∧ (yn 32 ⟨g4, 3, none⟩).run Tryz.prog w' = .ok (.agg (List.toArray (yb S))) w')) (by kernel_rfl) rfl rfl rfl (by kernel_rfl) (by kernel_rfl) (by kernel_rfl) (by exact ⟨Loads.blk (T := 3) hX TyS.out (zR zH) rfl, Loads.blk (T := 3) hX TyS.out (zR (zT zH)) rfl, Loads.blkA (T := 83) (vs := [.int .i64 z.1, .int .i64 z.2]) hX (TyA.out (n := 2)) (zR zH) (rfl), Loads.blk (T := 24) hX TyS.out (zR (zT (zT (zT zH)))) rfl, Loads.blkA (T := 32) (vs := yb S) hX ((by rw [HL.out.v]; exact TyA.out)) (zR (zT (zT zH))) (qu _ _ _ _)⟩) (fun hHeld => ?_); simp only [List.pop_toArray, List.dropLast, List.size_toArray, List.length_cons, List.length_nil]; refine jt 0 (h:=jt 2 (h:=jt 1 (h:=jt 3 (h:=jt 4 (h:=jt 5 (h:=jt 6 (h:=jt 7 (h:=jt 8 (h:=jt 9 (h:=jt 10 (h:=?_))))))))))); refine yF 11 (h0:=fun K hK => ?_); go_simp; go_at_call 118; refine (look_any (gm := gm) hX HG.out (by omega) z.1 z.2 S HL.out).mono ?_; rintro _ w5 ⟨u, rfl, h4⟩; have hE := h4; clear h4; refine kD hK ⟨Loads.blk (T := 3) hE TyS.out (zT (zR zH)) rfl, Loads.blk (T := 3) hE TyS.out (zT (zR (zT zH))) rfl, Loads.blkA (T := 83) (vs := [.int .i64 z.1, .int .i64 z.2]) hE (TyA.out (n := 2)) (zT (zR zH)) (rfl), Loads.blk (T := 24) hE TyS.out (zT (zR (zT (zT (zT zH))))) rfl, Loads.blkA (T := 32) (vs := yb S) hE ((by rw [HL.out.v]; exact TyA.out)) (zT (zR (zT (zT zH)))) (qu _ _ _ _)⟩ (h:=fun hHeld => ?_); refine jn ?_; clear hHeld; have hR2 := hR _ _ HR.out (zP HST.out hE); have hY0 : cY w0 M gm ga x (bxP g3 g4 g5 gm but (yd (.slice (some ⟨bb, off, none⟩) n c) b v S)) l but S N0 Xp ⟨k, m, u⟩ _ := ⟨by show k < _; omega, by show (l.getD k (0, 0)).1 ≠ but; rw [← HZ]; exact he, HG.out, X, HX.out, (by
     have h := sub_x (A := .rowP yP u _ 1 _ _ :: mP gm ga x _) (zm HST.out hE); unfold YV.B YV.next YV.pl; dsimp only; rw [← HZ]; exact h)⟩
    obtain ⟨fn, tmps, assign, body, hy, hRR⟩ := hY _ _ hY0 hR2; unfold cE YV.pl at hy; dsimp only at hy; rw [← HZ] at hy; refine jp ?_; refine QLI_intro ?_; gi_wp2; refine hRR.mono ?_; rintro e W3 (⟨rfl, ⟨s, hns, hI3⟩, hR3⟩ | ⟨rfl, hJ⟩)
    ·gi_wp2; refine QLI_intro ?_; gi_wp2; refine QLI_intro ?_; gi_wp2; go_roundw
     case rel =>
      refine ⟨k + 1, s.2, by go_num, ?_, hR3⟩; unfold cN at hns; subst hns; exact hI3
     case measure => simp [intOf]; omega
    ·gi_wp2; refine QLI_intro ?_; gi_wp2; refine QLI_intro ?_; gi_wp2; refine bodyPost_ret (results_none rfl _ _ _) rfl ?_; exact ⟨⟨_, rfl⟩, .inr hJ⟩
  ·have d0 : decide ((k : Int) < (n : Int)) = false := zF (by omega); gi_wp2; go_end0; exact ⟨⟨_, rfl⟩, .inl ⟨(k, m), by show k = l.length; have := hI1.1; have : k ≤ l.length := this; omega, hI1, hR1⟩⟩
end
end
section
open Go.RowKit Hp
theorem nothing_any (sv : Value) (b l : Int) (S : List UInt8) (w : World) (hS : L32 S) :
  Calls Tryz.prog 142 #[.agg (yd sv b l S).toArray] w fun e w' => e = .returned (.bool (nothingB b l S)) ∧ St w [] w' [] := by
 go_enter Tryz.func142, Tryz.ntmps142; have hst := St.refl w; go_wp2_with (first | go_big_skip | go_big_guard | (refine zj hst fun g w1 hst1 => ?_; clear hst) | (refine jl (Loads.at [] hst1 rfl) ?_) | (refine jl (yl (yb S) [] hst1 (hS.v) (qu _ _ _ _)) ?_) | (refine jP rfl rfl ?_) | (refine wl_eql_bytes rfl rfl rfl rfl (hS.two L32.nones) ?_)); all_goals (go_ret; exact ⟨zO (by simp [nothingB, *]), hst1.nil⟩)
theorem hole_any (ao : Option Addr) (n c : Nat) (b l : Int) (S : List UInt8) (w : World) (hS : L32 S) :
  Calls Tryz.prog 96 #[.agg (yd (.slice ao n c) b l S).toArray] w fun e w' => e = .returned (.bool (qM n b l S)) ∧ St w [] w' [] := by
 go_enter Tryz.func96, Tryz.ntmps96; have hst := St.refl w; go_wp2_with (first | go_big_skip | go_big_guard | (refine zj hst fun g w1 hst1 => ?_; clear hst) | (refine jl (Loads.at [] hst1 rfl) ?_) | (refine jl (yl (yd (.slice ao n c) b l S) [] hst1 (yo hS _ _ _) (yz _ _ _ _)) ?_) | (go_at_call 142; refine (nothing_any _ _ _ _ _ hS).mono ?_; rintro _ _ ⟨rfl, hcall⟩; replace hst1 := St.call0 hst1 hcall; clear hcall)); all_goals (go_ret; exact ⟨zO (by grind [qM]), hst1.nil⟩)
theorem refHole_any (ao : Option Addr) (n c : Nat) (b l : Int) (S : List UInt8) (w : World) (hS : L32 S) :
  Calls Tryz.prog 150 #[.agg (yd (.slice ao n c) b l S).toArray] w fun e w' => e = .returned (.bool (qM n b l S)) ∧ St w [] w' [] := by
 go_enter Tryz.func150, Tryz.ntmps150; have hst := St.refl w; go_wp2_with (first | go_big_skip | go_big_guard | (refine zj hst fun g w1 hst1 => ?_; clear hst) | (refine jl (Loads.at [] hst1 rfl) ?_) | (refine jl (yl (yb S) [] hst1 (hS.v) (qu _ _ _ _)) ?_) | (refine jP rfl rfl ?_) | (refine wl_eql_bytes rfl rfl rfl rfl (hS.two L32.nones) ?_)); all_goals (go_ret; exact ⟨zO (by grind [qM, nothingB]), hst1.nil⟩)
theorem may_any (ao : Option Addr) (n c : Nat) (l : List (Int × Int)) (w : World) (hA : Rd w (.slice ao n c) 2 n (yu l)) (hn : l.length = n) :
  Calls Tryz.prog 141 #[.slice ao n c] w fun e w' => e = .returned (.bool (qW l)) ∧ St w [] w' [] := by
 have hbd := hA.bd; have hbd1 := hbd.1; have hbd2 := hbd.2.1; clear hbd; have Hn := ya hn; clear hn; go_enter Tryz.func141, Tryz.ntmps141; have hst := St.refl w; go_wp2_with (first | go_big_skip | go_big_guard | (refine yN hst fun g w1 hst1 => ?_; clear hst)); go_loopw [8] (fun i wr => ∃ k : Nat, k ≤ n ∧ i = .int .i64 k ∧ okP l k = true ∧ St w [] wr [.blk g 204 (seenV (l.take k))]) (fun i _ => n - (intOf i).toNat)
 case atStart => exact ⟨0, Nat.zero_le _, rfl, okP_zero l, hst1⟩
 case round =>
  obtain ⟨k, hk, rfl, hok, hst2⟩ := hrel; clear hst1; by_cases hlt : k < n
  ·obtain ⟨b, off, rfl, hr⟩ := hA.at hlt; obtain ⟨x, hx⟩ : ∃ x, x = l.getD k (0, 0) := ⟨_, rfl⟩; have hb := z7 hr (k := k) (by rw [Hn]; exact hlt); rw [← hx] at hb; have Hx := ya hx; clear hx; have Hok := ya hok; clear hok; go_wp2_with (first | go_big_skip | go_big_guard | (refine yA (hlt) ?_) | (refine jl (zf hst2 rfl (hb)) ?_) | (refine yN hst2 fun ga w3 hst3 => ?_; clear hst2) | (refine ye [] hst3 rfl rfl rfl (v := .agg (List.toArray _)) rfl rfl rfl ?_ ?_; (exact Nat.le_refl _); intro w4 hst4; clear hst3; (simp [yw] at hst4)) | (refine ye [_] hst4 rfl rfl rfl (v := .bool _) rfl rfl rfl ?_ ?_; ((rw [length_seenV]; show x.fst.toNat + 1 ≤ 8; omega)); intro w5 hst5; clear hst4; (skip)) | (refine jl (Loads.at [] hst4 rfl) ?_) | (refine jl (Loads.at [_] hst4 (seenV_get _ (by omega))) ?_)); all_goals first
    | (go_ret; exact ⟨zO (may_stop1 (by rw [Hn]; exact hlt) Hx.out (by omega)).symm, hst4.nil⟩)
    | (go_ret; exact ⟨zO (may_stop2 (by rw [Hn]; exact hlt) Hx.out (by omega) (by assumption)).symm, hst4.nil⟩)
    | (have hgo := may_go (by rw [Hn]; exact hlt) Hx.out Hok.out (by omega) (by omega) (by omega) (by omega) (by assumption)
       go_roundw
       case rel => exact ⟨k + 1, by omega, by go_num, hgo.1, by rw [← hgo.2]; exact hst5.sub zA⟩
       case measure => simp [intOf]; omega)
    | skip
   go_goals
   go_ways
  ·have hkn : k = n := by omega
   have hme := may_end (l := l) (k := k) (by rw [Hn]; omega) hok; rw [Hn] at hme; have Hm := ya hme; clear hme hok; go_wp2_with (first | go_big_skip | go_big_guard | fail); all_goals (go_ret; exact ⟨zO (by rw [Hm]; grind), hst2.nil⟩)
theorem refAddrs_any (ao : Option Addr) (n c : Nat) (l : List (Int × Int)) (w : World) (hA : Rd w (.slice ao n c) 2 n (yu l)) (hn : l.length = n) :
  Calls Tryz.prog 151 #[.slice ao n c] w fun e w' => e = .returned (.bool (qW l)) ∧ St w [] w' [] := by
 have hbd := hA.bd; have hbd1 := hbd.1; have hbd2 := hbd.2.1; clear hbd; have Hn := ya hn; clear hn; go_enter Tryz.func151, Tryz.ntmps151; have hst := St.refl w; go_wp2_with (first | go_big_skip | go_big_guard | fail); go_loopw [3] (fun i wr => ∃ k : Nat, k ≤ n ∧ i = .int .i64 k ∧ okP l k = true ∧ St w [] wr []) (fun i _ => n - (intOf i).toNat)
 case atStart => exact ⟨0, Nat.zero_le _, rfl, okP_zero l, hst⟩
 case round =>
  obtain ⟨k, hk, rfl, hok, hst2⟩ := hrel; clear hst; by_cases hlt : k < n
  ·obtain ⟨b, off, rfl, hr⟩ := hA.at hlt; obtain ⟨x, hx⟩ : ∃ x, x = l.getD k (0, 0) := ⟨_, rfl⟩; have hb1 := addr_dev hr (k := k) (by rw [Hn]; exact hlt); have hb2 := addr_at hr (k := k) (by rw [Hn]; exact hlt); rw [← hx] at hb1 hb2; have Hb1 := ya hb1; clear hb1; have Hb2 := ya hb2; clear hb2; have Hx := ya hx; clear hx; have Hok := ya hok; clear hok; go_wp2_with (first | go_big_skip | go_big_guard | (refine yA (hlt) ?_) | (refine jl (Loads.old hst2 (Hb1.out)) ?_) | (refine jl (Loads.old hst2 (Hb2.out)) ?_)); all_goals first
    | (go_ret; exact ⟨zO (may_stop1 (by rw [Hn]; exact hlt) Hx.out (by omega)).symm, hst2.nil⟩)
    | skip
   obtain ⟨wo, hwo⟩ : ∃ wo, wo = wr := ⟨_, rfl⟩; subst hwo; go_loopw [4] (fun j wi => ∃ t : Nat, t ≤ k ∧ j = .int .i64 t ∧ Hid (∀ q, q < t → (l.getD q (0, 0)).1 ≠ x.1) ∧ St w [] wi []) (fun j _ => k - (intOf j).toNat)
   case atStart => exact ⟨0, Nat.zero_le _, rfl, ya (fun q hq => by omega), hst2⟩
   case round =>
    obtain ⟨t, ht, rfl, hno, hst3⟩ := hrel; clear hst2; by_cases htk : t < k
    ·obtain ⟨y, hy⟩ : ∃ y, y = l.getD t (0, 0) := ⟨_, rfl⟩; have hc1 := hst3.old_cell (addr_dev hr (k := t) (by rw [Hn]; omega)) (by simp); have hc2 := hst3.old_cell Hb1.out (by simp); rw [← hy] at hc1; have Hy := ya hy; clear hy; have htn : t < n := by omega
     go_wp2_with (first | go_big_skip | go_big_guard | fail)
     go_quiet (fail)
     go_wp2_with (first | go_big_skip | go_big_guard | fail)
     ·go_ret; exact ⟨zO (addrs_stop (by rw [Hn]; exact hlt) Hx.out htk (by rw [← Hy]; grind)).symm, (hst3.drewN _).nil⟩
     ·go_roundw
      case rel =>
       refine ⟨t + 1, by omega, by go_num, ya (fun q hq => ?_), hst3.drewN _⟩; rcases Nat.lt_or_eq_of_le (Nat.le_of_lt_succ hq) with h | rfl
       ·exact hno.out q h
       ·rw [← Hy]; grind
      case measure => simp [intOf]; omega
    ·have htk' : t = k := by omega
     subst htk'; have hgo := ya (addrs_go (by rw [Hn]; exact hlt) Hx.out Hok.out (by omega) (by omega) (by omega) (by omega) hno.out); go_wp2_with (first | go_big_skip | go_big_guard | fail); go_roundw
     case rel => exact ⟨t + 1, by omega, by go_num, hgo.out, hst3⟩
     case measure => simp [intOf]; omega
  ·have hkn : k = n := by omega
   have hme := may_end (l := l) (k := k) (by rw [Hn]; omega) hok; rw [Hn] at hme; have Hm := ya hme; clear hme hok; go_wp2_with (first | go_big_skip | go_big_guard | fail); all_goals (go_ret; exact ⟨zO (by rw [Hm]; grind), hst2.nil⟩)
theorem sameAddrs_any (ao ao' : Option Addr) (n c n' c' : Nat) (l r : List (Int × Int)) (w : World) (hA : Rd w (.slice ao n c) 2 n (yu l)) (hn : l.length = n) (hB : Rd w (.slice ao' n' c') 2 n' (yu r)) (hn' : r.length = n') :
  Calls Tryz.prog 135 #[.slice ao n c, .slice ao' n' c'] w fun e w' => e = .returned (.bool (l == r)) ∧ St w [] w' [] := by
 have hbd1 := hA.bd.1; have hbd2 := hA.bd.2.1; have hbd3 := hB.bd.1; have hbd4 := hB.bd.2.1; have Hn := ya hn; clear hn; have Hn' := ya hn'; clear hn'; have hst := St.refl w; by_cases hnn : n = n'; rotate_left
 ·have hne := ya (addrs_len_ne (l := l) (k := r) (by rw [Hn, Hn']; exact hnn)); go_enter Tryz.func135, Tryz.ntmps135; go_wp2_with (first | go_big_skip | go_big_guard | fail); go_ret; exact ⟨zO hne.out.symm, hst⟩
 subst hnn; go_enter Tryz.func135, Tryz.ntmps135; go_wp2_with (first | go_big_skip | go_big_guard | fail); go_loopw [5] (fun i wr => ∃ k : Nat, k ≤ n ∧ i = .int .i64 k ∧ Hid (∀ q, q < k → l.getD q (0, 0) = r.getD q (0, 0)) ∧ St w [] wr []) (fun i _ => n - (intOf i).toNat)
 case atStart => exact ⟨0, Nat.zero_le _, rfl, ya (fun q hq => by omega), hst⟩
 case round =>
  obtain ⟨k, hk, rfl, hq, hst2⟩ := hrel; clear hst; by_cases hlt : k < n
  ·obtain ⟨b, off, rfl, hr⟩ := hA.at hlt; obtain ⟨b', off', rfl, hr'⟩ := hB.at hlt; obtain ⟨x, hx⟩ : ∃ x, x = l.getD k (0, 0) := ⟨_, rfl⟩; obtain ⟨y, hy⟩ : ∃ y, y = r.getD k (0, 0) := ⟨_, rfl⟩; have hc1 := hst2.old_cell (addr_dev hr (k := k) (by rw [Hn]; omega)) (by simp); have hc2 := hst2.old_cell (addr_at hr (k := k) (by rw [Hn]; omega)) (by simp); have hc3 := hst2.old_cell (addr_dev hr' (k := k) (by rw [Hn']; omega)) (by simp); have hc4 := hst2.old_cell (addr_at hr' (k := k) (by rw [Hn']; omega)) (by simp); rw [← hx] at hc1 hc2; rw [← hy] at hc3 hc4; have Hx := ya hx; clear hx; have Hy := ya hy; clear hy; go_wp2_with (first | go_big_skip | go_big_guard | fail)
   go_quiet (fail)
   go_wp2_with (first | go_big_skip | go_big_guard | fail)
   ·go_ret; exact ⟨zO (addrs_ne (q := k) (by rw [← Hx, ← Hy]; exact pair_ne (by assumption))).symm, hst2.drewN _⟩
   ·go_roundw
    case rel =>
     refine ⟨k + 1, by omega, by go_num, ya (fun q hqk => ?_), hst2.drewN _⟩; rcases Nat.lt_or_eq_of_le (Nat.le_of_lt_succ hqk) with h | rfl
     ·exact hq.out q h
     ·rw [← Hx, ← Hy]; exact pair_ext (by assumption)
    case measure => simp [intOf]; omega
  ·have hkn : k = n := by omega
   have hall := ya (addrs_ext (l := l) (k := r) (by rw [Hn, Hn']) (fun q hql => hq.out q (by rw [Hn] at hql; omega))); go_wp2_with (first | go_big_skip | go_big_guard | fail); go_ret; exact ⟨zO (by rw [hall.out]; simp), hst2⟩
section
variable (ao : Option Addr) (n c : Nat) (l : List (Int × Int)) (b v : Int) (S : List UInt8) (w : World) (hS : L32 S) (hA : Rd w (.slice ao n c) 2 n (yu l)) (hn : l.length = n)
include ao n c l b v S w hS hA hn
theorem check_any :
  Calls Tryz.prog 95 #[.agg (yd (.slice ao n c) b v S).toArray] w fun e w' => e = .returned (.int .i64 (jo l b v S)) ∧ St w [] w' [] := by
 have Hn := ya hn; clear hn; go_enter Tryz.func95, Tryz.ntmps95; have hst := St.refl w; go_wp2_with (first | go_big_skip | go_big_guard | (refine zj hst fun g w1 hst1 => ?_; clear hst) | (refine jl (Loads.at [] hst1 rfl) ?_) | (refine jl (yl (yd (.slice ao n c) b v S) [] hst1 (yo hS _ _ _) (yz _ _ _ _)) ?_) | (go_at_call 96; refine (hole_any _ _ _ _ _ _ _ hS).mono ?_; rintro _ _ ⟨rfl, hcall⟩; replace hst1 := St.call0 hst1 hcall; clear hcall) | (go_at_call 141; refine (may_any _ _ _ l _ (Rd.old hst1 hA) Hn.out).mono ?_; rintro _ _ ⟨rfl, hcall⟩; replace hst1 := St.call0 hst1 hcall; clear hcall)); all_goals (go_ret; exact ⟨ret_int (by have := Hn.out; unfold jo zQ; grind), hst1.nil⟩)
theorem yaJ :
  Calls Tryz.prog 120 #[.agg (yd (.slice ao n c) b v S).toArray] w fun e w' => e = .returned (.int .i64 (jo l b v S)) ∧ St w [] w' [] := by
 have Hn := ya hn; clear hn; go_enter Tryz.func120, Tryz.ntmps120; have hst := St.refl w; go_wp2_with (first | go_big_skip | go_big_guard | (refine zj hst fun g w1 hst1 => ?_; clear hst) | (refine jl (Loads.at [] hst1 rfl) ?_) | (refine jl (yl (yd (.slice ao n c) b v S) [] hst1 (yo hS _ _ _) (yz _ _ _ _)) ?_) | (go_at_call 150; refine (refHole_any _ _ _ _ _ _ _ hS).mono ?_; rintro _ _ ⟨rfl, hcall⟩; replace hst1 := St.call0 hst1 hcall; clear hcall) | (go_at_call 151; refine (refAddrs_any _ _ _ l _ (Rd.old hst1 hA) Hn.out).mono ?_; rintro _ _ ⟨rfl, hcall⟩; replace hst1 := St.call0 hst1 hcall; clear hcall)); all_goals (go_ret; exact ⟨ret_int (by have := Hn.out; unfold jo zQ; grind), hst1.nil⟩)
end
section
variable (ao ao' : Option Addr) (n c n' c' : Nat) (l r : List (Int × Int)) (b v b' v' : Int) (S S' : List UInt8) (w : World) (hS : L32 S) (hS' : L32 S')
 (hA : Rd w (.slice ao n c) 2 n (yu l)) (hn : l.length = n) (hB : Rd w (.slice ao' n' c') 2 n' (yu r)) (hn' : r.length = n')
include hS hS' hA hn hB hn'
theorem jN :
  Calls Tryz.prog 81 #[.agg (yd (.slice ao n c) b v S).toArray, .agg (yd (.slice ao' n' c') b' v' S').toArray] w fun e w' => e = .returned (.bool (sameB l r b v b' v' S S')) ∧ St w [] w' [] := by
 have Hn := ya hn; clear hn; have Hn' := ya hn'; clear hn'; go_enter Tryz.func81, Tryz.ntmps81; have hst := St.refl w; go_wp2_with (first | go_big_skip | go_big_guard | (refine zj hst fun g w1 hst1 => ?_; clear hst) | (refine zj hst1 fun g2 w2 hst2 => ?_; clear hst1) | (refine jl (Loads.at [] hst2 rfl) ?_) | (refine jl (Loads.at [_] hst2 rfl) ?_) | (refine jl (yl (yb S') [] hst2 (hS'.v) (qu _ _ _ _)) ?_) | (refine jl (yl (yb S) [_] hst2 (hS.v) (qu _ _ _ _)) ?_) | (go_at_call 135; refine (sameAddrs_any _ _ _ _ _ _ l r _ (Rd.old hst2 hA) Hn.out (Rd.old hst2 hB) Hn'.out).mono ?_; rintro _ _ ⟨rfl, hcall⟩; replace hst2 := St.call0 hst2 hcall; clear hcall) | (refine wl_eql_bytes rfl rfl rfl rfl (hS.two hS') ?_)); all_goals (go_ret; exact ⟨zO (by unfold sameB; grind), hst2.nil⟩)
end
end
section
open Go.RowKit Hp
attribute [local irreducible] Go.Calls Go.wpList
section
variable {w : World} {gm ga : Nat} {x : GA} {m : MV} (h : MirAt w gm ga x m) (ao : Option Addr) (n c : Nat) (l : List (Int × Int)) (b v : Int) (S : List UInt8) (hL : L32 S) (hA : Rd w (.slice ao n c) 2 n (yu l)) (hn : l.length = n)
include h ao n c l b v S hL hA hn
theorem asked_odd (h1 : zQ l b v S = false) :
  Calls Tryz.prog 41 #[PM gm, .agg (yd (.slice ao n c) b v S).toArray] w fun e w' => e = .returned (.int .i64 (m.askE ⟨.slice ao n c, l, b, v, S⟩)) ∧ St w [] w' [] := by
 have ha : m.askE ⟨.slice ao n c, l, b, v, S⟩ = 2 := by
  unfold MV.askE PV.ok PV.hole; dsimp only; rw [h1]; rfl
 rw [ha]; have hst := St.refl w; have H := ya h; have HL := ya hL; have HA := ya hA; have HN := ya hn; have HC : Hid (jo l b v S = 2) := ya (by unfold jo; rw [h1]; rfl); clear h hL hA hn ha h1; unfold PM; go_enter Tryz.func41, Tryz.ntmps41; go_wp2_with (first | (refine zj hst fun g3 w1 hst1 => ?_; clear hst) | (go_at_call 62; refine jc hst1 (zM (MirAt.later hst1 H.out)) fun w2 hst1 => ?_) | (refine jl (Loads.at [] hst1 rfl) ?_) | (refine jl (yl (yd (.slice ao n c) b v S) [] hst1 (yo HL.out _ _ _) (yz _ _ _ _)) ?_) | (go_at_call 95; have HD := check_any ao n c l b v S _ HL.out (Rd.old hst1 HA.out) HN.out; rw [HC] at HD; refine HD.mono ?_; clear HD; rintro _ w2 ⟨rfl, h4⟩; replace hst1 := St.call0 hst1 h4; clear h4)); go_ret; exact ⟨rfl, hst1.nil⟩
theorem asked_hole (h1 : zQ l b v S = true) (h2 : qM n b v S = true) :
  Calls Tryz.prog 41 #[PM gm, .agg (yd (.slice ao n c) b v S).toArray] w fun e w' => e = .returned (.int .i64 (m.askE ⟨.slice ao n c, l, b, v, S⟩)) ∧ St w [] w' [] := by
 have ha : m.askE ⟨.slice ao n c, l, b, v, S⟩ = 2 := by
  unfold MV.askE PV.ok PV.hole; dsimp only; rw [h1, hn, h2]; rfl
 rw [ha]; have hst := St.refl w; have H := ya h; have HL := ya hL; have HA := ya hA; have HN := ya hn; have HC : Hid (jo l b v S = 0) := ya (by unfold jo; rw [h1]; rfl); have HH := ya h2; clear h hL hA hn ha h1 h2; unfold PM; go_enter Tryz.func41, Tryz.ntmps41; go_wp2_with (first | (refine zj hst fun g3 w1 hst1 => ?_; clear hst) | (go_at_call 62; refine jc hst1 (zM (MirAt.later hst1 H.out)) fun w2 hst1 => ?_) | (refine jl (Loads.at [] hst1 rfl) ?_) | (refine jl (yl (yd (.slice ao n c) b v S) [] hst1 (yo HL.out _ _ _) (yz _ _ _ _)) ?_) | (go_at_call 95; have HD := check_any ao n c l b v S _ HL.out (Rd.old hst1 HA.out) HN.out; rw [HC] at HD; refine HD.mono ?_; clear HD; rintro _ w2 ⟨rfl, h4⟩; replace hst1 := St.call0 hst1 h4; clear h4) | (go_at_call 96; refine (hole_any ao n c b v S _ HL.out).mono ?_; rw [HH]; rintro _ w3 ⟨rfl, h4⟩; replace hst1 := St.call0 hst1 h4; clear h4)); go_ret; exact ⟨rfl, hst1.nil⟩
theorem asked_off (h1 : zQ l b v S = true) (h2 : qM n b v S = false) (h3 : m.lies l = false) :
  Calls Tryz.prog 41 #[PM gm, .agg (yd (.slice ao n c) b v S).toArray] w fun e w' => e = .returned (.int .i64 (m.askE ⟨.slice ao n c, l, b, v, S⟩)) ∧ St w [] w' [] := by
 have ha : m.askE ⟨.slice ao n c, l, b, v, S⟩ = 2 := by
  unfold MV.askE PV.ok PV.hole; dsimp only; rw [h1, hn, h2, h3]; rfl
 rw [ha]; have hst := St.refl w; have H := ya h; have HL := ya hL; have HA := ya hA; have HN := ya hn; have HC : Hid (jo l b v S = 0) := ya (by unfold jo; rw [h1]; rfl); have HH := ya h2; have HS := ya h3; clear h hL hA hn ha h1 h2 h3; unfold PM; go_enter Tryz.func41, Tryz.ntmps41; go_wp2_with (first | (refine zj hst fun g3 w1 hst1 => ?_; clear hst) | (go_at_call 62; refine jc hst1 (zM (MirAt.later hst1 H.out)) fun w2 hst1 => ?_) | (refine jl (Loads.at [] hst1 rfl) ?_) | (refine jl (yl (yd (.slice ao n c) b v S) [] hst1 (yo HL.out _ _ _) (yz _ _ _ _)) ?_) | (go_at_call 95; have HD := check_any ao n c l b v S _ HL.out (Rd.old hst1 HA.out) HN.out; rw [HC] at HD; refine HD.mono ?_; clear HD; rintro _ w2 ⟨rfl, h4⟩; replace hst1 := St.call0 hst1 h4; clear h4) | (go_at_call 96; refine (hole_any ao n c b v S _ HL.out).mono ?_; rw [HH]; rintro _ w3 ⟨rfl, h4⟩; replace hst1 := St.call0 hst1 h4; clear h4) | (go_at_call 63; have HD := qT (MirAt.later hst1 H.out) ao n c l (Rd.old hst1 HA.out) HN.out; rw [HS] at HD; refine HD.mono ?_; clear HD; rintro _ w3 ⟨rfl, h4⟩; replace hst1 := St.call0 hst1 h4; clear h4)); go_ret; exact ⟨rfl, hst1.nil⟩
theorem asked_ok (h1 : zQ l b v S = true) (h2 : qM n b v S = false) (h3 : m.lies l = true) :
  Calls Tryz.prog 41 #[PM gm, .agg (yd (.slice ao n c) b v S).toArray] w fun e w' => e = .returned (.int .i64 (m.askE ⟨.slice ao n c, l, b, v, S⟩)) ∧ St w [] w' [] := by
 have ha : m.askE ⟨.slice ao n c, l, b, v, S⟩ = 0 := by
  unfold MV.askE PV.ok PV.hole; dsimp only; rw [h1, hn, h2, h3]; rfl
 rw [ha]; have hst := St.refl w; have H := ya h; have HL := ya hL; have HA := ya hA; have HN := ya hn; have HC : Hid (jo l b v S = 0) := ya (by unfold jo; rw [h1]; rfl); have HH := ya h2; have HS := ya h3; clear h hL hA hn ha h1 h2 h3; unfold PM; go_enter Tryz.func41, Tryz.ntmps41; go_wp2_with (first | (refine zj hst fun g3 w1 hst1 => ?_; clear hst) | (go_at_call 62; refine jc hst1 (zM (MirAt.later hst1 H.out)) fun w2 hst1 => ?_) | (refine jl (Loads.at [] hst1 rfl) ?_) | (refine jl (yl (yd (.slice ao n c) b v S) [] hst1 (yo HL.out _ _ _) (yz _ _ _ _)) ?_) | (go_at_call 95; have HD := check_any ao n c l b v S _ HL.out (Rd.old hst1 HA.out) HN.out; rw [HC] at HD; refine HD.mono ?_; clear HD; rintro _ w2 ⟨rfl, h4⟩; replace hst1 := St.call0 hst1 h4; clear h4) | (go_at_call 96; refine (hole_any ao n c b v S _ HL.out).mono ?_; rw [HH]; rintro _ w3 ⟨rfl, h4⟩; replace hst1 := St.call0 hst1 h4; clear h4) | (go_at_call 63; have HD := qT (MirAt.later hst1 H.out) ao n c l (Rd.old hst1 HA.out) HN.out; rw [HS] at HD; refine HD.mono ?_; clear HD; rintro _ w3 ⟨rfl, h4⟩; replace hst1 := St.call0 hst1 h4; clear h4)); go_ret; exact ⟨rfl, hst1.nil⟩
theorem ql :
  Calls Tryz.prog 41 #[PM gm, .agg (yd (.slice ao n c) b v S).toArray] w fun e w' => e = .returned (.int .i64 (m.askE ⟨.slice ao n c, l, b, v, S⟩)) ∧ St w [] w' [] := by
 cases h1 : zQ l b v S
 ·exact asked_odd h ao n c l b v S hL hA hn h1
 cases h2 : qM n b v S
 ·cases h3 : m.lies l
  ·exact asked_off h ao n c l b v S hL hA hn h1 h2 h3
  ·exact asked_ok h ao n c l b v S hL hA hn h1 h2 h3
 ·exact asked_hole h ao n c l b v S hL hA hn h1 h2
end
end
end Go.Proofs.YtmdfbdfijnmhkaaGreat
