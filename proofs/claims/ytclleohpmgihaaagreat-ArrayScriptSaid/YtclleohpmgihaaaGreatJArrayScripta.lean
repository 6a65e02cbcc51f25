/- The reference's array: Flush, Pull. -/
import Derived.Test.YtclleohpmgihaaaGreatR25
import Derived.Test.YtclleohpmgihaaaGreatR37
import Derived.Test.YtclleohpmgihaaaGreatR29
namespace Go.Proofs.YtclleohpmgihaaaGreat
set_option linter.unusedVariables false
set_option linter.unusedSimpArgs false
open Go.RowKit Hp
attribute [local irreducible] Go.Calls Go.wpList
set_option maxRecDepth 100000
set_option maxHeartbeats 4000000
def BB (b : UInt8) : List UInt8 := List.replicate 256 b
theorem BB_len (b : UInt8) : (BB b).length = 256 := List.length_replicate
def K0 (p q : Nat) : AR := newA 8 [p, q]
def K1 (p q : Nat) : AR := (K0 p q).write 0 5 (BB 1)
def K2 (p q : Nat) : AR := (K1 p q).crash [] 0
def K3 (p q : Nat) : AR := (K2 p q).write 0 5 (BB 1)
def K4 (p q : Nat) : AR := (K3 p q).flush 0
def K5 (p q : Nat) : AR := (K4 p q).lose 0
def K6 (p q : Nat) : AR := (K5 p q).write 0 5 (BB 2)
theorem K0_ok (p q : Nat) : (K0 p q).Ok := newA_ok ⟨by show 1 ≤ 2; decide, by show 2 ≤ 8; decide⟩ (by decide)
theorem K1_ok (p q : Nat) : (K1 p q).Ok := (K0_ok p q).write _ _ _
theorem K2_ok (p q : Nat) : (K2 p q).Ok := (K1_ok p q).crash _ _
theorem K3_ok (p q : Nat) : (K3 p q).Ok := (K2_ok p q).write _ _ _
theorem K4_ok (p q : Nat) : (K4 p q).Ok := (K3_ok p q).flush _
theorem K5_ok (p q : Nat) : (K5 p q).Ok := (K4_ok p q).lose _
theorem K6_ok (p q : Nat) : (K6 p q).Ok := (K5_ok p q).write _ _ _
theorem K0_ll (p q : Nat) : (K0 p q).loose.length = 0 := by kernel_rfl
theorem K0_st (p q : Nat) : (K0 p q).steps = 0 := by kernel_rfl
theorem K1_ll (p q : Nat) : (K1 p q).loose.length = 1 := by kernel_rfl
theorem K1_st (p q : Nat) : (K1 p q).steps = 1 := by kernel_rfl
theorem K2_ll (p q : Nat) : (K2 p q).loose.length = 0 := by kernel_rfl
theorem K2_st (p q : Nat) : (K2 p q).steps = 1 := by kernel_rfl
theorem K3_ll (p q : Nat) : (K3 p q).loose.length = 1 := by kernel_rfl
theorem K3_st (p q : Nat) : (K3 p q).steps = 2 := by kernel_rfl
theorem K4_ll (p q : Nat) : (K4 p q).loose.length = 0 := by kernel_rfl
theorem K4_st (p q : Nat) : (K4 p q).steps = 3 := by kernel_rfl
theorem K5_ll (p q : Nat) : (K5 p q).loose.length = 0 := by kernel_rfl
theorem K5_st (p q : Nat) : (K5 p q).steps = 3 := by kernel_rfl
theorem K6_ll (p q : Nat) : (K6 p q).loose.length = 0 := by kernel_rfl
theorem K6_st (p q : Nat) : (K6 p q).steps = 4 := by kernel_rfl
theorem K0_w (p q : Nat) : (K0 p q).writeE 0 5 (BB 1) = 0 := by kernel_rfl
theorem K2_w (p q : Nat) : (K2 p q).writeE 0 5 (BB 1) = 0 := by kernel_rfl
theorem K5_w (p q : Nat) : (K5 p q).writeE 0 5 (BB 2) = 0 := by kernel_rfl
theorem K1_r (p q : Nat) : ((K1 p q).readE 0 5 == 0 && (K1 p q).readB 0 5 == BB 1) = true := by kernel_rfl
theorem K1_rr (p q : Nat) : (K1 p q).read 0 5 = K1 p q := by kernel_rfl
theorem K2_r (p q : Nat) : ((K2 p q).readE 0 5 == 0 && (K2 p q).readB 0 5 == BB 0) = true := by kernel_rfl
theorem K2_rr (p q : Nat) : (K2 p q).read 0 5 = K2 p q := by kernel_rfl
theorem K6_r (p q : Nat) : ((K6 p q).readE 0 5 == 0 && (K6 p q).readB 0 5 == BB 1) = true := by kernel_rfl
theorem K6_rr (p q : Nat) : (K6 p q).read 0 5 = K6 p q := by kernel_rfl
theorem K1_c (p q : Nat) : (K1 p q).crashE 0 = 0 := by kernel_rfl
theorem K3_f (p q : Nat) : (K3 p q).flushE 0 = 0 := by kernel_rfl
theorem K4_l (p q : Nat) : (K4 p q).loseE 0 = 0 := by kernel_rfl
theorem awake_any (w : World) : Calls Tryz.prog 5 #[] w fun e w' => e = .returned (.bool true) ∧ St w [] w' [] := by
  have hst := St.refl w
  go_enter Tryz.func5, Tryz.ntmps5
  go_wp2_with (first | go_big_skip | go_big_guard | (go_at_call 10; refine (made2_any _).mono ?_; rintro _ w0 ⟨ga, x0, gs, rfl, hg, h4⟩; obtain ⟨p, q, rfl⟩ : ∃ p q, gs = [p, q] := (match gs, hg with | [p, q], _ => ⟨p, q, rfl⟩); have hs0 : St w [] w0 (arP ga x0 (K0 p q) ++ []) := St.call hst h4; clear h4 hg hst) | (go_at_call 12; refine (of_any 1 _).mono ?_; rintro _ w1 ⟨g1, rfl, h4⟩; have hs1 := St.behind (A := arP ga x0 (K0 p q)) (St.call hs0 h4); clear h4 hs0) | (go_at_call 11; refine (writeM_any (St.arr hs1) (K0_ok p q) (by rw [K0_st]; decide) (by rw [K0_ll]; decide) 0 5 (some ⟨g1, 0, none⟩) 256 256 (BB 1) (Rd.blk hs1 (List.mem_append_right _ (.head _)) (Nat.le_refl _) (by decide) (by rw [length_bytesV]; exact BB_len 1) (by rw [List.drop_zero]; exact List.take_length)) (BB_len 1) (off_behind hs1 (.head _) 0 256 256)).mono ?_; rw [K0_w]; rintro _ w2 ⟨rfl, x2, h4⟩; have hs2 : St w [] w2 (arP ga x2 (K1 p q) ++ _) := St.callF (arP ga x0 (K0 p q)) hs1 h4; clear h4 hs1) | (go_at_call 12; refine (of_any 1 _).mono ?_; rintro _ w3 ⟨g3, rfl, h4⟩; have hs3 := St.behind (A := arP ga x2 (K1 p q)) (St.call hs2 h4); clear h4 hs2) | (go_at_call 13; refine (reads_any (St.arr hs3) (K1_ok p q) (by rw [K1_ll]; decide) 0 5 (.slice (some ⟨g3, 0, none⟩) 256 256) 256 (BB 1) (Rd.blk hs3 (List.mem_append_right _ (.head _)) (Nat.le_refl _) (by decide) (by rw [length_bytesV]; exact BB_len 1) (by rw [List.drop_zero]; exact List.take_length)) (BB_len 1) (off_behind hs3 (.head _) 0 256 256)).mono ?_; rw [K1_r, K1_rr]; rintro _ w4 ⟨rfl, h4⟩; have hs4 : St w [] w4 (arP ga x2 (K1 p q) ++ _) := St.callF (arP ga x2 (K1 p q)) hs3 h4; clear h4 hs3) | (go_at_call 14; refine (loose_any (ArrAll.of hs4 (fun p hp => List.mem_append_left _ hp) (K1_ok p q).d0)).mono ?_; rw [K1_ll]; rintro _ w5 ⟨rfl, h4⟩; have hs5 := St.call0 hs4 h4; clear h4 hs4) | (go_at_call 15; refine (crashM_any (St.arr hs5) (K1_ok p q) (by rw [K1_ll]; decide) none 0 0 [] (Rd.nil _ _) rfl (Off.nil _ _ _) 0).mono ?_; rw [K1_c]; rintro _ w6 ⟨rfl, x6, h4⟩; have hs6 : St w [] w6 (arP ga x6 (K2 p q) ++ _) := St.callF (arP ga x2 (K1 p q)) hs5 h4; clear h4 hs5) | (go_at_call 12; refine (of_any 0 _).mono ?_; rintro _ w7 ⟨g7, rfl, h4⟩; have hs7 := St.behind (A := arP ga x6 (K2 p q)) (St.call hs6 h4); clear h4 hs6) | (go_at_call 13; refine (reads_any (St.arr hs7) (K2_ok p q) (by rw [K2_ll]; decide) 0 5 (.slice (some ⟨g7, 0, none⟩) 256 256) 256 (BB 0) (Rd.blk hs7 (List.mem_append_right _ (.head _)) (Nat.le_refl _) (by decide) (by rw [length_bytesV]; exact BB_len 0) (by rw [List.drop_zero]; exact List.take_length)) (BB_len 0) (off_behind hs7 (.head _) 0 256 256)).mono ?_; rw [K2_r, K2_rr]; rintro _ w8 ⟨rfl, h4⟩; have hs8 : St w [] w8 (arP ga x6 (K2 p q) ++ _) := St.callF (arP ga x6 (K2 p q)) hs7 h4; clear h4 hs7) | (go_at_call 12; refine (of_any 1 _).mono ?_; rintro _ w9 ⟨g9, rfl, h4⟩; have hs9 := St.behind (A := arP ga x6 (K2 p q)) (St.call hs8 h4); clear h4 hs8) | (go_at_call 11; refine (writeM_any (St.arr hs9) (K2_ok p q) (by rw [K2_st]; decide) (by rw [K2_ll]; decide) 0 5 (some ⟨g9, 0, none⟩) 256 256 (BB 1) (Rd.blk hs9 (List.mem_append_right _ (.head _)) (Nat.le_refl _) (by decide) (by rw [length_bytesV]; exact BB_len 1) (by rw [List.drop_zero]; exact List.take_length)) (BB_len 1) (off_behind hs9 (.head _) 0 256 256)).mono ?_; rw [K2_w]; rintro _ w10 ⟨rfl, x10, h4⟩; have hs10 : St w [] w10 (arP ga x10 (K3 p q) ++ _) := St.callF (arP ga x6 (K2 p q)) hs9 h4; clear h4 hs9) | (go_at_call 16; refine (flushM_any (St.arr hs10) (K3_ok p q) (by rw [K3_st]; decide) (by rw [K3_ll]; decide) 0).mono ?_; rw [K3_f]; rintro _ w11 ⟨rfl, x11, h4⟩; have hs11 : St w [] w11 (arP ga x11 (K4 p q) ++ _) := St.callF (arP ga x10 (K3 p q)) hs10 h4; clear h4 hs10) | (go_at_call 17; refine (loseM_any (St.arr hs11) (K4_ok p q) 0).mono ?_; rw [K4_l]; rintro _ w12 ⟨rfl, h4⟩; have hs12 : St w [] w12 (arP ga x11 (K5 p q) ++ _) := St.callF (arP ga x11 (K4 p q)) hs11 h4; clear h4 hs11) | (go_at_call 12; refine (of_any 2 _).mono ?_; rintro _ w13 ⟨g13, rfl, h4⟩; have hs13 := St.behind (A := arP ga x11 (K5 p q)) (St.call hs12 h4); clear h4 hs12) | (go_at_call 11; refine (writeM_any (St.arr hs13) (K5_ok p q) (by rw [K5_st]; decide) (by rw [K5_ll]; decide) 0 5 (some ⟨g13, 0, none⟩) 256 256 (BB 2) (Rd.blk hs13 (List.mem_append_right _ (.head _)) (Nat.le_refl _) (by decide) (by rw [length_bytesV]; exact BB_len 2) (by rw [List.drop_zero]; exact List.take_length)) (BB_len 2) (off_behind hs13 (.head _) 0 256 256)).mono ?_; rw [K5_w]; rintro _ w14 ⟨rfl, x14, h4⟩; have hs14 : St w [] w14 (arP ga x14 (K6 p q) ++ _) := St.callF (arP ga x11 (K5 p q)) hs13 h4; clear h4 hs13) | (go_at_call 12; refine (of_any 1 _).mono ?_; rintro _ w15 ⟨g15, rfl, h4⟩; have hs15 := St.behind (A := arP ga x14 (K6 p q)) (St.call hs14 h4); clear h4 hs14) | (go_at_call 13; refine (reads_any (St.arr hs15) (K6_ok p q) (by rw [K6_ll]; decide) 0 5 (.slice (some ⟨g15, 0, none⟩) 256 256) 256 (BB 1) (Rd.blk hs15 (List.mem_append_right _ (.head _)) (Nat.le_refl _) (by decide) (by rw [length_bytesV]; exact BB_len 1) (by rw [List.drop_zero]; exact List.take_length)) (BB_len 1) (off_behind hs15 (.head _) 0 256 256)).mono ?_; rw [K6_r, K6_rr]; rintro _ w16 ⟨rfl, h4⟩; have hs16 : St w [] w16 (arP ga x14 (K6 p q) ++ _) := St.callF (arP ga x14 (K6 p q)) hs15 h4; clear h4 hs15) | (go_at_call 18; refine (steps_any (ArrAt.of hs16 (fun p hp => List.mem_append_left _ hp) (K6_ok p q).d0)).mono ?_; rw [K6_st]; rintro _ w17 ⟨rfl, h4⟩; have hs17 := St.call0 hs16 h4; clear h4 hs16))
  go_ret
  exact ⟨rfl, hs17.nil⟩
end Go.Proofs.YtclleohpmgihaaaGreat
namespace Go.Proofs.YtclleohpmgihaaaGreat
set_option linter.unusedVariables false
set_option linter.unusedSimpArgs false
open Go.RowKit Hp
set_option maxRecDepth 100000
instance sSD : TySl Tryz.prog 54 60 := ⟨by kernel_rfl⟩
instance sSsD : TyS Tryz.prog 54 := ⟨by kernel_rfl⟩
instance sNsD : TyN Tryz.prog 54 1 := ⟨by kernel_rfl⟩
instance sAD : TyA Tryz.prog 60 5 := ⟨by kernel_rfl⟩
instance sND : TyN Tryz.prog 60 5 := ⟨by kernel_rfl⟩
instance sED : TyE Tryz.prog 60 5 56 := ⟨by kernel_rfl⟩
instance sZD : TyZ Tryz.prog 60 [.slice none 0 0, .bool false, .int .i64 0, .int .i64 0, .bool false] := ⟨by kernel_rfl⟩
instance sSW : TySl Tryz.prog 55 96 := ⟨by kernel_rfl⟩
instance sSsW : TyS Tryz.prog 55 := ⟨by kernel_rfl⟩
instance sNsW : TyN Tryz.prog 55 1 := ⟨by kernel_rfl⟩
instance sAW : TyA Tryz.prog 96 3 := ⟨by kernel_rfl⟩
instance sNW : TyN Tryz.prog 96 3 := ⟨by kernel_rfl⟩
instance sEW : TyE Tryz.prog 96 3 40 := ⟨by kernel_rfl⟩
instance sZW : TyZ Tryz.prog 96 [.int .i64 0, .int .i64 0, .slice none 0 0] := ⟨by kernel_rfl⟩
instance sAA : TyA Tryz.prog 57 6 := ⟨by kernel_rfl⟩
instance sNA : TyN Tryz.prog 57 6 := ⟨by kernel_rfl⟩
instance sZA : TyZ Tryz.prog 57 [.slice none 0 0, .int .i64 0, .slice none 0 0, .int .i64 0, .bool false, .int .i64 0] := ⟨by kernel_rfl⟩
instance sSS : TySl Tryz.prog 58 33 := ⟨by kernel_rfl⟩
instance sSsS : TyS Tryz.prog 58 := ⟨by kernel_rfl⟩
instance sNsS : TyN Tryz.prog 58 1 := ⟨by kernel_rfl⟩
instance sEB : TyE Tryz.prog 33 1 24 := ⟨by kernel_rfl⟩
instance sSB : TyS Tryz.prog 33 := ⟨by kernel_rfl⟩
instance sNB : TyN Tryz.prog 33 1 := ⟨by kernel_rfl⟩
instance sSp : TyS Tryz.prog 29 := ⟨by kernel_rfl⟩
/-- The sectors of a device, in memory: a block of slices. -/
structure FV where
  g : Nat
  cap : Nat
  sv : List Value
  rest : List Value
structure RDv where
  f : FV
  lo : Bool
  ay : Int
  fail : Int
  gone : Bool
structure RWv where
  dev : Nat
  pl : Nat
  bv : Value
structure RX where
  devs : List RDv
  many : Nat
  loose : List RWv
  left : Int
  out : Bool
  steps : Int
  gd : Nat
  cd : Nat
  rest : List Value
  lv : Value
  pool : List HA
def RDv.zero : RDv := ⟨⟨0, 0, [], []⟩, false, 0, 0, false⟩
def RDv.cells (d : RDv) : List Value := [.slice (some ⟨d.f.g, 0, none⟩) d.f.sv.length d.f.cap, .bool d.lo, .int .i64 d.ay, .int .i64 d.fail, .bool d.gone]
def RWv.cells (v : RWv) : List Value := [.int .i64 (v.dev : Int), .int .i64 (v.pl : Int), v.bv]
def RX.dv (x : RX) (k : Nat) : RDv := x.devs.getD k RDv.zero
def RX.upd (x : RX) (k : Nat) (f : RDv → RDv) : RX := { x with devs := x.devs.modify k f }
def fblk (d : RDv) : HA := .blk d.f.g 33 (d.f.sv ++ d.f.rest)
def RX.hdr (x : RX) : List Value := [.slice (some ⟨x.gd, 0, none⟩) x.devs.length x.cd, .int .i64 (x.many : Int), x.lv, .int .i64 x.left, .bool x.out, .int .i64 x.steps]
def RX.dc (x : RX) : List Value := x.devs.flatMap RDv.cells ++ x.rest
def RX.lc (x : RX) : List Value := x.loose.flatMap RWv.cells
def RX.tail (x : RX) : List HA := x.devs.map fblk ++ x.pool
/-- The pieces of memory that the array has. -/
def rxP (gr : Nat) (x : RX) : List HA := .blk gr 57 x.hdr :: .blk x.gd 60 x.dc :: .row x.lv 96 3 x.loose.length x.lc :: x.tail
/-- A slice of a sector's bytes. -/
def Sec (pool : List HA) (v : Value) (B : List UInt8) : Prop := HA.row v 5 1 256 (bytesV B) ∈ pool
structure DOk (pool : List HA) (d : DV) (r : RDv) : Prop where
  lo : r.lo = d.lo
  ay : r.ay = if d.st then d.to else -1
  fail : r.fail = d.fail
  gone : r.gone = d.gone
  len : r.f.sv.length = d.firm.length
  sec : ∀ s, s < d.firm.length → ∃ v, r.f.sv[s]? = some v ∧ Sec pool v (d.firm.getD s [])
/-- The reference's array is this one. -/
structure RefOk (a : AR) (x : RX) : Prop where
  dn : x.devs.length = a.devs.length
  dv : ∀ k : Nat, k < a.devs.length → DOk x.pool (a.dv (k : Int)) (x.dv k)
  mn : x.many = a.secs
  ln : x.loose.length = a.loose.length
  lw : ∀ (i : Nat) (v : LW), a.loose[i]? = some v → ∃ r, x.loose[i]? = some r ∧ r.dev = v.dev ∧ r.pl = v.pl ∧ Sec x.pool r.bv v.b
  left : x.left = a.fuse
  out : x.out = a.out
  steps : x.steps = a.steps
theorem RX.dget {x : RX} {k : Nat} (h : k < x.devs.length) : x.devs[k]? = some (x.dv k) := by
  unfold RX.dv
  rw [List.getD_eq_getElem?_getD, List.getElem?_eq_getElem h]
  rfl
theorem RX.dcell {x : RX} {k : Nat} (h : k < x.devs.length) {i : Nat} {v : Value} (hv : (x.dv k).cells[i]? = some v) (hi : i < 5) : x.dc[k * 5 + i]? = some v := by
  have h1 : (x.devs.flatMap RDv.cells)[k * 5 + i]? = some v := by rw [flat_get (sz := 5) (fun d => rfl) (RX.dget h) i hi]; exact hv
  unfold RX.dc
  rw [List.getElem?_append_left (List.getElem?_eq_some_iff.1 h1).1]
  exact h1
theorem RX.dput {x : RX} {k : Nat} (h : k < x.devs.length) {f : RDv → RDv} {i : Nat} {v : Value} (hi : i < 5) (hf : putAt (x.dv k).cells i [v] = (f (x.dv k)).cells) : putAt x.dc (k * 5 + i) [v] = (x.upd k f).dc := by
  have hd := RX.dget h
  have := flat_put (sz := 5) (fun d => rfl) hd hi hf x.rest
  unfold RX.dc
  rw [this]
  show _ = (x.devs.modify k f).flatMap RDv.cells ++ x.rest
  congr 2
  apply List.ext_getElem?
  intro j
  rw [modify_get, List.getElem?_set]
  by_cases hj : k = j
  · subst hj
    rw [if_pos rfl, if_pos rfl, hd, if_pos h, Option.map_some]
  · rw [if_neg hj, if_neg hj]
theorem RX.dlen {x : RX} {k i : Nat} (h : k < x.devs.length) (hi : i < 5) : k * 5 + i + 1 ≤ x.dc.length := by
  have h1 := RX.dcell (x := x) h (i := i) (v := (x.dv k).cells[i]'(by show i < 5; exact hi)) (List.getElem?_eq_getElem _) hi
  exact (List.getElem?_eq_some_iff.1 h1).1
theorem RX.upd_len (x : RX) (k : Nat) (f : RDv → RDv) : (x.upd k f).devs.length = x.devs.length := by unfold RX.upd; exact List.length_modify _ _ _
theorem RX.upd_dv {x : RX} {k j : Nat} {f : RDv → RDv} (hk : k < x.devs.length) : (x.upd k f).dv j = if k = j then f (x.dv k) else x.dv j := by
  unfold RX.dv RX.upd
  simp only [List.getD_eq_getElem?_getD, modify_get]
  by_cases h : k = j
  · subst h
    rw [if_pos rfl, if_pos rfl, List.getElem?_eq_getElem hk]
    rfl
  · rw [if_neg h, if_neg h]
theorem RX.upd_tail {x : RX} {k : Nat} {f : RDv → RDv} (hf : ∀ d, (f d).f = d.f) : (x.upd k f).tail = x.tail := by
  unfold RX.tail RX.upd
  congr 1
  apply List.ext_getElem?
  intro j
  rw [List.getElem?_map, List.getElem?_map, modify_get]
  split
  · cases x.devs[j]? with
    | none => rfl
    | some d => simp [fblk, hf]
  · rfl
/-- A store to a device's cell. -/
theorem RX.upd_P {x : RX} {gr k : Nat} {f : RDv → RDv} (hf : ∀ d, (f d).f = d.f) : rxP gr (x.upd k f) = .blk gr 57 x.hdr :: .blk x.gd 60 (x.upd k f).dc :: .row x.lv 96 3 x.loose.length x.lc :: x.tail := by
  unfold rxP
  rw [RX.upd_tail hf]
  unfold RX.hdr
  rw [RX.upd_len]
  rfl
theorem dv_mod {a : AR} {k j : Nat} {f : DV → DV} (hk : k < a.devs.length) : (a.upd (k : Int) f).dv (j : Int) = if k = j then f (a.dv (k : Int)) else a.dv (j : Int) := by
  unfold AR.dv AR.upd
  simp only [Int.toNat_natCast, List.getD_eq_getElem?_getD, modify_get]
  by_cases h : k = j
  · subst h
    rw [if_pos rfl, if_pos rfl, List.getElem?_eq_getElem hk]
    rfl
  · rw [if_neg h, if_neg h]
theorem RefOk.upd {a : AR} {x : RX} (h : RefOk a x) {k : Nat} (hk : k < a.devs.length) {f : DV → DV} {r : RDv → RDv} (hd : DOk x.pool (f (a.dv (k : Int))) (r (x.dv k))) (hs : (a.upd (k : Int) f).secs = a.secs) : RefOk (a.upd (k : Int) f) (x.upd k r) := by
  have hkx : k < x.devs.length := by rw [h.dn]; exact hk
  refine ⟨?_, fun j hj => ?_, ?_, h.ln, h.lw, h.left, h.out, h.steps⟩
  · rw [RX.upd_len, Go.Proofs.YtclleohpmgihaaaGreat.upd_len, h.dn]
  · rw [Go.Proofs.YtclleohpmgihaaaGreat.upd_len] at hj
    rw [dv_mod hk, RX.upd_dv hkx]
    by_cases hkj : k = j
    · subst hkj
      rw [if_pos rfl, if_pos rfl]
      exact hd
    · rw [if_neg hkj, if_neg hkj]
      exact h.dv j hj
  · rw [hs]
    exact h.mn
theorem Sec.mono {p q : List HA} {v : Value} {B : List UInt8} (h : Sec p v B) (hq : ∀ y ∈ p, y ∈ q) : Sec q v B := hq _ h
theorem DOk.mono {p q : List HA} {d : DV} {r : RDv} (h : DOk p d r) (hq : ∀ y ∈ p, y ∈ q) : DOk q d r :=
  ⟨h.lo, h.ay, h.fail, h.gone, h.len, fun s hs => by obtain ⟨v, h1, h2⟩ := h.sec s hs; exact ⟨v, h1, h2.mono hq⟩⟩
theorem RefOk.more {a : AR} {x : RX} (h : RefOk a x) {q : List HA} (hq : ∀ y ∈ x.pool, y ∈ q) : RefOk a { x with pool := q } :=
  ⟨h.dn, fun k hk => (h.dv k hk).mono hq, h.mn, h.ln, fun i v hv => by obtain ⟨r, h1, h2, h3, h4⟩ := h.lw i v hv; exact ⟨r, h1, h2, h3, h4.mono hq⟩, h.left, h.out, h.steps⟩
/-- A piece more in the pool. -/
theorem St.pool {w0 w : World} {M : List Nat} {R : List HA} {gr : Nat} {x : RX} {p : HA} (h : St w0 M w (p :: (rxP gr x ++ R))) : St w0 M w (rxP gr { x with pool := x.pool ++ [p] } ++ R) := by
  have e : rxP gr { x with pool := x.pool ++ [p] } = rxP gr x ++ [p] := by
    unfold rxP RX.tail
    rw [← List.append_assoc]
    rfl
  rw [e, List.append_assoc]
  exact St.perm h List.perm_middle.symm
end Go.Proofs.YtclleohpmgihaaaGreat
namespace Go.Proofs.YtclleohpmgihaaaGreat
set_option linter.unusedVariables false
set_option linter.unusedSimpArgs false
open Go.RowKit Hp
attribute [local irreducible] Go.Calls Go.wpList
set_option maxRecDepth 100000
set_option maxHeartbeats 4000000
theorem RefOk.cells {a : AR} {x : RX} (h : RefOk a x) {k : Nat} (hk : k < a.devs.length) : x.dc[k * 5]? = some (.slice (some ⟨(x.dv k).f.g, 0, none⟩) (a.dv (k : Int)).firm.length (x.dv k).f.cap) ∧ x.dc[k * 5 + 1]? = some (.bool (a.dv (k : Int)).lo) ∧
    x.dc[k * 5 + 2]? = some (.int .i64 (if (a.dv (k : Int)).st then (a.dv (k : Int)).to else -1)) ∧ x.dc[k * 5 + 3]? = some (.int .i64 (a.dv (k : Int)).fail) ∧ x.dc[k * 5 + 4]? = some (.bool (a.dv (k : Int)).gone) := by
  have hx : k < x.devs.length := by rw [h.dn]; exact hk
  have hd := h.dv k hk
  refine ⟨?_, ?_, ?_, ?_, ?_⟩
  · rw [← hd.len]; exact RX.dcell hx (i := 0) rfl (by decide)
  · rw [← hd.lo]; exact RX.dcell hx (i := 1) rfl (by decide)
  · rw [← hd.ay]; exact RX.dcell hx (i := 2) rfl (by decide)
  · rw [← hd.fail]; exact RX.dcell hx (i := 3) rfl (by decide)
  · rw [← hd.gone]; exact RX.dcell hx (i := 4) rfl (by decide)
theorem RefOk.sect {a : AR} {x : RX} (h : RefOk a x) {k p : Nat} (hk : k < a.devs.length) (hp : p < (a.dv (k : Int)).firm.length) : ∃ v, ((x.dv k).f.sv ++ (x.dv k).f.rest)[p]? = some v ∧ Sec x.pool v ((a.dv (k : Int)).firm.getD p []) := by
  obtain ⟨v, h1, h2⟩ := (h.dv k hk).sec p hp
  exact ⟨v, by rw [List.getElem?_append_left (List.getElem?_eq_some_iff.1 h1).1]; exact h1, h2⟩
theorem RX.ftail {x : RX} {k : Nat} (h : k < x.devs.length) : HA.blk (x.dv k).f.g 33 ((x.dv k).f.sv ++ (x.dv k).f.rest) ∈ x.tail :=
  List.mem_append_left _ (List.mem_map.2 ⟨x.dv k, List.mem_of_getElem? (RX.dget h), rfl⟩)
theorem there_r {w0 w : World} {M : List Nat} {R : List HA} {gr : Nat} {a : AR} {x : RX} (hS : St w0 M w (rxP gr x ++ R)) (ro : RefOk a x) (dev : Int) : Calls Tryz.prog 62 #[.pointer (some ⟨gr, 0, none⟩), .int .i64 dev] w fun e w' => e = .returned (.bool (a.inD dev)) ∧ St w0 M w' (rxP gr x ++ R) := by
  have hst : St w0 M w (.blk gr 57 x.hdr :: .blk x.gd 60 x.dc :: .row x.lv 96 3 x.loose.length x.lc :: (x.tail ++ R)) := hS
  have RO := hid ro
  clear hS ro
  rw [show a.inD dev = (decide (0 ≤ dev) && decide (dev < (x.devs.length : Int))) from by unfold AR.inD; rw [RO.out.dn]]
  by_cases k1 : 0 ≤ dev
  · have d1 : decide (dev ≥ 0) = true := decide_eq_true k1
    have d2 : decide (0 ≤ dev) = true := d1
    obtain ⟨q, hq⟩ : ∃ q, q = decide (dev < (x.devs.length : Int)) := ⟨_, rfl⟩
    have d3 : decide (dev < (x.devs.length : Int)) = q := hq.symm
    rw [← hq, d2]
    clear hq
    go_enter Tryz.func62, Tryz.ntmps62
    go_wp2_with (first | go_big_skip | go_big_guard | (refine wl_loadE rfl rfl rfl ?_; refine ⟨_, Loads.at [] hst rfl, ?_⟩))
    go_ret
    exact ⟨rfl, hst⟩
  · have d1 : decide (dev ≥ 0) = false := decide_eq_false k1
    have d2 : decide (0 ≤ dev) = false := d1
    rw [d2]
    go_enter Tryz.func62, Tryz.ntmps62
    go_wp2_with (first | go_big_skip | go_big_guard | (refine wl_loadE rfl rfl rfl ?_; refine ⟨_, Loads.at [] hst rfl, ?_⟩))
    go_ret
    exact ⟨rfl, hst⟩
theorem sector_r {w0 w : World} {M : List Nat} {R : List HA} {gr : Nat} {a : AR} {x : RX} (hS : St w0 M w (rxP gr x ++ R)) (ro : RefOk a x) (dev pl : Int) : Calls Tryz.prog 60 #[.pointer (some ⟨gr, 0, none⟩), .int .i64 dev, .int .i64 pl] w fun e w' => e = .returned (.bool (a.inS dev pl)) ∧ St w0 M w' (rxP gr x ++ R) := by
  have hst : St w0 M w (.blk gr 57 x.hdr :: .blk x.gd 60 x.dc :: .row x.lv 96 3 x.loose.length x.lc :: (x.tail ++ R)) := hS
  have RO := hid ro
  clear hS ro
  obtain ⟨b, hb⟩ : ∃ b, b = a.inD dev := ⟨_, rfl⟩
  have HB := hid hb
  rw [show a.inS dev pl = ((b && decide (0 ≤ pl)) && decide (pl < (x.many : Int))) from by unfold AR.inS; rw [hb, RO.out.mn]]
  clear hb
  cases b
  · go_enter Tryz.func60, Tryz.ntmps60
    go_wp2_with (first | go_big_skip | go_big_guard | (go_at_call 62; refine (there_r (R := R) hst RO.out dev).mono ?_; rw [← HB.out]; rintro _ w1 ⟨rfl, h4⟩; replace hst := h4; clear h4))
    go_ret
    exact ⟨rfl, hst⟩
  · by_cases k1 : 0 ≤ pl
    · have d1 : decide (pl ≥ 0) = true := decide_eq_true k1
      have d2 : decide (0 ≤ pl) = true := d1
      obtain ⟨q, hq⟩ : ∃ q, q = decide (pl < (x.many : Int)) := ⟨_, rfl⟩
      have d3 : decide (pl < (x.many : Int)) = q := hq.symm
      rw [← hq, d2]
      clear hq
      go_enter Tryz.func60, Tryz.ntmps60
      go_wp2_with (first | go_big_skip | go_big_guard | (go_at_call 62; refine (there_r (R := R) hst RO.out dev).mono ?_; rw [← HB.out]; rintro _ w1 ⟨rfl, h4⟩; replace hst := h4; clear h4) | (refine wl_loadE rfl rfl rfl ?_; refine ⟨_, Loads.at [] hst rfl, ?_⟩))
      go_ret
      exact ⟨rfl, hst⟩
    · have d1 : decide (pl ≥ 0) = false := decide_eq_false k1
      have d2 : decide (0 ≤ pl) = false := d1
      rw [d2]
      go_enter Tryz.func60, Tryz.ntmps60
      go_wp2_with (first | go_big_skip | go_big_guard | (go_at_call 62; refine (there_r (R := R) hst RO.out dev).mono ?_; rw [← HB.out]; rintro _ w1 ⟨rfl, h4⟩; replace hst := h4; clear h4))
      go_ret
      exact ⟨rfl, hst⟩
theorem up_r {w0 w : World} {M : List Nat} {R : List HA} {gr : Nat} {a : AR} {x : RX} (hS : St w0 M w (rxP gr x ++ R)) (ro : RefOk a x) (dev : Int) : Calls Tryz.prog 39 #[.pointer (some ⟨gr, 0, none⟩), .int .i64 dev] w fun e w' => e = .returned (.bool (a.up dev)) ∧ St w0 M w' (rxP gr x ++ R) := by
  have hst : St w0 M w (.blk gr 57 x.hdr :: .blk x.gd 60 x.dc :: .row x.lv 96 3 x.loose.length x.lc :: (x.tail ++ R)) := hS
  have RO := hid ro
  clear hS ro
  have HO := hid RO.out.out
  unfold AR.up
  cases hin : a.inD dev
  · have HI := hid hin
    rw [Bool.and_false, Bool.false_and]
    clear hin
    go_enter Tryz.func39, Tryz.ntmps39
    go_wp2_with (first | go_big_skip | go_big_guard | (go_at_call 62; refine (there_r (R := R) hst RO.out dev).mono ?_; rw [HI.out]; rintro _ w1 ⟨rfl, h4⟩; replace hst := h4; clear h4))
    go_ret
    exact ⟨rfl, hst⟩
  · obtain ⟨k, rfl⟩ : ∃ k : Nat, dev = k := ⟨dev.toNat, by have := (inD_dev hin).1; omega⟩
    have hkx : k < x.devs.length := by rw [RO.out.dn]; exact (by have := (inD_dev hin).2; omega)
    have hka : k < a.devs.length := by have := (inD_dev hin).2; omega
    have HC := hid (RO.out.cells hka)
    have HI := hid hin
    rw [Bool.and_true, ← HO.out]
    clear hin
    cases hg : (a.dv (k : Int)).gone
    · have HG : Hid (x.dc[k * 5 + 4]? = some (.bool false)) := hid (by rw [HC.out.2.2.2.2, hg])
      clear hg
      cases ho : x.out
      · have HOX : Hid (x.hdr[4]? = some (.bool false)) := hid (by show some (Value.bool x.out) = _; rw [ho])
        clear ho
        go_enter Tryz.func39, Tryz.ntmps39
        go_wp2_with (first | go_big_skip | go_big_guard | (go_at_call 62; refine (there_r (R := R) hst RO.out (k : Int)).mono ?_; rw [HI.out]; rintro _ w1 ⟨rfl, h4⟩; replace hst := h4; clear h4) | (refine wl_index (k := k) rfl rfl rfl rfl hkx ?_) | (refine wl_loadE rfl rfl rfl ?_; first | refine ⟨_, Loads.at [] hst HOX.out, ?_⟩ | refine ⟨_, Loads.at [_] hst HG.out, ?_⟩ | refine ⟨_, Loads.at [] hst rfl, ?_⟩))
        go_ret
        exact ⟨rfl, hst⟩
      · have HOX : Hid (x.hdr[4]? = some (.bool true)) := hid (by show some (Value.bool x.out) = _; rw [ho])
        clear ho
        go_enter Tryz.func39, Tryz.ntmps39
        go_wp2_with (first | go_big_skip | go_big_guard | (go_at_call 62; refine (there_r (R := R) hst RO.out (k : Int)).mono ?_; rw [HI.out]; rintro _ w1 ⟨rfl, h4⟩; replace hst := h4; clear h4) | (refine wl_index (k := k) rfl rfl rfl rfl hkx ?_) | (refine wl_loadE rfl rfl rfl ?_; first | refine ⟨_, Loads.at [] hst HOX.out, ?_⟩ | refine ⟨_, Loads.at [_] hst HG.out, ?_⟩ | refine ⟨_, Loads.at [] hst rfl, ?_⟩))
        go_ret
        exact ⟨rfl, hst⟩
    · have HG : Hid (x.dc[k * 5 + 4]? = some (.bool true)) := hid (by rw [HC.out.2.2.2.2, hg])
      clear hg
      rw [Bool.not_true, Bool.and_false]
      go_enter Tryz.func39, Tryz.ntmps39
      go_wp2_with (first | go_big_skip | go_big_guard | (go_at_call 62; refine (there_r (R := R) hst RO.out (k : Int)).mono ?_; rw [HI.out]; rintro _ w1 ⟨rfl, h4⟩; replace hst := h4; clear h4) | (refine wl_index (k := k) rfl rfl rfl rfl hkx ?_) | (refine wl_loadE rfl rfl rfl ?_; first | refine ⟨_, Loads.at [_] hst HG.out, ?_⟩ | refine ⟨_, Loads.at [] hst rfl, ?_⟩))
      go_ret
      exact ⟨rfl, hst⟩
theorem loose_cell {w0 w : World} {M : List Nat} {L : List HA} {x : RX} {b off c : Nat} (hst : St w0 M w L) (hm : HA.row (.slice (some ⟨b, off, none⟩) x.loose.length c) 96 3 x.loose.length x.lc ∈ L) {j : Nat} {r : RWv} (hj : x.loose[j]? = some r) {i : Nat} {v : Value} (hi : i < 3) (hv : r.cells[i]? = some v) : w.cell? ⟨b, off + j * 3 + i, none⟩ = some v := by
  have h1 := (Rd.row hst hm).range (j * 3 + i) v (by unfold RX.lc; rw [flat_get (sz := 3) (fun d => rfl) hj i hi]; exact hv)
  rwa [← Nat.add_assoc] at h1
theorem tells_r {w0 w : World} {M : List Nat} {R : List HA} {gr : Nat} {a : AR} {x : RX} (hS : St w0 M w (rxP gr x ++ R)) (ro : RefOk a x) {k p : Nat} (ok : a.Ok) (hll : a.loose.length < 1000000) (hs : a.inS (k : Int) (p : Int) = true) : Calls Tryz.prog 67 #[.pointer (some ⟨gr, 0, none⟩), .int .i64 (k : Int), .int .i64 (p : Int)] w fun e w' => ∃ u, e = .returned u ∧ St w0 M w' (.row u 5 1 256 (bytesV (a.tells (k : Int) (p : Int))) :: (rxP gr x ++ R)) := by
  have hst : St w0 M w (.blk gr 57 x.hdr :: .blk x.gd 60 x.dc :: .row x.lv 96 3 x.loose.length x.lc :: (x.tail ++ R)) := hS
  have RO := hid ro
  clear hS ro
  have hin := inS_inD hs
  have hkx : k < x.devs.length := by rw [RO.out.dn]; exact (by have := (inD_dev hin).2; omega)
  have hka : k < a.devs.length := by have := (inD_dev hin).2; omega
  have hf := ok.dv hin
  have hp : p < (a.dv (k : Int)).firm.length := by have := (inS_pl hs).2; rw [hf.1]; omega
  have HC0 := hid (RO.out.cells hka).1
  obtain ⟨v0, hv0, hs0⟩ := RO.out.sect hka hp
  have HV0 := hid hv0
  have HFT := hid (RX.ftail hkx)
  have HTL := hid (fun j => tells_len ok hs j)
  obtain ⟨T, hT⟩ : ∃ T : Nat → List UInt8, T = fun j => (a.loose.take j).foldl (pickW k p) ((a.dv (k : Int)).firm.getD p []) := ⟨_, rfl⟩
  have HT0 : Hid (Sec x.pool v0 (T 0)) := hid (by rw [hT]; exact hs0)
  have HTS : Hid (∀ j wj, a.loose[j]? = some wj → T (j + 1) = pickW k p (T j) wj) := hid (fun j wj hj => by
    rw [hT]
    show (a.loose.take (j + 1)).foldl _ _ = _
    rw [List.take_add_one, hj, List.foldl_append]
    rfl)
  have HTE : Hid (T x.loose.length = a.tells (k : Int) (p : Int)) := hid (by rw [hT, RO.out.ln]; show (a.loose.take a.loose.length).foldl _ _ = _; rw [List.take_length]; rfl)
  have HTL2 : Hid (∀ j, (T j).length = 256) := hid (fun j => by rw [hT]; exact HTL.out j)
  obtain ⟨Q, hQ⟩ : ∃ Q, Q = a.tells (k : Int) (p : Int) := ⟨_, rfl⟩
  rw [← hQ] at HTE
  rw [← hQ]
  have hnl : x.loose.length < 1000000 := by rw [RO.out.ln]; exact hll
  have hpn := hp
  clear hs hin hf ok hv0 hs0 HTL hT hQ hll
  obtain ⟨lao, lc, hlv, _, _, _⟩ := row_form hst (.tail _ (.tail _ (.head _)))
  have HLV := hid hlv
  have HH2 : Hid (x.hdr[2]? = some (.slice lao x.loose.length lc)) := hid (by show some x.lv = _; rw [hlv])
  clear hlv
  go_enter Tryz.func67, Tryz.ntmps67
  go_wp2_with (first | go_big_skip | go_big_guard | (refine wl_loadE rfl rfl rfl ?_; first | refine ⟨_, Loads.at [_] hst HC0.out, ?_⟩ | refine ⟨_, Loads.cell (T := 33) TyS.out (by rw [Nat.zero_add, Nat.mul_one]; exact St.cell hst (off := p) (.tail _ (.tail _ (.tail _ (List.mem_append_left _ HFT.out)))) HV0.out), ?_⟩ | refine ⟨_, Loads.at [] hst rfl, ?_⟩) | (refine wl_index (k := k) rfl rfl rfl rfl hkx ?_) | (refine wl_index (k := p) rfl rfl rfl rfl hpn ?_))
  go_loopw [7, 8] (fun q i wr => ∃ j : Nat, j ≤ x.loose.length ∧ i = .int .i64 (j : Int) ∧ Hid (Sec x.pool q (T j)) ∧ St w0 M wr (.blk gr 57 x.hdr :: .blk x.gd 60 x.dc :: .row x.lv 96 3 x.loose.length x.lc :: (x.tail ++ R))) (fun _ i _ => x.loose.length - (intOf i).toNat)
  case atStart => exact ⟨0, Nat.zero_le _, rfl, HT0, hst⟩
  case round =>
    clear hst HT0 HV0
    obtain ⟨j, hj, rfl, HSE, hst⟩ := hrel
    by_cases hlj : j < x.loose.length
    · have d1 : decide ((j : Int) < (x.loose.length : Int)) = true := decide_eq_true (by omega)
      have z1 : IntKind.i64.wrap ((j : Int) + 1) = (j : Int) + 1 := IntWalk.i64_in _ (by omega)
      obtain ⟨v, hv⟩ : ∃ v, a.loose[j]? = some v := ⟨_, List.getElem?_eq_getElem (by rw [← RO.out.ln]; exact hlj)⟩
      obtain ⟨r, hr, e1, e2, hsr⟩ := RO.out.lw j v hv
      have HTJ := hid (HTS.out j v hv)
      have HSR := hid hsr
      have hrow : HA.row (.slice lao x.loose.length lc) 96 3 x.loose.length x.lc ∈ (.blk gr 57 x.hdr :: .blk x.gd 60 x.dc :: .row x.lv 96 3 x.loose.length x.lc :: (x.tail ++ R)) := by rw [← HLV.out]; exact .tail _ (.tail _ (.head _))
      obtain ⟨lb, lo, rfl, _⟩ := Rd.at (Rd.row hst hrow) hlj
      have HW0 := hid (loose_cell hst hrow hr (i := 0) (by decide) rfl)
      have HW1 := hid (loose_cell hst hrow hr (i := 1) (by decide) rfl)
      have HW2 := hid (loose_cell hst hrow hr (i := 2) (by decide) rfl)
      rw [e1] at HW0
      rw [e2] at HW1
      obtain ⟨vd, hvd⟩ : ∃ vd, vd = v.dev := ⟨_, rfl⟩
      obtain ⟨vp, hvp⟩ : ∃ vp, vp = v.pl := ⟨_, rfl⟩
      have HVD := hid hvd
      have HVP := hid hvp
      rw [← hvd] at HW0
      rw [← hvp] at HW1
      obtain ⟨bv, hbv⟩ : ∃ bv, bv = r.bv := ⟨_, rfl⟩
      replace HW2 : Hid (wr.cell? ⟨lb, lo + j * 3 + 2, none⟩ = some bv) := hid (by rw [hbv]; exact HW2.out)
      rw [← hbv] at HSR
      clear hv hr e1 e2 hsr hrow hvd hvp hbv
      by_cases g1 : vd = k
      · by_cases g2 : vp = p
        · have c1 : ((vd : Int) == (k : Int)) = true := by simp [g1]
          have c2 : ((vp : Int) == (p : Int)) = true := by simp [g2]
          have HTN : Hid (T (j + 1) = v.b) := hid (by rw [HTJ.out]; unfold pickW; rw [← HVD.out, ← HVP.out, if_pos ⟨g1, g2⟩])
          clear g1 g2
          go_wp2_with (first | go_big_skip | go_big_guard | (refine wl_loadE rfl rfl rfl ?_; first | refine ⟨_, Loads.at [] hst HH2.out, ?_⟩ | refine ⟨_, Loads.cell TyS.out HW0.out, ?_⟩ | refine ⟨_, Loads.cell TyS.out HW1.out, ?_⟩ | refine ⟨_, Loads.cell TyS.out HW2.out, ?_⟩) | (refine wl_index (k := j) rfl rfl rfl rfl hlj ?_))
          go_roundw
          case rel => exact ⟨j + 1, by omega, rfl, hid (by rw [HTN.out]; exact HSR.out), hst⟩
          case measure => simp [intOf]; omega
        · have c1 : ((vd : Int) == (k : Int)) = true := by simp [g1]
          have c2 : ((vp : Int) == (p : Int)) = false := by rw [beq_eq_false_iff_ne]; omega
          have HTN : Hid (T (j + 1) = T j) := hid (by rw [HTJ.out]; unfold pickW; rw [← HVD.out, ← HVP.out, if_neg (fun h => g2 h.2)])
          clear g1 g2
          go_wp2_with (first | go_big_skip | go_big_guard | (refine wl_loadE rfl rfl rfl ?_; first | refine ⟨_, Loads.at [] hst HH2.out, ?_⟩ | refine ⟨_, Loads.cell TyS.out HW0.out, ?_⟩ | refine ⟨_, Loads.cell TyS.out HW1.out, ?_⟩ | refine ⟨_, Loads.cell TyS.out HW2.out, ?_⟩) | (refine wl_index (k := j) rfl rfl rfl rfl hlj ?_))
          go_roundw
          case rel => exact ⟨j + 1, by omega, rfl, hid (by rw [HTN.out]; exact HSE.out), hst⟩
          case measure => simp [intOf]; omega
      · have c1 : ((vd : Int) == (k : Int)) = false := by rw [beq_eq_false_iff_ne]; omega
        have HTN : Hid (T (j + 1) = T j) := hid (by rw [HTJ.out]; unfold pickW; rw [← HVD.out, ← HVP.out, if_neg (fun h => g1 h.1)])
        clear g1
        go_wp2_with (first | go_big_skip | go_big_guard | (refine wl_loadE rfl rfl rfl ?_; first | refine ⟨_, Loads.at [] hst HH2.out, ?_⟩ | refine ⟨_, Loads.cell TyS.out HW0.out, ?_⟩ | refine ⟨_, Loads.cell TyS.out HW1.out, ?_⟩ | refine ⟨_, Loads.cell TyS.out HW2.out, ?_⟩) | (refine wl_index (k := j) rfl rfl rfl rfl hlj ?_))
        go_roundw
        case rel => exact ⟨j + 1, by omega, rfl, hid (by rw [HTN.out]; exact HSE.out), hst⟩
        case measure => simp [intOf]; omega
    · obtain rfl : j = x.loose.length := by omega
      have d1 : decide ((x.loose.length : Int) < (x.loose.length : Int)) = false := decide_eq_false (by omega)
      have h9 := HSE.out
      rw [HTE.out] at h9
      unfold Sec at h9
      have HSE2 := hid (List.mem_append_left R (List.mem_append_right (x.devs.map fblk) h9))
      clear h9
      go_wp2_with (first | go_big_skip | go_big_guard | (refine wl_loadE rfl rfl rfl ?_; first | refine ⟨_, Loads.at [] hst HH2.out, ?_⟩) | (apply wl_bsX [] [] hst; rfl; rfl; exact rfl; exact rfl; infer_instance; infer_instance; rfl; rfl; rfl; intro g9 w5 hst1; have hst2 := St.toRow (n := 0) (cap := 0) (sz := 1) hst1 rfl (Nat.le_refl _) (by decide); clear hst1) | (apply wl_appX (m := 256) (ys := bytesV Q) [] hst2; rfl; rfl; exact rfl; exact rfl; infer_instance; infer_instance; infer_instance; exact Rd.row hst2 (.tail _ (.tail _ (.tail _ (.tail _ HSE2.out)))); exact ones_bytesV _; (refine ⟨by decide, by decide, by decide⟩); intro v9 w6 hst3 _; clear hst2))
      go_ret
      exact ⟨v9, rfl, hst3⟩
end Go.Proofs.YtclleohpmgihaaaGreat
namespace Go.Proofs.YtclleohpmgihaaaGreat
set_option linter.unusedVariables false
set_option linter.unusedSimpArgs false
open Go.RowKit Hp
attribute [local irreducible] Go.Calls Go.wpList
set_option maxRecDepth 100000
set_option maxHeartbeats 4000000
theorem RefOk.step0 {a : AR} {x : RX} (h : RefOk a x) (hf : a.fuse = 0) : RefOk a.step { x with out := true } := by
  have e : a.step = { a with out := true } := by unfold AR.step; rw [if_pos hf]
  rw [e]
  exact ⟨h.dn, h.dv, h.mn, h.ln, h.lw, h.left, rfl, h.steps⟩
theorem RefOk.step1 {a : AR} {x : RX} (h : RefOk a x) (hf : a.fuse ≠ 0) : RefOk a.step { x with left := if 0 < x.left then x.left - 1 else x.left, steps := x.steps + 1 } := by
  have e : a.step = { a with fuse := if 0 < a.fuse then a.fuse - 1 else a.fuse, steps := a.steps + 1 } := by unfold AR.step; rw [if_neg hf]
  rw [e]
  exact ⟨h.dn, h.dv, h.mn, h.ln, h.lw, by show (if 0 < x.left then x.left - 1 else x.left) = _; rw [h.left], h.out, by show x.steps + 1 = _; rw [h.steps]⟩
theorem step_out_r {w0 w : World} {M : List Nat} {R : List HA} {gr : Nat} {a : AR} {x : RX} (hS : St w0 M w (rxP gr x ++ R)) (ro : RefOk a x) (hf : a.fuse = 0) : Calls Tryz.prog 61 #[.pointer (some ⟨gr, 0, none⟩)] w fun e w' => e = .returned (.bool false) ∧ ∃ y, RefOk a.step y ∧ St w0 M w' (rxP gr y ++ R) := by
  have hst : St w0 M w (.blk gr 57 x.hdr :: .blk x.gd 60 x.dc :: .row x.lv 96 3 x.loose.length x.lc :: (x.tail ++ R)) := hS
  have RO := hid ro
  clear hS ro
  have HL : Hid (x.left = 0) := hid (by rw [RO.out.left]; exact hf)
  have d1 : (x.left == 0) = true := by rw [HL.out]; rfl
  have HF := hid hf
  clear hf
  go_enter Tryz.func61, Tryz.ntmps61
  go_wp2_with (first | go_big_skip | go_big_guard | (refine wl_loadE rfl rfl rfl ?_; first | refine ⟨_, Loads.at [] hst rfl, ?_⟩ | refine ⟨_, Loads.at [] hs7 rfl, ?_⟩) | (refine wl_store [] hst rfl rfl rfl (v := .bool true) rfl rfl rfl (by show (4 : Nat) + 1 ≤ 6; decide) ?_; intro w9 hs9; clear hst))
  go_ret
  exact ⟨rfl, { x with out := true }, RO.out.step0 HF.out, hs9⟩
theorem step_dec_r {w0 w : World} {M : List Nat} {R : List HA} {gr : Nat} {a : AR} {x : RX} (hS : St w0 M w (rxP gr x ++ R)) (ro : RefOk a x) (hf : 0 < a.fuse) (hs : 0 ≤ a.steps ∧ a.steps < 4611686018427387904) (hu : a.fuse ≤ 9223372036854775807) : Calls Tryz.prog 61 #[.pointer (some ⟨gr, 0, none⟩)] w fun e w' => e = .returned (.bool true) ∧ ∃ y, RefOk a.step y ∧ St w0 M w' (rxP gr y ++ R) := by
  have hst : St w0 M w (.blk gr 57 x.hdr :: .blk x.gd 60 x.dc :: .row x.lv 96 3 x.loose.length x.lc :: (x.tail ++ R)) := hS
  have RO := hid ro
  clear hS ro
  have hl : 0 < x.left := by rw [RO.out.left]; exact hf
  have hl2 : x.left ≤ 9223372036854775807 := by rw [RO.out.left]; exact hu
  have d1 : (x.left == 0) = false := by rw [beq_eq_false_iff_ne]; omega
  have d2 : decide (0 < x.left) = true := decide_eq_true hl
  have d3 : decide (x.left > 0) = true := d2
  have z1 : IntKind.i64.wrap (x.left - 1) = x.left - 1 := IntWalk.i64_in _ (by omega)
  have hss : 0 ≤ x.steps ∧ x.steps < 4611686018427387904 := by rw [RO.out.steps]; exact hs
  have z2 : IntKind.i64.wrap (x.steps + 1) = x.steps + 1 := IntWalk.i64_in _ (by omega)
  have HX := hid (RO.out.step1 (by omega))
  rw [if_pos hl] at HX
  clear hl hl2 hss hs hu
  have HF := hid hf
  clear hf
  go_enter Tryz.func61, Tryz.ntmps61
  go_wp2_with (first | go_big_skip | go_big_guard | (refine wl_loadE rfl rfl rfl ?_; first | refine ⟨_, Loads.at [] hst rfl, ?_⟩ | refine ⟨_, Loads.at [] hs7 rfl, ?_⟩) | (first | (refine wl_store [] hst rfl rfl rfl (v := .int _ _) rfl rfl rfl (by show (3 : Nat) + 1 ≤ 6; decide) ?_; intro w7 hs7; clear hst) | (refine wl_store [] hs7 rfl rfl rfl (v := .int _ _) rfl rfl rfl (by show (5 : Nat) + 1 ≤ 6; decide) ?_; intro w9 hs9; clear hs7)))
  go_ret
  exact ⟨rfl, { x with left := x.left - 1, steps := x.steps + 1 }, HX.out, hs9⟩
theorem step_any_r {w0 w : World} {M : List Nat} {R : List HA} {gr : Nat} {a : AR} {x : RX} (hS : St w0 M w (rxP gr x ++ R)) (ro : RefOk a x) (hf : a.fuse < 0) (hs : 0 ≤ a.steps ∧ a.steps < 4611686018427387904) : Calls Tryz.prog 61 #[.pointer (some ⟨gr, 0, none⟩)] w fun e w' => e = .returned (.bool true) ∧ ∃ y, RefOk a.step y ∧ St w0 M w' (rxP gr y ++ R) := by
  have hst : St w0 M w (.blk gr 57 x.hdr :: .blk x.gd 60 x.dc :: .row x.lv 96 3 x.loose.length x.lc :: (x.tail ++ R)) := hS
  have RO := hid ro
  clear hS ro
  have hl : x.left < 0 := by rw [RO.out.left]; exact hf
  have d1 : (x.left == 0) = false := by rw [beq_eq_false_iff_ne]; omega
  have d2 : decide (0 < x.left) = false := decide_eq_false (by omega)
  have d3 : decide (x.left > 0) = false := d2
  have hss : 0 ≤ x.steps ∧ x.steps < 4611686018427387904 := by rw [RO.out.steps]; exact hs
  have z2 : IntKind.i64.wrap (x.steps + 1) = x.steps + 1 := IntWalk.i64_in _ (by omega)
  have HX := hid (RO.out.step1 (by omega))
  rw [if_neg (by omega)] at HX
  clear hl hss hs
  have HF := hid hf
  clear hf
  go_enter Tryz.func61, Tryz.ntmps61
  go_wp2_with (first | go_big_skip | go_big_guard | (refine wl_loadE rfl rfl rfl ?_; first | refine ⟨_, Loads.at [] hst rfl, ?_⟩ | refine ⟨_, Loads.at [] hs7 rfl, ?_⟩) | (refine wl_store [] hst rfl rfl rfl (v := .int _ _) rfl rfl rfl (by show (5 : Nat) + 1 ≤ 6; decide) ?_; intro w9 hs9; clear hst))
  go_ret
  exact ⟨rfl, { x with steps := x.steps + 1 }, HX.out, hs9⟩
theorem step_r {w0 w : World} {M : List Nat} {R : List HA} {gr : Nat} {a : AR} {x : RX} (hS : St w0 M w (rxP gr x ++ R)) (ro : RefOk a x) (hs : 0 ≤ a.steps ∧ a.steps < 4611686018427387904) (hu : a.fuse ≤ 9223372036854775807) : Calls Tryz.prog 61 #[.pointer (some ⟨gr, 0, none⟩)] w fun e w' => e = .returned (.bool (decide (a.fuse ≠ 0))) ∧ ∃ y, RefOk a.step y ∧ St w0 M w' (rxP gr y ++ R) := by
  rcases Int.lt_trichotomy a.fuse 0 with h | h | h
  · rw [decide_eq_true (by omega)]
    exact step_any_r hS ro h hs
  · rw [decide_eq_false (by omega)]
    exact step_out_r hS ro h
  · rw [decide_eq_true (by omega)]
    exact step_dec_r hS ro h hs hu
theorem peek_r {w0 w : World} {M : List Nat} {R : List HA} {gr : Nat} {a : AR} {x : RX} (hS : St w0 M w (rxP gr x ++ R)) (ro : RefOk a x) (dev pl : Int) (ok : a.Ok) (hll : a.loose.length < 1000000) : Calls Tryz.prog 41 #[.pointer (some ⟨gr, 0, none⟩), .int .i64 dev, .int .i64 pl] w fun e w' => ∃ u, e = .returned (.tuple #[u, .bool (a.peekB dev pl)]) ∧ St w0 M w' (.row u 5 1 (a.peekL dev pl).length (bytesV (a.peekL dev pl)) :: (rxP gr x ++ R)) := by
  have hst : St w0 M w (.blk gr 57 x.hdr :: .blk x.gd 60 x.dc :: .row x.lv 96 3 x.loose.length x.lc :: (x.tail ++ R)) := hS
  have RO := hid ro
  clear hS ro
  have OK := hid ok
  have HLL := hid hll
  clear ok hll
  unfold AR.peekL AR.peekB
  cases hu : a.up dev
  · have HU := hid hu
    clear hu
    go_enter Tryz.func41, Tryz.ntmps41
    go_wp2_with (first | go_big_skip | go_big_guard | (go_at_call 39; refine (up_r (R := R) hst RO.out dev).mono ?_; rw [HU.out]; rintro _ w1 ⟨rfl, h4⟩; replace hst := h4; clear h4))
    go_ret2
    exact ⟨.slice none 0 0, rfl, St.nilR _ 1 hst⟩
  · have HU := hid hu
    cases hs : a.inS dev pl
    · have HS := hid hs
      clear hu hs
      go_enter Tryz.func41, Tryz.ntmps41
      go_wp2_with (first | go_big_skip | go_big_guard | (go_at_call 39; refine (up_r (R := R) hst RO.out dev).mono ?_; rw [HU.out]; rintro _ w1 ⟨rfl, h4⟩; replace hst := h4; clear h4) | (go_at_call 60; refine (sector_r (R := R) hst RO.out dev pl).mono ?_; rw [HS.out]; rintro _ w1 ⟨rfl, h4⟩; replace hst := h4; clear h4))
      go_ret2
      exact ⟨.slice none 0 0, rfl, St.nilR _ 1 hst⟩
    · have HS := hid hs
      obtain ⟨k, rfl⟩ : ∃ k : Nat, dev = k := ⟨dev.toNat, by have := (inD_dev (inS_inD hs)).1; omega⟩
      obtain ⟨p, rfl⟩ : ∃ p : Nat, pl = p := ⟨pl.toNat, by have := (inS_pl hs).1; omega⟩
      have HT : Hid ((a.tells (k : Int) (p : Int)).length = 256) := hid (by have := tells_len OK.out hs a.loose.length; rw [List.take_length] at this; exact this)
      clear hu hs
      simp only [Bool.and_self, eq_self, if_true]
      go_enter Tryz.func41, Tryz.ntmps41
      go_wp2_with (first | go_big_skip | go_big_guard | (go_at_call 39; refine (up_r (R := R) hst RO.out (k : Int)).mono ?_; rw [HU.out]; rintro _ w1 ⟨rfl, h4⟩; replace hst := h4; clear h4) | (go_at_call 60; refine (sector_r (R := R) hst RO.out (k : Int) (p : Int)).mono ?_; rw [HS.out]; rintro _ w1 ⟨rfl, h4⟩; replace hst := h4; clear h4) | (go_at_call 67; refine (tells_r (R := R) (k := k) (p := p) hst RO.out OK.out HLL.out HS.out).mono ?_; rintro _ w2 ⟨u, rfl, h4⟩; clear hst))
      go_ret2
      refine ⟨u, rfl, ?_⟩
      rw [HT.out]
      exact h4
end Go.Proofs.YtclleohpmgihaaaGreat
namespace Go.Proofs.YtclleohpmgihaaaGreat
set_option linter.unusedVariables false
set_option linter.unusedSimpArgs false
open Go.RowKit Hp
attribute [local irreducible] Go.Calls Go.wpList
set_option maxRecDepth 100000
set_option maxHeartbeats 4000000
theorem nat_dev {a : AR} {dev : Int} (h : a.inD dev = true) : ∃ k : Nat, dev = k ∧ k < a.devs.length := ⟨dev.toNat, by have := (inD_dev h).1; omega, by have := inD_dev h; omega⟩
theorem read_out_r {w0 w : World} {M : List Nat} {R : List HA} {gr : Nat} {a : AR} {x : RX} (hS : St w0 M w (rxP gr x ++ R)) (ro : RefOk a x) (dev pl : Int) (ho : a.out = true) (ok : a.Ok) (hll : a.loose.length < 1000000) : Calls Tryz.prog 26 #[.pointer (some ⟨gr, 0, none⟩), .int .i64 dev, .int .i64 pl] w fun e w' => ∃ u y, e = .returned (.tuple #[u, .int .i64 (a.readE dev pl)]) ∧ RefOk (a.read dev pl) y ∧ St w0 M w' (.row u 5 1 (a.readB dev pl).length (bytesV (a.readB dev pl)) :: (rxP gr y ++ R)) := by
  have hst : St w0 M w (.blk gr 57 x.hdr :: .blk x.gd 60 x.dc :: .row x.lv 96 3 x.loose.length x.lc :: (x.tail ++ R)) := hS
  have RO := hid ro
  clear hS ro
  have hE : a.readE dev pl = 10 := by unfold AR.readE; rw [if_neg ok.d0, ho, if_pos rfl]
  have hB : a.readB dev pl = [] := by unfold AR.readB; rw [hE]; rfl
  have hR : a.read dev pl = a := by unfold AR.read; rw [hE]; rfl
  rw [hE, hB, hR]
  clear hE hB hR
  have HOX : Hid (x.hdr[4]? = some (.bool true)) := hid (by show some (Value.bool x.out) = _; rw [RO.out.out, ho])
  clear ho ok hll
  go_enter Tryz.func26, Tryz.ntmps26
  go_wp2_with (first | go_big_skip | go_big_guard | (refine wl_loadE rfl rfl rfl ?_; first | refine ⟨_, Loads.at [] hst HOX.out, ?_⟩ | refine ⟨_, Loads.at [] hst rfl, ?_⟩))
  go_ret2
  exact ⟨.slice none 0 0, x, rfl, RO.out, St.nilR _ 1 hst⟩
theorem read_far_r {w0 w : World} {M : List Nat} {R : List HA} {gr : Nat} {a : AR} {x : RX} (hS : St w0 M w (rxP gr x ++ R)) (ro : RefOk a x) (dev pl : Int) (ho : a.out = false) (hs : a.inS dev pl = false) (ok : a.Ok) (hll : a.loose.length < 1000000) : Calls Tryz.prog 26 #[.pointer (some ⟨gr, 0, none⟩), .int .i64 dev, .int .i64 pl] w fun e w' => ∃ u y, e = .returned (.tuple #[u, .int .i64 (a.readE dev pl)]) ∧ RefOk (a.read dev pl) y ∧ St w0 M w' (.row u 5 1 (a.readB dev pl).length (bytesV (a.readB dev pl)) :: (rxP gr y ++ R)) := by
  have hst : St w0 M w (.blk gr 57 x.hdr :: .blk x.gd 60 x.dc :: .row x.lv 96 3 x.loose.length x.lc :: (x.tail ++ R)) := hS
  have RO := hid ro
  clear hS ro
  have hE : a.readE dev pl = 5 := by unfold AR.readE; rw [if_neg ok.d0, ho, if_neg (by decide), hs, if_pos rfl]
  have hB : a.readB dev pl = [] := by unfold AR.readB; rw [hE]; rfl
  have hR : a.read dev pl = a := by unfold AR.read; rw [hE]; rfl
  rw [hE, hB, hR]
  clear hE hB hR
  have HOX : Hid (x.hdr[4]? = some (.bool false)) := hid (by show some (Value.bool x.out) = _; rw [RO.out.out, ho])
  have HS := hid hs
  clear hs
  clear ho ok hll
  go_enter Tryz.func26, Tryz.ntmps26
  go_wp2_with (first | go_big_skip | go_big_guard | (refine wl_loadE rfl rfl rfl ?_; first | refine ⟨_, Loads.at [] hst HOX.out, ?_⟩ | refine ⟨_, Loads.at [] hst rfl, ?_⟩) | (go_at_call 60; refine (sector_r (R := R) hst RO.out dev pl).mono ?_; rw [HS.out]; rintro _ w1 ⟨rfl, h4⟩; replace hst := h4; clear h4))
  go_ret2
  exact ⟨.slice none 0 0, x, rfl, RO.out, St.nilR _ 1 hst⟩
theorem read_gone_r {w0 w : World} {M : List Nat} {R : List HA} {gr : Nat} {a : AR} {x : RX} (hS : St w0 M w (rxP gr x ++ R)) (ro : RefOk a x) (dev pl : Int) (ho : a.out = false) (hs : a.inS dev pl = true) (hg : (a.dv dev).gone = true) (ok : a.Ok) (hll : a.loose.length < 1000000) : Calls Tryz.prog 26 #[.pointer (some ⟨gr, 0, none⟩), .int .i64 dev, .int .i64 pl] w fun e w' => ∃ u y, e = .returned (.tuple #[u, .int .i64 (a.readE dev pl)]) ∧ RefOk (a.read dev pl) y ∧ St w0 M w' (.row u 5 1 (a.readB dev pl).length (bytesV (a.readB dev pl)) :: (rxP gr y ++ R)) := by
  have hst : St w0 M w (.blk gr 57 x.hdr :: .blk x.gd 60 x.dc :: .row x.lv 96 3 x.loose.length x.lc :: (x.tail ++ R)) := hS
  have RO := hid ro
  clear hS ro
  have hE : a.readE dev pl = 14 := by unfold AR.readE; rw [if_neg ok.d0, ho, if_neg (by decide), hs, if_neg (by decide), hg, if_pos rfl]
  have hB : a.readB dev pl = [] := by unfold AR.readB; rw [hE]; rfl
  have hR : a.read dev pl = a := by unfold AR.read; rw [hE]; rfl
  rw [hE, hB, hR]
  clear hE hB hR
  have HOX : Hid (x.hdr[4]? = some (.bool false)) := hid (by show some (Value.bool x.out) = _; rw [RO.out.out, ho])
  obtain ⟨k, rfl, hka⟩ := nat_dev (inS_inD hs)
  have hkx : k < x.devs.length := by rw [RO.out.dn]; exact hka
  have HC := hid (RO.out.cells hka)
  have HG : Hid (x.dc[k * 5 + 4]? = some (.bool true)) := hid (by rw [HC.out.2.2.2.2, hg])
  have HS := hid hs
  clear hs hg
  clear ho ok hll
  go_enter Tryz.func26, Tryz.ntmps26
  go_wp2_with (first | go_big_skip | go_big_guard | (refine wl_loadE rfl rfl rfl ?_; first | refine ⟨_, Loads.at [] hst HOX.out, ?_⟩ | refine ⟨_, Loads.at [_] hst HG.out, ?_⟩ | refine ⟨_, Loads.at [] hst rfl, ?_⟩) | (go_at_call 60; refine (sector_r (R := R) hst RO.out (k : Int) pl).mono ?_; rw [HS.out]; rintro _ w1 ⟨rfl, h4⟩; replace hst := h4; clear h4) | (refine wl_index (k := k) rfl rfl rfl rfl hkx ?_))
  go_ret2
  exact ⟨.slice none 0 0, x, rfl, RO.out, St.nilR _ 1 hst⟩
theorem read_fail_r {w0 w : World} {M : List Nat} {R : List HA} {gr : Nat} {a : AR} {x : RX} (hS : St w0 M w (rxP gr x ++ R)) (ro : RefOk a x) (dev pl : Int) (ho : a.out = false) (hs : a.inS dev pl = true) (hg : (a.dv dev).gone = false) (hf : 0 < (a.dv dev).fail) (ok : a.Ok) (hll : a.loose.length < 1000000) : Calls Tryz.prog 26 #[.pointer (some ⟨gr, 0, none⟩), .int .i64 dev, .int .i64 pl] w fun e w' => ∃ u y, e = .returned (.tuple #[u, .int .i64 (a.readE dev pl)]) ∧ RefOk (a.read dev pl) y ∧ St w0 M w' (.row u 5 1 (a.readB dev pl).length (bytesV (a.readB dev pl)) :: (rxP gr y ++ R)) := by
  have hst : St w0 M w (.blk gr 57 x.hdr :: .blk x.gd 60 x.dc :: .row x.lv 96 3 x.loose.length x.lc :: (x.tail ++ R)) := hS
  have RO := hid ro
  clear hS ro
  have hE : a.readE dev pl = 13 := by unfold AR.readE; rw [if_neg ok.d0, ho, if_neg (by decide), hs, if_neg (by decide), hg, if_neg (by decide), if_pos hf]
  have hB : a.readB dev pl = [] := by unfold AR.readB; rw [hE]; rfl
  have hR : a.read dev pl = a.upd dev fun d => { d with fail := d.fail - 1 } := by unfold AR.read; rw [hE]; rfl
  rw [hE, hB, hR]
  clear hE hB hR
  have HOX : Hid (x.hdr[4]? = some (.bool false)) := hid (by show some (Value.bool x.out) = _; rw [RO.out.out, ho])
  obtain ⟨k, rfl, hka⟩ := nat_dev (inS_inD hs)
  have hkx : k < x.devs.length := by rw [RO.out.dn]; exact hka
  have HC := hid (RO.out.cells hka)
  have HG : Hid (x.dc[k * 5 + 4]? = some (.bool false)) := hid (by rw [HC.out.2.2.2.2, hg])
  have HS := hid hs
  have hfr := ok.dv (inS_inD hs)
  have hf9 := hfr.2.2.2
  obtain ⟨F, hF⟩ : ∃ F, F = (a.dv (k : Int)).fail := ⟨_, rfl⟩
  have HF3 : Hid (x.dc[k * 5 + 3]? = some (.int .i64 F)) := hid (by rw [hF]; exact HC.out.2.2.2.1)
  rw [← hF] at hf hf9
  have d1 : decide (0 < F) = true := decide_eq_true hf
  have d2 : decide (F > 0) = true := d1
  have z1 : IntKind.i64.wrap (F - 1) = F - 1 := IntWalk.i64_in _ (by omega)
  have HPUT := hid (RX.dput (f := fun d => { d with fail := F - 1 }) hkx (i := 3) (v := .int .i64 (F - 1)) (by decide) rfl)
  have HLEN : Hid (k * 5 + 3 + 1 ≤ x.dc.length) := hid (RX.dlen hkx (by decide))
  have HRX := hid (RO.out.upd (f := fun d => { d with fail := d.fail - 1 }) (r := fun d => { d with fail := F - 1 }) hka (by
    have h := RO.out.dv k hka
    exact ⟨h.lo, h.ay, by show F - 1 = (a.dv (k : Int)).fail - 1; rw [hF], h.gone, h.len, h.sec⟩) (upd_secs (inS_inD hs) rfl))
  clear hs hg hf hfr hf9 hF
  clear ho ok hll
  go_enter Tryz.func26, Tryz.ntmps26
  go_wp2_with (first | go_big_skip | go_big_guard | (refine wl_loadE rfl rfl rfl ?_; first | refine ⟨_, Loads.at [] hst HOX.out, ?_⟩ | refine ⟨_, Loads.at [_] hst HG.out, ?_⟩ | refine ⟨_, Loads.at [_] hst HF3.out, ?_⟩ | refine ⟨_, Loads.at [] hst rfl, ?_⟩) | (go_at_call 60; refine (sector_r (R := R) hst RO.out (k : Int) pl).mono ?_; rw [HS.out]; rintro _ w1 ⟨rfl, h4⟩; replace hst := h4; clear h4) | (refine wl_index (k := k) rfl rfl rfl rfl hkx ?_) | (refine wl_store [_] hst rfl rfl rfl (v := .int _ _) rfl rfl rfl HLEN.out ?_; intro w9 hs9; clear hst))
  go_ret2
  refine ⟨.slice none 0 0, _, rfl, HRX.out, ?_⟩
  rw [RX.upd_P (f := fun d => { d with fail := F - 1 }) (fun _ => rfl), ← HPUT.out]
  exact St.nilR _ 1 hs9
theorem read_fine_r {w0 w : World} {M : List Nat} {R : List HA} {gr : Nat} {a : AR} {x : RX} (hS : St w0 M w (rxP gr x ++ R)) (ro : RefOk a x) (dev pl : Int) (ho : a.out = false) (hs : a.inS dev pl = true) (hg : (a.dv dev).gone = false) (hf : ¬ 0 < (a.dv dev).fail) (ok : a.Ok) (hll : a.loose.length < 1000000) : Calls Tryz.prog 26 #[.pointer (some ⟨gr, 0, none⟩), .int .i64 dev, .int .i64 pl] w fun e w' => ∃ u y, e = .returned (.tuple #[u, .int .i64 (a.readE dev pl)]) ∧ RefOk (a.read dev pl) y ∧ St w0 M w' (.row u 5 1 (a.readB dev pl).length (bytesV (a.readB dev pl)) :: (rxP gr y ++ R)) := by
  have hst : St w0 M w (.blk gr 57 x.hdr :: .blk x.gd 60 x.dc :: .row x.lv 96 3 x.loose.length x.lc :: (x.tail ++ R)) := hS
  have RO := hid ro
  clear hS ro
  have hE : a.readE dev pl = 0 := by unfold AR.readE; rw [if_neg ok.d0, ho, if_neg (by decide), hs, if_neg (by decide), hg, if_neg (by decide), if_neg hf]
  have hB : a.readB dev pl = a.tells dev pl := by unfold AR.readB; rw [hE]; rfl
  have hR : a.read dev pl = a := by unfold AR.read; rw [hE]; rfl
  rw [hE, hB, hR]
  clear hE hB hR
  have HOX : Hid (x.hdr[4]? = some (.bool false)) := hid (by show some (Value.bool x.out) = _; rw [RO.out.out, ho])
  obtain ⟨k, rfl, hka⟩ := nat_dev (inS_inD hs)
  have hkx : k < x.devs.length := by rw [RO.out.dn]; exact hka
  have HC := hid (RO.out.cells hka)
  have HG : Hid (x.dc[k * 5 + 4]? = some (.bool false)) := hid (by rw [HC.out.2.2.2.2, hg])
  have HS := hid hs
  have hfr := ok.dv (inS_inD hs)
  have hf9 := hfr.2.2.2
  obtain ⟨F, hF⟩ : ∃ F, F = (a.dv (k : Int)).fail := ⟨_, rfl⟩
  have HF3 : Hid (x.dc[k * 5 + 3]? = some (.int .i64 F)) := hid (by rw [hF]; exact HC.out.2.2.2.1)
  rw [← hF] at hf hf9
  have d1 : decide (0 < F) = false := decide_eq_false hf
  have d2 : decide (F > 0) = false := d1
  obtain ⟨p, rfl⟩ : ∃ p : Nat, pl = p := ⟨pl.toNat, by have := (inS_pl hs).1; omega⟩
  have OK := hid ok
  have HLL := hid hll
  have HT : Hid ((a.tells (k : Int) (p : Int)).length = 256) := hid (by have := tells_len ok hs a.loose.length; rw [List.take_length] at this; exact this)
  clear hs hg hf hfr hf9 hF
  clear ho ok hll
  go_enter Tryz.func26, Tryz.ntmps26
  go_wp2_with (first | go_big_skip | go_big_guard | (refine wl_loadE rfl rfl rfl ?_; first | refine ⟨_, Loads.at [] hst HOX.out, ?_⟩ | refine ⟨_, Loads.at [_] hst HG.out, ?_⟩ | refine ⟨_, Loads.at [_] hst HF3.out, ?_⟩ | refine ⟨_, Loads.at [] hst rfl, ?_⟩) | (go_at_call 60; refine (sector_r (R := R) hst RO.out (k : Int) (p : Int)).mono ?_; rw [HS.out]; rintro _ w1 ⟨rfl, h4⟩; replace hst := h4; clear h4) | (refine wl_index (k := k) rfl rfl rfl rfl hkx ?_) | (go_at_call 67; refine (tells_r (R := R) (k := k) (p := p) hst RO.out OK.out HLL.out HS.out).mono ?_; rintro _ w2 ⟨u, rfl, h4⟩; clear hst))
  go_ret2
  refine ⟨u, x, rfl, RO.out, ?_⟩
  rw [HT.out]
  exact h4
theorem read_r {w0 w : World} {M : List Nat} {R : List HA} {gr : Nat} {a : AR} {x : RX} (hS : St w0 M w (rxP gr x ++ R)) (ro : RefOk a x) (dev pl : Int) (ok : a.Ok) (hll : a.loose.length < 1000000) : Calls Tryz.prog 26 #[.pointer (some ⟨gr, 0, none⟩), .int .i64 dev, .int .i64 pl] w fun e w' => ∃ u y, e = .returned (.tuple #[u, .int .i64 (a.readE dev pl)]) ∧ RefOk (a.read dev pl) y ∧ St w0 M w' (.row u 5 1 (a.readB dev pl).length (bytesV (a.readB dev pl)) :: (rxP gr y ++ R)) := by
  cases ho : a.out
  · cases hs : a.inS dev pl
    · exact read_far_r hS ro dev pl ho hs ok hll
    · cases hg : (a.dv dev).gone
      · by_cases hf : 0 < (a.dv dev).fail
        · exact read_fail_r hS ro dev pl ho hs hg hf ok hll
        · exact read_fine_r hS ro dev pl ho hs hg hf ok hll
      · exact read_gone_r hS ro dev pl ho hs hg ok hll
  · exact read_out_r hS ro dev pl ho ok hll
theorem fuse_out_r {w0 w : World} {M : List Nat} {R : List HA} {gr : Nat} {a : AR} {x : RX} (hS : St w0 M w (rxP gr x ++ R)) (ro : RefOk a x) (n : Int) (ho : a.out = true) (ok : a.Ok) : Calls Tryz.prog 32 #[.pointer (some ⟨gr, 0, none⟩), .int .i64 n] w fun e w' => e = .returned (.int .i64 (a.fuseE n)) ∧ ∃ y, RefOk (a.fused n) y ∧ St w0 M w' (rxP gr y ++ R) := by
  have hst : St w0 M w (.blk gr 57 x.hdr :: .blk x.gd 60 x.dc :: .row x.lv 96 3 x.loose.length x.lc :: (x.tail ++ R)) := hS
  have RO := hid ro
  clear hS ro
  have hE : a.fuseE n = 10 := by unfold AR.fuseE; rw [if_neg ok.d0, ho, if_pos rfl]
  have hR : a.fused n = a := by unfold AR.fused; rw [hE]; rfl
  rw [hE, hR]
  clear hE hR
  have HOX : Hid (x.hdr[4]? = some (.bool true)) := hid (by show some (Value.bool x.out) = _; rw [RO.out.out, ho])
  clear ho ok
  go_enter Tryz.func32, Tryz.ntmps32
  go_wp2_with (first | go_big_skip | go_big_guard | (refine wl_loadE rfl rfl rfl ?_; first | refine ⟨_, Loads.at [] hst HOX.out, ?_⟩ | refine ⟨_, Loads.at [] hst rfl, ?_⟩))
  go_ret
  exact ⟨rfl, x, RO.out, hst⟩
theorem fuse_neg_r {w0 w : World} {M : List Nat} {R : List HA} {gr : Nat} {a : AR} {x : RX} (hS : St w0 M w (rxP gr x ++ R)) (ro : RefOk a x) (n : Int) (ho : a.out = false) (hn : n < 0) (ok : a.Ok) : Calls Tryz.prog 32 #[.pointer (some ⟨gr, 0, none⟩), .int .i64 n] w fun e w' => e = .returned (.int .i64 (a.fuseE n)) ∧ ∃ y, RefOk (a.fused n) y ∧ St w0 M w' (rxP gr y ++ R) := by
  have hst : St w0 M w (.blk gr 57 x.hdr :: .blk x.gd 60 x.dc :: .row x.lv 96 3 x.loose.length x.lc :: (x.tail ++ R)) := hS
  have RO := hid ro
  clear hS ro
  have hE : a.fuseE n = 2 := by unfold AR.fuseE; rw [if_neg ok.d0, ho, if_neg (by decide), if_pos hn]
  have hR : a.fused n = a := by unfold AR.fused; rw [hE]; rfl
  rw [hE, hR]
  clear hE hR
  have HOX : Hid (x.hdr[4]? = some (.bool false)) := hid (by show some (Value.bool x.out) = _; rw [RO.out.out, ho])
  have d1 : decide (n < 0) = true := decide_eq_true hn
  clear ho ok
  go_enter Tryz.func32, Tryz.ntmps32
  go_wp2_with (first | go_big_skip | go_big_guard | (refine wl_loadE rfl rfl rfl ?_; first | refine ⟨_, Loads.at [] hst HOX.out, ?_⟩ | refine ⟨_, Loads.at [] hst rfl, ?_⟩))
  go_ret
  exact ⟨rfl, x, RO.out, hst⟩
theorem fuse_fine_r {w0 w : World} {M : List Nat} {R : List HA} {gr : Nat} {a : AR} {x : RX} (hS : St w0 M w (rxP gr x ++ R)) (ro : RefOk a x) (n : Int) (ho : a.out = false) (hn : ¬ n < 0) (ok : a.Ok) : Calls Tryz.prog 32 #[.pointer (some ⟨gr, 0, none⟩), .int .i64 n] w fun e w' => e = .returned (.int .i64 (a.fuseE n)) ∧ ∃ y, RefOk (a.fused n) y ∧ St w0 M w' (rxP gr y ++ R) := by
  have hst : St w0 M w (.blk gr 57 x.hdr :: .blk x.gd 60 x.dc :: .row x.lv 96 3 x.loose.length x.lc :: (x.tail ++ R)) := hS
  have RO := hid ro
  clear hS ro
  have hE : a.fuseE n = 0 := by unfold AR.fuseE; rw [if_neg ok.d0, ho, if_neg (by decide), if_neg hn]
  have hR : a.fused n = { a with fuse := n } := by unfold AR.fused; rw [hE]; rfl
  rw [hE, hR]
  clear hE hR
  have HOX : Hid (x.hdr[4]? = some (.bool false)) := hid (by show some (Value.bool x.out) = _; rw [RO.out.out, ho])
  have d1 : decide (n < 0) = false := decide_eq_false hn
  clear ho ok
  go_enter Tryz.func32, Tryz.ntmps32
  go_wp2_with (first | go_big_skip | go_big_guard | (refine wl_loadE rfl rfl rfl ?_; first | refine ⟨_, Loads.at [] hst HOX.out, ?_⟩ | refine ⟨_, Loads.at [] hst rfl, ?_⟩) | (refine wl_store [] hst rfl rfl rfl (v := .int _ _) rfl rfl rfl (by show (3 : Nat) + 1 ≤ 6; decide) ?_; intro w9 hs9; clear hst))
  go_ret
  exact ⟨rfl, { x with left := n }, ⟨RO.out.dn, RO.out.dv, RO.out.mn, RO.out.ln, RO.out.lw, rfl, RO.out.out, RO.out.steps⟩, hs9⟩
theorem fuse_r {w0 w : World} {M : List Nat} {R : List HA} {gr : Nat} {a : AR} {x : RX} (hS : St w0 M w (rxP gr x ++ R)) (ro : RefOk a x) (n : Int) (ok : a.Ok) : Calls Tryz.prog 32 #[.pointer (some ⟨gr, 0, none⟩), .int .i64 n] w fun e w' => e = .returned (.int .i64 (a.fuseE n)) ∧ ∃ y, RefOk (a.fused n) y ∧ St w0 M w' (rxP gr y ++ R) := by
  cases ho : a.out
  · by_cases hn : n < 0
    · exact fuse_neg_r hS ro n ho hn ok
    · exact fuse_fine_r hS ro n ho hn ok
  · exact fuse_out_r hS ro n ho ok
theorem lose_far_r {w0 w : World} {M : List Nat} {R : List HA} {gr : Nat} {a : AR} {x : RX} (hS : St w0 M w (rxP gr x ++ R)) (ro : RefOk a x) (dev : Int) (hc : a.inD dev = false) : Calls Tryz.prog 72 #[.pointer (some ⟨gr, 0, none⟩), .int .i64 dev] w fun e w' => e = .returned (.int .i64 (a.loseE dev)) ∧ ∃ y, RefOk (a.lose dev) y ∧ St w0 M w' (rxP gr y ++ R) := by
  have hst : St w0 M w (.blk gr 57 x.hdr :: .blk x.gd 60 x.dc :: .row x.lv 96 3 x.loose.length x.lc :: (x.tail ++ R)) := hS
  have RO := hid ro
  clear hS ro
  have hE : a.loseE dev = 5 := by unfold AR.loseE AR.fellE; rw [hc]; rfl
  have hR : a.lose dev = a := by unfold AR.lose AR.fell; rw [hc]; rfl
  rw [hE, hR]
  clear hE hR
  have HS := hid hc
  clear hc
  go_enter Tryz.func72, Tryz.ntmps72
  go_wp2_with (first | go_big_skip | go_big_guard | (go_at_call 62; refine (there_r (R := R) hst RO.out dev).mono ?_; rw [HS.out]; rintro _ w1 ⟨rfl, h4⟩; replace hst := h4; clear h4))
  go_ret
  exact ⟨rfl, x, RO.out, hst⟩
theorem lose_gone_r {w0 w : World} {M : List Nat} {R : List HA} {gr : Nat} {a : AR} {x : RX} (hS : St w0 M w (rxP gr x ++ R)) (ro : RefOk a x) (dev : Int) (hc : a.inD dev = true) (hg : (a.dv dev).gone = true) : Calls Tryz.prog 72 #[.pointer (some ⟨gr, 0, none⟩), .int .i64 dev] w fun e w' => e = .returned (.int .i64 (a.loseE dev)) ∧ ∃ y, RefOk (a.lose dev) y ∧ St w0 M w' (rxP gr y ++ R) := by
  have hst : St w0 M w (.blk gr 57 x.hdr :: .blk x.gd 60 x.dc :: .row x.lv 96 3 x.loose.length x.lc :: (x.tail ++ R)) := hS
  have RO := hid ro
  clear hS ro
  have hE : a.loseE dev = 14 := by unfold AR.loseE AR.fellE; rw [hc, hg]; rfl
  have hR : a.lose dev = a := by unfold AR.lose AR.fell; rw [hc, hg]; rfl
  rw [hE, hR]
  clear hE hR
  have HS := hid hc
  obtain ⟨k, rfl, hka⟩ := nat_dev hc
  have hkx : k < x.devs.length := by rw [RO.out.dn]; exact hka
  have HC := hid (RO.out.cells hka)
  have HG : Hid (x.dc[k * 5 + 4]? = some (.bool true)) := hid (by rw [HC.out.2.2.2.2, hg])
  clear hc hg
  go_enter Tryz.func72, Tryz.ntmps72
  go_wp2_with (first | go_big_skip | go_big_guard | (refine wl_loadE rfl rfl rfl ?_; first | refine ⟨_, Loads.at [_] hst HG.out, ?_⟩ | refine ⟨_, Loads.at [] hst rfl, ?_⟩) | (refine wl_index (k := k) rfl rfl rfl rfl hkx ?_) | (go_at_call 62; refine (there_r (R := R) hst RO.out (k : Int)).mono ?_; rw [HS.out]; rintro _ w1 ⟨rfl, h4⟩; replace hst := h4; clear h4))
  go_ret
  exact ⟨rfl, x, RO.out, hst⟩
theorem lose_fine_r {w0 w : World} {M : List Nat} {R : List HA} {gr : Nat} {a : AR} {x : RX} (hS : St w0 M w (rxP gr x ++ R)) (ro : RefOk a x) (dev : Int) (hc : a.inD dev = true) (hg : (a.dv dev).gone = false) : Calls Tryz.prog 72 #[.pointer (some ⟨gr, 0, none⟩), .int .i64 dev] w fun e w' => e = .returned (.int .i64 (a.loseE dev)) ∧ ∃ y, RefOk (a.lose dev) y ∧ St w0 M w' (rxP gr y ++ R) := by
  have hst : St w0 M w (.blk gr 57 x.hdr :: .blk x.gd 60 x.dc :: .row x.lv 96 3 x.loose.length x.lc :: (x.tail ++ R)) := hS
  have RO := hid ro
  clear hS ro
  have hE : a.loseE dev = 0 := by unfold AR.loseE AR.fellE; rw [hc, hg]; rfl
  have hR : a.lose dev = a.upd dev (fLose) := by unfold AR.lose AR.fell; rw [hc, hg]; rfl
  rw [hE, hR]
  clear hE hR
  have HS := hid hc
  obtain ⟨k, rfl, hka⟩ := nat_dev hc
  have hkx : k < x.devs.length := by rw [RO.out.dn]; exact hka
  have HC := hid (RO.out.cells hka)
  have HG : Hid (x.dc[k * 5 + 4]? = some (.bool false)) := hid (by rw [HC.out.2.2.2.2, hg])
  have HPUT := hid (RX.dput (f := fun d => { d with lo := true }) hkx (i := 1) (v := .bool true) (by decide) rfl)
  have HLEN : Hid (k * 5 + 1 + 1 ≤ x.dc.length) := hid (RX.dlen hkx (by decide))
  have HRX := hid (RO.out.upd (f := fLose) (r := fun d => { d with lo := true }) hka (by
    have h := RO.out.dv k hka
    exact ⟨rfl, h.ay, h.fail, h.gone, h.len, h.sec⟩) (upd_secs hc rfl))
  clear hc hg
  go_enter Tryz.func72, Tryz.ntmps72
  go_wp2_with (first | go_big_skip | go_big_guard | (refine wl_loadE rfl rfl rfl ?_; first | refine ⟨_, Loads.at [_] hst HG.out, ?_⟩ | refine ⟨_, Loads.at [] hst rfl, ?_⟩) | (refine wl_index (k := k) rfl rfl rfl rfl hkx ?_) | (refine wl_store [_] hst rfl rfl rfl (v := .bool true) rfl rfl rfl HLEN.out ?_; intro w9 hs9; clear hst) | (go_at_call 62; refine (there_r (R := R) hst RO.out (k : Int)).mono ?_; rw [HS.out]; rintro _ w1 ⟨rfl, h4⟩; replace hst := h4; clear h4))
  go_ret
  refine ⟨rfl, _, HRX.out, ?_⟩
  rw [RX.upd_P (f := fun d => { d with lo := true }) (fun _ => rfl), ← HPUT.out]
  exact hs9
theorem lose_r {w0 w : World} {M : List Nat} {R : List HA} {gr : Nat} {a : AR} {x : RX} (hS : St w0 M w (rxP gr x ++ R)) (ro : RefOk a x) (dev : Int) : Calls Tryz.prog 72 #[.pointer (some ⟨gr, 0, none⟩), .int .i64 dev] w fun e w' => e = .returned (.int .i64 (a.loseE dev)) ∧ ∃ y, RefOk (a.lose dev) y ∧ St w0 M w' (rxP gr y ++ R) := by
  cases hc : a.inD dev
  · exact lose_far_r hS ro dev hc
  · cases hg : (a.dv dev).gone
    · exact lose_fine_r hS ro dev hc hg
    · exact lose_gone_r hS ro dev hc hg
theorem stray_far_r {w0 w : World} {M : List Nat} {R : List HA} {gr : Nat} {a : AR} {x : RX} (hS : St w0 M w (rxP gr x ++ R)) (ro : RefOk a x) (dev : Int) (pl : Int) (hc : a.inS dev pl = false) : Calls Tryz.prog 74 #[.pointer (some ⟨gr, 0, none⟩), .int .i64 dev, .int .i64 pl] w fun e w' => e = .returned (.int .i64 (a.strayE dev pl)) ∧ ∃ y, RefOk (a.stray dev pl) y ∧ St w0 M w' (rxP gr y ++ R) := by
  have hst : St w0 M w (.blk gr 57 x.hdr :: .blk x.gd 60 x.dc :: .row x.lv 96 3 x.loose.length x.lc :: (x.tail ++ R)) := hS
  have RO := hid ro
  clear hS ro
  have hE : a.strayE dev pl = 5 := by unfold AR.strayE AR.fellE; rw [hc]; rfl
  have hR : a.stray dev pl = a := by unfold AR.stray AR.fell; rw [hc]; rfl
  rw [hE, hR]
  clear hE hR
  have HS := hid hc
  clear hc
  go_enter Tryz.func74, Tryz.ntmps74
  go_wp2_with (first | go_big_skip | go_big_guard | (go_at_call 60; refine (sector_r (R := R) hst RO.out dev pl).mono ?_; rw [HS.out]; rintro _ w1 ⟨rfl, h4⟩; replace hst := h4; clear h4))
  go_ret
  exact ⟨rfl, x, RO.out, hst⟩
theorem stray_gone_r {w0 w : World} {M : List Nat} {R : List HA} {gr : Nat} {a : AR} {x : RX} (hS : St w0 M w (rxP gr x ++ R)) (ro : RefOk a x) (dev : Int) (pl : Int) (hc : a.inS dev pl = true) (hg : (a.dv dev).gone = true) : Calls Tryz.prog 74 #[.pointer (some ⟨gr, 0, none⟩), .int .i64 dev, .int .i64 pl] w fun e w' => e = .returned (.int .i64 (a.strayE dev pl)) ∧ ∃ y, RefOk (a.stray dev pl) y ∧ St w0 M w' (rxP gr y ++ R) := by
  have hst : St w0 M w (.blk gr 57 x.hdr :: .blk x.gd 60 x.dc :: .row x.lv 96 3 x.loose.length x.lc :: (x.tail ++ R)) := hS
  have RO := hid ro
  clear hS ro
  have hE : a.strayE dev pl = 14 := by unfold AR.strayE AR.fellE; rw [hc, hg]; rfl
  have hR : a.stray dev pl = a := by unfold AR.stray AR.fell; rw [hc, hg]; rfl
  rw [hE, hR]
  clear hE hR
  have HS := hid hc
  obtain ⟨k, rfl, hka⟩ := nat_dev (inS_inD hc)
  have hkx : k < x.devs.length := by rw [RO.out.dn]; exact hka
  have HC := hid (RO.out.cells hka)
  have HG : Hid (x.dc[k * 5 + 4]? = some (.bool true)) := hid (by rw [HC.out.2.2.2.2, hg])
  clear hc hg
  go_enter Tryz.func74, Tryz.ntmps74
  go_wp2_with (first | go_big_skip | go_big_guard | (refine wl_loadE rfl rfl rfl ?_; first | refine ⟨_, Loads.at [_] hst HG.out, ?_⟩ | refine ⟨_, Loads.at [] hst rfl, ?_⟩) | (refine wl_index (k := k) rfl rfl rfl rfl hkx ?_) | (go_at_call 60; refine (sector_r (R := R) hst RO.out (k : Int) pl).mono ?_; rw [HS.out]; rintro _ w1 ⟨rfl, h4⟩; replace hst := h4; clear h4))
  go_ret
  exact ⟨rfl, x, RO.out, hst⟩
theorem stray_fine_r {w0 w : World} {M : List Nat} {R : List HA} {gr : Nat} {a : AR} {x : RX} (hS : St w0 M w (rxP gr x ++ R)) (ro : RefOk a x) (dev : Int) (pl : Int) (hc : a.inS dev pl = true) (hg : (a.dv dev).gone = false) : Calls Tryz.prog 74 #[.pointer (some ⟨gr, 0, none⟩), .int .i64 dev, .int .i64 pl] w fun e w' => e = .returned (.int .i64 (a.strayE dev pl)) ∧ ∃ y, RefOk (a.stray dev pl) y ∧ St w0 M w' (rxP gr y ++ R) := by
  have hst : St w0 M w (.blk gr 57 x.hdr :: .blk x.gd 60 x.dc :: .row x.lv 96 3 x.loose.length x.lc :: (x.tail ++ R)) := hS
  have RO := hid ro
  clear hS ro
  have hE : a.strayE dev pl = 0 := by unfold AR.strayE AR.fellE; rw [hc, hg]; rfl
  have hR : a.stray dev pl = a.upd dev (fStray pl) := by unfold AR.stray AR.fell; rw [hc, hg]; rfl
  rw [hE, hR]
  clear hE hR
  have HS := hid hc
  obtain ⟨k, rfl, hka⟩ := nat_dev (inS_inD hc)
  have hkx : k < x.devs.length := by rw [RO.out.dn]; exact hka
  have HC := hid (RO.out.cells hka)
  have HG : Hid (x.dc[k * 5 + 4]? = some (.bool false)) := hid (by rw [HC.out.2.2.2.2, hg])
  have HPUT := hid (RX.dput (f := fun d => { d with ay := pl }) hkx (i := 2) (v := .int .i64 pl) (by decide) rfl)
  have HLEN : Hid (k * 5 + 2 + 1 ≤ x.dc.length) := hid (RX.dlen hkx (by decide))
  have HRX := hid (RO.out.upd (f := fStray pl) (r := fun d => { d with ay := pl }) hka (by
    have h := RO.out.dv k hka
    exact ⟨h.lo, rfl, h.fail, h.gone, h.len, h.sec⟩) (upd_secs (inS_inD hc) rfl))
  clear hc hg
  go_enter Tryz.func74, Tryz.ntmps74
  go_wp2_with (first | go_big_skip | go_big_guard | (refine wl_loadE rfl rfl rfl ?_; first | refine ⟨_, Loads.at [_] hst HG.out, ?_⟩ | refine ⟨_, Loads.at [] hst rfl, ?_⟩) | (refine wl_index (k := k) rfl rfl rfl rfl hkx ?_) | (refine wl_store [_] hst rfl rfl rfl (v := .int _ _) rfl rfl rfl HLEN.out ?_; intro w9 hs9; clear hst) | (go_at_call 60; refine (sector_r (R := R) hst RO.out (k : Int) pl).mono ?_; rw [HS.out]; rintro _ w1 ⟨rfl, h4⟩; replace hst := h4; clear h4))
  go_ret
  refine ⟨rfl, _, HRX.out, ?_⟩
  rw [RX.upd_P (f := fun d => { d with ay := pl }) (fun _ => rfl), ← HPUT.out]
  exact hs9
theorem stray_r {w0 w : World} {M : List Nat} {R : List HA} {gr : Nat} {a : AR} {x : RX} (hS : St w0 M w (rxP gr x ++ R)) (ro : RefOk a x) (dev : Int) (pl : Int) : Calls Tryz.prog 74 #[.pointer (some ⟨gr, 0, none⟩), .int .i64 dev, .int .i64 pl] w fun e w' => e = .returned (.int .i64 (a.strayE dev pl)) ∧ ∃ y, RefOk (a.stray dev pl) y ∧ St w0 M w' (rxP gr y ++ R) := by
  cases hc : a.inS dev pl
  · exact stray_far_r hS ro dev pl hc
  · cases hg : (a.dv dev).gone
    · exact stray_fine_r hS ro dev pl hc hg
    · exact stray_gone_r hS ro dev pl hc hg
theorem fails_far_r {w0 w : World} {M : List Nat} {R : List HA} {gr : Nat} {a : AR} {x : RX} (hS : St w0 M w (rxP gr x ++ R)) (ro : RefOk a x) (dev : Int) (n : Int) (hc : a.inD dev = false) : Calls Tryz.prog 76 #[.pointer (some ⟨gr, 0, none⟩), .int .i64 dev, .int .i64 n] w fun e w' => e = .returned (.int .i64 (a.failsE dev n)) ∧ ∃ y, RefOk (a.fails dev n) y ∧ St w0 M w' (rxP gr y ++ R) := by
  have hst : St w0 M w (.blk gr 57 x.hdr :: .blk x.gd 60 x.dc :: .row x.lv 96 3 x.loose.length x.lc :: (x.tail ++ R)) := hS
  have RO := hid ro
  clear hS ro
  have hE : a.failsE dev n = 5 := by unfold AR.failsE AR.fellE; rw [hc]; rfl
  have hR : a.fails dev n = a := by unfold AR.fails AR.fell; rw [hc]; rfl
  rw [hE, hR]
  clear hE hR
  have HS := hid hc
  clear hc
  go_enter Tryz.func76, Tryz.ntmps76
  go_wp2_with (first | go_big_skip | go_big_guard | (go_at_call 62; refine (there_r (R := R) hst RO.out dev).mono ?_; rw [HS.out]; rintro _ w1 ⟨rfl, h4⟩; replace hst := h4; clear h4))
  go_ret
  exact ⟨rfl, x, RO.out, hst⟩
theorem fails_gone_r {w0 w : World} {M : List Nat} {R : List HA} {gr : Nat} {a : AR} {x : RX} (hS : St w0 M w (rxP gr x ++ R)) (ro : RefOk a x) (dev : Int) (n : Int) (hc : a.inD dev = true) (hn : 0 ≤ n) (hg : (a.dv dev).gone = true) : Calls Tryz.prog 76 #[.pointer (some ⟨gr, 0, none⟩), .int .i64 dev, .int .i64 n] w fun e w' => e = .returned (.int .i64 (a.failsE dev n)) ∧ ∃ y, RefOk (a.fails dev n) y ∧ St w0 M w' (rxP gr y ++ R) := by
  have hst : St w0 M w (.blk gr 57 x.hdr :: .blk x.gd 60 x.dc :: .row x.lv 96 3 x.loose.length x.lc :: (x.tail ++ R)) := hS
  have RO := hid ro
  clear hS ro
  have hE : a.failsE dev n = 14 := by unfold AR.failsE AR.fellE; rw [hc, decide_eq_true hn, hg]; rfl
  have hR : a.fails dev n = a := by unfold AR.fails AR.fell; rw [hc, decide_eq_true hn, hg]; rfl
  rw [hE, hR]
  clear hE hR
  have HS := hid hc
  obtain ⟨k, rfl, hka⟩ := nat_dev hc
  have hkx : k < x.devs.length := by rw [RO.out.dn]; exact hka
  have HC := hid (RO.out.cells hka)
  have HG : Hid (x.dc[k * 5 + 4]? = some (.bool true)) := hid (by rw [HC.out.2.2.2.2, hg])
  have d1 : decide (n < 0) = false := decide_eq_false (by omega)
  clear hc hg
  go_enter Tryz.func76, Tryz.ntmps76
  go_wp2_with (first | go_big_skip | go_big_guard | (refine wl_loadE rfl rfl rfl ?_; first | refine ⟨_, Loads.at [_] hst HG.out, ?_⟩ | refine ⟨_, Loads.at [] hst rfl, ?_⟩) | (refine wl_index (k := k) rfl rfl rfl rfl hkx ?_) | (go_at_call 62; refine (there_r (R := R) hst RO.out (k : Int)).mono ?_; rw [HS.out]; rintro _ w1 ⟨rfl, h4⟩; replace hst := h4; clear h4))
  go_ret
  exact ⟨rfl, x, RO.out, hst⟩
theorem fails_fine_r {w0 w : World} {M : List Nat} {R : List HA} {gr : Nat} {a : AR} {x : RX} (hS : St w0 M w (rxP gr x ++ R)) (ro : RefOk a x) (dev : Int) (n : Int) (hc : a.inD dev = true) (hn : 0 ≤ n) (hg : (a.dv dev).gone = false) : Calls Tryz.prog 76 #[.pointer (some ⟨gr, 0, none⟩), .int .i64 dev, .int .i64 n] w fun e w' => e = .returned (.int .i64 (a.failsE dev n)) ∧ ∃ y, RefOk (a.fails dev n) y ∧ St w0 M w' (rxP gr y ++ R) := by
  have hst : St w0 M w (.blk gr 57 x.hdr :: .blk x.gd 60 x.dc :: .row x.lv 96 3 x.loose.length x.lc :: (x.tail ++ R)) := hS
  have RO := hid ro
  clear hS ro
  have hE : a.failsE dev n = 0 := by unfold AR.failsE AR.fellE; rw [hc, decide_eq_true hn, hg]; rfl
  have hR : a.fails dev n = a.upd dev (fFail n) := by unfold AR.fails AR.fell; rw [hc, decide_eq_true hn, hg]; rfl
  rw [hE, hR]
  clear hE hR
  have HS := hid hc
  obtain ⟨k, rfl, hka⟩ := nat_dev hc
  have hkx : k < x.devs.length := by rw [RO.out.dn]; exact hka
  have HC := hid (RO.out.cells hka)
  have HG : Hid (x.dc[k * 5 + 4]? = some (.bool false)) := hid (by rw [HC.out.2.2.2.2, hg])
  have d1 : decide (n < 0) = false := decide_eq_false (by omega)
  have HPUT := hid (RX.dput (f := fun d => { d with fail := n }) hkx (i := 3) (v := .int .i64 n) (by decide) rfl)
  have HLEN : Hid (k * 5 + 3 + 1 ≤ x.dc.length) := hid (RX.dlen hkx (by decide))
  have HRX := hid (RO.out.upd (f := fFail n) (r := fun d => { d with fail := n }) hka (by
    have h := RO.out.dv k hka
    exact ⟨h.lo, h.ay, rfl, h.gone, h.len, h.sec⟩) (upd_secs hc rfl))
  clear hc hg
  go_enter Tryz.func76, Tryz.ntmps76
  go_wp2_with (first | go_big_skip | go_big_guard | (refine wl_loadE rfl rfl rfl ?_; first | refine ⟨_, Loads.at [_] hst HG.out, ?_⟩ | refine ⟨_, Loads.at [] hst rfl, ?_⟩) | (refine wl_index (k := k) rfl rfl rfl rfl hkx ?_) | (refine wl_store [_] hst rfl rfl rfl (v := .int _ _) rfl rfl rfl HLEN.out ?_; intro w9 hs9; clear hst) | (go_at_call 62; refine (there_r (R := R) hst RO.out (k : Int)).mono ?_; rw [HS.out]; rintro _ w1 ⟨rfl, h4⟩; replace hst := h4; clear h4))
  go_ret
  refine ⟨rfl, _, HRX.out, ?_⟩
  rw [RX.upd_P (f := fun d => { d with fail := n }) (fun _ => rfl), ← HPUT.out]
  exact hs9
theorem fails_neg_r {w0 w : World} {M : List Nat} {R : List HA} {gr : Nat} {a : AR} {x : RX} (hS : St w0 M w (rxP gr x ++ R)) (ro : RefOk a x) (dev : Int) (n : Int) (hc : a.inD dev = true) (hn : ¬ 0 ≤ n) : Calls Tryz.prog 76 #[.pointer (some ⟨gr, 0, none⟩), .int .i64 dev, .int .i64 n] w fun e w' => e = .returned (.int .i64 (a.failsE dev n)) ∧ ∃ y, RefOk (a.fails dev n) y ∧ St w0 M w' (rxP gr y ++ R) := by
  have hst : St w0 M w (.blk gr 57 x.hdr :: .blk x.gd 60 x.dc :: .row x.lv 96 3 x.loose.length x.lc :: (x.tail ++ R)) := hS
  have RO := hid ro
  clear hS ro
  have hE : a.failsE dev n = 2 := by unfold AR.failsE AR.fellE; rw [hc, decide_eq_false hn]; rfl
  have hR : a.fails dev n = a := by unfold AR.fails AR.fell; rw [hc, decide_eq_false hn]; rfl
  rw [hE, hR]
  clear hE hR
  have HS := hid hc
  have d1 : decide (n < 0) = true := decide_eq_true (by omega)
  clear hc
  go_enter Tryz.func76, Tryz.ntmps76
  go_wp2_with (first | go_big_skip | go_big_guard | (go_at_call 62; refine (there_r (R := R) hst RO.out dev).mono ?_; rw [HS.out]; rintro _ w1 ⟨rfl, h4⟩; replace hst := h4; clear h4))
  go_ret
  exact ⟨rfl, x, RO.out, hst⟩
theorem fails_r {w0 w : World} {M : List Nat} {R : List HA} {gr : Nat} {a : AR} {x : RX} (hS : St w0 M w (rxP gr x ++ R)) (ro : RefOk a x) (dev : Int) (n : Int) : Calls Tryz.prog 76 #[.pointer (some ⟨gr, 0, none⟩), .int .i64 dev, .int .i64 n] w fun e w' => e = .returned (.int .i64 (a.failsE dev n)) ∧ ∃ y, RefOk (a.fails dev n) y ∧ St w0 M w' (rxP gr y ++ R) := by
  cases hc : a.inD dev
  · exact fails_far_r hS ro dev n hc
  · by_cases hn : 0 ≤ n
    · cases hg : (a.dv dev).gone
      · exact fails_fine_r hS ro dev n hc hn hg
      · exact fails_gone_r hS ro dev n hc hn hg
    · exact fails_neg_r hS ro dev n hc hn
end Go.Proofs.YtclleohpmgihaaaGreat
namespace Go.Proofs.YtclleohpmgihaaaGreat
set_option linter.unusedVariables false
set_option linter.unusedSimpArgs false
open Go.RowKit Hp
attribute [local irreducible] Go.Calls Go.wpList
set_option maxRecDepth 100000
set_option maxHeartbeats 4000000
theorem step_len (a : AR) : a.step.devs.length = a.devs.length := by unfold AR.step; split <;> rfl
theorem step_sec (a : AR) : a.step.secs = a.secs := by unfold AR.step; split <;> rfl
theorem wneg {a : AR} {dev pl : Int} {bs : List UInt8} (h0 : a.devs ≠ []) (ho : a.out = false) (hs : a.inS dev pl = true) (hb : bs.length = 256) (hg : (a.dv dev).gone = false) : ¬ (a.devs = [] ∨ a.out = true ∨ a.inS dev pl = false ∨ bs.length ≠ 256 ∨ (a.dv dev).gone = true) := by
  rintro (h | h | h | h | h)
  · exact h0 h
  · rw [ho] at h; cases h
  · rw [hs] at h; cases h
  · exact h hb
  · rw [hg] at h; cases h
theorem RefOk.addw {a : AR} {x : RX} (h : RefOk a x) (k p : Nat) (bs : List UInt8) (bv v' : Value) : RefOk { a with loose := a.loose ++ [⟨k, p, bs⟩] } { x with loose := x.loose ++ [⟨k, p, bv⟩], lv := v', pool := x.pool ++ [.row bv 5 1 256 (bytesV bs)] } := by
  have hq : ∀ y ∈ x.pool, y ∈ x.pool ++ [HA.row bv 5 1 256 (bytesV bs)] := fun y hy => List.mem_append_left _ hy
  refine ⟨h.dn, fun j hj => (h.dv j hj).mono hq, h.mn, ?_, fun i v hv => ?_, h.left, h.out, h.steps⟩
  · show (x.loose ++ [_]).length = (a.loose ++ [_]).length
    rw [List.length_append, List.length_append, h.ln]
    rfl
  · replace hv : (a.loose ++ [(⟨k, p, bs⟩ : LW)])[i]? = some v := hv
    show ∃ r, (x.loose ++ [(⟨k, p, bv⟩ : RWv)])[i]? = some r ∧ _
    by_cases hi : i < a.loose.length
    · rw [List.getElem?_append_left hi] at hv
      obtain ⟨r, h1, h2, h3, h4⟩ := h.lw i v hv
      exact ⟨r, by rw [List.getElem?_append_left (by rw [h.ln]; exact hi)]; exact h1, h2, h3, h4.mono hq⟩
    · rw [List.getElem?_append_right (by omega)] at hv
      have h0 : i - a.loose.length = 0 := by
        have := (List.getElem?_eq_some_iff.1 hv).1
        simp at this
        omega
      rw [h0] at hv
      cases hv
      exact ⟨⟨k, p, bv⟩, by rw [List.getElem?_append_right (by rw [h.ln]; omega), h.ln, h0]; rfl, rfl, rfl, List.mem_append_right _ (.head _)⟩
theorem fin_write {w0 w : World} {M : List Nat} {b3 rb rv A B rl : HA} {D P R : List HA} (h : St w0 M w (b3 :: rb :: rv :: A :: B :: rl :: ((D ++ P) ++ R))) : St w0 M w (A :: B :: rv :: ((D ++ (P ++ [rb])) ++ R)) := by
  have h1 := St.sub h (.cons _ (.cons_cons _ (.cons_cons _ (.cons_cons _ (.cons_cons _ (.cons _ (List.Sublist.refl _)))))))
  rw [show (D ++ (P ++ [rb])) ++ R = (D ++ P) ++ (rb :: R) by simp]
  refine St.perm h1 ?_
  refine (List.perm_middle (l₁ := rv :: A :: B :: (D ++ P)) (a := rb) (l₂ := R)).symm.trans ?_
  exact (List.Perm.swap _ _ _).trans (List.Perm.cons _ (List.Perm.swap _ _ _))
theorem lc_ones {w0 w : World} {M : List Nat} {R : List HA} {gr : Nat} {a : AR} {x : RX} (hS : St w0 M w (rxP gr x ++ R)) (ro : RefOk a x) : x.lc.all (·.oneCell') = true := by
  unfold RX.lc
  rw [List.all_eq_true]
  intro v hv
  obtain ⟨r, hr, hv2⟩ := List.mem_flatMap.1 hv
  obtain ⟨i, hi, rfl⟩ := List.getElem_of_mem hr
  obtain ⟨y, hy⟩ : ∃ y, a.loose[i]? = some y := ⟨_, List.getElem?_eq_getElem (by rw [← ro.ln]; exact hi)⟩
  obtain ⟨r2, h1, _, _, h4⟩ := ro.lw i y hy
  rw [List.getElem?_eq_getElem hi] at h1
  cases h1
  have hm : HA.row (x.loose[i]).bv 5 1 256 (bytesV y.b) ∈ rxP gr x ++ R := List.mem_append_left _ (.tail _ (.tail _ (.tail _ (List.mem_append_right _ h4))))
  obtain ⟨o, c, e, _⟩ := row_form hS hm
  unfold RWv.cells at hv2
  rw [e] at hv2
  simp only [List.mem_cons, List.not_mem_nil, or_false] at hv2
  rcases hv2 with rfl | rfl | rfl <;> rfl
theorem write_out_r {w0 w : World} {M : List Nat} {R : List HA} {gr : Nat} {a : AR} {x : RX} (hS : St w0 M w (rxP gr x ++ R)) (ro : RefOk a x) (dev pl : Int) (ao : Option Addr) (n c : Nat) (bs : List UInt8) (hr : ∀ (w' : World) (L' : List HA), St w0 M w' L' → Rd w' (.slice ao n c) 1 n (bytesV bs)) (hn : bs.length = n) (ho : a.out = true) (ok : a.Ok) (hll : a.loose.length < 1000000) (hs9 : 0 ≤ a.steps ∧ a.steps < 4611686018427387904) : Calls Tryz.prog 21 #[.pointer (some ⟨gr, 0, none⟩), .int .i64 dev, .int .i64 pl, .slice ao n c] w fun e w' => e = .returned (.int .i64 (a.writeE dev pl bs)) ∧ ∃ y, RefOk (a.write dev pl bs) y ∧ St w0 M w' (rxP gr y ++ R) := by
  have hst : St w0 M w (.blk gr 57 x.hdr :: .blk x.gd 60 x.dc :: .row x.lv 96 3 x.loose.length x.lc :: (x.tail ++ R)) := hS
  have RO := hid ro
  clear hS ro
  have hE : a.writeE dev pl bs = 10 := by unfold AR.writeE; rw [if_neg ok.d0, ho, if_pos rfl]
  have hR : a.write dev pl bs = a := by unfold AR.write; rw [if_pos (.inr (.inl ho))]
  rw [hE, hR]
  clear hE hR
  have HOX : Hid (x.hdr[4]? = some (.bool true)) := hid (by show some (Value.bool x.out) = _; rw [RO.out.out, ho])
  clear ho ok hll hs9 hn
  go_enter Tryz.func21, Tryz.ntmps21
  go_wp2_with (first | go_big_skip | go_big_guard | (refine wl_loadE rfl rfl rfl ?_; first | refine ⟨_, Loads.at [] hst HOX.out, ?_⟩ | refine ⟨_, Loads.at [] hst rfl, ?_⟩))
  go_ret
  exact ⟨rfl, x, RO.out, hst⟩
theorem write_far_r {w0 w : World} {M : List Nat} {R : List HA} {gr : Nat} {a : AR} {x : RX} (hS : St w0 M w (rxP gr x ++ R)) (ro : RefOk a x) (dev pl : Int) (ao : Option Addr) (n c : Nat) (bs : List UInt8) (hr : ∀ (w' : World) (L' : List HA), St w0 M w' L' → Rd w' (.slice ao n c) 1 n (bytesV bs)) (hn : bs.length = n) (ho : a.out = false) (hs : a.inS dev pl = false) (ok : a.Ok) (hll : a.loose.length < 1000000) (hs9 : 0 ≤ a.steps ∧ a.steps < 4611686018427387904) : Calls Tryz.prog 21 #[.pointer (some ⟨gr, 0, none⟩), .int .i64 dev, .int .i64 pl, .slice ao n c] w fun e w' => e = .returned (.int .i64 (a.writeE dev pl bs)) ∧ ∃ y, RefOk (a.write dev pl bs) y ∧ St w0 M w' (rxP gr y ++ R) := by
  have hst : St w0 M w (.blk gr 57 x.hdr :: .blk x.gd 60 x.dc :: .row x.lv 96 3 x.loose.length x.lc :: (x.tail ++ R)) := hS
  have RO := hid ro
  clear hS ro
  have hE : a.writeE dev pl bs = 5 := by unfold AR.writeE; rw [if_neg ok.d0, ho, if_neg (by decide), hs, if_pos rfl]
  have hR : a.write dev pl bs = a := by unfold AR.write; rw [if_pos (.inr (.inr (.inl hs)))]
  rw [hE, hR]
  clear hE hR
  have HOX : Hid (x.hdr[4]? = some (.bool false)) := hid (by show some (Value.bool x.out) = _; rw [RO.out.out, ho])
  have HS := hid hs
  clear ho hs ok hll hs9 hn
  go_enter Tryz.func21, Tryz.ntmps21
  go_wp2_with (first | go_big_skip | go_big_guard | (refine wl_loadE rfl rfl rfl ?_; first | refine ⟨_, Loads.at [] hst HOX.out, ?_⟩ | refine ⟨_, Loads.at [] hst rfl, ?_⟩) | (go_at_call 60; refine (sector_r (R := R) hst RO.out dev pl).mono ?_; rw [HS.out]; rintro _ w1 ⟨rfl, h4⟩; replace hst := h4; clear h4))
  go_ret
  exact ⟨rfl, x, RO.out, hst⟩
theorem write_size_r {w0 w : World} {M : List Nat} {R : List HA} {gr : Nat} {a : AR} {x : RX} (hS : St w0 M w (rxP gr x ++ R)) (ro : RefOk a x) (dev pl : Int) (ao : Option Addr) (n c : Nat) (bs : List UInt8) (hr : ∀ (w' : World) (L' : List HA), St w0 M w' L' → Rd w' (.slice ao n c) 1 n (bytesV bs)) (hn : bs.length = n) (ho : a.out = false) (hs : a.inS dev pl = true) (hb : bs.length ≠ 256) (ok : a.Ok) (hll : a.loose.length < 1000000) (hs9 : 0 ≤ a.steps ∧ a.steps < 4611686018427387904) : Calls Tryz.prog 21 #[.pointer (some ⟨gr, 0, none⟩), .int .i64 dev, .int .i64 pl, .slice ao n c] w fun e w' => e = .returned (.int .i64 (a.writeE dev pl bs)) ∧ ∃ y, RefOk (a.write dev pl bs) y ∧ St w0 M w' (rxP gr y ++ R) := by
  have hst : St w0 M w (.blk gr 57 x.hdr :: .blk x.gd 60 x.dc :: .row x.lv 96 3 x.loose.length x.lc :: (x.tail ++ R)) := hS
  have RO := hid ro
  clear hS ro
  have hE : a.writeE dev pl bs = 2 := by unfold AR.writeE; rw [if_neg ok.d0, ho, if_neg (by decide), hs, if_neg (by decide), if_pos hb]
  have hR : a.write dev pl bs = a := by unfold AR.write; rw [if_pos (.inr (.inr (.inr (.inl hb))))]
  rw [hE, hR]
  clear hE hR
  have HOX : Hid (x.hdr[4]? = some (.bool false)) := hid (by show some (Value.bool x.out) = _; rw [RO.out.out, ho])
  have HS := hid hs
  have hbn : (n : Int) ≠ 256 := by omega
  have d0 : ((n : Int) != 256) = true := by simpa using hbn
  clear ho hs hb hbn ok hll hs9 hn
  go_enter Tryz.func21, Tryz.ntmps21
  go_wp2_with (first | go_big_skip | go_big_guard | (refine wl_loadE rfl rfl rfl ?_; first | refine ⟨_, Loads.at [] hst HOX.out, ?_⟩ | refine ⟨_, Loads.at [] hst rfl, ?_⟩) | (go_at_call 60; refine (sector_r (R := R) hst RO.out dev pl).mono ?_; rw [HS.out]; rintro _ w1 ⟨rfl, h4⟩; replace hst := h4; clear h4))
  go_ret
  exact ⟨rfl, x, RO.out, hst⟩
theorem write_gone_r {w0 w : World} {M : List Nat} {R : List HA} {gr : Nat} {a : AR} {x : RX} (hS : St w0 M w (rxP gr x ++ R)) (ro : RefOk a x) (dev pl : Int) (ao : Option Addr) (n c : Nat) (bs : List UInt8) (hr : ∀ (w' : World) (L' : List HA), St w0 M w' L' → Rd w' (.slice ao n c) 1 n (bytesV bs)) (hn : bs.length = n) (ho : a.out = false) (hs : a.inS dev pl = true) (hb : bs.length = 256) (hg : (a.dv dev).gone = true) (ok : a.Ok) (hll : a.loose.length < 1000000) (hs9 : 0 ≤ a.steps ∧ a.steps < 4611686018427387904) : Calls Tryz.prog 21 #[.pointer (some ⟨gr, 0, none⟩), .int .i64 dev, .int .i64 pl, .slice ao n c] w fun e w' => e = .returned (.int .i64 (a.writeE dev pl bs)) ∧ ∃ y, RefOk (a.write dev pl bs) y ∧ St w0 M w' (rxP gr y ++ R) := by
  have hst : St w0 M w (.blk gr 57 x.hdr :: .blk x.gd 60 x.dc :: .row x.lv 96 3 x.loose.length x.lc :: (x.tail ++ R)) := hS
  have RO := hid ro
  clear hS ro
  have hE : a.writeE dev pl bs = 14 := by unfold AR.writeE; rw [if_neg ok.d0, ho, if_neg (by decide), hs, if_neg (by decide), if_neg (fun h => h hb), hg, if_pos rfl]
  have hR : a.write dev pl bs = a := by unfold AR.write; rw [if_pos (.inr (.inr (.inr (.inr hg))))]
  rw [hE, hR]
  clear hE hR
  have HOX : Hid (x.hdr[4]? = some (.bool false)) := hid (by show some (Value.bool x.out) = _; rw [RO.out.out, ho])
  have HS := hid hs
  have hbn : (n : Int) = 256 := by omega
  have d0 : ((n : Int) != 256) = false := by rw [hbn]; rfl
  obtain ⟨k, rfl, hka⟩ := nat_dev (inS_inD hs)
  have hkx : k < x.devs.length := by rw [RO.out.dn]; exact hka
  have HC := hid (RO.out.cells hka)
  have HG : Hid (x.dc[k * 5 + 4]? = some (.bool true)) := hid (by rw [HC.out.2.2.2.2, hg])
  clear ho hs hb hbn hg ok hll hs9 hn
  go_enter Tryz.func21, Tryz.ntmps21
  go_wp2_with (first | go_big_skip | go_big_guard | (refine wl_loadE rfl rfl rfl ?_; first | refine ⟨_, Loads.at [] hst HOX.out, ?_⟩ | refine ⟨_, Loads.at [_] hst HG.out, ?_⟩ | refine ⟨_, Loads.at [] hst rfl, ?_⟩) | (refine wl_index (k := k) rfl rfl rfl rfl hkx ?_) | (go_at_call 60; refine (sector_r (R := R) hst RO.out (k : Int) pl).mono ?_; rw [HS.out]; rintro _ w1 ⟨rfl, h4⟩; replace hst := h4; clear h4))
  go_ret
  exact ⟨rfl, x, RO.out, hst⟩
theorem write_dead_r {w0 w : World} {M : List Nat} {R : List HA} {gr : Nat} {a : AR} {x : RX} (hS : St w0 M w (rxP gr x ++ R)) (ro : RefOk a x) (dev pl : Int) (ao : Option Addr) (n c : Nat) (bs : List UInt8) (hr : ∀ (w' : World) (L' : List HA), St w0 M w' L' → Rd w' (.slice ao n c) 1 n (bytesV bs)) (hn : bs.length = n) (ho : a.out = false) (hs : a.inS dev pl = true) (hb : bs.length = 256) (hg : (a.dv dev).gone = false) (hf : a.fuse = 0) (ok : a.Ok) (hll : a.loose.length < 1000000) (hs9 : 0 ≤ a.steps ∧ a.steps < 4611686018427387904) : Calls Tryz.prog 21 #[.pointer (some ⟨gr, 0, none⟩), .int .i64 dev, .int .i64 pl, .slice ao n c] w fun e w' => e = .returned (.int .i64 (a.writeE dev pl bs)) ∧ ∃ y, RefOk (a.write dev pl bs) y ∧ St w0 M w' (rxP gr y ++ R) := by
  have hst : St w0 M w (.blk gr 57 x.hdr :: .blk x.gd 60 x.dc :: .row x.lv 96 3 x.loose.length x.lc :: (x.tail ++ R)) := hS
  have RO := hid ro
  clear hS ro
  have hE : a.writeE dev pl bs = 10 := by unfold AR.writeE AR.stepE; rw [if_neg ok.d0, ho, if_neg (by decide), hs, if_neg (by decide), if_neg (fun h => h hb), hg, if_neg (by decide), if_pos hf]
  have hR : a.write dev pl bs = a.step := by
    unfold AR.write
    rw [if_neg (wneg ok.d0 ho hs hb hg), if_pos hf]
  rw [hE, hR]
  clear hE hR
  have HOX : Hid (x.hdr[4]? = some (.bool false)) := hid (by show some (Value.bool x.out) = _; rw [RO.out.out, ho])
  have HS := hid hs
  have hbn : (n : Int) = 256 := by omega
  have d0 : ((n : Int) != 256) = false := by rw [hbn]; rfl
  obtain ⟨k, rfl, hka⟩ := nat_dev (inS_inD hs)
  have hkx : k < x.devs.length := by rw [RO.out.dn]; exact hka
  have HC := hid (RO.out.cells hka)
  have HG : Hid (x.dc[k * 5 + 4]? = some (.bool false)) := hid (by rw [HC.out.2.2.2.2, hg])
  have HD : Hid (decide (a.fuse ≠ 0) = false) := hid (decide_eq_false (fun h => h hf))
  have HSB := hid hs9
  have HFU := hid ok.fu.2
  clear ho hs hb hbn hg hf ok hll hs9 hn
  go_enter Tryz.func21, Tryz.ntmps21
  go_wp2_with (first | go_big_skip | go_big_guard | (refine wl_loadE rfl rfl rfl ?_; first | refine ⟨_, Loads.at [] hst HOX.out, ?_⟩ | refine ⟨_, Loads.at [_] hst HG.out, ?_⟩ | refine ⟨_, Loads.at [] hst rfl, ?_⟩) | (refine wl_index (k := k) rfl rfl rfl rfl hkx ?_) | (go_at_call 60; refine (sector_r (R := R) hst RO.out (k : Int) pl).mono ?_; rw [HS.out]; rintro _ w1 ⟨rfl, h4⟩; replace hst := h4; clear h4) | (go_at_call 61; refine (step_r (R := R) hst RO.out HSB.out HFU.out).mono ?_; rw [HD.out]; rintro _ w2 ⟨rfl, y, hy, h4⟩; clear hst))
  go_ret
  exact ⟨rfl, y, hy, h4⟩
theorem write_lo_r {w0 w : World} {M : List Nat} {R : List HA} {gr : Nat} {a : AR} {x : RX} (hS : St w0 M w (rxP gr x ++ R)) (ro : RefOk a x) (dev pl : Int) (ao : Option Addr) (n c : Nat) (bs : List UInt8) (hr : ∀ (w' : World) (L' : List HA), St w0 M w' L' → Rd w' (.slice ao n c) 1 n (bytesV bs)) (hn : bs.length = n) (ho : a.out = false) (hs : a.inS dev pl = true) (hb : bs.length = 256) (hg : (a.dv dev).gone = false) (hf : a.fuse ≠ 0) (hlo : (a.dv dev).lo = true) (ok : a.Ok) (hll : a.loose.length < 1000000) (hs9 : 0 ≤ a.steps ∧ a.steps < 4611686018427387904) : Calls Tryz.prog 21 #[.pointer (some ⟨gr, 0, none⟩), .int .i64 dev, .int .i64 pl, .slice ao n c] w fun e w' => e = .returned (.int .i64 (a.writeE dev pl bs)) ∧ ∃ y, RefOk (a.write dev pl bs) y ∧ St w0 M w' (rxP gr y ++ R) := by
  have hst : St w0 M w (.blk gr 57 x.hdr :: .blk x.gd 60 x.dc :: .row x.lv 96 3 x.loose.length x.lc :: (x.tail ++ R)) := hS
  have RO := hid ro
  clear hS ro
  have hE : a.writeE dev pl bs = 0 := by unfold AR.writeE AR.stepE; rw [if_neg ok.d0, ho, if_neg (by decide), hs, if_neg (by decide), if_neg (fun h => h hb), hg, if_neg (by decide), if_neg hf]
  have hR : a.write dev pl bs = a.step.upd dev fun d => { d with lo := false } := by
    unfold AR.write
    rw [if_neg (wneg ok.d0 ho hs hb hg), if_neg hf]
    unfold AR.lay
    rw [step_dv, hlo, if_pos rfl]
  rw [hE, hR]
  clear hE hR
  have HOX : Hid (x.hdr[4]? = some (.bool false)) := hid (by show some (Value.bool x.out) = _; rw [RO.out.out, ho])
  have HS := hid hs
  have hbn : (n : Int) = 256 := by omega
  have d0 : ((n : Int) != 256) = false := by rw [hbn]; rfl
  obtain ⟨k, rfl, hka⟩ := nat_dev (inS_inD hs)
  have hkx : k < x.devs.length := by rw [RO.out.dn]; exact hka
  have HC := hid (RO.out.cells hka)
  have HG : Hid (x.dc[k * 5 + 4]? = some (.bool false)) := hid (by rw [HC.out.2.2.2.2, hg])
  have HD : Hid (decide (a.fuse ≠ 0) = true) := hid (decide_eq_true hf)
  have HSB := hid hs9
  have HFU := hid ok.fu.2
  obtain ⟨p, rfl⟩ : ∃ p : Nat, pl = p := ⟨pl.toNat, by have := (inS_pl hs).1; omega⟩
  have hka1 : k < a.step.devs.length := by rw [step_len]; exact hka
  have HKA := hid hka1
  have HLO := hid hlo
  have hins := inS_inD hs
  have HIN1 : Hid (a.step.inD (k : Int) = true) := hid (by unfold AR.inD at hins ⊢; rw [step_len]; exact hins)
  have HRR := hid hr
  clear ho hs hb hbn hg hf hka1 hlo hins hr ok hll hs9 hn
  go_enter Tryz.func21, Tryz.ntmps21
  go_wp2_with (first | go_big_skip | go_big_guard | (refine wl_loadE rfl rfl rfl ?_; first | refine ⟨_, Loads.at [_] hst' (by rw [HCY.out.2.1, HLO.out]), ?_⟩ | refine ⟨_, Loads.at [] hst' rfl, ?_⟩) | (refine wl_loadE rfl rfl rfl ?_; first | refine ⟨_, Loads.at [] hst HOX.out, ?_⟩ | refine ⟨_, Loads.at [_] hst HG.out, ?_⟩ | refine ⟨_, Loads.at [] hst rfl, ?_⟩) | (refine wl_index (k := k) rfl rfl rfl rfl hkx ?_) | (go_at_call 60; refine (sector_r (R := R) hst RO.out (k : Int) (p : Int)).mono ?_; rw [HS.out]; rintro _ w1 ⟨rfl, h4⟩; replace hst := h4; clear h4) | (go_at_call 61; refine (step_r (R := R) hst RO.out HSB.out HFU.out).mono ?_; rw [HD.out]; rintro _ w2 ⟨rfl, y, hy, h4⟩; have HY := hid hy; have hky : k < y.devs.length := (by rw [hy.dn]; exact HKA.out); have hcy := hy.cells HKA.out; rw [step_dv] at hcy; have HCY := hid hcy; have hst' : St w0 M w2 (.blk gr 57 y.hdr :: .blk y.gd 60 y.dc :: .row y.lv 96 3 y.loose.length y.lc :: (y.tail ++ R)) := h4; clear hy hcy; clear h4; clear hst) | (refine wl_index (k := k) rfl rfl rfl rfl hky ?_) | (refine wl_store [_] hst' rfl rfl rfl (v := .bool false) rfl rfl rfl (RX.dlen hky (by decide)) ?_; intro w9 hs8; clear hst'))
  go_ret
  refine ⟨rfl, _, HY.out.upd (f := fun d => { d with lo := false }) (r := fun d => { d with lo := false }) HKA.out (by
    have h := HY.out.dv k HKA.out
    exact ⟨rfl, h.ay, h.fail, h.gone, h.len, h.sec⟩) (upd_secs HIN1.out rfl), ?_⟩
  rw [RX.upd_P (f := fun d => { d with lo := false }) (fun _ => rfl), ← RX.dput (f := fun d => { d with lo := false }) hky (i := 1) (v := .bool false) (by decide) rfl]
  exact hs8
theorem write_st_r {w0 w : World} {M : List Nat} {R : List HA} {gr : Nat} {a : AR} {x : RX} (hS : St w0 M w (rxP gr x ++ R)) (ro : RefOk a x) (dev pl : Int) (ao : Option Addr) (n c : Nat) (bs : List UInt8) (hr : ∀ (w' : World) (L' : List HA), St w0 M w' L' → Rd w' (.slice ao n c) 1 n (bytesV bs)) (hn : bs.length = n) (ho : a.out = false) (hs : a.inS dev pl = true) (hb : bs.length = 256) (hg : (a.dv dev).gone = false) (hf : a.fuse ≠ 0) (hlo : (a.dv dev).lo = false) (hst1 : (a.dv dev).st = true) (ok : a.Ok) (hll : a.loose.length < 1000000) (hs9 : 0 ≤ a.steps ∧ a.steps < 4611686018427387904) : Calls Tryz.prog 21 #[.pointer (some ⟨gr, 0, none⟩), .int .i64 dev, .int .i64 pl, .slice ao n c] w fun e w' => e = .returned (.int .i64 (a.writeE dev pl bs)) ∧ ∃ y, RefOk (a.write dev pl bs) y ∧ St w0 M w' (rxP gr y ++ R) := by
  have hst : St w0 M w (.blk gr 57 x.hdr :: .blk x.gd 60 x.dc :: .row x.lv 96 3 x.loose.length x.lc :: (x.tail ++ R)) := hS
  have RO := hid ro
  clear hS ro
  have hE : a.writeE dev pl bs = 0 := by unfold AR.writeE AR.stepE; rw [if_neg ok.d0, ho, if_neg (by decide), hs, if_neg (by decide), if_neg (fun h => h hb), hg, if_neg (by decide), if_neg hf]
  have hR : a.write dev pl bs = ({ (a.step.upd dev fun d => { d with st := false }) with loose := a.step.loose ++ [⟨dev.toNat, (a.dv dev).to.toNat, bs⟩] } : AR) := by
    unfold AR.write
    rw [if_neg (wneg ok.d0 ho hs hb hg), if_neg hf]
    unfold AR.lay
    rw [step_dv, hlo, if_neg (by decide), hst1, if_pos rfl]
  rw [hE, hR]
  clear hE hR
  have HOX : Hid (x.hdr[4]? = some (.bool false)) := hid (by show some (Value.bool x.out) = _; rw [RO.out.out, ho])
  have HS := hid hs
  have hbn : (n : Int) = 256 := by omega
  have d0 : ((n : Int) != 256) = false := by rw [hbn]; rfl
  obtain ⟨k, rfl, hka⟩ := nat_dev (inS_inD hs)
  have hkx : k < x.devs.length := by rw [RO.out.dn]; exact hka
  have HC := hid (RO.out.cells hka)
  have HG : Hid (x.dc[k * 5 + 4]? = some (.bool false)) := hid (by rw [HC.out.2.2.2.2, hg])
  have HD : Hid (decide (a.fuse ≠ 0) = true) := hid (decide_eq_true hf)
  have HSB := hid hs9
  have HFU := hid ok.fu.2
  obtain ⟨p, rfl⟩ : ∃ p : Nat, pl = p := ⟨pl.toNat, by have := (inS_pl hs).1; omega⟩
  have hka1 : k < a.step.devs.length := by rw [step_len]; exact hka
  have HKA := hid hka1
  have HLO := hid hlo
  have HST := hid hst1
  have hto := (ok.dv (inS_inD hs)).2.2.1 hst1
  obtain ⟨q, hq⟩ : ∃ q : Nat, (a.dv (k : Int)).to = q := ⟨(a.dv (k : Int)).to.toNat, by omega⟩
  have HQ := hid hq
  have g1 : decide ((q : Int) ≥ 0) = true := decide_eq_true (by omega)
  have g2 : decide (0 ≤ (q : Int)) = true := g1
  have hins := inS_inD hs
  have HIN1 : Hid (a.step.inD (k : Int) = true) := hid (by unfold AR.inD at hins ⊢; rw [step_len]; exact hins)
  have hn256 : n = 256 := by omega
  subst hn256
  have HBS := hid hn
  have HLL : Hid (x.loose.length < 1000000) := hid (by rw [RO.out.ln]; exact hll)
  have HRR := hid hr
  clear ho hs hb hbn hg hf hka1 hlo hst1 hto hq hins hr ok hll hs9 hn
  go_enter Tryz.func21, Tryz.ntmps21
  go_wp2_with (first | go_big_skip | go_big_guard | (refine wl_loadE rfl rfl rfl ?_; first | refine ⟨_, Loads.at [_] hst' (by rw [HCY.out.2.1, HLO.out]), ?_⟩ | refine ⟨_, Loads.at [_] hst' (by rw [HCY.out.2.2.1, HST.out, if_pos rfl, HQ.out]), ?_⟩ | refine ⟨_, Loads.at [] hst' rfl, ?_⟩) | (refine wl_loadE rfl rfl rfl ?_; first | refine ⟨_, Loads.at [] hst HOX.out, ?_⟩ | refine ⟨_, Loads.at [_] hst HG.out, ?_⟩ | refine ⟨_, Loads.at [] hst rfl, ?_⟩) | (refine wl_index (k := k) rfl rfl rfl rfl hkx ?_) | (go_at_call 60; refine (sector_r (R := R) hst RO.out (k : Int) (p : Int)).mono ?_; rw [HS.out]; rintro _ w1 ⟨rfl, h4⟩; replace hst := h4; clear h4) | (go_at_call 61; refine (step_r (R := R) hst RO.out HSB.out HFU.out).mono ?_; rw [HD.out]; rintro _ w2 ⟨rfl, y, hy, h4⟩; have HY := hid hy; have hky : k < y.devs.length := (by rw [hy.dn]; exact HKA.out); have hcy := hy.cells HKA.out; rw [step_dv] at hcy; have HCY := hid hcy; have hst' : St w0 M w2 (.blk gr 57 y.hdr :: .blk y.gd 60 y.dc :: .row y.lv 96 3 y.loose.length y.lc :: (y.tail ++ R)) := h4; have HLC := hid (lc_ones h4 hy); have HLY : Hid (y.loose.length < 1000000) := (hid (by rw [hy.ln, step_loose, ← RO.out.ln]; exact HLL.out)); clear hy hcy; clear h4; clear hst) | (refine wl_index (k := k) rfl rfl rfl rfl hky ?_) | (refine wl_store [_] hst' rfl rfl rfl (v := .int _ (-1)) rfl rfl rfl (RX.dlen hky (by decide)) ?_; intro w9 hs8; clear hst') | (refine wl_loadE rfl rfl rfl ?_; refine ⟨_, Loads.at [_] hq1 rfl, ?_⟩) | (apply wl_bsX (T := 55) [] [] hs8; rfl; rfl; exact rfl; exact rfl; infer_instance; infer_instance; rfl; rfl; rfl; intro g1 w3 hq0; clear hs8; have hq1 := St.toRow (n := 0) (cap := 0) (sz := 3) hq0 rfl (Nat.le_refl _) (by decide); clear hq0) | (apply wl_appX (m := y.loose.length) (ys := y.lc) [] hq1; rfl; rfl; exact rfl; exact rfl; infer_instance; infer_instance; infer_instance; exact Rd.row hq1 (.tail _ (.tail _ (.tail _ (.head _)))); exact HLC.out; (refine ⟨by decide, by have := HLY.out; unfold maxLen; omega, by have := HLY.out; omega⟩); intro v1 w4 hq2 _; clear hq1) | (apply wl_bsX (T := 33) [] [] hq2; rfl; rfl; exact rfl; exact rfl; infer_instance; infer_instance; rfl; rfl; rfl; intro g2 w5 hq3; clear hq2; have hq4 := St.toRow (n := 0) (cap := 0) (sz := 1) hq3 rfl (Nat.le_refl _) (by decide); clear hq3) | (apply wl_appX (m := 256) (ys := bytesV bs) [] hq4; rfl; rfl; exact rfl; exact rfl; infer_instance; infer_instance; infer_instance; exact HRR.out _ _ hq4; exact ones_bytesV _; (refine ⟨by decide, by decide, by decide⟩); intro bv w6 hq5 _; clear hq4; obtain ⟨bo, bc, rfl, _, _, _⟩ := row_form hq5 (.head _)) | (refine wl_buildX (cs := [.int .i64 (k : Int), .int .i64 (q : Int), .slice bo (0 + 256) bc]) [(0, _), (1, _), (2, _)] rfl rfl (by exact rfl) (by kernel_rfl) ?_) | (apply wl_bsX [.agg (List.toArray [.int .i64 (k : Int), .int .i64 (q : Int), .slice bo (0 + 256) bc])] [.int .i64 (k : Int), .int .i64 (q : Int), .slice bo (0 + 256) bc] hq5; rfl; rfl; exact rfl; exact rfl; infer_instance; infer_instance; rfl; rfl; rfl; intro g3 w7 hq6; clear hq5) | (apply wl_appX (m := 1) (ys := [.int .i64 (k : Int), .int .i64 (q : Int), .slice bo (0 + 256) bc]) [_, _] hq6; rfl; rfl; exact rfl; exact rfl; infer_instance; infer_instance; infer_instance; exact Rd.blk (n := 1) hq6 (.head _) (Nat.le_refl _) (by decide) rfl rfl; rfl; (refine ⟨by decide, by have := HLY.out; unfold maxLen; omega, by have := HLY.out; omega⟩); intro v2 w8 hq7 _; clear hq6; obtain ⟨lo, lc, rfl, _, _, _⟩ := row_form hq7 (.tail _ (.tail _ (.head _)))) | (refine wl_store [_, _, _] hq7 rfl rfl rfl (v := .slice _ _ _) rfl rfl rfl (by show (2 : Nat) + 1 ≤ 6; decide) ?_; intro w9 hq8; clear hq7))
  go_ret
  have hU := HY.out.upd (f := fun d => { d with st := false }) (r := fun d => { d with ay := -1 }) HKA.out (by
    have h := HY.out.dv k HKA.out
    exact ⟨h.lo, rfl, h.fail, h.gone, h.len, h.sec⟩) (upd_secs HIN1.out rfl)
  have hR := hU.addw k q bs (.slice bo 256 bc) (.slice lo (0 + y.loose.length + 1) lc)
  rw [HQ.out]
  refine ⟨rfl, _, hR, ?_⟩
  have h9 := fin_write hq8
  simp only [List.take_nil, List.nil_append] at h9
  have e1 : y.lc ++ [.int .i64 (k : Int), .int .i64 (q : Int), .slice bo (0 + 256) bc] = (y.loose ++ [(⟨k, q, .slice bo 256 bc⟩ : RWv)]).flatMap RWv.cells := by
    rw [List.flatMap_append]
    rfl
  rw [e1, show putAt y.dc (k * 5 + 2) (Value.int .i64 (-1)).cells.toList = _ from RX.dput (f := fun d => { d with ay := -1 }) hky (i := 2) (v := .int .i64 (-1)) (by decide) rfl] at h9
  rw [show 0 + y.loose.length + 1 = y.loose.length + 1 by omega] at h9 ⊢
  have e3 : (y.upd k fun d => { d with ay := -1 }).devs.map fblk = y.devs.map fblk := List.append_cancel_right (RX.upd_tail (x := y) (k := k) (f := fun d => { d with ay := -1 }) (fun _ => rfl))
  have e4 : (y.upd k fun d => { d with ay := -1 }).devs.length = y.devs.length := RX.upd_len _ _ _
  unfold rxP RX.tail RX.lc RX.hdr
  simp only [List.length_append, List.length_singleton]
  rw [e3, e4]
  exact h9
theorem write_plain_r {w0 w : World} {M : List Nat} {R : List HA} {gr : Nat} {a : AR} {x : RX} (hS : St w0 M w (rxP gr x ++ R)) (ro : RefOk a x) (dev pl : Int) (ao : Option Addr) (n c : Nat) (bs : List UInt8) (hr : ∀ (w' : World) (L' : List HA), St w0 M w' L' → Rd w' (.slice ao n c) 1 n (bytesV bs)) (hn : bs.length = n) (ho : a.out = false) (hs : a.inS dev pl = true) (hb : bs.length = 256) (hg : (a.dv dev).gone = false) (hf : a.fuse ≠ 0) (hlo : (a.dv dev).lo = false) (hst1 : (a.dv dev).st = false) (ok : a.Ok) (hll : a.loose.length < 1000000) (hs9 : 0 ≤ a.steps ∧ a.steps < 4611686018427387904) : Calls Tryz.prog 21 #[.pointer (some ⟨gr, 0, none⟩), .int .i64 dev, .int .i64 pl, .slice ao n c] w fun e w' => e = .returned (.int .i64 (a.writeE dev pl bs)) ∧ ∃ y, RefOk (a.write dev pl bs) y ∧ St w0 M w' (rxP gr y ++ R) := by
  have hst : St w0 M w (.blk gr 57 x.hdr :: .blk x.gd 60 x.dc :: .row x.lv 96 3 x.loose.length x.lc :: (x.tail ++ R)) := hS
  have RO := hid ro
  clear hS ro
  have hE : a.writeE dev pl bs = 0 := by unfold AR.writeE AR.stepE; rw [if_neg ok.d0, ho, if_neg (by decide), hs, if_neg (by decide), if_neg (fun h => h hb), hg, if_neg (by decide), if_neg hf]
  have hR : a.write dev pl bs = ({ a.step with loose := a.step.loose ++ [⟨dev.toNat, pl.toNat, bs⟩] } : AR) := by
    unfold AR.write
    rw [if_neg (wneg ok.d0 ho hs hb hg), if_neg hf]
    unfold AR.lay
    rw [step_dv, hlo, if_neg (by decide), hst1, if_neg (by decide)]
  rw [hE, hR]
  clear hE hR
  have HOX : Hid (x.hdr[4]? = some (.bool false)) := hid (by show some (Value.bool x.out) = _; rw [RO.out.out, ho])
  have HS := hid hs
  have hbn : (n : Int) = 256 := by omega
  have d0 : ((n : Int) != 256) = false := by rw [hbn]; rfl
  obtain ⟨k, rfl, hka⟩ := nat_dev (inS_inD hs)
  have hkx : k < x.devs.length := by rw [RO.out.dn]; exact hka
  have HC := hid (RO.out.cells hka)
  have HG : Hid (x.dc[k * 5 + 4]? = some (.bool false)) := hid (by rw [HC.out.2.2.2.2, hg])
  have HD : Hid (decide (a.fuse ≠ 0) = true) := hid (decide_eq_true hf)
  have HSB := hid hs9
  have HFU := hid ok.fu.2
  obtain ⟨p, rfl⟩ : ∃ p : Nat, pl = p := ⟨pl.toNat, by have := (inS_pl hs).1; omega⟩
  have hka1 : k < a.step.devs.length := by rw [step_len]; exact hka
  have HKA := hid hka1
  have HLO := hid hlo
  have HST := hid hst1
  have hins := inS_inD hs
  have HIN1 : Hid (a.step.inD (k : Int) = true) := hid (by unfold AR.inD at hins ⊢; rw [step_len]; exact hins)
  have hn256 : n = 256 := by omega
  subst hn256
  have HBS := hid hn
  have HLL : Hid (x.loose.length < 1000000) := hid (by rw [RO.out.ln]; exact hll)
  have HRR := hid hr
  clear ho hs hb hbn hg hf hka1 hlo hst1 hins hr ok hll hs9 hn
  go_enter Tryz.func21, Tryz.ntmps21
  go_wp2_with (first | go_big_skip | go_big_guard | (refine wl_loadE rfl rfl rfl ?_; first | refine ⟨_, Loads.at [_] hst' (by rw [HCY.out.2.1, HLO.out]), ?_⟩ | refine ⟨_, Loads.at [_] hst' (by rw [HCY.out.2.2.1, HST.out, if_neg (by decide)]), ?_⟩ | refine ⟨_, Loads.at [] hst' rfl, ?_⟩) | (refine wl_loadE rfl rfl rfl ?_; first | refine ⟨_, Loads.at [] hst HOX.out, ?_⟩ | refine ⟨_, Loads.at [_] hst HG.out, ?_⟩ | refine ⟨_, Loads.at [] hst rfl, ?_⟩) | (refine wl_index (k := k) rfl rfl rfl rfl hkx ?_) | (go_at_call 60; refine (sector_r (R := R) hst RO.out (k : Int) (p : Int)).mono ?_; rw [HS.out]; rintro _ w1 ⟨rfl, h4⟩; replace hst := h4; clear h4) | (go_at_call 61; refine (step_r (R := R) hst RO.out HSB.out HFU.out).mono ?_; rw [HD.out]; rintro _ w2 ⟨rfl, y, hy, h4⟩; have HY := hid hy; have hky : k < y.devs.length := (by rw [hy.dn]; exact HKA.out); have hcy := hy.cells HKA.out; rw [step_dv] at hcy; have HCY := hid hcy; have hst' : St w0 M w2 (.blk gr 57 y.hdr :: .blk y.gd 60 y.dc :: .row y.lv 96 3 y.loose.length y.lc :: (y.tail ++ R)) := h4; have HLC := hid (lc_ones h4 hy); have HLY : Hid (y.loose.length < 1000000) := (hid (by rw [hy.ln, step_loose, ← RO.out.ln]; exact HLL.out)); clear hy hcy; clear h4; clear hst) | (refine wl_index (k := k) rfl rfl rfl rfl hky ?_) | (refine wl_loadE rfl rfl rfl ?_; refine ⟨_, Loads.at [_] hq1 rfl, ?_⟩) | (apply wl_bsX (T := 55) [] [] hst'; rfl; rfl; exact rfl; exact rfl; infer_instance; infer_instance; rfl; rfl; rfl; intro g1 w3 hq0; clear hst'; have hq1 := St.toRow (n := 0) (cap := 0) (sz := 3) hq0 rfl (Nat.le_refl _) (by decide); clear hq0) | (apply wl_appX (m := y.loose.length) (ys := y.lc) [] hq1; rfl; rfl; exact rfl; exact rfl; infer_instance; infer_instance; infer_instance; exact Rd.row hq1 (.tail _ (.tail _ (.tail _ (.head _)))); exact HLC.out; (refine ⟨by decide, by have := HLY.out; unfold maxLen; omega, by have := HLY.out; omega⟩); intro v1 w4 hq2 _; clear hq1) | (apply wl_bsX (T := 33) [] [] hq2; rfl; rfl; exact rfl; exact rfl; infer_instance; infer_instance; rfl; rfl; rfl; intro g2 w5 hq3; clear hq2; have hq4 := St.toRow (n := 0) (cap := 0) (sz := 1) hq3 rfl (Nat.le_refl _) (by decide); clear hq3) | (apply wl_appX (m := 256) (ys := bytesV bs) [] hq4; rfl; rfl; exact rfl; exact rfl; infer_instance; infer_instance; infer_instance; exact HRR.out _ _ hq4; exact ones_bytesV _; (refine ⟨by decide, by decide, by decide⟩); intro bv w6 hq5 _; clear hq4; obtain ⟨bo, bc, rfl, _, _, _⟩ := row_form hq5 (.head _)) | (refine wl_buildX (cs := [.int .i64 (k : Int), .int .i64 (p : Int), .slice bo (0 + 256) bc]) [(0, _), (1, _), (2, _)] rfl rfl (by exact rfl) (by kernel_rfl) ?_) | (apply wl_bsX [.agg (List.toArray [.int .i64 (k : Int), .int .i64 (p : Int), .slice bo (0 + 256) bc])] [.int .i64 (k : Int), .int .i64 (p : Int), .slice bo (0 + 256) bc] hq5; rfl; rfl; exact rfl; exact rfl; infer_instance; infer_instance; rfl; rfl; rfl; intro g3 w7 hq6; clear hq5) | (apply wl_appX (m := 1) (ys := [.int .i64 (k : Int), .int .i64 (p : Int), .slice bo (0 + 256) bc]) [_, _] hq6; rfl; rfl; exact rfl; exact rfl; infer_instance; infer_instance; infer_instance; exact Rd.blk (n := 1) hq6 (.head _) (Nat.le_refl _) (by decide) rfl rfl; rfl; (refine ⟨by decide, by have := HLY.out; unfold maxLen; omega, by have := HLY.out; omega⟩); intro v2 w8 hq7 _; clear hq6; obtain ⟨lo, lc, rfl, _, _, _⟩ := row_form hq7 (.tail _ (.tail _ (.head _)))) | (refine wl_store [_, _, _] hq7 rfl rfl rfl (v := .slice _ _ _) rfl rfl rfl (by show (2 : Nat) + 1 ≤ 6; decide) ?_; intro w9 hq8; clear hq7))
  go_ret
  have hR := HY.out.addw k p bs (.slice bo 256 bc) (.slice lo (0 + y.loose.length + 1) lc)
  refine ⟨rfl, _, hR, ?_⟩
  have h9 := fin_write hq8
  simp only [List.take_nil, List.nil_append] at h9
  have e1 : y.lc ++ [.int .i64 (k : Int), .int .i64 (p : Int), .slice bo (0 + 256) bc] = (y.loose ++ [(⟨k, p, .slice bo 256 bc⟩ : RWv)]).flatMap RWv.cells := by
    rw [List.flatMap_append]
    rfl
  have e2 : 0 + y.loose.length + 1 = (y.loose ++ [(⟨k, p, .slice bo 256 bc⟩ : RWv)]).length := by rw [List.length_append, Nat.zero_add]; rfl
  rw [e1] at h9
  rw [show 0 + y.loose.length + 1 = y.loose.length + 1 by omega] at h9 ⊢
  unfold rxP RX.tail RX.lc RX.hdr
  simp only [List.length_append, List.length_singleton]
  exact h9
end Go.Proofs.YtclleohpmgihaaaGreat
namespace Go.Proofs.YtclleohpmgihaaaGreat
set_option linter.unusedVariables false
set_option linter.unusedSimpArgs false
open Go.RowKit Hp
attribute [local irreducible] Go.Calls Go.wpList
set_option maxRecDepth 100000
set_option maxHeartbeats 4000000
theorem write_r {w0 w : World} {M : List Nat} {R : List HA} {gr : Nat} {a : AR} {x : RX} (hS : St w0 M w (rxP gr x ++ R)) (ro : RefOk a x) (dev pl : Int) (ao : Option Addr) (n c : Nat) (bs : List UInt8) (hr : ∀ (w' : World) (L' : List HA), St w0 M w' L' → Rd w' (.slice ao n c) 1 n (bytesV bs)) (hn : bs.length = n) (ok : a.Ok) (hll : a.loose.length < 1000000) (hs9 : 0 ≤ a.steps ∧ a.steps < 4611686018427387904) : Calls Tryz.prog 21 #[.pointer (some ⟨gr, 0, none⟩), .int .i64 dev, .int .i64 pl, .slice ao n c] w fun e w' => e = .returned (.int .i64 (a.writeE dev pl bs)) ∧ ∃ y, RefOk (a.write dev pl bs) y ∧ St w0 M w' (rxP gr y ++ R) := by
  cases ho : a.out
  · cases hs : a.inS dev pl
    · exact write_far_r hS ro dev pl ao n c bs hr hn ho hs ok hll hs9
    · by_cases hb : bs.length = 256
      · cases hg : (a.dv dev).gone
        · by_cases hf : a.fuse = 0
          · exact write_dead_r hS ro dev pl ao n c bs hr hn ho hs hb hg hf ok hll hs9
          · cases hlo : (a.dv dev).lo
            · cases hst : (a.dv dev).st
              · exact write_plain_r hS ro dev pl ao n c bs hr hn ho hs hb hg hf hlo hst ok hll hs9
              · exact write_st_r hS ro dev pl ao n c bs hr hn ho hs hb hg hf hlo hst ok hll hs9
            · exact write_lo_r hS ro dev pl ao n c bs hr hn ho hs hb hg hf hlo ok hll hs9
        · exact write_gone_r hS ro dev pl ao n c bs hr hn ho hs hb hg ok hll hs9
      · exact write_size_r hS ro dev pl ao n c bs hr hn ho hs hb ok hll hs9
  · exact write_out_r hS ro dev pl ao n c bs hr hn ho ok hll hs9
/-- Loose writes, one by one. -/
def LOk (pool : List HA) (v : LW) (r : RWv) : Prop := r.dev = v.dev ∧ r.pl = v.pl ∧ Sec pool r.bv v.b
def L2 (pool : List HA) : List LW → List RWv → Prop
  | [], [] => True
  | v :: l, r :: m => LOk pool v r ∧ L2 pool l m
  | _, _ => False
theorem L2.of {pool : List HA} : ∀ {l : List LW} {m : List RWv}, m.length = l.length → (∀ (i : Nat) (v : LW), l[i]? = some v → ∃ r, m[i]? = some r ∧ r.dev = v.dev ∧ r.pl = v.pl ∧ Sec pool r.bv v.b) → L2 pool l m
  | [], [], _, _ => trivial
  | [], _ :: _, h, _ => by simp at h
  | _ :: _, [], h, _ => by simp at h
  | v :: l, r :: m, h, hw => by
    refine ⟨?_, L2.of (by simpa using h) fun i u hu => ?_⟩
    · obtain ⟨r2, h1, h2⟩ := hw 0 v rfl
      cases h1
      exact h2
    · obtain ⟨r2, h1, h2⟩ := hw (i + 1) u (by simpa using hu)
      exact ⟨r2, by simpa using h1, h2⟩
theorem L2.len {pool : List HA} : ∀ {l : List LW} {m : List RWv}, L2 pool l m → m.length = l.length
  | [], [], _ => rfl
  | [], _ :: _, h => h.elim
  | _ :: _, [], h => h.elim
  | _ :: l, _ :: m, h => by rw [List.length_cons, List.length_cons, L2.len h.2]
theorem L2.at {pool : List HA} : ∀ {l : List LW} {m : List RWv}, L2 pool l m → ∀ (i : Nat) (v : LW), l[i]? = some v → ∃ r, m[i]? = some r ∧ r.dev = v.dev ∧ r.pl = v.pl ∧ Sec pool r.bv v.b
  | [], _, _, i, v, hv => by simp at hv
  | _ :: _, [], h, _, _, _ => h.elim
  | u :: l, r :: m, h, 0, v, hv => by cases hv; exact ⟨r, rfl, h.1⟩
  | u :: l, r :: m, h, i + 1, v, hv => by
    obtain ⟨r2, h1, h2⟩ := L2.at h.2 i v (by simpa using hv)
    exact ⟨r2, by simpa using h1, h2⟩
theorem L2.filter {pool : List HA} (k : Nat) : ∀ {l : List LW} {m : List RWv}, L2 pool l m → L2 pool (l.filter fun w => w.dev != k) (m.filter fun w => w.dev != k)
  | [], [], _ => trivial
  | [], _ :: _, h => h.elim
  | _ :: _, [], h => h.elim
  | v :: l, r :: m, h => by
    have ih := L2.filter k h.2
    have e : r.dev = v.dev := h.1.1
    by_cases hv : v.dev = k
    · rw [List.filter_cons_of_neg (by simpa using hv), List.filter_cons_of_neg (by simpa [e] using hv)]
      exact ih
    · rw [List.filter_cons_of_pos (by simpa using hv), List.filter_cons_of_pos (by simpa [e] using hv)]
      exact ⟨h.1, ih⟩
theorem RefOk.l2 {a : AR} {x : RX} (h : RefOk a x) : L2 x.pool a.loose x.loose := L2.of h.ln h.lw
/-- A loose write is laid. -/
def RX.lay (x : RX) (k p : Nat) (bv : Value) : RX := x.upd k fun d => { d with f := { d.f with sv := d.f.sv.set p bv } }
theorem lay_dc (x : RX) (k p : Nat) (bv : Value) : (x.lay k p bv).dc = x.dc := by
  unfold RX.dc RX.lay RX.upd
  show (x.devs.modify k _).flatMap RDv.cells ++ x.rest = _
  congr 1
  rw [List.flatMap_def, List.flatMap_def]
  congr 1
  apply List.ext_getElem?
  intro j
  rw [List.getElem?_map, List.getElem?_map, modify_get]
  split
  · cases x.devs[j]? with
    | none => rfl
    | some d => simp [RDv.cells]
  · rfl
theorem lay_hdr (x : RX) (k p : Nat) (bv : Value) : (x.lay k p bv).hdr = x.hdr := by
  unfold RX.hdr RX.lay
  rw [RX.upd_len]
  rfl
theorem mod_split {x : RX} {k : Nat} (h : k < x.devs.length) (f : RDv → RDv) : (x.upd k f).devs = x.devs.take k ++ f (x.dv k) :: x.devs.drop (k + 1) := by
  unfold RX.upd
  apply List.ext_getElem?
  intro j
  show (x.devs.modify k f)[j]? = _
  rw [modify_get]
  by_cases hk : k = j
  · subst hk
    rw [if_pos rfl, RX.dget h, List.getElem?_append_right (by rw [List.length_take]; omega), List.length_take, show k - min k x.devs.length = 0 by omega]
    rfl
  · rw [if_neg hk]
    by_cases hlt : j < k
    · rw [List.getElem?_append_left (by rw [List.length_take]; omega), List.getElem?_take, if_pos hlt]
    · rw [List.getElem?_append_right (by rw [List.length_take]; omega), List.length_take, show j - min k x.devs.length = (j - k - 1) + 1 by omega, List.getElem?_cons_succ, List.getElem?_drop]
      congr 1
      omega
theorem dev_split {x : RX} {k : Nat} (h : k < x.devs.length) : x.devs = x.devs.take k ++ x.dv k :: x.devs.drop (k + 1) := by
  have := mod_split h id
  rw [show (x.upd k id).devs = x.devs from by unfold RX.upd; exact List.modify_id ..] at this
  exact this
theorem RefOk.lay {a : AR} {x : RX} (h : RefOk a x) {k p : Nat} (hk : k < a.devs.length) (hp : p < (a.dv (k : Int)).firm.length) {bv : Value} {B : List UInt8} (hs : Sec x.pool bv B) (hin : a.inD (k : Int) = true) : RefOk (a.upd (k : Int) (setF p B)) (x.lay k p bv) := by
  have hd := h.dv k hk
  refine h.upd (f := setF p B) (r := fun d => { d with f := { d.f with sv := d.f.sv.set p bv } }) hk ⟨hd.lo, hd.ay, hd.fail, hd.gone, ?_, fun s hs2 => ?_⟩ (upd_secs hin (by unfold setF; rw [List.length_set]))
  · show ((x.dv k).f.sv.set p bv).length = ((a.dv (k : Int)).firm.set p B).length
    rw [List.length_set, List.length_set, hd.len]
  · replace hs2 : s < ((a.dv (k : Int)).firm.set p B).length := hs2
    rw [List.length_set] at hs2
    show ∃ v, ((x.dv k).f.sv.set p bv)[s]? = some v ∧ Sec x.pool v (((a.dv (k : Int)).firm.set p B).getD s [])
    rw [List.getD_eq_getElem?_getD, List.getElem?_set, List.getElem?_set]
    by_cases hps : p = s
    · subst hps
      rw [if_pos rfl, if_pos (by rw [hd.len]; exact hp), if_pos rfl, if_pos hp]
      exact ⟨bv, rfl, hs⟩
    · rw [if_neg hps, if_neg hps, ← List.getD_eq_getElem?_getD]
      exact hd.sec s hs2
section
theorem loadedRD (A : Addr) : loadVar 54 A = loadVarH 54 A := rfl
theorem loadedRS (A : Addr) : loadVar 58 A = loadVarH 58 A := rfl
theorem loadedRB (A : Addr) : loadVar 33 A = loadVarH 33 A := rfl
theorem loadedRI (A : Addr) : loadVar 3 A = loadVarH 3 A := rfl
attribute [local go_sem ↓] loadedRD loadedRS loadedRB loadedRI
theorem lay_r {w0 w : World} {M : List Nat} {R : List HA} {gr : Nat} {x : RX} (hS : St w0 M w (rxP gr x ++ R)) (k p : Nat) (bo : Option Addr) (bn bc : Nat) (hkx0 : k < x.devs.length) (hp : p < (x.dv k).f.sv.length) : Calls Tryz.prog 63 #[.pointer (some ⟨gr, 0, none⟩), .agg (List.toArray [.int .i64 (k : Int), .int .i64 (p : Int), .slice bo bn bc])] w fun e w' => e = .returned (.tuple #[]) ∧ St w0 M w' (rxP gr (x.lay k p (.slice bo bn bc)) ++ R) := by
  have hst : St w0 M w (.blk gr 57 x.hdr :: .blk x.gd 60 x.dc :: .row x.lv 96 3 x.loose.length x.lc :: (x.tail ++ R)) := hS
  clear hS
  have hkx : k < x.devs.length := hkx0
  have HCC := hid (RX.dcell hkx (i := 0) (v := .slice (some ⟨(x.dv k).f.g, 0, none⟩) (x.dv k).f.sv.length (x.dv k).f.cap) rfl (by decide))
  replace HCC : Hid (x.dc[k * 5]? = some (.slice (some ⟨(x.dv k).f.g, 0, none⟩) (x.dv k).f.sv.length (x.dv k).f.cap)) := HCC
  have hlp : p < (x.dv k).f.sv.length := hp
  obtain ⟨D, hD⟩ : ∃ D, D = x.dv k := ⟨_, rfl⟩
  rw [← hD] at HCC hlp
  obtain ⟨FS1, hF1⟩ : ∃ FS1, FS1 = (x.devs.take k).map fblk := ⟨_, rfl⟩
  obtain ⟨FS2, hF2⟩ : ∃ FS2, FS2 = (x.devs.drop (k + 1)).map fblk ++ x.pool := ⟨_, rfl⟩
  have hT : x.tail = FS1 ++ fblk D :: FS2 := by
    unfold RX.tail
    rw [hF1, hF2, hD]
    conv => lhs; rw [dev_split hkx]
    rw [List.map_append, List.append_assoc]
    rfl
  have HT2 : Hid ((x.lay k p (.slice bo bn bc)).tail = FS1 ++ .blk D.f.g 33 (D.f.sv.set p (.slice bo bn bc) ++ D.f.rest) :: FS2) := hid (by
    unfold RX.tail RX.lay
    rw [mod_split hkx, hF1, hF2, hD, List.map_append, List.append_assoc]
    rfl)
  have hst2 : St w0 M w (.blk gr 57 x.hdr :: .blk x.gd 60 x.dc :: .row x.lv 96 3 x.loose.length x.lc :: (FS1 ++ .blk D.f.g 33 (D.f.sv ++ D.f.rest) :: (FS2 ++ R))) := by
    rw [hT] at hst
    simpa [fblk] using hst
  have HPUT : Hid (putAt (D.f.sv ++ D.f.rest) p [.slice bo bn bc] = D.f.sv.set p (.slice bo bn bc) ++ D.f.rest) := hid (by
    rw [putAt_one _ _ _ (by rw [List.length_append]; omega), List.set_append_left _ _ hlp])
  have HFIT : Hid (p + 1 ≤ (D.f.sv ++ D.f.rest).length) := hid (by rw [List.length_append]; omega)
  have hkn : k < x.devs.length := hkx
  clear hst hT hF1 hF2 hD hp hkx0
  go_enter Tryz.func63, Tryz.ntmps63
  go_wp2_with (first | go_big_skip | go_big_guard | (refine wl_boxA hst2 rfl rfl rfl ?_; intro g3 w1 hst3; clear hst2))
  have hX := hst3.drew
  clear hst3
  refine wp_region_held_drew (S := (fun w' => (loadVarH 54 ⟨gr, 0, none⟩).run Tryz.prog w' = .ok (.slice (some ⟨x.gd, 0, none⟩) x.devs.length x.cd) w' ∧ (loadVarH 3 ⟨g3, 0, none⟩).run Tryz.prog w' = .ok (.int .i64 (k : Int)) w' ∧ (loadVarH 3 ⟨g3, 1, none⟩).run Tryz.prog w' = .ok (.int .i64 (p : Int)) w' ∧ (loadVarH 33 ⟨g3, 2, none⟩).run Tryz.prog w' = .ok (.slice bo bn bc) w' ∧ (loadVarH 58 ⟨x.gd, k * 5, none⟩).run Tryz.prog w' = .ok (.slice (some ⟨D.f.g, 0, none⟩) D.f.sv.length D.f.cap) w')) (by kernel_rfl) (by exact ⟨ldS [_] hX rfl, ldS [] hX rfl, ldS [] hX rfl, ldS [] hX rfl, ldS [_, _] hX HCC.out⟩) (fun hHeld => ?_)
  refine wpAnyH_take (i := 0) (oi := ⟨some 4, _, _, _, _, _⟩) (v := ?_) rfl (by kernel_rfl) (by kernel_rfl) (by kernel_rfl) (fun _ _ _ h => h) (Or.inl ⟨by rfl, ?_⟩) (by assumption) ?_
  rotate_left
  · intro w hSw; (try dsimp only at hSw); go_simp; try with_reducible rfl
  (try simp only [Act.put, List.setIfInBounds_toArray, List.set_cons_zero, List.set_cons_succ])
  refine wpAnyH_take (i := 4) (oi := ⟨some 8, _, _, _, _, _⟩) (v := ?_) rfl (by kernel_rfl) (by kernel_rfl) (by kernel_rfl) (fun _ _ _ h => h) (Or.inl ⟨by rfl, ?_⟩) (by assumption) ?_
  rotate_left
  · intro w hSw; (try dsimp only at hSw); go_simp; try with_reducible rfl
  (try simp only [Act.put, List.setIfInBounds_toArray, List.set_cons_zero, List.set_cons_succ])
  refine wpAnyH_take (i := 9) (oi := ⟨some 13, _, _, _, _, _⟩) (v := ?_) rfl (by kernel_rfl) (by kernel_rfl) (by kernel_rfl) (fun _ _ _ h => h) (Or.inl ⟨by rfl, ?_⟩) (by assumption) ?_
  rotate_left
  · intro w hSw; (try dsimp only at hSw); go_simp; try with_reducible rfl
  (try simp only [Act.put, List.setIfInBounds_toArray, List.set_cons_zero, List.set_cons_succ])
  refine wpAnyH_take (i := 11) (oi := ⟨some 15, _, _, _, _, _⟩) (v := ?_) rfl (by kernel_rfl) (by kernel_rfl) (by kernel_rfl) (fun _ _ _ h => h) (Or.inl ⟨by rfl, ?_⟩) (by assumption) ?_
  rotate_left
  · intro w hSw; (try dsimp only at hSw); go_simp; try with_reducible rfl
  (try simp only [Act.put, List.setIfInBounds_toArray, List.set_cons_zero, List.set_cons_succ])
  refine wpAnyH_take (i := 1) (oi := ⟨some 5, _, _, _, _, _⟩) (v := ?_) rfl (by kernel_rfl) (by kernel_rfl) (by kernel_rfl) (fun _ _ _ h => h) (Or.inl ⟨by rfl, ?_⟩) (by assumption) ?_
  rotate_left
  · intro w hSw; (try dsimp only at hSw); go_simp; try with_reducible rfl
  (try simp only [Act.put, List.setIfInBounds_toArray, List.set_cons_zero, List.set_cons_succ])
  refine wpAnyH_take (i := 5) (oi := ⟨some 9, _, _, _, _, _⟩) (v := ?_) rfl (by kernel_rfl) (by kernel_rfl) (by kernel_rfl) (fun _ _ _ h => h) (Or.inl ⟨by rfl, ?_⟩) (by assumption) ?_
  rotate_left
  · intro w hSw; (try dsimp only at hSw); go_simp; try with_reducible rfl
  (try simp only [Act.put, List.setIfInBounds_toArray, List.set_cons_zero, List.set_cons_succ])
  refine wpAnyH_take (i := 10) (oi := ⟨some 14, _, _, _, _, _⟩) (v := ?_) rfl (by kernel_rfl) (by kernel_rfl) (by kernel_rfl) (fun _ _ _ h => h) (Or.inl ⟨by rfl, ?_⟩) (by assumption) ?_
  rotate_left
  · intro w hSw; (try dsimp only at hSw); go_simp; try with_reducible rfl
  (try simp only [Act.put, List.setIfInBounds_toArray, List.set_cons_zero, List.set_cons_succ])
  refine wpAnyH_take (i := 12) (oi := ⟨some 16, _, _, _, _, _⟩) (v := ?_) rfl (by kernel_rfl) (by kernel_rfl) (by kernel_rfl) (fun _ _ _ h => h) (Or.inl ⟨by rfl, ?_⟩) (by assumption) ?_
  rotate_left
  · intro w hSw; (try dsimp only at hSw); go_simp; try with_reducible rfl
  (try simp only [Act.put, List.setIfInBounds_toArray, List.set_cons_zero, List.set_cons_succ])
  refine wpAnyH_take (i := 2) (oi := ⟨some 6, _, _, _, _, _⟩) (v := ?_) rfl (by kernel_rfl) (by kernel_rfl) (by kernel_rfl) (fun _ _ _ h => h) (Or.inl ⟨by rfl, ?_⟩) (by assumption) ?_
  rotate_left
  · intro w hSw; (try dsimp only at hSw); go_simp; try with_reducible rfl
  (try simp only [Act.put, List.setIfInBounds_toArray, List.set_cons_zero, List.set_cons_succ])
  refine wpAnyH_take (i := 3) (oi := ⟨some 7, _, _, _, _, _⟩) (v := ?_) rfl (by kernel_rfl) (by kernel_rfl) (by kernel_rfl) (fun _ _ _ h => h) (Or.inl ⟨by rfl, ?_⟩) (by assumption) ?_
  rotate_left
  · intro w hSw; (try dsimp only at hSw); go_simp; try with_reducible rfl
  (try simp only [Act.put, List.setIfInBounds_toArray, List.set_cons_zero, List.set_cons_succ])
  refine wpAnyH_take (i := 6) (oi := ⟨some 10, _, _, _, _, _⟩) (v := ?_) rfl (by kernel_rfl) (by kernel_rfl) (by kernel_rfl) (fun _ _ _ h => h) (Or.inl ⟨by rfl, ?_⟩) (by assumption) ?_
  rotate_left
  · intro w hSw; (try dsimp only at hSw); go_simp; try with_reducible rfl
  (try simp only [Act.put, List.setIfInBounds_toArray, List.set_cons_zero, List.set_cons_succ])
  refine wpAnyH_take (i := 7) (oi := ⟨some 11, _, _, _, _, _⟩) (v := ?_) rfl (by kernel_rfl) (by kernel_rfl) (by kernel_rfl) (fun _ _ _ h => h) (Or.inl ⟨by rfl, ?_⟩) (by assumption) ?_
  rotate_left
  · intro w hSw; (try dsimp only at hSw); go_simp; try with_reducible rfl
  (try simp only [Act.put, List.setIfInBounds_toArray, List.set_cons_zero, List.set_cons_succ])
  refine wpAnyH_take (i := 8) (oi := ⟨some 12, _, _, _, _, _⟩) (v := ?_) rfl (by kernel_rfl) (by kernel_rfl) (by kernel_rfl) (fun _ _ _ h => h) (Or.inl ⟨by rfl, ?_⟩) (by assumption) ?_
  rotate_left
  · intro w hSw; (try dsimp only at hSw); go_simp; try with_reducible rfl
  (try simp only [Act.put, List.setIfInBounds_toArray, List.set_cons_zero, List.set_cons_succ])
  refine wpAnyH_take (i := 13) (oi := ⟨some 17, _, _, _, _, _⟩) (v := ?_) rfl (by kernel_rfl) (by kernel_rfl) (by kernel_rfl) (fun _ _ _ h => h) (Or.inl ⟨by rfl, ?_⟩) (by assumption) ?_
  rotate_left
  · intro w hSw; (try dsimp only at hSw); go_simp; try with_reducible rfl
  (try simp only [Act.put, List.setIfInBounds_toArray, List.set_cons_zero, List.set_cons_succ])
  refine wpAnyH_ready (rs := [14]) (by kernel_rfl) (by simp) ?_
  refine (AllReadyH.cons (o := ⟨none, _, _, _, _, _⟩) rfl (fun K hK => ?_) AllReadyH.nil)
  rw [if_pos (by rfl)]
  refine ow_of_wl (ops := #[]) (by rfl) ?_
  refine wl_store (_ :: _ :: _ :: _ :: FS1) hX rfl rfl rfl (v := .slice _ _ _) rfl rfl rfl HFIT.out ?_
  intro w9 hA3
  refine q0_nil ?_
  refine hK.out _ _ ?_ (fun hHeld => ?_)
  · exact ⟨ldS [_] hA3 rfl, ldS [] hA3 rfl, ldS [] hA3 rfl, ldS [] hA3 rfl, ldS [_, _] hA3 HCC.out⟩
  clear hK K
  (try simp only [Act.put, List.setIfInBounds_toArray, List.set_cons_zero, List.set_cons_succ])
  refine wpAnyH_done (by kernel_rfl) ?_ _
  clear hHeld
  go_end0
  refine ⟨rfl, ?_⟩
  unfold rxP
  rw [HT2.out, lay_hdr, lay_dc, ← HPUT.out]
  show St w0 M w9 (_ :: _ :: _ :: ((FS1 ++ _ :: FS2) ++ R))
  rw [List.append_assoc]
  exact St.sub hA3 (List.sublist_cons_self _ _)
end
end Go.Proofs.YtclleohpmgihaaaGreat
namespace Go.Proofs.YtclleohpmgihaaaGreat
set_option linter.unusedVariables false
set_option linter.unusedSimpArgs false
open Go.RowKit Hp
attribute [local irreducible] Go.Calls Go.wpList
set_option maxRecDepth 100000
set_option maxHeartbeats 4000000
def restX (k : Nat) (l : List RWv) : List RWv := l.filter fun w => w.dev != k
/-- A loose write of the row, as a whole. -/
theorem loose_cellR {w : World} {x : RX} {b off n c : Nat} (h : Rd w (.slice (some ⟨b, off, none⟩) n c) 3 n x.lc) {j : Nat} {r : RWv} (hj : x.loose[j]? = some r) {i : Nat} {v : Value} (hv : r.cells[i]? = some v) : w.cell? ⟨b, off + j * 3 + i, none⟩ = some v := by
  have hi : i < 3 := (List.getElem?_eq_some_iff.1 hv).1
  have h1 := h.range (j * 3 + i) v (by unfold RX.lc; rw [flat_get (sz := 3) (fun d => rfl) hj i hi]; exact hv)
  rwa [← Nat.add_assoc] at h1
theorem loose_rangeR {w : World} {x : RX} {b off n c : Nat} (h : Rd w (.slice (some ⟨b, off, none⟩) n c) 3 n x.lc) {j : Nat} {r : RWv} (hj : x.loose[j]? = some r) : w.rangeAt b (off + j * 3) r.cells := fun _ _ hi => loose_cellR h hj hi
theorem rest_r {w0 w : World} {M : List Nat} {R : List HA} {gr : Nat} {a : AR} {x : RX} (hS : St w0 M w (rxP gr x ++ R)) (ro : RefOk a x) (k : Nat) (hll : x.loose.length < 1000000) : Calls Tryz.prog 64 #[.pointer (some ⟨gr, 0, none⟩), .int .i64 (k : Int)] w fun e w' => ∃ u, e = .returned u ∧ St w0 M w' (.row u 96 3 (restX k x.loose).length ((restX k x.loose).flatMap RWv.cells) :: (rxP gr x ++ R)) := by
  have hst : St w0 M w (.blk gr 57 x.hdr :: .blk x.gd 60 x.dc :: .row x.lv 96 3 x.loose.length x.lc :: (x.tail ++ R)) := hS
  have RO := hid ro
  clear hS ro
  have hnl : x.loose.length < 1000000 := hll
  clear hll
  obtain ⟨lao, lc, hlv, _, _, _⟩ := row_form hst (.tail _ (.tail _ (.head _)))
  have HLV := hid hlv
  have HH2 : Hid (x.hdr[2]? = some (.slice lao x.loose.length lc)) := hid (by show some x.lv = _; rw [hlv])
  clear hlv
  go_enter Tryz.func64, Tryz.ntmps64
  go_wp2_with (first | go_big_skip | go_big_guard | fail)
  have hst1 := St.nilR 96 3 hst
  clear hst
  go_loopw [5, 6] (fun u i wr => ∃ j : Nat, j ≤ x.loose.length ∧ i = .int .i64 (j : Int) ∧ St w0 M wr (.row u 96 3 (restX k (x.loose.take j)).length ((restX k (x.loose.take j)).flatMap RWv.cells) :: (.blk gr 57 x.hdr :: .blk x.gd 60 x.dc :: .row x.lv 96 3 x.loose.length x.lc :: (x.tail ++ R)))) (fun _ i _ => x.loose.length - (intOf i).toNat)
  case atStart => exact ⟨0, Nat.zero_le _, rfl, hst1⟩
  case round =>
    clear hst1
    obtain ⟨j, hj, rfl, hst⟩ := hrel
    by_cases hlj : j < x.loose.length
    · have d1 : decide ((j : Int) < (x.loose.length : Int)) = true := decide_eq_true (by omega)
      have z1 : IntKind.i64.wrap ((j : Int) + 1) = (j : Int) + 1 := IntWalk.i64_in _ (by omega)
      obtain ⟨r, hr⟩ : ∃ r, x.loose[j]? = some r := ⟨_, List.getElem?_eq_getElem hlj⟩
      obtain ⟨v, hv⟩ : ∃ v, a.loose[j]? = some v := ⟨_, List.getElem?_eq_getElem (by rw [← RO.out.ln]; exact hlj)⟩
      obtain ⟨r2, hr2, e1, e2, hsr⟩ := RO.out.lw j v hv
      rw [hr] at hr2
      cases hr2
      have hrd := Rd.row hst (.tail _ (.tail _ (.tail _ (.head _))))
      rw [HLV.out] at hrd
      obtain ⟨lb, lo, rfl, _⟩ := Rd.at hrd hlj
      have HW0 := hid (loose_cellR hrd hr (i := 0) rfl)
      have HWR := hid (loose_rangeR hrd hr)
      have HR := hid hr
      obtain ⟨bo, bc, hbv, _⟩ := row_form hst (.tail _ (.tail _ (.tail _ (.tail _ (List.mem_append_left _ (List.mem_append_right _ hsr))))))
      obtain ⟨rd, hrq⟩ : ∃ rd, rd = r.dev := ⟨_, rfl⟩
      replace HW0 : Hid (wr.cell? ⟨lb, lo + j * 3, none⟩ = some (.int .i64 (rd : Int))) := hid (by rw [hrq]; exact HW0.out)
      have HC1 : Hid (r.cells.all (·.oneCell') = true) := hid (by unfold RWv.cells; rw [hbv]; rfl)
      have HTK := hid (show x.loose.take (j + 1) = x.loose.take j ++ [r] by rw [List.take_add_one, hr]; rfl)
      have HBL : Hid ((restX k (x.loose.take j)).length ≤ 1000000) := hid (by unfold restX; have := List.length_filter_le (fun w : RWv => w.dev != k) (x.loose.take j); rw [List.length_take] at this; omega)
      clear hr hv e1 e2 hsr hrd hbv
      by_cases g1 : rd = k
      · have c1 : ((rd : Int) != (k : Int)) = false := by rw [g1]; simp
        have HTE : Hid (restX k (x.loose.take (j + 1)) = restX k (x.loose.take j)) := hid (by
          rw [HTK.out]
          unfold restX
          rw [List.filter_append, List.filter_cons_of_neg (by rw [← hrq, g1]; simp), List.filter_nil, List.append_nil])
        clear g1 hrq
        go_wp2_with (first | go_big_skip | go_big_guard | (refine wl_loadE rfl rfl rfl ?_; first | refine ⟨_, Loads.at [_] hst HH2.out, ?_⟩ | refine ⟨_, Loads.cell TyS.out HW0.out, ?_⟩) | (refine wl_index (k := j) rfl rfl rfl rfl hlj ?_))
        go_roundw
        case rel => exact ⟨j + 1, by omega, rfl, by rw [HTE.out]; exact hst⟩
        case measure => simp [intOf]; omega
      · have c1 : ((rd : Int) != (k : Int)) = true := by rw [bne_iff_ne]; omega
        have HTE : Hid (restX k (x.loose.take (j + 1)) = restX k (x.loose.take j) ++ [r]) := hid (by
          rw [HTK.out]
          unfold restX
          rw [List.filter_append, List.filter_cons_of_pos (by rw [← hrq]; simpa using g1), List.filter_nil])
        clear g1 hrq
        go_wp2_with (first | go_big_skip | go_big_guard | (refine wl_loadE rfl rfl rfl ?_; first | refine ⟨_, Loads.at [_] hst HH2.out, ?_⟩ | refine ⟨_, Loads.cell TyS.out HW0.out, ?_⟩ | refine ⟨_, Loads.range (T := 96) (cs := r.cells) (by exact TyA.out) (by rw [Nat.zero_add] at *; exact HWR.out), ?_⟩ | refine ⟨_, Loads.range (T := 96) (cs := r.cells) (by exact TyA.out) HWR.out, ?_⟩) | (refine wl_index (k := j) rfl rfl rfl rfl hlj ?_) | (apply wl_bsX [.agg (List.toArray r.cells)] (r.cells) hst; rfl; rfl; exact rfl; exact rfl; infer_instance; infer_instance; rfl; rfl; rfl; intro g1 w3 hs1; clear hst) | (apply wl_appX (m := 1) (ys := r.cells) [_] hs1; rfl; rfl; exact rfl; exact rfl; infer_instance; infer_instance; infer_instance; exact Rd.blk (n := 1) hs1 (.head _) (Nat.le_refl _) (by decide) rfl rfl; exact HC1.out; (refine ⟨by decide, by have := HBL.out; unfold maxLen; omega, by have := HBL.out; omega⟩); intro v9 w7 hs2 _; clear hs1))
        go_roundw
        case rel =>
          refine ⟨j + 1, by omega, rfl, ?_⟩
          rw [HTE.out, List.flatMap_append, List.length_append]
          exact St.sub hs2 (List.sublist_cons_self _ _)
        case measure => simp [intOf]; omega
    · obtain rfl : j = x.loose.length := by omega
      have d1 : decide ((x.loose.length : Int) < (x.loose.length : Int)) = false := decide_eq_false (by omega)
      go_wp2_with (first | go_big_skip | go_big_guard | (refine wl_loadE rfl rfl rfl ?_; first | refine ⟨_, Loads.at [_] hst HH2.out, ?_⟩))
      go_ret
      rw [List.take_length] at hst
      exact ⟨_, rfl, hst⟩
end Go.Proofs.YtclleohpmgihaaaGreat
namespace Go.Proofs.YtclleohpmgihaaaGreat
set_option linter.unusedVariables false
set_option linter.unusedSimpArgs false
open Go.RowKit Hp
attribute [local irreducible] Go.Calls Go.wpList
set_option maxRecDepth 100000
set_option maxHeartbeats 4000000
theorem RefOk.rest {a : AR} {x : RX} (h : RefOk a x) (k : Nat) (u : Value) : RefOk (a.rest k) { x with loose := restX k x.loose, lv := u } :=
  ⟨h.dn, h.dv, h.mn, (h.l2.filter k).len, (h.l2.filter k).at, h.left, h.out, h.steps⟩
theorem fin_rest {w0 w : World} {M : List Nat} {rv A B rl : HA} {T : List HA} (h : St w0 M w (rv :: A :: B :: rl :: T)) : St w0 M w (A :: B :: rv :: T) := by
  have h1 := St.sub h (.cons_cons _ (.cons_cons _ (.cons_cons _ (.cons _ (List.Sublist.refl _)))))
  exact St.perm h1 ((List.Perm.swap _ _ _).trans (List.Perm.cons _ (List.Perm.swap _ _ _)))
def goneR : RDv → RDv := fun d => { d with gone := true }
def firmJ (a : AR) (k j : Nat) : DV → DV := fun d => { d with firm := ((a.loose.take j).filter fun w => w.dev == k).foldl setS d.firm }
theorem firmJ_succ {a : AR} {k j : Nat} {v : LW} (hv : a.loose[j]? = some v) (hd : v.dev = k) : a.upd (k : Int) (firmJ a k (j + 1)) = (a.upd (k : Int) (firmJ a k j)).upd (k : Int) (setF v.pl v.b) := by
  rw [upd_upd]
  congr 1
  funext d
  unfold firmJ setF
  rw [List.take_add_one, hv, List.filter_append, List.foldl_append]
  have : ((some v).toList.filter fun w : LW => w.dev == k) = [v] := by simp [hd]
  rw [this]
  rfl
theorem firmJ_skip {a : AR} {k j : Nat} {v : LW} (hv : a.loose[j]? = some v) (hd : ¬ v.dev = k) : firmJ a k (j + 1) = firmJ a k j := by
  funext d
  unfold firmJ
  rw [List.take_add_one, hv, List.filter_append]
  have : ((some v).toList.filter fun w : LW => w.dev == k) = [] := by simp [hd]
  rw [this, List.append_nil]
theorem firmJ_zero {a : AR} {k : Nat} (hk : k < a.devs.length) : a.upd (k : Int) (firmJ a k 0) = a := by
  unfold AR.upd
  have : a.devs.modify (k : Int).toNat (firmJ a k 0) = a.devs := by
    have e : firmJ a k 0 = id := rfl
    rw [e]
    exact List.modify_id ..
  rw [this]
theorem firmJ_all (a : AR) (k : Nat) : (a.upd (k : Int) (firmJ a k a.loose.length)).rest k = a.firms k := by
  unfold AR.rest AR.firms firmJ
  rw [List.take_length]
  rfl
theorem fneg {a : AR} {dev : Int} (h0 : a.devs ≠ []) (ho : a.out = false) (hs : a.inD dev = true) (hg : (a.dv dev).gone = false) : ¬ (a.devs = [] ∨ a.out = true ∨ a.inD dev = false ∨ (a.dv dev).gone = true) := by
  rintro (h | h | h | h)
  · exact h0 h
  · rw [ho] at h; cases h
  · rw [hs] at h; cases h
  · rw [hg] at h; cases h
theorem flush_out_r {w0 w : World} {M : List Nat} {R : List HA} {gr : Nat} {a : AR} {x : RX} (hS : St w0 M w (rxP gr x ++ R)) (ro : RefOk a x) (dev : Int) (ho : a.out = true) (ok : a.Ok) (hll : a.loose.length < 1000000) (hs9 : 0 ≤ a.steps ∧ a.steps < 4611686018427387904) : Calls Tryz.prog 24 #[.pointer (some ⟨gr, 0, none⟩), .int .i64 dev] w fun e w' => e = .returned (.int .i64 (a.flushE dev)) ∧ ∃ y, RefOk (a.flush dev) y ∧ St w0 M w' (rxP gr y ++ R) := by
  have hst : St w0 M w (.blk gr 57 x.hdr :: .blk x.gd 60 x.dc :: .row x.lv 96 3 x.loose.length x.lc :: (x.tail ++ R)) := hS
  have RO := hid ro
  clear hS ro
  have hE : a.flushE dev = 10 := by unfold AR.flushE; rw [if_neg ok.d0, ho, if_pos rfl]
  have hR : a.flush dev = a := by unfold AR.flush; rw [if_pos (.inr (.inl ho))]
  rw [hE, hR]
  clear hE hR
  have HOX : Hid (x.hdr[4]? = some (.bool true)) := hid (by show some (Value.bool x.out) = _; rw [RO.out.out, ho])
  clear ho ok hll hs9
  go_enter Tryz.func24, Tryz.ntmps24
  go_wp2_with (first | go_big_skip | go_big_guard | (refine wl_loadE rfl rfl rfl ?_; first | refine ⟨_, Loads.at [] hst HOX.out, ?_⟩ | refine ⟨_, Loads.at [] hst rfl, ?_⟩))
  go_ret
  exact ⟨rfl, x, RO.out, hst⟩
theorem flush_far_r {w0 w : World} {M : List Nat} {R : List HA} {gr : Nat} {a : AR} {x : RX} (hS : St w0 M w (rxP gr x ++ R)) (ro : RefOk a x) (dev : Int) (ho : a.out = false) (hc : a.inD dev = false) (ok : a.Ok) (hll : a.loose.length < 1000000) (hs9 : 0 ≤ a.steps ∧ a.steps < 4611686018427387904) : Calls Tryz.prog 24 #[.pointer (some ⟨gr, 0, none⟩), .int .i64 dev] w fun e w' => e = .returned (.int .i64 (a.flushE dev)) ∧ ∃ y, RefOk (a.flush dev) y ∧ St w0 M w' (rxP gr y ++ R) := by
  have hst : St w0 M w (.blk gr 57 x.hdr :: .blk x.gd 60 x.dc :: .row x.lv 96 3 x.loose.length x.lc :: (x.tail ++ R)) := hS
  have RO := hid ro
  clear hS ro
  have hE : a.flushE dev = 5 := by unfold AR.flushE; rw [if_neg ok.d0, ho, if_neg (by decide), hc, if_pos rfl]
  have hR : a.flush dev = a := by unfold AR.flush; rw [if_pos (.inr (.inr (.inl hc)))]
  rw [hE, hR]
  clear hE hR
  have HOX : Hid (x.hdr[4]? = some (.bool false)) := hid (by show some (Value.bool x.out) = _; rw [RO.out.out, ho])
  have HS := hid hc
  clear ho hc ok hll hs9
  go_enter Tryz.func24, Tryz.ntmps24
  go_wp2_with (first | go_big_skip | go_big_guard | (refine wl_loadE rfl rfl rfl ?_; first | refine ⟨_, Loads.at [] hst HOX.out, ?_⟩ | refine ⟨_, Loads.at [] hst rfl, ?_⟩) | (go_at_call 62; refine (there_r (R := R) hst RO.out dev).mono ?_; rw [HS.out]; rintro _ w1 ⟨rfl, h4⟩; replace hst := h4; clear h4))
  go_ret
  exact ⟨rfl, x, RO.out, hst⟩
theorem flush_gone_r {w0 w : World} {M : List Nat} {R : List HA} {gr : Nat} {a : AR} {x : RX} (hS : St w0 M w (rxP gr x ++ R)) (ro : RefOk a x) (dev : Int) (ho : a.out = false) (hc : a.inD dev = true) (hg : (a.dv dev).gone = true) (ok : a.Ok) (hll : a.loose.length < 1000000) (hs9 : 0 ≤ a.steps ∧ a.steps < 4611686018427387904) : Calls Tryz.prog 24 #[.pointer (some ⟨gr, 0, none⟩), .int .i64 dev] w fun e w' => e = .returned (.int .i64 (a.flushE dev)) ∧ ∃ y, RefOk (a.flush dev) y ∧ St w0 M w' (rxP gr y ++ R) := by
  have hst : St w0 M w (.blk gr 57 x.hdr :: .blk x.gd 60 x.dc :: .row x.lv 96 3 x.loose.length x.lc :: (x.tail ++ R)) := hS
  have RO := hid ro
  clear hS ro
  have hE : a.flushE dev = 14 := by unfold AR.flushE; rw [if_neg ok.d0, ho, if_neg (by decide), hc, if_neg (by decide), hg, if_pos rfl]
  have hR : a.flush dev = a := by unfold AR.flush; rw [if_pos (.inr (.inr (.inr hg)))]
  rw [hE, hR]
  clear hE hR
  have HOX : Hid (x.hdr[4]? = some (.bool false)) := hid (by show some (Value.bool x.out) = _; rw [RO.out.out, ho])
  have HS := hid hc
  obtain ⟨k, rfl, hka⟩ := nat_dev hc
  have hkx : k < x.devs.length := by rw [RO.out.dn]; exact hka
  have HC := hid (RO.out.cells hka)
  have HG : Hid (x.dc[k * 5 + 4]? = some (.bool true)) := hid (by rw [HC.out.2.2.2.2, hg])
  clear ho hc hg ok hll hs9
  go_enter Tryz.func24, Tryz.ntmps24
  go_wp2_with (first | go_big_skip | go_big_guard | (refine wl_loadE rfl rfl rfl ?_; first | refine ⟨_, Loads.at [] hst HOX.out, ?_⟩ | refine ⟨_, Loads.at [_] hst HG.out, ?_⟩ | refine ⟨_, Loads.at [] hst rfl, ?_⟩) | (refine wl_index (k := k) rfl rfl rfl rfl hkx ?_) | (go_at_call 62; refine (there_r (R := R) hst RO.out (k : Int)).mono ?_; rw [HS.out]; rintro _ w1 ⟨rfl, h4⟩; replace hst := h4; clear h4))
  go_ret
  exact ⟨rfl, x, RO.out, hst⟩
theorem flush_dead_r {w0 w : World} {M : List Nat} {R : List HA} {gr : Nat} {a : AR} {x : RX} (hS : St w0 M w (rxP gr x ++ R)) (ro : RefOk a x) (dev : Int) (ho : a.out = false) (hc : a.inD dev = true) (hg : (a.dv dev).gone = false) (hf : a.fuse = 0) (ok : a.Ok) (hll : a.loose.length < 1000000) (hs9 : 0 ≤ a.steps ∧ a.steps < 4611686018427387904) : Calls Tryz.prog 24 #[.pointer (some ⟨gr, 0, none⟩), .int .i64 dev] w fun e w' => e = .returned (.int .i64 (a.flushE dev)) ∧ ∃ y, RefOk (a.flush dev) y ∧ St w0 M w' (rxP gr y ++ R) := by
  have hst : St w0 M w (.blk gr 57 x.hdr :: .blk x.gd 60 x.dc :: .row x.lv 96 3 x.loose.length x.lc :: (x.tail ++ R)) := hS
  have RO := hid ro
  clear hS ro
  have hE : a.flushE dev = 10 := by unfold AR.flushE AR.stepE; rw [if_neg ok.d0, ho, if_neg (by decide), hc, if_neg (by decide), hg, if_neg (by decide), if_pos hf]
  have hR : a.flush dev = a.step := by
    unfold AR.flush
    rw [if_neg (fneg ok.d0 ho hc hg), if_pos hf]
  rw [hE, hR]
  clear hE hR
  have HOX : Hid (x.hdr[4]? = some (.bool false)) := hid (by show some (Value.bool x.out) = _; rw [RO.out.out, ho])
  have HS := hid hc
  obtain ⟨k, rfl, hka⟩ := nat_dev hc
  have hkx : k < x.devs.length := by rw [RO.out.dn]; exact hka
  have HC := hid (RO.out.cells hka)
  have HG : Hid (x.dc[k * 5 + 4]? = some (.bool false)) := hid (by rw [HC.out.2.2.2.2, hg])
  have HD : Hid (decide (a.fuse ≠ 0) = false) := hid (decide_eq_false (fun h => h hf))
  have HSB := hid hs9
  have HFU := hid ok.fu.2
  clear ho hc hg hf ok hll hs9
  go_enter Tryz.func24, Tryz.ntmps24
  go_wp2_with (first | go_big_skip | go_big_guard | (refine wl_loadE rfl rfl rfl ?_; first | refine ⟨_, Loads.at [] hst HOX.out, ?_⟩ | refine ⟨_, Loads.at [_] hst HG.out, ?_⟩ | refine ⟨_, Loads.at [] hst rfl, ?_⟩) | (refine wl_index (k := k) rfl rfl rfl rfl hkx ?_) | (go_at_call 62; refine (there_r (R := R) hst RO.out (k : Int)).mono ?_; rw [HS.out]; rintro _ w1 ⟨rfl, h4⟩; replace hst := h4; clear h4) | (go_at_call 61; refine (step_r (R := R) hst RO.out HSB.out HFU.out).mono ?_; rw [HD.out]; rintro _ w2 ⟨rfl, y, hy, h4⟩; clear hst))
  go_ret
  exact ⟨rfl, y, hy, h4⟩
theorem flush_fine_r {w0 w : World} {M : List Nat} {R : List HA} {gr : Nat} {a : AR} {x : RX} (hS : St w0 M w (rxP gr x ++ R)) (ro : RefOk a x) (dev : Int) (ho : a.out = false) (hc : a.inD dev = true) (hg : (a.dv dev).gone = false) (hf : a.fuse ≠ 0) (ok : a.Ok) (hll : a.loose.length < 1000000) (hs9 : 0 ≤ a.steps ∧ a.steps < 4611686018427387904) : Calls Tryz.prog 24 #[.pointer (some ⟨gr, 0, none⟩), .int .i64 dev] w fun e w' => e = .returned (.int .i64 (a.flushE dev)) ∧ ∃ y, RefOk (a.flush dev) y ∧ St w0 M w' (rxP gr y ++ R) := by
  have hst : St w0 M w (.blk gr 57 x.hdr :: .blk x.gd 60 x.dc :: .row x.lv 96 3 x.loose.length x.lc :: (x.tail ++ R)) := hS
  have RO := hid ro
  clear hS ro
  have hE : a.flushE dev = 0 := by unfold AR.flushE AR.stepE; rw [if_neg ok.d0, ho, if_neg (by decide), hc, if_neg (by decide), hg, if_neg (by decide), if_neg hf]
  have hR : a.flush dev = a.step.firms dev.toNat := by
    unfold AR.flush
    rw [if_neg (fneg ok.d0 ho hc hg), if_neg hf]
  rw [hE, hR]
  clear hE hR
  have HOX : Hid (x.hdr[4]? = some (.bool false)) := hid (by show some (Value.bool x.out) = _; rw [RO.out.out, ho])
  have HS := hid hc
  obtain ⟨k, rfl, hka⟩ := nat_dev hc
  have hkx : k < x.devs.length := by rw [RO.out.dn]; exact hka
  have HC := hid (RO.out.cells hka)
  have HG : Hid (x.dc[k * 5 + 4]? = some (.bool false)) := hid (by rw [HC.out.2.2.2.2, hg])
  have HD : Hid (decide (a.fuse ≠ 0) = true) := hid (decide_eq_true hf)
  have HSB := hid hs9
  have HFU := hid ok.fu.2
  have hka1 : k < a.step.devs.length := by rw [step_len]; exact hka
  have HKA := hid hka1
  have HOK := hid ok.step
  have HLL : Hid (x.loose.length < 1000000) := hid (by rw [RO.out.ln]; exact hll)
  have hins := hc
  have HIN1 : Hid (a.step.inD (k : Int) = true) := hid (by unfold AR.inD at hins ⊢; rw [step_len]; exact hins)
  clear ho hc hg hf hka1 hins ok hll hs9
  go_enter Tryz.func24, Tryz.ntmps24
  go_wp2_with (first | go_big_skip | go_big_guard | (refine wl_loadE rfl rfl rfl ?_; first | refine ⟨_, Loads.at [] hst HOX.out, ?_⟩ | refine ⟨_, Loads.at [_] hst HG.out, ?_⟩ | refine ⟨_, Loads.at [] hst rfl, ?_⟩) | (refine wl_index (k := k) rfl rfl rfl rfl hkx ?_) | (go_at_call 62; refine (there_r (R := R) hst RO.out (k : Int)).mono ?_; rw [HS.out]; rintro _ w1 ⟨rfl, h4⟩; replace hst := h4; clear h4) | (go_at_call 61; refine (step_r (R := R) hst RO.out HSB.out HFU.out).mono ?_; rw [HD.out]; rintro _ w2 ⟨rfl, y, hy, h4⟩; have HY := hid hy; have HLY : Hid (y.loose.length < 1000000) := (hid (by rw [hy.ln, step_loose, ← RO.out.ln]; exact HLL.out)); have hst' : St w0 M w2 (rxP gr y ++ R) := h4; clear hy; clear h4; clear hst))
  obtain ⟨a1, ha1⟩ : ∃ a1, a1 = a.step := ⟨_, rfl⟩
  rw [← ha1] at HY HKA HOK HIN1
  have HGOAL := hid ha1
  clear ha1
  obtain ⟨lao, lc, hlv, _, _, _⟩ := row_form hst' (.tail _ (.tail _ (.head _)))
  have HLV := hid hlv
  clear hlv
  have hnl := HLY.out
  obtain ⟨nl, hnq⟩ : ∃ nl, nl = y.loose.length := ⟨_, rfl⟩
  have HNL := hid hnq
  have HZ0 : Hid (RefOk (a1.upd (k : Int) (firmJ a1 k 0)) y) := hid (by rw [firmJ_zero HKA.out]; exact HY.out)
  rw [← hnq] at hnl
  have HLV2 : Hid (y.lv = .slice lao nl lc) := hid (by rw [hnq]; exact HLV.out)
  clear hnq
  go_loopw [5] (fun i wr => ∃ (j : Nat) (z : RX), j ≤ nl ∧ i = .int .i64 (j : Int) ∧ Hid (RefOk (a1.upd (k : Int) (firmJ a1 k j)) z) ∧ Hid (z.loose = y.loose ∧ z.lv = y.lv) ∧ St w0 M wr (rxP gr z ++ R)) (fun i _ => nl - (intOf i).toNat)
  case atStart => exact ⟨0, y, Nat.zero_le _, rfl, HZ0, hid ⟨rfl, rfl⟩, hst'⟩
  case round =>
    clear hst' HZ0
    obtain ⟨j, z, hj, rfl, HZ, HSA, hst0⟩ := hrel
    have hst : St w0 M wr (.blk gr 57 z.hdr :: .blk z.gd 60 z.dc :: .row z.lv 96 3 z.loose.length z.lc :: (z.tail ++ R)) := hst0
    clear hst0
    have HH2 : Hid (z.hdr[2]? = some (.slice lao nl lc)) := hid (by show some z.lv = _; rw [HSA.out.2, HLV2.out])
    have HZL : Hid (z.loose.length = nl) := hid (by rw [HSA.out.1, HNL.out])
    by_cases hlj : j < nl
    · have d1 : decide ((j : Int) < (nl : Int)) = true := decide_eq_true (by omega)
      have z1 : IntKind.i64.wrap ((j : Int) + 1) = (j : Int) + 1 := IntWalk.i64_in _ (by omega)
      obtain ⟨v, hv⟩ : ∃ v, a1.loose[j]? = some v := ⟨_, List.getElem?_eq_getElem (by have := HY.out.ln; rw [← this, ← HNL.out]; exact hlj)⟩
      obtain ⟨r, hr, e1, e2, hsr⟩ := HZ.out.lw j v hv
      have hrd := Rd.row hst (.tail _ (.tail _ (.head _)))
      rw [HSA.out.2, HLV2.out, HZL.out] at hrd
      obtain ⟨lb, lo, rfl, _⟩ := Rd.at hrd hlj
      obtain ⟨bo, bc, hbv, _⟩ := row_form hst (.tail _ (.tail _ (.tail _ (List.mem_append_left _ (List.mem_append_right _ hsr)))))
      obtain ⟨rd, rp, rb⟩ := r
      simp only at e1 e2 hbv
      subst hbv
      have HW0 : Hid (wr.cell? ⟨lb, lo + j * 3, none⟩ = some (.int .i64 (rd : Int))) := hid (loose_cellR hrd hr (i := 0) rfl)
      have HWR : Hid (wr.rangeAt lb (lo + j * 3) [.int .i64 (rd : Int), .int .i64 (rp : Int), .slice bo 256 bc]) := hid (loose_rangeR hrd hr)
      have HV := hid hv
      have HE1 := hid e1
      have HE2 := hid e2
      have HSR := hid hsr
      clear hr hv e1 e2 hsr hrd
      by_cases g1 : rd = k
      · have c1 : ((rd : Int) == (k : Int)) = true := by rw [g1]; simp
        have hvl := HOK.out.lw v (List.mem_of_getElem? HV.out)
        have hku : k < (a1.upd (k : Int) (firmJ a1 k j)).devs.length := by rw [upd_len]; exact HKA.out
        have hkz : k < z.devs.length := by rw [HZ.out.dn]; exact hku
        have hfl : ((a1.upd (k : Int) (firmJ a1 k j)).dv (k : Int)).firm.length = a1.secs := by
          rw [dv_mod HKA.out, if_pos rfl]
          show (List.foldl setS _ _).length = _
          rw [foldS_len, (HOK.out.dv HIN1.out).1]
        have hpz : rp < (z.dv k).f.sv.length := by
          rw [(HZ.out.dv k hku).len, hfl, HE2.out]
          exact hvl.2.1
        have HNX := hid (HZ.out.lay (k := k) (p := rp) hku (by rw [hfl, HE2.out]; exact hvl.2.1) HSR.out (by rw [upd_inD]; exact HIN1.out))
        have HFS := hid (firmJ_succ HV.out (HE1.out.symm.trans g1))
        subst g1
        have HKZ := hid hkz
        have HPZ := hid hpz
        clear hvl hku hkz hfl hpz
        go_wp2_with (first | go_big_skip | go_big_guard | (refine wl_loadE rfl rfl rfl ?_; first | refine ⟨_, Loads.at [] hst HH2.out, ?_⟩ | refine ⟨_, Loads.cell TyS.out HW0.out, ?_⟩ | refine ⟨_, Loads.range (T := 96) (by exact TyA.out) HWR.out, ?_⟩ | refine ⟨_, Loads.range (T := 96) (by exact TyA.out) (by rw [Nat.zero_add] at *; exact HWR.out), ?_⟩) | (refine wl_index (k := j) rfl rfl rfl rfl hlj ?_) | (go_at_call 63; refine (lay_r (R := R) (x := z) hst rd rp bo 256 bc HKZ.out HPZ.out).mono ?_; rintro _ w5 ⟨rfl, h4⟩; have hs5 := h4; clear h4 hst))
        go_roundw
        case rel => exact ⟨j + 1, z.lay rd rp (.slice bo 256 bc), by omega, rfl, hid (by rw [HFS.out, ← HE2.out]; exact HNX.out), hid ⟨HSA.out.1, HSA.out.2⟩, hs5⟩
        case measure => simp [intOf]; omega
      · have c1 : ((rd : Int) == (k : Int)) = false := by rw [beq_eq_false_iff_ne]; omega
        have HFS := hid (firmJ_skip HV.out (by rw [← HE1.out]; exact g1))
        clear g1
        go_wp2_with (first | go_big_skip | go_big_guard | (refine wl_loadE rfl rfl rfl ?_; first | refine ⟨_, Loads.at [] hst HH2.out, ?_⟩ | refine ⟨_, Loads.cell TyS.out HW0.out, ?_⟩) | (refine wl_index (k := j) rfl rfl rfl rfl hlj ?_))
        go_roundw
        case rel => exact ⟨j + 1, z, by omega, rfl, hid (by rw [HFS.out]; exact HZ.out), HSA, hst⟩
        case measure => simp [intOf]; omega
    · obtain rfl : j = nl := by omega
      have d1 : decide ((j : Int) < (j : Int)) = false := decide_eq_false (by omega)
      have HLZ : Hid (z.loose.length < 1000000) := hid (by rw [HZL.out]; exact hnl)
      go_wp2_with (first | go_big_skip | go_big_guard | (refine wl_loadE rfl rfl rfl ?_; refine ⟨_, Loads.at [] hst HH2.out, ?_⟩) | (go_at_call 64; refine (rest_r (R := R) (x := z) hst HZ.out k HLZ.out).mono ?_; rintro _ w5 ⟨u, rfl, h4⟩; have hs5 : St w0 M w5 (.row u 96 3 (restX k z.loose).length ((restX k z.loose).flatMap RWv.cells) :: .blk gr 57 z.hdr :: .blk z.gd 60 z.dc :: .row z.lv 96 3 z.loose.length z.lc :: (z.tail ++ R)) := h4; clear h4 hst; obtain ⟨uo, uc, rfl, _, _, _⟩ := row_form hs5 (.head _)) | (refine wl_store [_] hs5 rfl rfl rfl (v := .slice _ _ _) rfl rfl rfl (by show (2 : Nat) + 1 ≤ 6; decide) ?_; intro w6 hs6; clear hs5))
      go_ret
      have hF := HZ.out.rest k (.slice uo (restX k z.loose).length uc)
      rw [show j = a1.loose.length from by rw [HNL.out]; exact HY.out.ln, firmJ_all, HGOAL.out] at hF
      refine ⟨rfl, _, hF, ?_⟩
      exact fin_rest hs6
theorem flush_r {w0 w : World} {M : List Nat} {R : List HA} {gr : Nat} {a : AR} {x : RX} (hS : St w0 M w (rxP gr x ++ R)) (ro : RefOk a x) (dev : Int) (ok : a.Ok) (hll : a.loose.length < 1000000) (hs9 : 0 ≤ a.steps ∧ a.steps < 4611686018427387904) : Calls Tryz.prog 24 #[.pointer (some ⟨gr, 0, none⟩), .int .i64 dev] w fun e w' => e = .returned (.int .i64 (a.flushE dev)) ∧ ∃ y, RefOk (a.flush dev) y ∧ St w0 M w' (rxP gr y ++ R) := by
  cases ho : a.out
  · cases hc : a.inD dev
    · exact flush_far_r hS ro dev ho hc ok hll hs9
    · cases hg : (a.dv dev).gone
      · by_cases hf : a.fuse = 0
        · exact flush_dead_r hS ro dev ho hc hg hf ok hll hs9
        · exact flush_fine_r hS ro dev ho hc hg hf ok hll hs9
      · exact flush_gone_r hS ro dev ho hc hg ok hll hs9
  · exact flush_out_r hS ro dev ho ok hll hs9
theorem pull_far_r {w0 w : World} {M : List Nat} {R : List HA} {gr : Nat} {a : AR} {x : RX} (hS : St w0 M w (rxP gr x ++ R)) (ro : RefOk a x) (dev : Int) (hc : a.inD dev = false) (hll : a.loose.length < 1000000) : Calls Tryz.prog 78 #[.pointer (some ⟨gr, 0, none⟩), .int .i64 dev] w fun e w' => e = .returned (.int .i64 (a.pullE dev)) ∧ ∃ y, RefOk (a.pull dev) y ∧ St w0 M w' (rxP gr y ++ R) := by
  have hst : St w0 M w (.blk gr 57 x.hdr :: .blk x.gd 60 x.dc :: .row x.lv 96 3 x.loose.length x.lc :: (x.tail ++ R)) := hS
  have RO := hid ro
  clear hS ro
  have hE : a.pullE dev = 5 := by unfold AR.pullE AR.fellE; rw [hc]; rfl
  have hR : a.pull dev = a := by unfold AR.pull AR.fellE; rw [hc]; rfl
  rw [hE, hR]
  clear hE hR
  have HS := hid hc
  clear hc hll
  go_enter Tryz.func78, Tryz.ntmps78
  go_wp2_with (first | go_big_skip | go_big_guard | (go_at_call 62; refine (there_r (R := R) hst RO.out dev).mono ?_; rw [HS.out]; rintro _ w1 ⟨rfl, h4⟩; replace hst := h4; clear h4))
  go_ret
  exact ⟨rfl, x, RO.out, hst⟩
theorem pull_gone_r {w0 w : World} {M : List Nat} {R : List HA} {gr : Nat} {a : AR} {x : RX} (hS : St w0 M w (rxP gr x ++ R)) (ro : RefOk a x) (dev : Int) (hc : a.inD dev = true) (hg : (a.dv dev).gone = true) (hll : a.loose.length < 1000000) : Calls Tryz.prog 78 #[.pointer (some ⟨gr, 0, none⟩), .int .i64 dev] w fun e w' => e = .returned (.int .i64 (a.pullE dev)) ∧ ∃ y, RefOk (a.pull dev) y ∧ St w0 M w' (rxP gr y ++ R) := by
  have hst : St w0 M w (.blk gr 57 x.hdr :: .blk x.gd 60 x.dc :: .row x.lv 96 3 x.loose.length x.lc :: (x.tail ++ R)) := hS
  have RO := hid ro
  clear hS ro
  have hE : a.pullE dev = 14 := by unfold AR.pullE AR.fellE; rw [hc, hg]; rfl
  have hR : a.pull dev = a := by unfold AR.pull AR.fellE; rw [hc, hg]; rfl
  rw [hE, hR]
  clear hE hR
  have HS := hid hc
  obtain ⟨k, rfl, hka⟩ := nat_dev hc
  have hkx : k < x.devs.length := by rw [RO.out.dn]; exact hka
  have HC := hid (RO.out.cells hka)
  have HG : Hid (x.dc[k * 5 + 4]? = some (.bool true)) := hid (by rw [HC.out.2.2.2.2, hg])
  clear hc hll hg
  go_enter Tryz.func78, Tryz.ntmps78
  go_wp2_with (first | go_big_skip | go_big_guard | (refine wl_loadE rfl rfl rfl ?_; first | refine ⟨_, Loads.at [_] hst HG.out, ?_⟩ | refine ⟨_, Loads.at [] hst rfl, ?_⟩) | (refine wl_index (k := k) rfl rfl rfl rfl hkx ?_) | (go_at_call 62; refine (there_r (R := R) hst RO.out (k : Int)).mono ?_; rw [HS.out]; rintro _ w1 ⟨rfl, h4⟩; replace hst := h4; clear h4))
  go_ret
  exact ⟨rfl, x, RO.out, hst⟩
theorem pull_fine_r {w0 w : World} {M : List Nat} {R : List HA} {gr : Nat} {a : AR} {x : RX} (hS : St w0 M w (rxP gr x ++ R)) (ro : RefOk a x) (dev : Int) (hc : a.inD dev = true) (hg : (a.dv dev).gone = false) (hll : a.loose.length < 1000000) : Calls Tryz.prog 78 #[.pointer (some ⟨gr, 0, none⟩), .int .i64 dev] w fun e w' => e = .returned (.int .i64 (a.pullE dev)) ∧ ∃ y, RefOk (a.pull dev) y ∧ St w0 M w' (rxP gr y ++ R) := by
  have hst : St w0 M w (.blk gr 57 x.hdr :: .blk x.gd 60 x.dc :: .row x.lv 96 3 x.loose.length x.lc :: (x.tail ++ R)) := hS
  have RO := hid ro
  clear hS ro
  have hE : a.pullE dev = 0 := by unfold AR.pullE AR.fellE; rw [hc, hg]; rfl
  have hR : a.pull dev = (a.upd dev fGone).rest dev.toNat := by unfold AR.pull AR.fellE; rw [hc, hg]; rfl
  rw [hE, hR]
  clear hE hR
  have HS := hid hc
  obtain ⟨k, rfl, hka⟩ := nat_dev hc
  have hkx : k < x.devs.length := by rw [RO.out.dn]; exact hka
  have HC := hid (RO.out.cells hka)
  have HG : Hid (x.dc[k * 5 + 4]? = some (.bool false)) := hid (by rw [HC.out.2.2.2.2, hg])
  have HPUT := hid (RX.dput (f := goneR) hkx (i := 4) (v := .bool true) (by decide) rfl)
  have HLEN : Hid (k * 5 + 4 + 1 ≤ x.dc.length) := hid (RX.dlen hkx (by decide))
  have HRX := hid (RO.out.upd (f := fGone) (r := goneR) hka (by
    have h := RO.out.dv k hka
    exact ⟨h.lo, h.ay, h.fail, rfl, h.len, h.sec⟩) (upd_secs hc rfl))
  have HXL : Hid (x.loose.length < 1000000) := hid (by rw [RO.out.ln]; exact hll)
  clear hc hll hg
  go_enter Tryz.func78, Tryz.ntmps78
  go_wp2_with (first | go_big_skip | go_big_guard | (refine wl_loadE rfl rfl rfl ?_; first | refine ⟨_, Loads.at [_] hst HG.out, ?_⟩ | refine ⟨_, Loads.at [] hst rfl, ?_⟩) | (refine wl_index (k := k) rfl rfl rfl rfl hkx ?_) | (go_at_call 62; refine (there_r (R := R) hst RO.out (k : Int)).mono ?_; rw [HS.out]; rintro _ w1 ⟨rfl, h4⟩; replace hst := h4; clear h4) | (refine wl_store [_] hst rfl rfl rfl (v := .bool true) rfl rfl rfl HLEN.out ?_; intro w9 hs9; clear hst; have hs8 : St w0 M w9 (rxP gr (x.upd k goneR) ++ R) := (by rw [RX.upd_P (f := goneR) (fun _ => rfl), ← HPUT.out]; exact hs9); clear hs9) | (go_at_call 64; refine (rest_r (R := R) hs8 HRX.out k HXL.out).mono ?_; rintro _ w5 ⟨u, rfl, h4⟩; have hs5 : St w0 M w5 (.row u 96 3 (restX k x.loose).length ((restX k x.loose).flatMap RWv.cells) :: .blk gr 57 (x.upd k goneR).hdr :: .blk (x.upd k goneR).gd 60 (x.upd k goneR).dc :: .row (x.upd k goneR).lv 96 3 (x.upd k goneR).loose.length (x.upd k goneR).lc :: ((x.upd k goneR).tail ++ R)) := h4; clear h4 hs8; obtain ⟨uo, uc, rfl, _, _, _⟩ := row_form hs5 (.head _)) | (refine wl_store [_] hs5 rfl rfl rfl (v := .slice _ _ _) rfl rfl rfl (by show (2 : Nat) + 1 ≤ 6; decide) ?_; intro w6 hs6; clear hs5))
  go_ret
  refine ⟨rfl, _, HRX.out.rest k (.slice uo (restX k x.loose).length uc), ?_⟩
  exact fin_rest hs6
theorem pull_r {w0 w : World} {M : List Nat} {R : List HA} {gr : Nat} {a : AR} {x : RX} (hS : St w0 M w (rxP gr x ++ R)) (ro : RefOk a x) (dev : Int) (hll : a.loose.length < 1000000) : Calls Tryz.prog 78 #[.pointer (some ⟨gr, 0, none⟩), .int .i64 dev] w fun e w' => e = .returned (.int .i64 (a.pullE dev)) ∧ ∃ y, RefOk (a.pull dev) y ∧ St w0 M w' (rxP gr y ++ R) := by
  cases hc : a.inD dev
  · exact pull_far_r hS ro dev hc hll
  · cases hg : (a.dv dev).gone
    · exact pull_fine_r hS ro dev hc hg hll
    · exact pull_gone_r hS ro dev hc hg hll
end Go.Proofs.YtclleohpmgihaaaGreat
