/- PROVED: the law RecordReads returns true at any input, and nothing that was there has turned. No condition. -/
import Derived.Test.YtkpkaoiafppimaaJRecordReadsg
import Derived.Test.YtkpkaoiafppimaaJRecordReadse
import Derived.Test.YtkpkaoiafppimaaSepK
import Derived.Test.YtkpkaoiafppimaaJRecordReadsf
import Derived.Test.YtkpkaoiafppimaaJRecordReadsa
import Derived.Test.YtkpkaoiafppimaaPost
import Derived.Test.YtkpkaoiafppimaaOpenB
namespace Go.Proofs.Ytkpkaoiafppimaa
set_option linter.unusedVariables false
set_option linter.unusedSimpArgs false
open Go.RowKit Hp
attribute [local irreducible] Go.Calls Go.wpList
set_option maxRecDepth 100000
set_option maxHeartbeats 8000000
attribute [local go_sem ↓] heldInt
/-! The states behind the records, from any state on. -/
def cS4 (B : List UInt8) (s : GS) : GS := s.go B.length 1
def cS5 (B : List UInt8) (s : GS) : GS := (cS4 B s).go B.length 1
def cS6 (B : List UInt8) (s : GS) : GS := (cS5 B s).go B.length 4
def cS7 (B : List UInt8) (s : GS) : GS := (cS6 B s).go B.length 4
def cS8 (B : List UInt8) (s : GS) : GS := (cS7 B s).go B.length 1
theorem cS_le {B : List UInt8} {s : GS} (h : s.pos ≤ B.length) : (cS4 B s).pos ≤ B.length ∧ (cS5 B s).pos ≤ B.length ∧ (cS6 B s).pos ≤ B.length ∧ (cS7 B s).pos ≤ B.length ∧ (cS8 B s).pos ≤ B.length := by
  have h4 : (cS4 B s).pos ≤ B.length := GS.go_pos h
  have h5 : (cS5 B s).pos ≤ B.length := GS.go_pos h4
  have h6 : (cS6 B s).pos ≤ B.length := GS.go_pos h5
  have h7 : (cS7 B s).pos ≤ B.length := GS.go_pos h6
  exact ⟨h4, h5, h6, h7, GS.go_pos h7⟩
theorem cS8_short {B : List UInt8} {s : GS} (h : s.short = true) : (cS8 B s).short = true := GS.go_short (GS.go_short (GS.go_short (GS.go_short (GS.go_short h))))
theorem tS9_short {B : List UInt8} {j : Nat} (hj : j ≤ tMany B) (h : (stG B (tS2 B) j).short = true) : (tS9 B).short = true :=
  lvS_short (i := 0) (Nat.zero_le _) (cS8_short (s := tS3 B) (stG_short hj h))
instance dNRQ : TyN Try.prog 69 4 := ⟨by kernel_rfl⟩
theorem bldRQ (ao : Option Addr) (n c : Nat) : Try.prog.built 69 [(0, .slice ao n c)] = some #[.slice ao n c, .int .i64 0, .bool false, .bool false] := by kernel_rfl
theorem bldT1 (z : Int) : Try.prog.built 30 [(0, .int .i64 z)] = some #[.int .i64 z, .slice none 0 0, .int .i64 0, .int .i64 0, .int .i64 0, .int .i64 0, .slice none 0 0] := by kernel_rfl
theorem bldC4 (a b c d : Int) : Try.prog.built 27 [(0, .int .i64 a), (1, .int .i64 b), (2, .int .i64 c), (3, .int .i64 d)] = some #[.int .i64 a, .int .i64 b, .int .i64 c, .int .i64 d] := by kernel_rfl
theorem refRead12_any (ao : Option Addr) (c : Nat) (B : List UInt8) (w : World) (hB : Rd w (.slice ao B.length c) 1 B.length (bytesV B)) (hN : B.length ≤ 100000) :
    Calls Try.prog 11 #[(.slice ao B.length c)] w (tabOut 47 98 3 B w) := by
  have hst0 := St.refl w
  have HB := hid hB
  have HP0 := hid (show (GS.mk 0 false).pos ≤ B.length from Nat.zero_le _)
  have HP1 := hid (show (tS1 B).pos ≤ B.length from GS.go_pos (Nat.zero_le _))
  have HP2 := hid (tS2_le B)
  clear hB
  go_enter Try.func11, Try.ntmps11
  go_wp2_with (first | go_big_skip | go_big_guard | (refine wl_alloc hst0 rfl rfl ?_; intro g2 w1 hA1; clear hst0) | (refine wl_alloc hA1 rfl rfl ?_; intro g3 w1 hA2; clear hA1) | (refine wl_buildX (cs := [(.slice ao B.length c), .int .i64 0, .bool false, .bool false]) [(0, (.slice ao B.length c))] rfl rfl (by exact rfl) (bldRQ _ _ _) ?_) | (refine wl_boxA hA2 rfl rfl rfl ?_; intro gr w1 h4; have hA3 : St w [] w1 [.blk gr 69 (rqC (.slice ao B.length c) ⟨0, false⟩ false), .blk g3 33 [.int .i64 0, .int .i64 0], .blk g2 30 tab0] := h4; clear h4 hA2) | (go_at_call 35; refine (qnum12_any ao B.length c B ⟨0, false⟩ 4 4 rfl hA3 HB.out rfl hN (by decide) HP0.out).mono ?_; rintro _ w9 ⟨rfl, h4⟩; have hA4 : St w [] w9 (.blk gr 69 (rqC (.slice ao B.length c) (tS1 B) false) :: .blk g3 33 [.int .i64 0, .int .i64 0] :: .blk g2 30 tab0 :: []) := h4; clear h4 hA3) | (refine wl_buildX (cs := [.int .i64 (numG B 4 ⟨0, false⟩ : Nat), .slice none 0 0, .int .i64 0, .int .i64 0, .int .i64 0, .int .i64 0, .slice none 0 0]) [(0, .int .i64 (numG B 4 ⟨0, false⟩ : Nat))] rfl rfl (by exact rfl) (bldT1 _) ?_) | (refine wl_alloc hA4 rfl rfl ?_; intro g5 w1 hA5; clear hA4) | (refine wl_storeA [] hA5 rfl rfl rfl rfl rfl rfl rfl ?_; intro w1 h4; have hA6 : St w [] w1 [.blk g5 30 [.int .i64 (numG B 4 ⟨0, false⟩ : Nat), .slice none 0 0, .int .i64 0, .int .i64 0, .int .i64 0, .int .i64 0, .slice none 0 0], .blk gr 69 (rqC (.slice ao B.length c) (tS1 B) false), .blk g3 33 [.int .i64 0, .int .i64 0], .blk g2 30 tab0] := h4; clear h4 hA5) | (go_at_call 35; refine (qnum12_any ao B.length c B (tS1 B) 1 1 rfl (St.front (L1 := [_]) hA6) HB.out rfl hN (by decide) HP1.out).mono ?_; rintro _ w9 ⟨rfl, h4⟩; have hA7 : St w [] w9 (.blk gr 69 (rqC (.slice ao B.length c) (tS2 B) false) :: .blk g5 30 [.int .i64 (numG B 4 ⟨0, false⟩ : Nat), .slice none 0 0, .int .i64 0, .int .i64 0, .int .i64 0, .int .i64 0, .slice none 0 0] :: .blk g3 33 [.int .i64 0, .int .i64 0] :: .blk g2 30 tab0 :: []) := h4; clear h4 hA6))
  have hB0 := St.nilRow 47 44 hA7
  have hB1 : St w [] w9 (.blk gr 69 (rqC (.slice ao B.length c) (tS2 B) false) :: .blk g5 30 [.int .i64 (numG B 4 ⟨0, false⟩ : Nat), .slice none 0 0, .int .i64 0, .int .i64 0, .int .i64 0, .int .i64 0, .slice none 0 0] :: .row (.slice none 0 0) 47 44 0 [] :: .blk g3 33 [.int .i64 0, .int .i64 0] :: .blk g2 30 tab0 :: []) := (St.front (L1 := [_, _, _, _]) (St.front (L1 := [_, _, _, _]) (St.front (L1 := [_, _]) (St.front (L1 := [_, _, _, _]) (St.front (L1 := [_, _, _, _]) hB0)))))
  clear hA7 hB0
  obtain ⟨many, hmany⟩ : ∃ m, m = tMany B := ⟨_, rfl⟩
  have HM := hid hmany
  have hm9 : numG B 1 (tS1 B) = many := hmany.symm
  have hm255 : many ≤ 255 := by rw [hmany]; have := numG1_lt B (tS1 B); unfold tMany; omega
  rw [hm9]
  clear hmany hm9
  go_loopw [7] (fun i wr => ∃ (j : Nat) (rv : Value) (xs : List (Value × RC)) (q : Bool), j ≤ many ∧ i = .int .i64 (j : Int) ∧ q = !(oksG true B (tS2 B) j) ∧ xs.map (·.2) = rcsG true B (tS2 B) j ∧ St w [] wr (.blk gr 69 (rqC (.slice ao B.length c) (stG B (tS2 B) j) q) :: .blk g5 30 [.int .i64 (numG B 4 ⟨0, false⟩ : Nat), rv, .int .i64 0, .int .i64 0, .int .i64 0, .int .i64 0, .slice none 0 0] :: .row rv 47 44 j (recsV xs) :: .blk g3 33 [.int .i64 0, .int .i64 0] :: .blk g2 30 tab0 :: rootRows 98 xs)) (fun i _ => many - (intOf i).toNat)
  case atStart => exact ⟨0, _, [], false, Nat.zero_le _, rfl, rfl, rfl, hB1⟩
  case round =>
    clear hB1
    obtain ⟨j, rv, xs, q, hj, rfl, hq, hx, hst⟩ := hrel
    have HX := hid hx
    have HQ := hid hq
    clear hx hq
    by_cases hlt : j < many
    · have e1 : decide ((j : Int) < (many : Int)) = true := decide_eq_true (by omega)
      have z1 : IntKind.i64.wrap ((j : Int) + 1) = (j : Int) + 1 := IntWalk.i64_in _ (by omega)
      have HL44 := hid (show ∀ sv : Value, (cellsR (sv, recG true B (stG B (tS2 B) j))).length = 44 from fun _ => cellsR_len (rec_S _ _ _))
      cases hsh : (stG B (tS2 B) j).short
      · have HSH := hid hsh
        clear hsh
        go_wp2_with (first | go_big_skip | go_big_guard | (refine wl_loadE rfl rfl rfl ?_; first | refine ⟨_, (by have h9 := Loads.at (P := Try.prog) (T := 4) (off := 2) [] hst rfl; rw [HSH.out] at h9; exact h9), ?_⟩ | refine ⟨_, Loads.atA (cellsR (sv, recG true B (stG B (tS2 B) j))) [] hD3 (HL44.out _) (cellsR_all _), ?_⟩ | refine ⟨_, Loads.at [_, _] hD3 rfl, ?_⟩) | (go_at_call 36; refine (qrec_any ao c B (stG B (tS2 B) j) hst HB.out hN (st_le HP2.out j)).mono ?_; rintro _ w9 ⟨sv, rfl, h4⟩; have hD1 := Hp.St.root (A := [_, _, _, _]) h4; have HINR := hid (root_in (x := (sv, recG true B (stG B (tS2 B) j))) h4 (.tail _ (.head _)) (rec_S _ _ _) (by have := name_le (B := B) true (stG B (tS2 B) j); exact Nat.le_trans this (by decide))); clear h4 hst) | (refine wl_alloc hD1 rfl rfl ?_; intro g9 w1 hD2; clear hD1) | (refine wl_storeA [] hD2 rfl rfl rfl rfl (HL44.out _) (cellsR_ones HINR.out) rfl ?_; intro w1 hD3; clear hD2) | (apply wl_bsX [.agg (List.toArray (cellsR (sv, recG true B (stG B (tS2 B) j))))] (cellsR (sv, recG true B (stG B (tS2 B) j))) hD3; rfl; rfl; exact rfl; exact (List.append_nil _); infer_instance; infer_instance; (show (((List.toArray (cellsR (sv, recG true B (stG B (tS2 B) j)))).size == 44) && true) = true; rw [List.size_toArray, HL44.out _]; rfl); rfl; rfl; intro gb w5 hD4; clear hD3) | (apply wl_appX (m := 1) (ys := cellsR (sv, recG true B (stG B (tS2 B) j))) [_, _, _, _] hD4; rfl; rfl; exact rfl; exact rfl; infer_instance; infer_instance; infer_instance; exact Rd.blk (n := 1) hD4 (.head _) (Nat.le_refl _) (by decide) (by rw [HL44.out _]) (by rw [List.drop_zero, List.take_length]); exact cellsR_ones HINR.out; exact ⟨by decide, by unfold maxLen; omega, by omega⟩; intro rv2 w6 hD5 _; obtain ⟨ro, rc, rfl, _, _⟩ := row_slice [_, _, _, _] hD5; clear hD4) | (refine wl_store [_, _, _] hD5 rfl rfl rfl (off := 1) (v := .slice _ _ _) rfl rfl rfl (by show (1 : Nat) + 1 ≤ 7; decide) ?_; intro w7 hD6; clear hD5))
        go_roundw
        case rel =>
          have hD7 : St w [] w7 (.blk gr 69 (rqC (.slice ao B.length c) (stG B (tS2 B) (j + 1)) (q || !(rootOk true B (stG B (tS2 B) j)))) :: .blk g5 30 [.int .i64 (numG B 4 ⟨0, false⟩ : Nat), .slice ro (j + 1) rc, .int .i64 0, .int .i64 0, .int .i64 0, .int .i64 0, .slice none 0 0] :: .row (.slice ro (j + 1) rc) 47 44 (j + 1) (recsV (xs ++ [(sv, recG true B (stG B (tS2 B) j))])) :: .blk g3 33 [.int .i64 0, .int .i64 0] :: .blk g2 30 tab0 :: rootRows 98 (xs ++ [(sv, recG true B (stG B (tS2 B) j))])) := by
            rw [recsV_append, show recsV [(sv, recG true B (stG B (tS2 B) j))] = cellsR (sv, recG true B (stG B (tS2 B) j)) from List.append_nil _]
            exact St.sub hD6 (.cons _ (.cons _ (List.Sublist.refl _)))
          refine ⟨j + 1, .slice ro (j + 1) rc, xs ++ [(sv, recG true B (stG B (tS2 B) j))], _, by omega, rfl, ?_, ?_, hD7⟩
          · rw [oksG_succ, HQ.out, Bool.not_and]
          · rw [List.map_append, HX.out, rcsG_succ]; rfl
        case measure => simp [intOf]; omega
      · have HSH := hid hsh
        clear hsh
        obtain ⟨ro, rc, rfl, _, _⟩ := row_slice [_, _] hst
        have HE0 : (j = many ∧ stG B (tS2 B) j = tS3 B) ∨ ((stG B (tS2 B) j).short = true ∧ (tS9 B).short = true) := Or.inr ⟨HSH.out, tS9_short (by rw [← HM.out]; exact hj) HSH.out⟩
        have HP30 := st_le HP2.out j
        obtain ⟨s3, hs3⟩ : ∃ s3, s3 = stG B (tS2 B) j := ⟨_, rfl⟩
        rw [← hs3] at HE0 HP30
        have HE := hid HE0
        have HP3 := hid HP30
        have HS3 := hid (show s3.short = true by rw [hs3]; exact HSH.out)
        clear HE0 HP30
        obtain ⟨p4, p5, p6, p7, p8⟩ := cS_le HP3.out
        have HP4 := hid p4
        have HP5 := hid p5
        have HP6 := hid p6
        have HP7 := hid p7
        have HP8 := hid p8
        have hC0 : St w [] wr (.blk gr 69 (rqC (.slice ao B.length c) s3 q) :: .blk g5 30 [.int .i64 (numG B 4 ⟨0, false⟩ : Nat), .slice ro j rc, .int .i64 0, .int .i64 0, .int .i64 0, .int .i64 0, .slice none 0 0] :: .row (.slice ro j rc) 47 44 j (recsV xs) :: .blk g3 33 [.int .i64 0, .int .i64 0] :: .blk g2 30 tab0 :: rootRows 98 xs) := by rw [hs3]; exact hst
        clear p4 p5 p6 p7 p8 hst hs3
        go_wp2_with (first | go_big_skip | go_big_guard | (refine wl_loadE rfl rfl rfl ?_; refine ⟨_, (by have h9 := Loads.at (P := Try.prog) (T := 4) (off := 2) [] hC0 rfl; rw [HS3.out] at h9; exact h9), ?_⟩) | (go_at_call 35; refine (qnum12_any ao B.length c B s3 1 1 rfl hC0 HB.out rfl hN (by decide) HP3.out).mono ?_; rintro _ w9 ⟨rfl, h4⟩; have hC1 : St w [] w9 (.blk gr 69 (rqC (.slice ao B.length c) (cS4 B s3) q) :: .blk g5 30 [.int .i64 (numG B 4 ⟨0, false⟩ : Nat), .slice ro j rc, .int .i64 0, .int .i64 0, .int .i64 0, .int .i64 0, .slice none 0 0] :: .row (.slice ro j rc) 47 44 j (recsV xs) :: .blk g3 33 [.int .i64 0, .int .i64 0] :: .blk g2 30 tab0 :: rootRows 98 xs) := h4; clear h4 hC0) | (go_at_call 35; refine (qnum12_any ao B.length c B (cS4 B s3) 1 1 rfl hC1 HB.out rfl hN (by decide) HP4.out).mono ?_; rintro _ w9 ⟨rfl, h4⟩; have hC2 : St w [] w9 (.blk gr 69 (rqC (.slice ao B.length c) (cS5 B s3) q) :: .blk g5 30 [.int .i64 (numG B 4 ⟨0, false⟩ : Nat), .slice ro j rc, .int .i64 0, .int .i64 0, .int .i64 0, .int .i64 0, .slice none 0 0] :: .row (.slice ro j rc) 47 44 j (recsV xs) :: .blk g3 33 [.int .i64 0, .int .i64 0] :: .blk g2 30 tab0 :: rootRows 98 xs) := h4; clear h4 hC1) | (go_at_call 35; refine (qnum12_any ao B.length c B (cS5 B s3) 4 4 rfl hC2 HB.out rfl hN (by decide) HP5.out).mono ?_; rintro _ w9 ⟨rfl, h4⟩; have hC3 : St w [] w9 (.blk gr 69 (rqC (.slice ao B.length c) (cS6 B s3) q) :: .blk g5 30 [.int .i64 (numG B 4 ⟨0, false⟩ : Nat), .slice ro j rc, .int .i64 0, .int .i64 0, .int .i64 0, .int .i64 0, .slice none 0 0] :: .row (.slice ro j rc) 47 44 j (recsV xs) :: .blk g3 33 [.int .i64 0, .int .i64 0] :: .blk g2 30 tab0 :: rootRows 98 xs) := h4; clear h4 hC2) | (go_at_call 35; refine (qnum12_any ao B.length c B (cS6 B s3) 4 4 rfl hC3 HB.out rfl hN (by decide) HP6.out).mono ?_; rintro _ w9 ⟨rfl, h4⟩; have hC4 : St w [] w9 (.blk gr 69 (rqC (.slice ao B.length c) (cS7 B s3) q) :: .blk g5 30 [.int .i64 (numG B 4 ⟨0, false⟩ : Nat), .slice ro j rc, .int .i64 0, .int .i64 0, .int .i64 0, .int .i64 0, .slice none 0 0] :: .row (.slice ro j rc) 47 44 j (recsV xs) :: .blk g3 33 [.int .i64 0, .int .i64 0] :: .blk g2 30 tab0 :: rootRows 98 xs) := h4; clear h4 hC3) | (refine wl_buildX (cs := [.int .i64 (numG B 1 s3 : Nat), .int .i64 (numG B 1 (cS4 B s3) : Nat), .int .i64 (numG B 4 (cS5 B s3) : Nat), .int .i64 (numG B 4 (cS6 B s3) : Nat)]) [(0, .int .i64 (numG B 1 s3 : Nat)), (1, .int .i64 (numG B 1 (cS4 B s3) : Nat)), (2, .int .i64 (numG B 4 (cS5 B s3) : Nat)), (3, .int .i64 (numG B 4 (cS6 B s3) : Nat))] rfl rfl (by exact rfl) (bldC4 _ _ _ _) ?_) | (refine wl_storeO [_] hC4 rfl rfl rfl rfl (off := 2) (vs := [.int .i64 (numG B 1 s3 : Nat), .int .i64 (numG B 1 (cS4 B s3) : Nat), .int .i64 (numG B 4 (cS5 B s3) : Nat), .int .i64 (numG B 4 (cS6 B s3) : Nat)]) rfl rfl (by show (2 : Nat) + 4 ≤ 7; decide) (cs' := [.int .i64 (numG B 4 ⟨0, false⟩ : Nat), .slice ro j rc, .int .i64 (numG B 1 s3 : Nat), .int .i64 (numG B 1 (cS4 B s3) : Nat), .int .i64 (numG B 4 (cS5 B s3) : Nat), .int .i64 (numG B 4 (cS6 B s3) : Nat), .slice none 0 0]) rfl ?_; intro w1 hC5; clear hC4) | (go_at_call 35; refine (qnum12_any ao B.length c B (cS7 B s3) 1 1 rfl hC5 HB.out rfl hN (by decide) HP7.out).mono ?_; rintro _ w9 ⟨rfl, h4⟩; have hC6 : St w [] w9 (.blk gr 69 (rqC (.slice ao B.length c) (cS8 B s3) q) :: .blk g5 30 [.int .i64 (numG B 4 ⟨0, false⟩ : Nat), .slice ro j rc, .int .i64 (numG B 1 s3 : Nat), .int .i64 (numG B 1 (cS4 B s3) : Nat), .int .i64 (numG B 4 (cS5 B s3) : Nat), .int .i64 (numG B 4 (cS6 B s3) : Nat), .slice none 0 0] :: .row (.slice ro j rc) 47 44 j (recsV xs) :: .blk g3 33 [.int .i64 0, .int .i64 0] :: .blk g2 30 tab0 :: rootRows 98 xs) := h4; clear h4 hC5))
        have hD0 := St.nilRow 3 1 hC6
        have hD1 : St w [] w9 (.blk gr 69 (rqC (.slice ao B.length c) (cS8 B s3) q) :: .blk g5 30 [.int .i64 (numG B 4 ⟨0, false⟩ : Nat), .slice ro j rc, .int .i64 (numG B 1 s3 : Nat), .int .i64 (numG B 1 (cS4 B s3) : Nat), .int .i64 (numG B 4 (cS5 B s3) : Nat), .int .i64 (numG B 4 (cS6 B s3) : Nat), .slice none 0 0] :: .row (.slice ro j rc) 47 44 j (recsV xs) :: .row (.slice none 0 0) 3 1 0 [] :: .blk g3 33 [.int .i64 0, .int .i64 0] :: .blk g2 30 tab0 :: rootRows 98 xs) := (St.front (L1 := [_, _, _, _, _]) (St.front (L1 := [_, _, _, _, _]) (St.front (L1 := [_, _, _, _, _]) (St.front (L1 := [_, _]) (St.front (L1 := [_, _, _, _, _]) (St.front (L1 := [_, _, _, _, _]) hD0))))))
        clear hC6 hD0
        obtain ⟨nl, hnl⟩ : ∃ m, m = numG B 1 (cS7 B s3) := ⟨_, rfl⟩
        have HNL := hid hnl
        have hl255 : nl ≤ 255 := by rw [hnl]; have := numG1_lt B (cS7 B s3); omega
        rw [← hnl]
        clear hnl
        go_loopw [14] (fun i wr => ∃ (k : Nat) (lv : Value), k ≤ nl ∧ i = .int .i64 (k : Int) ∧ St w [] wr (.blk gr 69 (rqC (.slice ao B.length c) (lvS B (cS8 B s3) k) q) :: .blk g5 30 [.int .i64 (numG B 4 ⟨0, false⟩ : Nat), .slice ro j rc, .int .i64 (numG B 1 s3 : Nat), .int .i64 (numG B 1 (cS4 B s3) : Nat), .int .i64 (numG B 4 (cS5 B s3) : Nat), .int .i64 (numG B 4 (cS6 B s3) : Nat), lv] :: .row (.slice ro j rc) 47 44 j (recsV xs) :: .row (lv) 3 1 k (numsV (lvsG B (cS8 B s3) k)) :: .blk g3 33 [.int .i64 0, .int .i64 0] :: .blk g2 30 tab0 :: rootRows 98 xs)) (fun i _ => nl - (intOf i).toNat)
        case atStart => exact ⟨0, _, Nat.zero_le _, rfl, hD1⟩
        case round =>
          clear hD1
          obtain ⟨k, lv, hk, rfl, hst⟩ := hrel
          by_cases hltk : k < nl
          · have e2 : decide ((k : Int) < (nl : Int)) = true := decide_eq_true (by omega)
            have z2 : IntKind.i64.wrap ((k : Int) + 1) = (k : Int) + 1 := IntWalk.i64_in _ (by omega)
            cases hsh2 : (lvS B (cS8 B s3) k).short
            · have HSH2 := hid hsh2
              clear hsh2
              go_wp2_with (first | go_big_skip | go_big_guard | (refine wl_loadE rfl rfl rfl ?_; first | refine ⟨_, (by have h9 := Loads.at (P := Try.prog) (T := 4) (off := 2) [] hst rfl; rw [HSH2.out] at h9; exact h9), ?_⟩ | refine ⟨_, Loads.at [_] hE3 rfl, ?_⟩) | (go_at_call 35; refine (qnum12_any ao B.length c B (lvS B (cS8 B s3) k) 4 4 rfl hst HB.out rfl hN (by decide) (lv_le HP8.out k)).mono ?_; rintro _ w9 ⟨rfl, h4⟩; have hE3 : St w [] w9 (.blk gr 69 (rqC (.slice ao B.length c) (lvS B (cS8 B s3) (k + 1)) q) :: .blk g5 30 [.int .i64 (numG B 4 ⟨0, false⟩ : Nat), .slice ro j rc, .int .i64 (numG B 1 s3 : Nat), .int .i64 (numG B 1 (cS4 B s3) : Nat), .int .i64 (numG B 4 (cS5 B s3) : Nat), .int .i64 (numG B 4 (cS6 B s3) : Nat), lv] :: .row (.slice ro j rc) 47 44 j (recsV xs) :: .row (lv) 3 1 k (numsV (lvsG B (cS8 B s3) k)) :: .blk g3 33 [.int .i64 0, .int .i64 0] :: .blk g2 30 tab0 :: rootRows 98 xs) := h4; clear h4 hst) | (apply wl_bsX [.int .i64 (numG B 4 (lvS B (cS8 B s3) k) : Nat)] [.int .i64 (numG B 4 (lvS B (cS8 B s3) k) : Nat)] hE3; rfl; rfl; exact rfl; exact rfl; infer_instance; infer_instance; rfl; rfl; rfl; intro gb w5 hE4; clear hE3) | (apply wl_appX (m := 1) (ys := [.int .i64 (numG B 4 (lvS B (cS8 B s3) k) : Nat)]) [_, _, _, _] hE4; rfl; rfl; exact rfl; exact rfl; infer_instance; infer_instance; infer_instance; exact (Rd.blk0 hE4 rfl (by decide)); exact rfl; exact ⟨by decide, by unfold maxLen; omega, by omega⟩; intro lv2 w6 hE5 _; obtain ⟨lo, lc, rfl, _, _⟩ := row_slice [_, _, _, _] hE5; clear hE4) | (refine wl_store [_, _] hE5 rfl rfl rfl (off := 6) (v := .slice _ _ _) rfl rfl rfl (by show (6 : Nat) + 1 ≤ 7; decide) ?_; intro w7 hE6; clear hE5))
              go_roundw
              case rel =>
                have hE7 : St w [] w7 (.blk gr 69 (rqC (.slice ao B.length c) (lvS B (cS8 B s3) (k + 1)) q) :: .blk g5 30 [.int .i64 (numG B 4 ⟨0, false⟩ : Nat), .slice ro j rc, .int .i64 (numG B 1 s3 : Nat), .int .i64 (numG B 1 (cS4 B s3) : Nat), .int .i64 (numG B 4 (cS5 B s3) : Nat), .int .i64 (numG B 4 (cS6 B s3) : Nat), .slice lo (k + 1) lc] :: .row (.slice ro j rc) 47 44 j (recsV xs) :: .row (.slice lo (k + 1) lc) 3 1 (k + 1) (numsV (lvsG B (cS8 B s3) (k + 1))) :: .blk g3 33 [.int .i64 0, .int .i64 0] :: .blk g2 30 tab0 :: rootRows 98 xs) := by
                  rw [lvsG_succ, numsV_append]
                  exact St.sub hE6 (.cons _ (List.Sublist.refl _))
                exact ⟨k + 1, .slice lo (k + 1) lc, by omega, rfl, hE7⟩
              case measure => simp [intOf]; omega
            · have HSH2 := hid hsh2
              clear hsh2
              obtain ⟨lo, lc, rfl, _, _⟩ := row_slice [_, _, _] hst
              obtain ⟨⟨p, sh⟩, h9⟩ : ∃ u : GS, lvS B (cS8 B s3) k = u := ⟨_, rfl⟩
              have hX : St w [] wr (.blk gr 69 [(.slice ao B.length c), .int .i64 (p : Int), .bool sh, .bool q] :: .blk g5 30 [.int .i64 (numG B 4 ⟨0, false⟩ : Nat), .slice ro j rc, .int .i64 (numG B 1 s3 : Nat), .int .i64 (numG B 1 (cS4 B s3) : Nat), .int .i64 (numG B 4 (cS5 B s3) : Nat), .int .i64 (numG B 4 (cS6 B s3) : Nat), .slice lo k lc] :: .row (.slice ro j rc) 47 44 j (recsV xs) :: .row (.slice lo k lc) 3 1 k (numsV (lvsG B (cS8 B s3) k)) :: .blk g3 33 [.int .i64 0, .int .i64 0] :: .blk g2 30 tab0 :: rootRows 98 xs) := by rw [h9] at hst; exact hst
              clear hst
              have hsh : sh = true := by have := HSH2.out; rw [h9] at this; exact this
              subst hsh
              have HT9 := hid (show (tS9 B).short = true from by
                rcases HE.out with ⟨_, h3⟩ | ⟨_, h3⟩
                · subst h3
                  exact lvS_short (i := k) (by have h8 : nl = tLives B := HNL.out; omega) HSH2.out
                · exact h3)
              go_wp2_with (first | go_big_skip | go_big_guard | (refine wl_loadE rfl rfl rfl ?_; refine ⟨_, Loads.at [] hX rfl, ?_⟩) | (refine wl_build0 rfl rfl ?_) | (refine wl_buildX (cs := [.int .i64 4, .int .i64 B.length]) [(0, .int .i64 4), (1, .int .i64 B.length)] rfl rfl (by exact rfl) (bldF2 _ _) ?_) | (refine wl_storeA [_, _, _, _, _] hX rfl rfl rfl rfl rfl rfl rfl ?_; intro w1 hX2; clear hX) | (refine wl_storeA [_, _, _, _] hX2 rfl rfl rfl rfl rfl rfl rfl ?_; intro w1 hX3; clear hX2))
              have hl := Loads.atA (P := Try.prog) (off := 0) (T := 30) tab0 [_, _, _, _, _] hX3 rfl rfl
              have hk := Loads.atA (P := Try.prog) (off := 0) (T := 33) [.int .i64 4, .int .i64 B.length] [_, _, _, _] hX3 rfl rfl
              refine bodyPost_ret (results_cell2L rfl rfl rfl hl hk) rfl ?_
              unfold tabOut
              obtain ⟨q1, q2, q3⟩ := gOK_no_short HT9.out
              rw [if_neg (by rw [q1]; decide), q2, q3]
              exact ⟨rfl, hX3.nil⟩
          · have e2 : decide ((k : Int) < (nl : Int)) = false := decide_eq_false (by omega)
            obtain rfl : k = nl := by omega
            obtain ⟨lo, lc, rfl, _, _⟩ := row_slice [_, _, _] hst
            obtain ⟨⟨p, sh⟩, h9⟩ : ∃ u : GS, lvS B (cS8 B s3) k = u := ⟨_, rfl⟩
            have hX : St w [] wr (.blk gr 69 [(.slice ao B.length c), .int .i64 (p : Int), .bool sh, .bool q] :: .blk g5 30 [.int .i64 (numG B 4 ⟨0, false⟩ : Nat), .slice ro j rc, .int .i64 (numG B 1 s3 : Nat), .int .i64 (numG B 1 (cS4 B s3) : Nat), .int .i64 (numG B 4 (cS5 B s3) : Nat), .int .i64 (numG B 4 (cS6 B s3) : Nat), .slice lo k lc] :: .row (.slice ro j rc) 47 44 j (recsV xs) :: .row (.slice lo k lc) 3 1 k (numsV (lvsG B (cS8 B s3) k)) :: .blk g3 33 [.int .i64 0, .int .i64 0] :: .blk g2 30 tab0 :: rootRows 98 xs) := by rw [h9] at hst; exact hst
            clear hst
            cases sh
            · have hs9 : (lvS B (cS8 B s3) k).short = false := by rw [h9]
              have h3 : j = many ∧ s3 = tS3 B := by
                rcases HE.out with h | ⟨h, _⟩
                · exact h
                · have h8 : (lvS B (cS8 B s3) k).short = true := lvS_short (i := 0) (Nat.zero_le _) (show (lvS B (cS8 B s3) 0).short = true from cS8_short h)
                  rw [h8] at hs9
                  cases hs9
              exact absurd h3.1 (by omega)
            · have hsh : (lvS B (cS8 B s3) k).short = true := by rw [h9]
              have HT9 := hid (show (tS9 B).short = true from by
                rcases HE.out with ⟨_, h3⟩ | ⟨_, h3⟩
                · subst h3
                  exact lvS_short (i := k) (by have h8 : k = tLives B := HNL.out; omega) hsh
                · exact h3)
              clear hsh h9
              go_wp2_with (first | go_big_skip | go_big_guard | (refine wl_loadE rfl rfl rfl ?_; refine ⟨_, Loads.at [] hX rfl, ?_⟩) | (refine wl_build0 rfl rfl ?_) | (refine wl_buildX (cs := [.int .i64 4, .int .i64 B.length]) [(0, .int .i64 4), (1, .int .i64 B.length)] rfl rfl (by exact rfl) (bldF2 _ _) ?_) | (refine wl_storeA [_, _, _, _, _] hX rfl rfl rfl rfl rfl rfl rfl ?_; intro w1 hX2; clear hX) | (refine wl_storeA [_, _, _, _] hX2 rfl rfl rfl rfl rfl rfl rfl ?_; intro w1 hX3; clear hX2))
              have hl := Loads.atA (P := Try.prog) (off := 0) (T := 30) tab0 [_, _, _, _, _] hX3 rfl rfl
              have hk := Loads.atA (P := Try.prog) (off := 0) (T := 33) [.int .i64 4, .int .i64 B.length] [_, _, _, _] hX3 rfl rfl
              refine bodyPost_ret (results_cell2L rfl rfl rfl hl hk) rfl ?_
              unfold tabOut
              obtain ⟨q1, q2, q3⟩ := gOK_no_short HT9.out
              rw [if_neg (by rw [q1]; decide), q2, q3]
              exact ⟨rfl, hX3.nil⟩
    · have e1 : decide ((j : Int) < (many : Int)) = false := decide_eq_false (by omega)
      have hjm : j = many := by omega
      obtain ⟨ro, rc, rfl, _, _⟩ := row_slice [_, _] hst
      have HE0 : (j = many ∧ stG B (tS2 B) j = tS3 B) ∨ ((stG B (tS2 B) j).short = true ∧ (tS9 B).short = true) := Or.inl ⟨hjm, by unfold tS3; rw [← HM.out, hjm]⟩
      have HP30 := st_le HP2.out j
      obtain ⟨s3, hs3⟩ : ∃ s3, s3 = stG B (tS2 B) j := ⟨_, rfl⟩
      rw [← hs3] at HE0 HP30
      have HE := hid HE0
      have HP3 := hid HP30
      clear hjm
      clear HE0 HP30
      obtain ⟨p4, p5, p6, p7, p8⟩ := cS_le HP3.out
      have HP4 := hid p4
      have HP5 := hid p5
      have HP6 := hid p6
      have HP7 := hid p7
      have HP8 := hid p8
      have hC0 : St w [] wr (.blk gr 69 (rqC (.slice ao B.length c) s3 q) :: .blk g5 30 [.int .i64 (numG B 4 ⟨0, false⟩ : Nat), .slice ro j rc, .int .i64 0, .int .i64 0, .int .i64 0, .int .i64 0, .slice none 0 0] :: .row (.slice ro j rc) 47 44 j (recsV xs) :: .blk g3 33 [.int .i64 0, .int .i64 0] :: .blk g2 30 tab0 :: rootRows 98 xs) := by rw [hs3]; exact hst
      clear p4 p5 p6 p7 p8 hst hs3
      go_wp2_with (first | go_big_skip | go_big_guard | (go_at_call 35; refine (qnum12_any ao B.length c B s3 1 1 rfl hC0 HB.out rfl hN (by decide) HP3.out).mono ?_; rintro _ w9 ⟨rfl, h4⟩; have hC1 : St w [] w9 (.blk gr 69 (rqC (.slice ao B.length c) (cS4 B s3) q) :: .blk g5 30 [.int .i64 (numG B 4 ⟨0, false⟩ : Nat), .slice ro j rc, .int .i64 0, .int .i64 0, .int .i64 0, .int .i64 0, .slice none 0 0] :: .row (.slice ro j rc) 47 44 j (recsV xs) :: .blk g3 33 [.int .i64 0, .int .i64 0] :: .blk g2 30 tab0 :: rootRows 98 xs) := h4; clear h4 hC0) | (go_at_call 35; refine (qnum12_any ao B.length c B (cS4 B s3) 1 1 rfl hC1 HB.out rfl hN (by decide) HP4.out).mono ?_; rintro _ w9 ⟨rfl, h4⟩; have hC2 : St w [] w9 (.blk gr 69 (rqC (.slice ao B.length c) (cS5 B s3) q) :: .blk g5 30 [.int .i64 (numG B 4 ⟨0, false⟩ : Nat), .slice ro j rc, .int .i64 0, .int .i64 0, .int .i64 0, .int .i64 0, .slice none 0 0] :: .row (.slice ro j rc) 47 44 j (recsV xs) :: .blk g3 33 [.int .i64 0, .int .i64 0] :: .blk g2 30 tab0 :: rootRows 98 xs) := h4; clear h4 hC1) | (go_at_call 35; refine (qnum12_any ao B.length c B (cS5 B s3) 4 4 rfl hC2 HB.out rfl hN (by decide) HP5.out).mono ?_; rintro _ w9 ⟨rfl, h4⟩; have hC3 : St w [] w9 (.blk gr 69 (rqC (.slice ao B.length c) (cS6 B s3) q) :: .blk g5 30 [.int .i64 (numG B 4 ⟨0, false⟩ : Nat), .slice ro j rc, .int .i64 0, .int .i64 0, .int .i64 0, .int .i64 0, .slice none 0 0] :: .row (.slice ro j rc) 47 44 j (recsV xs) :: .blk g3 33 [.int .i64 0, .int .i64 0] :: .blk g2 30 tab0 :: rootRows 98 xs) := h4; clear h4 hC2) | (go_at_call 35; refine (qnum12_any ao B.length c B (cS6 B s3) 4 4 rfl hC3 HB.out rfl hN (by decide) HP6.out).mono ?_; rintro _ w9 ⟨rfl, h4⟩; have hC4 : St w [] w9 (.blk gr 69 (rqC (.slice ao B.length c) (cS7 B s3) q) :: .blk g5 30 [.int .i64 (numG B 4 ⟨0, false⟩ : Nat), .slice ro j rc, .int .i64 0, .int .i64 0, .int .i64 0, .int .i64 0, .slice none 0 0] :: .row (.slice ro j rc) 47 44 j (recsV xs) :: .blk g3 33 [.int .i64 0, .int .i64 0] :: .blk g2 30 tab0 :: rootRows 98 xs) := h4; clear h4 hC3) | (refine wl_buildX (cs := [.int .i64 (numG B 1 s3 : Nat), .int .i64 (numG B 1 (cS4 B s3) : Nat), .int .i64 (numG B 4 (cS5 B s3) : Nat), .int .i64 (numG B 4 (cS6 B s3) : Nat)]) [(0, .int .i64 (numG B 1 s3 : Nat)), (1, .int .i64 (numG B 1 (cS4 B s3) : Nat)), (2, .int .i64 (numG B 4 (cS5 B s3) : Nat)), (3, .int .i64 (numG B 4 (cS6 B s3) : Nat))] rfl rfl (by exact rfl) (bldC4 _ _ _ _) ?_) | (refine wl_storeO [_] hC4 rfl rfl rfl rfl (off := 2) (vs := [.int .i64 (numG B 1 s3 : Nat), .int .i64 (numG B 1 (cS4 B s3) : Nat), .int .i64 (numG B 4 (cS5 B s3) : Nat), .int .i64 (numG B 4 (cS6 B s3) : Nat)]) rfl rfl (by show (2 : Nat) + 4 ≤ 7; decide) (cs' := [.int .i64 (numG B 4 ⟨0, false⟩ : Nat), .slice ro j rc, .int .i64 (numG B 1 s3 : Nat), .int .i64 (numG B 1 (cS4 B s3) : Nat), .int .i64 (numG B 4 (cS5 B s3) : Nat), .int .i64 (numG B 4 (cS6 B s3) : Nat), .slice none 0 0]) rfl ?_; intro w1 hC5; clear hC4) | (go_at_call 35; refine (qnum12_any ao B.length c B (cS7 B s3) 1 1 rfl hC5 HB.out rfl hN (by decide) HP7.out).mono ?_; rintro _ w9 ⟨rfl, h4⟩; have hC6 : St w [] w9 (.blk gr 69 (rqC (.slice ao B.length c) (cS8 B s3) q) :: .blk g5 30 [.int .i64 (numG B 4 ⟨0, false⟩ : Nat), .slice ro j rc, .int .i64 (numG B 1 s3 : Nat), .int .i64 (numG B 1 (cS4 B s3) : Nat), .int .i64 (numG B 4 (cS5 B s3) : Nat), .int .i64 (numG B 4 (cS6 B s3) : Nat), .slice none 0 0] :: .row (.slice ro j rc) 47 44 j (recsV xs) :: .blk g3 33 [.int .i64 0, .int .i64 0] :: .blk g2 30 tab0 :: rootRows 98 xs) := h4; clear h4 hC5))
      have hD0 := St.nilRow 3 1 hC6
      have hD1 : St w [] w9 (.blk gr 69 (rqC (.slice ao B.length c) (cS8 B s3) q) :: .blk g5 30 [.int .i64 (numG B 4 ⟨0, false⟩ : Nat), .slice ro j rc, .int .i64 (numG B 1 s3 : Nat), .int .i64 (numG B 1 (cS4 B s3) : Nat), .int .i64 (numG B 4 (cS5 B s3) : Nat), .int .i64 (numG B 4 (cS6 B s3) : Nat), .slice none 0 0] :: .row (.slice ro j rc) 47 44 j (recsV xs) :: .row (.slice none 0 0) 3 1 0 [] :: .blk g3 33 [.int .i64 0, .int .i64 0] :: .blk g2 30 tab0 :: rootRows 98 xs) := (St.front (L1 := [_, _, _, _, _]) (St.front (L1 := [_, _, _, _, _]) (St.front (L1 := [_, _, _, _, _]) (St.front (L1 := [_, _]) (St.front (L1 := [_, _, _, _, _]) (St.front (L1 := [_, _, _, _, _]) hD0))))))
      clear hC6 hD0
      obtain ⟨nl, hnl⟩ : ∃ m, m = numG B 1 (cS7 B s3) := ⟨_, rfl⟩
      have HNL := hid hnl
      have hl255 : nl ≤ 255 := by rw [hnl]; have := numG1_lt B (cS7 B s3); omega
      rw [← hnl]
      clear hnl
      go_loopw [14] (fun i wr => ∃ (k : Nat) (lv : Value), k ≤ nl ∧ i = .int .i64 (k : Int) ∧ St w [] wr (.blk gr 69 (rqC (.slice ao B.length c) (lvS B (cS8 B s3) k) q) :: .blk g5 30 [.int .i64 (numG B 4 ⟨0, false⟩ : Nat), .slice ro j rc, .int .i64 (numG B 1 s3 : Nat), .int .i64 (numG B 1 (cS4 B s3) : Nat), .int .i64 (numG B 4 (cS5 B s3) : Nat), .int .i64 (numG B 4 (cS6 B s3) : Nat), lv] :: .row (.slice ro j rc) 47 44 j (recsV xs) :: .row (lv) 3 1 k (numsV (lvsG B (cS8 B s3) k)) :: .blk g3 33 [.int .i64 0, .int .i64 0] :: .blk g2 30 tab0 :: rootRows 98 xs)) (fun i _ => nl - (intOf i).toNat)
      case atStart => exact ⟨0, _, Nat.zero_le _, rfl, hD1⟩
      case round =>
        clear hD1
        obtain ⟨k, lv, hk, rfl, hst⟩ := hrel
        by_cases hltk : k < nl
        · have e2 : decide ((k : Int) < (nl : Int)) = true := decide_eq_true (by omega)
          have z2 : IntKind.i64.wrap ((k : Int) + 1) = (k : Int) + 1 := IntWalk.i64_in _ (by omega)
          cases hsh2 : (lvS B (cS8 B s3) k).short
          · have HSH2 := hid hsh2
            clear hsh2
            go_wp2_with (first | go_big_skip | go_big_guard | (refine wl_loadE rfl rfl rfl ?_; first | refine ⟨_, (by have h9 := Loads.at (P := Try.prog) (T := 4) (off := 2) [] hst rfl; rw [HSH2.out] at h9; exact h9), ?_⟩ | refine ⟨_, Loads.at [_] hE3 rfl, ?_⟩) | (go_at_call 35; refine (qnum12_any ao B.length c B (lvS B (cS8 B s3) k) 4 4 rfl hst HB.out rfl hN (by decide) (lv_le HP8.out k)).mono ?_; rintro _ w9 ⟨rfl, h4⟩; have hE3 : St w [] w9 (.blk gr 69 (rqC (.slice ao B.length c) (lvS B (cS8 B s3) (k + 1)) q) :: .blk g5 30 [.int .i64 (numG B 4 ⟨0, false⟩ : Nat), .slice ro j rc, .int .i64 (numG B 1 s3 : Nat), .int .i64 (numG B 1 (cS4 B s3) : Nat), .int .i64 (numG B 4 (cS5 B s3) : Nat), .int .i64 (numG B 4 (cS6 B s3) : Nat), lv] :: .row (.slice ro j rc) 47 44 j (recsV xs) :: .row (lv) 3 1 k (numsV (lvsG B (cS8 B s3) k)) :: .blk g3 33 [.int .i64 0, .int .i64 0] :: .blk g2 30 tab0 :: rootRows 98 xs) := h4; clear h4 hst) | (apply wl_bsX [.int .i64 (numG B 4 (lvS B (cS8 B s3) k) : Nat)] [.int .i64 (numG B 4 (lvS B (cS8 B s3) k) : Nat)] hE3; rfl; rfl; exact rfl; exact rfl; infer_instance; infer_instance; rfl; rfl; rfl; intro gb w5 hE4; clear hE3) | (apply wl_appX (m := 1) (ys := [.int .i64 (numG B 4 (lvS B (cS8 B s3) k) : Nat)]) [_, _, _, _] hE4; rfl; rfl; exact rfl; exact rfl; infer_instance; infer_instance; infer_instance; exact (Rd.blk0 hE4 rfl (by decide)); exact rfl; exact ⟨by decide, by unfold maxLen; omega, by omega⟩; intro lv2 w6 hE5 _; obtain ⟨lo, lc, rfl, _, _⟩ := row_slice [_, _, _, _] hE5; clear hE4) | (refine wl_store [_, _] hE5 rfl rfl rfl (off := 6) (v := .slice _ _ _) rfl rfl rfl (by show (6 : Nat) + 1 ≤ 7; decide) ?_; intro w7 hE6; clear hE5))
            go_roundw
            case rel =>
              have hE7 : St w [] w7 (.blk gr 69 (rqC (.slice ao B.length c) (lvS B (cS8 B s3) (k + 1)) q) :: .blk g5 30 [.int .i64 (numG B 4 ⟨0, false⟩ : Nat), .slice ro j rc, .int .i64 (numG B 1 s3 : Nat), .int .i64 (numG B 1 (cS4 B s3) : Nat), .int .i64 (numG B 4 (cS5 B s3) : Nat), .int .i64 (numG B 4 (cS6 B s3) : Nat), .slice lo (k + 1) lc] :: .row (.slice ro j rc) 47 44 j (recsV xs) :: .row (.slice lo (k + 1) lc) 3 1 (k + 1) (numsV (lvsG B (cS8 B s3) (k + 1))) :: .blk g3 33 [.int .i64 0, .int .i64 0] :: .blk g2 30 tab0 :: rootRows 98 xs) := by
                rw [lvsG_succ, numsV_append]
                exact St.sub hE6 (.cons _ (List.Sublist.refl _))
              exact ⟨k + 1, .slice lo (k + 1) lc, by omega, rfl, hE7⟩
            case measure => simp [intOf]; omega
          · have HSH2 := hid hsh2
            clear hsh2
            obtain ⟨lo, lc, rfl, _, _⟩ := row_slice [_, _, _] hst
            obtain ⟨⟨p, sh⟩, h9⟩ : ∃ u : GS, lvS B (cS8 B s3) k = u := ⟨_, rfl⟩
            have hX : St w [] wr (.blk gr 69 [(.slice ao B.length c), .int .i64 (p : Int), .bool sh, .bool q] :: .blk g5 30 [.int .i64 (numG B 4 ⟨0, false⟩ : Nat), .slice ro j rc, .int .i64 (numG B 1 s3 : Nat), .int .i64 (numG B 1 (cS4 B s3) : Nat), .int .i64 (numG B 4 (cS5 B s3) : Nat), .int .i64 (numG B 4 (cS6 B s3) : Nat), .slice lo k lc] :: .row (.slice ro j rc) 47 44 j (recsV xs) :: .row (.slice lo k lc) 3 1 k (numsV (lvsG B (cS8 B s3) k)) :: .blk g3 33 [.int .i64 0, .int .i64 0] :: .blk g2 30 tab0 :: rootRows 98 xs) := by rw [h9] at hst; exact hst
            clear hst
            have hsh : sh = true := by have := HSH2.out; rw [h9] at this; exact this
            subst hsh
            have HT9 := hid (show (tS9 B).short = true from by
              rcases HE.out with ⟨_, h3⟩ | ⟨_, h3⟩
              · subst h3
                exact lvS_short (i := k) (by have h8 : nl = tLives B := HNL.out; omega) HSH2.out
              · exact h3)
            go_wp2_with (first | go_big_skip | go_big_guard | (refine wl_loadE rfl rfl rfl ?_; refine ⟨_, Loads.at [] hX rfl, ?_⟩) | (refine wl_build0 rfl rfl ?_) | (refine wl_buildX (cs := [.int .i64 4, .int .i64 B.length]) [(0, .int .i64 4), (1, .int .i64 B.length)] rfl rfl (by exact rfl) (bldF2 _ _) ?_) | (refine wl_storeA [_, _, _, _, _] hX rfl rfl rfl rfl rfl rfl rfl ?_; intro w1 hX2; clear hX) | (refine wl_storeA [_, _, _, _] hX2 rfl rfl rfl rfl rfl rfl rfl ?_; intro w1 hX3; clear hX2))
            have hl := Loads.atA (P := Try.prog) (off := 0) (T := 30) tab0 [_, _, _, _, _] hX3 rfl rfl
            have hk := Loads.atA (P := Try.prog) (off := 0) (T := 33) [.int .i64 4, .int .i64 B.length] [_, _, _, _] hX3 rfl rfl
            refine bodyPost_ret (results_cell2L rfl rfl rfl hl hk) rfl ?_
            unfold tabOut
            obtain ⟨q1, q2, q3⟩ := gOK_no_short HT9.out
            rw [if_neg (by rw [q1]; decide), q2, q3]
            exact ⟨rfl, hX3.nil⟩
        · have e2 : decide ((k : Int) < (nl : Int)) = false := decide_eq_false (by omega)
          obtain rfl : k = nl := by omega
          obtain ⟨lo, lc, rfl, _, _⟩ := row_slice [_, _, _] hst
          obtain ⟨⟨p, sh⟩, h9⟩ : ∃ u : GS, lvS B (cS8 B s3) k = u := ⟨_, rfl⟩
          have hX : St w [] wr (.blk gr 69 [(.slice ao B.length c), .int .i64 (p : Int), .bool sh, .bool q] :: .blk g5 30 [.int .i64 (numG B 4 ⟨0, false⟩ : Nat), .slice ro j rc, .int .i64 (numG B 1 s3 : Nat), .int .i64 (numG B 1 (cS4 B s3) : Nat), .int .i64 (numG B 4 (cS5 B s3) : Nat), .int .i64 (numG B 4 (cS6 B s3) : Nat), .slice lo k lc] :: .row (.slice ro j rc) 47 44 j (recsV xs) :: .row (.slice lo k lc) 3 1 k (numsV (lvsG B (cS8 B s3) k)) :: .blk g3 33 [.int .i64 0, .int .i64 0] :: .blk g2 30 tab0 :: rootRows 98 xs) := by rw [h9] at hst; exact hst
          clear hst
          cases sh
          · have hs9 : (lvS B (cS8 B s3) k).short = false := by rw [h9]
            have h3 : j = many ∧ s3 = tS3 B := by
              rcases HE.out with h | ⟨h, _⟩
              · exact h
              · have h8 : (lvS B (cS8 B s3) k).short = true := lvS_short (i := 0) (Nat.zero_le _) (show (lvS B (cS8 B s3) 0).short = true from cS8_short h)
                rw [h8] at hs9
                cases hs9
            clear hs9
            obtain ⟨rfl, rfl⟩ := h3
            have hk9 : k = tLives B := HNL.out
            have H9 := hid (show tS9 B = ⟨p, false⟩ by rw [← h9]; unfold tS9; rw [← hk9]; rfl)
            have hs9 : (tS9 B).short = false := by rw [H9.out]
            have hz := tabG_z (z := true) hs9
            have HXT := hid (show xs.map (·.2) = (tabG false B).recs by rw [HX.out, ← hz.1, HM.out]; rfl)
            have HFR := hid (show rootsG B = !q by rw [← hz.2, HQ.out, HM.out, Bool.not_not])
            have HLT := hid (show (tabG false B).lives = lvsG B (cS8 B (tS3 B)) k by rw [hk9]; rfl)
            have HLN := hid (show (tabG false B).lives.length = k by rw [HLT.out, length_lvsG])
            clear h9 hk9 hs9 hz
            by_cases hpl : p < B.length
            · skip
              have d3 : decide ((p : Int) < (B.length : Int)) = true := decide_eq_true (by omega)
              go_wp2_with (first | go_big_skip | go_big_guard | (refine wl_loadE rfl rfl rfl ?_; refine ⟨_, Loads.at [] hX rfl, ?_⟩))
              have hY := hX.drew
              clear hX
              refine wp_region_held_drew (S := (fun w' => (loadVarH 3 ⟨gr, 1, none⟩).run Try.prog w' = .ok (.int .i64 (p : Int)) w')) (by kernel_rfl) (by exact ldS [] hY rfl) (fun hHeld => ?_)
              refine tk 0 95 ?_
              (try simp only [Act.put, List.setIfInBounds_toArray, List.set_cons_zero, List.set_cons_succ])
              refine tk 1 96 ?_
              (try simp only [Act.put, List.setIfInBounds_toArray, List.set_cons_zero, List.set_cons_succ])
              refine tk 2 97 ?_
              (try simp only [Act.put, List.setIfInBounds_toArray, List.set_cons_zero, List.set_cons_succ])
              refine tk 3 98 ?_
              (try simp only [Act.put, List.setIfInBounds_toArray, List.set_cons_zero, List.set_cons_succ])
              refine tk 4 99 ?_
              (try simp only [Act.put, List.setIfInBounds_toArray, List.set_cons_zero, List.set_cons_succ])
              refine wpAnyH_ready (rs := [5, 6]) (by kernel_rfl) (by simp) ?_
              refine (AllReadyH.cons (o := ⟨some 100, _, _, _, _, _⟩) rfl (fun K hK => ?_) (AllReadyH.cons (o := ⟨none, _, _, _, _, _⟩) rfl (fun K hK => ?_) AllReadyH.nil))
              · rw [if_pos (by rfl)]
                refine ow_of_wl (ops := #[]) (by rfl) ?_
                refine wl_buildX (cs := [.int .i64 4, .int .i64 (p : Int)]) [(0, .int .i64 4), (1, .int .i64 (p : Int))] rfl rfl (by exact rfl) (bldF2 _ _) ?_
                refine q0_nil ?_
                refine hK.out _ _ ?_ (fun hHeld => ?_)
                · exact ldS [] hY rfl
                clear hK K
                (try simp only [Act.put, List.setIfInBounds_toArray, List.set_cons_zero, List.set_cons_succ])
                refine wpAnyH_ready (rs := [6]) (by kernel_rfl) (by simp) ?_
                refine (AllReadyH.cons (o := ⟨none, _, _, _, _, _⟩) rfl (fun K hK => ?_) AllReadyH.nil)
                rw [if_pos (by rfl)]
                refine ow_of_wl (ops := #[]) (by rfl) ?_
                refine wl_storeA [_, _, _, _, _] hY rfl rfl rfl rfl rfl rfl rfl ?_
                intro w7 hX2
                refine q0_nil ?_
                refine hK.out _ _ ?_ (fun hHeld => ?_)
                · exact ldS [] hX2 rfl
                clear hK K
                (try simp only [Act.put, List.setIfInBounds_toArray, List.set_cons_zero, List.set_cons_succ])
                refine wpAnyH_ready (rs := [7]) (by kernel_rfl) (by simp) ?_
                refine (AllReadyH.cons (o := ⟨none, _, _, _, _, _⟩) rfl (fun K hK => ?_) AllReadyH.nil)
                rw [if_pos (by rfl)]
                refine ow_of_wl (ops := #[]) (by rfl) ?_
                refine wl_storeA [_, _, _, _] hX2 rfl rfl rfl rfl rfl rfl rfl ?_
                intro w7 hX3
                refine q0_nil ?_
                refine hK.out _ _ ?_ (fun hHeld => ?_)
                · exact ldS [] hX3 rfl
                clear hK K
                (try simp only [Act.put, List.setIfInBounds_toArray, List.set_cons_zero, List.set_cons_succ])
                refine wpAnyH_done (by kernel_rfl) ?_ _
                clear hHeld
                go_wp2_with (first | go_big_skip | go_big_guard | fail)
                have hl := Loads.atA (P := Try.prog) (off := 0) (T := 30) tab0 [_, _, _, _, _] hX3 rfl rfl
                have hk := Loads.atA (P := Try.prog) (off := 0) (T := 33) [.int .i64 4, .int .i64 p] [_, _, _, _] hX3 rfl rfl
                refine bodyPost_ret (results_cell2L rfl rfl rfl hl hk) rfl ?_
                unfold tabOut
                obtain ⟨q1, q2, q3⟩ := gOK_no_end (by rw [H9.out]) (by rw [H9.out]; exact hpl)
                rw [H9.out] at q3
                rw [if_neg (by rw [q1]; decide), q2, q3]
                exact ⟨rfl, hX3.nil⟩
              · rw [if_pos (by rfl)]
                refine ow_of_wl (ops := #[]) (by rfl) ?_
                refine wl_storeA [_, _, _, _, _] hY rfl rfl rfl rfl rfl rfl rfl ?_
                intro w7 hX2
                refine q0_nil ?_
                refine hK.out _ _ ?_ (fun hHeld => ?_)
                · exact ldS [] hX2 rfl
                clear hK K
                (try simp only [Act.put, List.setIfInBounds_toArray, List.set_cons_zero, List.set_cons_succ])
                refine wpAnyH_ready (rs := [5]) (by kernel_rfl) (by simp) ?_
                refine (AllReadyH.cons (o := ⟨some 100, _, _, _, _, _⟩) rfl (fun K hK => ?_) AllReadyH.nil)
                rw [if_pos (by rfl)]
                refine ow_of_wl (ops := #[]) (by rfl) ?_
                refine wl_buildX (cs := [.int .i64 4, .int .i64 (p : Int)]) [(0, .int .i64 4), (1, .int .i64 (p : Int))] rfl rfl (by exact rfl) (bldF2 _ _) ?_
                refine q0_nil ?_
                refine hK.out _ _ ?_ (fun hHeld => ?_)
                · exact ldS [] hX2 rfl
                clear hK K
                (try simp only [Act.put, List.setIfInBounds_toArray, List.set_cons_zero, List.set_cons_succ])
                refine wpAnyH_ready (rs := [7]) (by kernel_rfl) (by simp) ?_
                refine (AllReadyH.cons (o := ⟨none, _, _, _, _, _⟩) rfl (fun K hK => ?_) AllReadyH.nil)
                rw [if_pos (by rfl)]
                refine ow_of_wl (ops := #[]) (by rfl) ?_
                refine wl_storeA [_, _, _, _] hX2 rfl rfl rfl rfl rfl rfl rfl ?_
                intro w7 hX3
                refine q0_nil ?_
                refine hK.out _ _ ?_ (fun hHeld => ?_)
                · exact ldS [] hX3 rfl
                clear hK K
                (try simp only [Act.put, List.setIfInBounds_toArray, List.set_cons_zero, List.set_cons_succ])
                refine wpAnyH_done (by kernel_rfl) ?_ _
                clear hHeld
                go_wp2_with (first | go_big_skip | go_big_guard | fail)
                have hl := Loads.atA (P := Try.prog) (off := 0) (T := 30) tab0 [_, _, _, _, _] hX3 rfl rfl
                have hk := Loads.atA (P := Try.prog) (off := 0) (T := 33) [.int .i64 4, .int .i64 p] [_, _, _, _] hX3 rfl rfl
                refine bodyPost_ret (results_cell2L rfl rfl rfl hl hk) rfl ?_
                unfold tabOut
                obtain ⟨q1, q2, q3⟩ := gOK_no_end (by rw [H9.out]) (by rw [H9.out]; exact hpl)
                rw [H9.out] at q3
                rw [if_neg (by rw [q1]; decide), q2, q3]
                exact ⟨rfl, hX3.nil⟩
            · have d3 : decide ((p : Int) < (B.length : Int)) = false := decide_eq_false (by omega)
              cases q
              · obtain ⟨u, hu⟩ : ∃ u, (tabG false B).ok = u := ⟨_, rfl⟩
                have HOK := hid hu
                cases u
                · have HER := hid (err_no hu)
                  clear hu
                  go_wp2_with (first | go_big_skip | go_big_guard | (refine wl_loadE rfl rfl rfl ?_; first | refine ⟨_, Loads.at [] hX rfl, ?_⟩ | refine ⟨_, Loads.atA (tabC (tabG false B) (.slice ro j rc) (.slice lo k lc)) [_] hX rfl rfl, ?_⟩) | (go_at_call 27; refine (refCheck12_any (tabG false B) ro lo j rc k lc xs _ (recs_in hX (.tail _ (.tail _ (.head _))) (by rw [HX.out]) (fun x hx => (.tail _ (.tail _ (.tail _ (.tail _ (.tail _ (.tail _ (rootRows_mem hx))))))))) HXT.out (by omega) (by rw [HLT.out]; exact (Rd.row hX (.tail _ (.tail _ (.tail _ (.head _)))))) HLN.out (by omega)).mono ?_; rw [HER.out]; rintro _ w9 ⟨rfl, h4⟩; replace hX := St.call0 hX h4; clear h4) | (refine wl_build0 rfl rfl ?_) | (refine wl_buildX (cs := [.int .i64 2, .int .i64 0]) [(0, .int .i64 2)] rfl rfl (by exact rfl) (bldF1 _) ?_) | (refine wl_storeA [_, _, _, _, _] hX rfl rfl rfl rfl rfl rfl rfl ?_; intro w1 hX2; clear hX) | (refine wl_storeA [_, _, _, _] hX2 rfl rfl rfl rfl rfl rfl rfl ?_; intro w1 hX3; clear hX2))
                  have hl := Loads.atA (P := Try.prog) (off := 0) (T := 30) tab0 [_, _, _, _, _] hX3 rfl rfl
                  have hk := Loads.atA (P := Try.prog) (off := 0) (T := 33) [.int .i64 2, .int .i64 0] [_, _, _, _] hX3 rfl rfl
                  refine bodyPost_ret (results_cell2L rfl rfl rfl hl hk) rfl ?_
                  unfold tabOut
                  obtain ⟨q1, q2, q3⟩ := gOK_no_fit (by rw [H9.out]) (by rw [H9.out]; exact hpl) (by rw [HOK.out, Bool.and_false])
                  rw [if_neg (by rw [q1]; decide), q2, q3]
                  exact ⟨rfl, hX3.nil⟩
                · have HER := hid (err_yes hu)
                  clear hu
                  go_wp2_with (first | go_big_skip | go_big_guard | (refine wl_loadE rfl rfl rfl ?_; first | refine ⟨_, Loads.at [] hX rfl, ?_⟩ | refine ⟨_, Loads.atA (tabC (tabG false B) (.slice ro j rc) (.slice lo k lc)) [_] hX rfl rfl, ?_⟩) | (go_at_call 27; refine (refCheck12_any (tabG false B) ro lo j rc k lc xs _ (recs_in hX (.tail _ (.tail _ (.head _))) (by rw [HX.out]) (fun x hx => (.tail _ (.tail _ (.tail _ (.tail _ (.tail _ (.tail _ (rootRows_mem hx))))))))) HXT.out (by omega) (by rw [HLT.out]; exact (Rd.row hX (.tail _ (.tail _ (.tail _ (.head _)))))) HLN.out (by omega)).mono ?_; rw [HER.out]; rintro _ w9 ⟨rfl, h4⟩; replace hX := St.call0 hX h4; clear h4) | (refine wl_build0 rfl rfl ?_) | (refine wl_buildX (cs := [.int .i64 2, .int .i64 0]) [(0, .int .i64 2)] rfl rfl (by exact rfl) (bldF1 _) ?_) | (refine wl_storeA [_, _, _, _, _] hX rfl rfl rfl rfl rfl rfl rfl ?_; intro w1 hX2; clear hX) | (refine wl_storeA [_, _, _, _] hX2 rfl rfl rfl rfl rfl rfl rfl ?_; intro w1 hX3; clear hX2))
                  have hl := Loads.atA (P := Try.prog) (off := 0) (T := 30) (tabC (tabG false B) (.slice ro j rc) (.slice lo k lc)) [_, _, _, _, _] hX3 rfl rfl
                  have hk := Loads.atA (P := Try.prog) (off := 0) (T := 33) [.int .i64 0, .int .i64 0] [_, _, _, _] hX3 rfl rfl
                  refine bodyPost_ret (results_cell2L rfl rfl rfl hl hk) rfl ?_
                  unfold tabOut
                  rw [if_pos (gOK_yes (by rw [H9.out]) (by rw [H9.out]; exact hpl) (by rw [HFR.out]; rfl) HOK.out).1]
                  refine ⟨.slice ro j rc, .slice lo k lc, xs, rfl, HXT.out, ?_⟩
                  have hrl : (tabG false B).recs.length = j := by rw [HM.out]; exact length_rcsG _ _ _ _
                  rw [hrl, HLN.out, HLT.out]
                  exact St.sub hX3 (.cons _ (.cons _ (.cons_cons _ (.cons_cons _ (.cons _ (.cons _ (List.Sublist.refl _)))))))
              · skip
                go_wp2_with (first | go_big_skip | go_big_guard | (refine wl_loadE rfl rfl rfl ?_; first | refine ⟨_, Loads.at [] hX rfl, ?_⟩ | refine ⟨_, Loads.atA (tabC (tabG false B) (.slice ro j rc) (.slice lo k lc)) [_] hX rfl rfl, ?_⟩) | (refine wl_build0 rfl rfl ?_) | (refine wl_buildX (cs := [.int .i64 2, .int .i64 0]) [(0, .int .i64 2)] rfl rfl (by exact rfl) (bldF1 _) ?_) | (refine wl_storeA [_, _, _, _, _] hX rfl rfl rfl rfl rfl rfl rfl ?_; intro w1 hX2; clear hX) | (refine wl_storeA [_, _, _, _] hX2 rfl rfl rfl rfl rfl rfl rfl ?_; intro w1 hX3; clear hX2))
                have hl := Loads.atA (P := Try.prog) (off := 0) (T := 30) tab0 [_, _, _, _, _] hX3 rfl rfl
                have hk := Loads.atA (P := Try.prog) (off := 0) (T := 33) [.int .i64 2, .int .i64 0] [_, _, _, _] hX3 rfl rfl
                refine bodyPost_ret (results_cell2L rfl rfl rfl hl hk) rfl ?_
                unfold tabOut
                obtain ⟨q1, q2, q3⟩ := gOK_no_fit (by rw [H9.out]) (by rw [H9.out]; exact hpl) (by rw [HFR.out]; rfl)
                rw [if_neg (by rw [q1]; decide), q2, q3]
                exact ⟨rfl, hX3.nil⟩
          · have hsh : (lvS B (cS8 B s3) k).short = true := by rw [h9]
            have HT9 := hid (show (tS9 B).short = true from by
              rcases HE.out with ⟨_, h3⟩ | ⟨_, h3⟩
              · subst h3
                exact lvS_short (i := k) (by have h8 : k = tLives B := HNL.out; omega) hsh
              · exact h3)
            clear hsh h9
            go_wp2_with (first | go_big_skip | go_big_guard | (refine wl_loadE rfl rfl rfl ?_; refine ⟨_, Loads.at [] hX rfl, ?_⟩) | (refine wl_build0 rfl rfl ?_) | (refine wl_buildX (cs := [.int .i64 4, .int .i64 B.length]) [(0, .int .i64 4), (1, .int .i64 B.length)] rfl rfl (by exact rfl) (bldF2 _ _) ?_) | (refine wl_storeA [_, _, _, _, _] hX rfl rfl rfl rfl rfl rfl rfl ?_; intro w1 hX2; clear hX) | (refine wl_storeA [_, _, _, _] hX2 rfl rfl rfl rfl rfl rfl rfl ?_; intro w1 hX3; clear hX2))
            have hl := Loads.atA (P := Try.prog) (off := 0) (T := 30) tab0 [_, _, _, _, _] hX3 rfl rfl
            have hk := Loads.atA (P := Try.prog) (off := 0) (T := 33) [.int .i64 4, .int .i64 B.length] [_, _, _, _] hX3 rfl rfl
            refine bodyPost_ret (results_cell2L rfl rfl rfl hl hk) rfl ?_
            unfold tabOut
            obtain ⟨q1, q2, q3⟩ := gOK_no_short HT9.out
            rw [if_neg (by rw [q1]; decide), q2, q3]
            exact ⟨rfl, hX3.nil⟩
end Go.Proofs.Ytkpkaoiafppimaa
namespace Go.Proofs.Ytkpkaoiafppimaa
set_option linter.unusedVariables false
set_option linter.unusedSimpArgs false
open Go.RowKit Hp
attribute [local irreducible] Go.Calls Go.wpList
set_option maxRecDepth 100000
set_option maxHeartbeats 8000000
theorem bytes_form {w0 w : World} {M : List Nat} {L : List HA} {u : Value} {m : Nat} {T : TypeId} {B : List UInt8} (h : St w0 M w (.rowP isB u T 1 m (bytesV B) :: L)) (hB : 0 < B.length) : ∃ b c, u = .slice (some ⟨b, 0, none⟩) B.length c ∧ m = B.length ∧ B.length ≤ c ∧ c ≤ 9223372036854775807 ∧ Rd w (.slice (some ⟨b, 0, none⟩) B.length c) 1 B.length (bytesV B) := by
  have hr := Rd.rowP h (.head _)
  obtain ⟨ao, c, e, h1, h2, h3⟩ := rowP_form h (.head _)
  have hm : m = B.length := by rw [length_bytesV] at h3; omega
  subst hm
  rcases St.openP (L1 := []) h with ⟨_, h0, _⟩ | ⟨g, cap, cs, e2, _⟩
  · omega
  · rw [e] at e2
    cases e2
    refine ⟨g, c, e, rfl, h1, h2, ?_⟩
    rw [e] at hr
    exact hr
theorem tab_in {w0 w : World} {M : List Nat} {L : List HA} {rT iT E : TypeId} {ro lo : Option Addr} {rc lc : Nat} {B : List UInt8} {xs : List (Value × RC)} (hst : St w0 M w L) (h1 : HA.row (.slice ro (tabG false B).recs.length rc) rT 44 (tabG false B).recs.length (recsV xs) ∈ L) (h2 : HA.row (.slice lo (tabG false B).lives.length lc) iT 1 (tabG false B).lives.length (numsV (tabG false B).lives) ∈ L)
    (hx : xs.map (·.2) = (tabG false B).recs) (hm : ∀ x ∈ xs, HA.row x.1 E 2 x.2.l.length (addrsV x.2.l) ∈ L) : TabIn w (tabG false B) ro (tabG false B).recs.length rc lo (tabG false B).lives.length lc xs := by
  have hn : (tabG false B).recs.length = tMany B := length_rcsG _ _ _ _
  have hl : (tabG false B).lives.length = tLives B := length_lvsG _ _ _
  have b1 : tMany B < 256 := numG1_lt B _
  have b2 : tLives B < 256 := numG1_lt B _
  refine ⟨?_, hx, Rd.row hst h2, rfl, by omega, by omega⟩
  refine recs_in (z := false) (B := B) (s := tS2 B) hst h1 ?_ hm
  rw [hx, hn]
  rfl
theorem tab_L {B : List UInt8} {xs : List (Value × RC)} (hx : xs.map (·.2) = (tabG false B).recs) : ∀ x ∈ xs, L32 x.2.S := fun x hxm => by
  have h2 : x.2 ∈ rcsG false B (tS2 B) (tMany B) := by
    have : x.2 ∈ (tabG false B).recs := by rw [← hx]; exact List.mem_map_of_mem hxm
    exact this
  unfold rcsG at h2
  rw [List.mem_map] at h2
  obtain ⟨i, _, hi⟩ := h2
  rw [← hi]
  exact rec_S _ _ _
theorem awake12_any (w : World) : Calls Try.prog 8 #[] w fun e w' => e = .returned (.bool true) ∧ St w [] w' [] := by
  have hst0 := St.refl w
  go_enter Try.func8, Try.ntmps8
  (try simp only [List.append])
  go_wp2_with (first | go_big_skip | go_big_guard | (go_at_call 15; refine (bare_any _).mono ?_; rintro _ w9 ⟨h0, rfl, h4⟩; have hst1 := St.call hst0 h4; clear h4 hst0) | (go_at_call 17; refine (bytes12_ok bareT none (some ⟨h0, 0, none⟩) 0 0 2 2 [] _ (bareIn hst1 (.head _)).R rfl (bareIn hst1 (.head _)).L rfl bare_ok).mono ?_; rintro _ w9 ⟨u, m, rfl, hm, h4⟩; rw [bare_bytes] at h4; obtain ⟨b1, c1, rfl, rfl, hc1, hc1', hr⟩ := bytes_form h4 (by decide); have hst2 := St.call hst1 h4; clear h4 hst1 hr hm) | (go_at_call 16; refine (one_any _).mono ?_; rintro _ w9 ⟨g3, h3, rfl, h4⟩; have hst3 := St.call hst2 h4; clear h4 hst2) | (go_at_call 17; refine (bytes12_ok oneT (some ⟨g3, 0, none⟩) (some ⟨h3, 0, none⟩) 1 1 2 2 [(.slice none 0 0, oneR)] _ (one2In hst3 (.head _) (.tail _ (.head _))).R rfl (one2In hst3 (.head _) (.tail _ (.head _))).L rfl one_ok).mono ?_; rintro _ w9 ⟨u, m, rfl, hm, h4⟩; obtain ⟨b2, c2, rfl, hm2, _⟩ := bytes_form h4 (by rw [one_len]; decide); have hst4 := St.call hst3 h4; (rw [one_len]); clear h4 hst3 hm hm2) | (go_at_call 16; refine (one_any _).mono ?_; rintro _ w9 ⟨g5, h5, rfl, h4⟩; have hst5 := St.call hst4 h4; clear h4 hst4) | (go_at_call 24; refine (find_any oneT (.slice (some ⟨h5, 0, none⟩) 2 2) [97] (some ⟨g5, 0, none⟩) 1 1 [(.slice none 0 0, oneR)] _ (one2In hst5 (.head _) (.tail _ (.head _))).R (by decide)).mono ?_; rw [show findP [97] (([(.slice none 0 0, oneR)] : List (Value × RC)).map (·.2)) = _ from one_a]; rintro _ w9 ⟨rfl, h4⟩; have hst6 := St.call0 hst5 h4; clear h4 hst5) | (go_at_call 16; refine (one_any _).mono ?_; rintro _ w9 ⟨g7, h7, rfl, h4⟩; have hst7 := St.call hst6 h4; clear h4 hst6) | (go_at_call 24; refine (find_any oneT (.slice (some ⟨h7, 0, none⟩) 2 2) [98] (some ⟨g7, 0, none⟩) 1 1 [(.slice none 0 0, oneR)] _ (one2In hst7 (.head _) (.tail _ (.head _))).R (by decide)).mono ?_; rw [show findP [98] (([(.slice none 0 0, oneR)] : List (Value × RC)).map (·.2)) = _ from one_b]; rintro _ w9 ⟨rfl, h4⟩; have hst8 := St.call0 hst7 h4; clear h4 hst7) | (apply wl_bsX [.int .u8 0, .int .u8 0, .int .u8 0, .int .u8 2, .int .u8 0] (bytesV [0, 0, 0, 2, 0]) hst8; rfl; rfl; exact rfl; exact rfl; infer_instance; infer_instance; rfl; rfl; rfl; intro gb w5 hst9; clear hst8) | (go_at_call 26; refine (sameBytes_any _ _ 5 5 (bareB.take 5) [0, 0, 0, 2, 0] _ (Rd.takeN (n := 24) (Rd.rowP hst9 (.tail _ (.tail _ (.tail _ (.tail _ (.tail _ (.tail _ (.tail _ (.tail _ (.head _)))))))))) (by decide)) (Rd.blk (off := 0) (n := 5) hst9 (.head _) (Nat.le_refl _) (by decide) rfl rfl)).mono ?_; rw [show (bareB.take 5 == [0, 0, 0, 2, 0]) = true from rfl]; rintro _ w9 ⟨rfl, h4⟩; have hst10 := St.call0 hst9 h4; clear h4 hst9) | (apply wl_bsX [.int .u8 2, .int .u8 0, .int .u8 0, .int .u8 0, .int .u8 0, .int .u8 0, .int .u8 0, .int .u8 0, .int .u8 0] (bytesV [2, 0, 0, 0, 0, 0, 0, 0, 0]) hst10; rfl; rfl; exact rfl; exact rfl; infer_instance; infer_instance; rfl; rfl; rfl; intro gc w5 hst11; clear hst10) | (go_at_call 26; refine (sameBytes_any _ _ 9 9 ((bareB.drop 15).take 9) [2, 0, 0, 0, 0, 0, 0, 0, 0] _ (Rd.win (n := 24) (c := c1) (m := 9) 15 (Rd.rowP hst11 (.tail _ (.tail _ (.tail _ (.tail _ (.tail _ (.tail _ (.tail _ (.tail _ (.tail _ (.head _))))))))))) rfl (by decide) (by omega)) (Rd.blk (off := 0) (n := 9) hst11 (.head _) (Nat.le_refl _) (by decide) rfl rfl)).mono ?_; rw [show ((bareB.drop 15).take 9 == [2, 0, 0, 0, 0, 0, 0, 0, 0]) = true from rfl]; rintro _ w9 ⟨rfl, h4⟩; have hst12 := St.call0 hst11 h4; clear h4 hst11) | (go_at_call 20; refine (fails12_no none 0 [] 4 0 _ (Rd.nil _ _) (by decide) nil_err.2.2).mono ?_; rw [show ((gErr [] == 4) && (gAt [] == 0)) = true by rw [nil_err.1, nil_err.2.1]; rfl]; rintro _ w9 ⟨rfl, h4⟩; have hst13 := St.call0 hst12 h4; clear h4 hst12))
  go_ret
  exact ⟨rfl, hst13.nil⟩
end Go.Proofs.Ytkpkaoiafppimaa
namespace Go.Proofs.Ytkpkaoiafppimaa
set_option linter.unusedVariables false
set_option linter.unusedSimpArgs false
open Go.RowKit Hp
attribute [local irreducible] Go.Calls Go.wpList
set_option maxRecDepth 100000
set_option maxHeartbeats 8000000
theorem lent_rd {w0 w : World} {M : List Nat} {L : List HA} {g : Nat} {T : TypeId} {B : List UInt8} (hst : St w0 M w L) (hm : HA.blk g T (bytesV (lentB B)) ∈ L) (hb : B.length ≤ 100000) : Rd w (.slice (some ⟨g, 0, none⟩) B.length (B.length + 3)) 1 B.length (bytesV B) :=
  Rd.blk hst hm (by omega) (by unfold maxLen; omega) (by rw [length_bytesV, Nat.mul_one]) (by rw [List.drop_zero, lentB_V, List.take_left' rfl])
theorem recordReads_law (ao : Option Addr) (n c : Nat) (B : List UInt8) (w : World) (hB : Rd w (.slice ao n c) 1 n (bytesV B)) (hn : B.length = n) :
    Calls Try.prog 3 #[.slice ao n c] w fun e w' => e = .returned (.bool true) ∧ St w [] w' [] := by
  subst hn
  have hst0 := St.refl w
  have hbd := hB.bd.1
  have hbd2 := hB.bd.2.1
  have HB := hid hB
  clear hB
  by_cases h5 : 5000 < B.length
  · have d1 : decide ((B.length : Int) > 5000) = true := decide_eq_true (by omega)
    have d1' : decide ((5000 : Int) < (B.length : Int)) = true := d1
    go_enter Try.func3, Try.ntmps3
    go_wp2_with (first | go_big_skip | go_big_guard | (go_at_call 8; refine (awake12_any _).mono ?_; rintro _ w9 ⟨rfl, h4⟩; have hst9 := St.call0 hst0 h4; clear h4))
    go_ret
    exact ⟨rfl, hst9.nil⟩
  · have d1 : decide ((B.length : Int) > 5000) = false := decide_eq_false (by omega)
    have d1' : decide ((5000 : Int) < (B.length : Int)) = false := d1
    obtain ⟨q, hq⟩ : ∃ q, gOK B = q := ⟨_, rfl⟩
    have HG := hid hq
    clear hq
    cases q
    · have s1 : (gErr B == gErr B) = true := beq_self_eq_true _
      have s2 : (gAt B == gAt B) = true := beq_self_eq_true _
      go_enter Try.func3, Try.ntmps3
      go_wp2_with (first | go_big_skip | go_big_guard | (go_at_call 9; refine (lent_any ao B.length c B _ HB.out rfl (by omega)).mono ?_; rintro _ w9 ⟨gl, rfl, h4⟩; have hst1 := St.call hst0 h4; clear h4 hst0) | (go_at_call 10; refine (read12_any (some ⟨gl, 0, none⟩) (B.length + 3) B _ (lent_rd hst1 (.head _) (by omega)) (by omega)).mono ?_; intro e9 w9 hr; unfold tabOut at hr; rw [if_neg (by rw [HG.out]; decide)] at hr; obtain ⟨rfl, h4⟩ := hr; have hst2 := St.call0 hst1 h4; clear h4 hst1) | (refine wl_alloc hst2 rfl rfl ?_; intro g4 w1 hA1; clear hst2) | (refine wl_alloc hA1 rfl rfl ?_; intro g5 w1 hA2; clear hA1) | (refine wl_storeA [_] hA2 rfl rfl rfl rfl (vs := tab0) rfl rfl rfl ?_; intro w7 hA3; clear hA2) | (refine wl_storeA [] hA3 rfl rfl rfl rfl (vs := [.int .i64 (gErr B), .int .i64 (gAt B)]) rfl rfl rfl ?_; intro w7 hA4; clear hA3) | (go_at_call 11; refine (refRead12_any ao c B _ (Rd.old hA4 HB.out) (by omega)).mono ?_; intro e9 w9 hr; unfold tabOut at hr; rw [if_neg (by rw [HG.out]; decide)] at hr; obtain ⟨rfl, h4⟩ := hr; have hA5 := St.call0 hA4 h4; clear h4 hA4) | (refine wl_alloc hA5 rfl rfl ?_; intro g6 w1 hA6; clear hA5) | (refine wl_alloc hA6 rfl rfl ?_; intro g7 w1 hA7; clear hA6) | (refine wl_storeA [_] hA7 rfl rfl rfl rfl (vs := tab0) rfl rfl rfl ?_; intro w7 hA8; clear hA7) | (refine wl_storeA [] hA8 rfl rfl rfl rfl (vs := [.int .i64 (gErr B), .int .i64 (gAt B)]) rfl rfl rfl ?_; intro w7 hA9; clear hA8) | (refine wl_loadE rfl rfl rfl ?_; first | refine ⟨_, Loads.atA tab0 [_, _, _] hA9 rfl rfl, ?_⟩ | refine ⟨_, Loads.atA tab0 [_] hA9 rfl rfl, ?_⟩ | refine ⟨_, Loads.atA [.int .i64 (gErr B), .int .i64 (gAt B)] [_, _] hA9 rfl rfl, ?_⟩ | refine ⟨_, Loads.atA [.int .i64 (gErr B), .int .i64 (gAt B)] [] hA9 rfl rfl, ?_⟩) | (go_at_call 12; refine (kitTable_any noT noT none none none none 0 0 0 0 0 0 0 0 [] [] _ (noIn _) (noIn _)).mono ?_; rw [show noT.sameB noT = true from rfl]; rintro _ w9 ⟨rfl, h4⟩; replace hA9 := St.call0 hA9 h4; clear h4) | (go_at_call 13; refine (overTable_any (w0 := w) (M := []) noT none none 0 0 0 0 [] [] (R := _) (St.nilR 47 44 (St.nilR 3 1 hA9)) (fun _ h => by cases h) rfl (by decide) (by decide)).mono ?_; rintro _ w9 ⟨rfl, h4⟩; have hA10 := h4; clear h4 hA9) | (go_at_call 14; refine (kept_any ao gl B.length c B _ _ w hA10 (.tail _ (.tail _ (.tail _ (.tail _ (.head _))))) (Rd.old hA10 HB.out) rfl (by omega)).mono ?_; rintro _ w9 ⟨rfl, h4⟩; have hst8 := St.call0 hA10 h4; clear h4) | (go_at_call 8; refine (awake12_any _).mono ?_; rintro _ w9 ⟨rfl, h4⟩; have hst9 := St.call0 hst8 h4; clear h4))
      go_ret
      exact ⟨rfl, hst9.nil⟩
    · have HLR := hid (show (tabG false B).recs.length < 256 from (by rw [show (tabG false B).recs.length = tMany B from length_rcsG _ _ _ _]; exact numG1_lt B _))
      have HLL := hid (show (tabG false B).lives.length < 256 from (by rw [show (tabG false B).lives.length = tLives B from length_lvsG _ _ _]; exact numG1_lt B _))
      go_enter Try.func3, Try.ntmps3
      go_wp2_with (first | go_big_skip | go_big_guard | (go_at_call 9; refine (lent_any ao B.length c B _ HB.out rfl (by omega)).mono ?_; rintro _ w9 ⟨gl, rfl, h4⟩; have hst1 := St.call hst0 h4; clear h4 hst0) | (go_at_call 10; refine (read12_any (some ⟨gl, 0, none⟩) (B.length + 3) B _ (lent_rd hst1 (.head _) (by omega)) (by omega)).mono ?_; intro e9 w9 hr; unfold tabOut at hr; rw [if_pos HG.out] at hr; obtain ⟨rv, lv, xs1, rfl, hx1, h4⟩ := hr; obtain ⟨r1, rc1, rfl, _, _⟩ := row_slice [] h4; obtain ⟨l1, lc1, rfl, _, _⟩ := row_slice [_] h4; have HX1 := hid hx1; have hst2 := St.call hst1 h4; clear h4 hx1 hst1) | (refine wl_alloc hst2 rfl rfl ?_; intro g4 w1 hA1; clear hst2) | (refine wl_alloc hA1 rfl rfl ?_; intro g5 w1 hA2; clear hA1) | (refine wl_storeA [_] hA2 rfl rfl rfl rfl (vs := (tabC (tabG false B) (.slice r1 (tabG false B).recs.length rc1) (.slice l1 (tabG false B).lives.length lc1))) rfl rfl rfl ?_; intro w7 hA3; clear hA2) | (refine wl_storeA [] hA3 rfl rfl rfl rfl (vs := [.int .i64 0, .int .i64 0]) rfl rfl rfl ?_; intro w7 h4; have hA4 : St w [] w7 (.blk g5 33 [.int .i64 0, .int .i64 0] :: .blk g4 30 (tabC (tabG false B) (.slice r1 (tabG false B).recs.length rc1) (.slice l1 (tabG false B).lives.length lc1)) :: .row (.slice r1 (tabG false B).recs.length rc1) 47 44 (tabG false B).recs.length (recsV xs1) :: .row (.slice l1 (tabG false B).lives.length lc1) 3 1 (tabG false B).lives.length (numsV (tabG false B).lives) :: (rootRows 98 xs1 ++ [.blk gl 5 (bytesV (lentB B))])) := h4; clear hA3 h4) | (go_at_call 11; refine (refRead12_any ao c B _ (Rd.old hA4 HB.out) (by omega)).mono ?_; intro e9 w9 hr; unfold tabOut at hr; rw [if_pos HG.out] at hr; obtain ⟨rv, lv, xs2, rfl, hx2, h4⟩ := hr; obtain ⟨r2, rc2, rfl, _, _⟩ := row_slice [] h4; obtain ⟨l2, lc2, rfl, _, _⟩ := row_slice [_] h4; have HX2 := hid hx2; have hA5a := St.call hA4 h4; clear h4 hx2 hA4; have hA5 : St w [] w9 (.blk g5 33 [.int .i64 0, .int .i64 0] :: .blk g4 30 (tabC (tabG false B) (.slice r1 (tabG false B).recs.length rc1) (.slice l1 (tabG false B).lives.length lc1)) :: .row (.slice r1 (tabG false B).recs.length rc1) 47 44 (tabG false B).recs.length (recsV xs1) :: .row (.slice l1 (tabG false B).lives.length lc1) 3 1 (tabG false B).lives.length (numsV (tabG false B).lives) :: (rootRows 98 xs1 ++ (.blk gl 5 (bytesV (lentB B)) :: .row (.slice r2 (tabG false B).recs.length rc2) 47 44 (tabG false B).recs.length (recsV xs2) :: .row (.slice l2 (tabG false B).lives.length lc2) 3 1 (tabG false B).lives.length (numsV (tabG false B).lives) :: rootRows 98 xs2))) := (by rw [List.append_cons]; exact St.perm hA5a List.perm_append_comm); clear hA5a) | (refine wl_alloc hA5 rfl rfl ?_; intro g6 w1 hA6; clear hA5) | (refine wl_alloc hA6 rfl rfl ?_; intro g7 w1 hA7; clear hA6) | (refine wl_storeA [_] hA7 rfl rfl rfl rfl (vs := (tabC (tabG false B) (.slice r2 (tabG false B).recs.length rc2) (.slice l2 (tabG false B).lives.length lc2))) rfl rfl rfl ?_; intro w7 hA8; clear hA7) | (refine wl_storeA [] hA8 rfl rfl rfl rfl (vs := [.int .i64 0, .int .i64 0]) rfl rfl rfl ?_; intro w7 hA9; clear hA8) | (refine wl_loadE rfl rfl rfl ?_; first | refine ⟨_, Loads.atA (tabC (tabG false B) (.slice r1 (tabG false B).recs.length rc1) (.slice l1 (tabG false B).lives.length lc1)) [_, _, _] hA9 rfl rfl, ?_⟩ | refine ⟨_, Loads.atA (tabC (tabG false B) (.slice r2 (tabG false B).recs.length rc2) (.slice l2 (tabG false B).lives.length lc2)) [_] hA9 rfl rfl, ?_⟩ | refine ⟨_, Loads.atA [.int .i64 0, .int .i64 0] [_, _] hA9 rfl rfl, ?_⟩ | refine ⟨_, Loads.atA [.int .i64 0, .int .i64 0] [] hA9 rfl rfl, ?_⟩) | (go_at_call 12; refine (kitTable_any (tabG false B) (tabG false B) r1 l1 r2 l2 _ rc1 _ lc1 _ rc2 _ lc2 xs1 xs2 _ (tab_in (iT := 3) (rT := 47) (E := 98) hA9 (.tail _ (.tail _ (.tail _ (.tail _ (.head _))))) (.tail _ (.tail _ (.tail _ (.tail _ (.tail _ (.head _)))))) HX1.out (fun x hx => by have := rootRows_mem (E := 98) hx; simp [this])) (tab_in (iT := 3) (rT := 47) (E := 98) hA9 (by simp) (by simp) HX2.out (fun x hx => by have := rootRows_mem (E := 98) hx; simp [this]))).mono ?_; rw [show (tabG false B).sameB (tabG false B) = true from TC.sameB_iff.2 rfl]; rintro _ w9 ⟨rfl, h4⟩; replace hA9 := St.call0 hA9 h4; clear h4) | (go_at_call 13; refine (overTable_any (w0 := w) (M := []) (tabG false B) r1 l1 _ rc1 _ lc1 xs1 _ (R := (.blk gl 5 (bytesV (lentB B)) :: .row (.slice r2 (tabG false B).recs.length rc2) 47 44 (tabG false B).recs.length (recsV xs2) :: .row (.slice l2 (tabG false B).lives.length lc2) 3 1 (tabG false B).lives.length (numsV (tabG false B).lives) :: rootRows 98 xs2)) (St.sub hA9 (.cons _ (.cons _ (.cons _ (.cons _ (List.Sublist.refl _)))))) (tab_L HX1.out) (by rw [← HX1.out, List.length_map]) (by have := HLR.out; omega) (by have := HLL.out; omega)).mono ?_; rintro _ w9 ⟨rfl, h4⟩; have hA10 := h4; clear h4 hA9) | (go_at_call 14; refine (kept_any ao gl B.length c B _ _ w hA10 (.head _) (Rd.old hA10 HB.out) rfl (by omega)).mono ?_; rintro _ w9 ⟨rfl, h4⟩; have hst8 := St.call0 hA10 h4; clear h4) | (go_at_call 8; refine (awake12_any _).mono ?_; rintro _ w9 ⟨rfl, h4⟩; have hst9 := St.call0 hst8 h4; clear h4))
      go_ret
      exact ⟨rfl, hst9.nil⟩
end Go.Proofs.Ytkpkaoiafppimaa
namespace Go.Proofs.Ytkpkaoiafppimaa
set_option linter.unusedVariables false
set_option linter.unusedSimpArgs false
open Go.ChangeShapes Go.WideShapes Go.ChangeAt Go.RowKit Hp
set_option maxRecDepth 100000 in
theorem recordReads_lifted (os : Os) (started : os.Started) (H : Type) (enc : TypeId × Value → H) :
    ReturnsInHanded {} Try.checked os 3 .any (Rows.recordReadsSpec.pre6 enc Try.prog Try.f3 Rows.recordReadsRow.domain false) (Rows.recordReadsSpec.post enc Try.prog Try.f3 false true false false) := by
  refine returnsInHanded_of_change (C := Try.checked) own started (by kernel_rfl) Try.func3
    (ChangeSpec.witness6 (enc := enc) (C := Try.checked) false ⟨#[], #[.slice none 0 0], []⟩ 8 (by kernel_rfl) (by kernel_rfl) (by kernel_rfl) (by kernel_rfl)) ?_
  intro W base args ds gs before hval0 hW hcnd _
  have hval : ∀ (j : Nat) t v, Try.f3.params[j]? = some t → args[j]? = some v → Value.okWide Try.prog W .any base t v := hval0
  have hW' := hW
  obtain ⟨p, q, hAA0, hV, rfl, hfz, hnd⟩ := hW
  have hA : DataW.TrodAll enc Try.prog W 0 (fun _ => true) true Try.f3.params.toList args.toList ds p := hAA0
  rw [Try.params3] at hA hval
  have hk := hA
  obtain ⟨v0, d0, rfl, rfl, h0⟩ := trodAll_one hA
  obtain ⟨rfl, rfl⟩ := trodVars_none hV
  obtain ⟨n0, h0⟩ := h0
  obtain ⟨ao0, n0, c0, bs0, rfl, hA0, hn0⟩ := open_bytes (hval 0 _ v0 rfl rfl) h0
  clear hAA0 hval0
  simp only [List.append_nil] at hW'
  refine (recordReads_law ao0 n0 c0 bs0 W hA0 hn0).mono fun e W' ⟨he, hg⟩ => ?_
  subst he
  exact ⟨_, rfl, post_of_kept (pv := []) hW' (fun _ _ _ => (trodAll_cons_mk (shut_bool Try.underlying4 _) trodAll_mk0)) (fun sp hsp => by
      rw [Try.params3]
      exact args_kept (by decide) hk hg.below (fun p hp => hW'.lt p hp) sp hsp) (fun _ _ => rfl) (by simp)
    (hg.below.frame _)⟩
theorem recordReads_over : Rows.recordReadsRow.holds Try.pinned (OpenSpec.ofChange Rows.recordReadsSpec) :=
  OpenClaim.holds_of_wide 3 Try.f3 rfl rfl rfl rfl rfl rfl rfl ⟨rfl, rfl, rfl, rfl, rfl⟩ rfl rfl rfl rfl rfl (by kernel_rfl) Try.func3 (by kernel_rfl)
    (of_decide_eq_true (by kernel_rfl)) (by unfold Func.isWrapper; first | (rw [if_pos (by decide +kernel)]; kernel_rfl) | (rw [if_neg (by decide +kernel)]; exact ⟨rfl, rfl⟩))
    (fun os started H enc _ => recordReads_lifted os started H enc)

theorem recordReads_proved : Rows.RecordReadsSaid :=
  recordReads_over
end Go.Proofs.Ytkpkaoiafppimaa
