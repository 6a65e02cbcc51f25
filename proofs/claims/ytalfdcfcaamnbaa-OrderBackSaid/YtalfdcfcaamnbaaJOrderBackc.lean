/- Numbers, texts, bytes: what was written is read as it was; what is read is written as it lay: plain data. -/
import Derived.Test.YtalfdcfcaamnbaaJOrderBackb
import Derived.Test.YtalfdcfcaamnbaaO3
import Derived.Test.YtalfdcfcaamnbaaJOrderBacka
import Derived.Test.YtalfdcfcaamnbaaF28
import Derived.Test.YtalfdcfcaamnbaaF10
namespace Go.Proofs.Ytalfdcfcaamnbaa
set_option linter.unusedVariables false
set_option linter.unusedSimpArgs false
open Go.RowKit Hp
attribute [local irreducible] Go.Calls Go.wpList
set_option maxRecDepth 100000
set_option maxHeartbeats 4000000
theorem eqlUses (b0 b1 b2 b3 b4 b5 : Bool) (w : World) : (binOp .eql 35 (.agg #[.bool b0, .bool b1, .bool b2, .bool b3, .bool b4, .bool b5]) (.agg #[.bool b0, .bool b1, .bool b2, .bool b3, .bool b4, .bool b5])).run Try.prog w = .ok (.bool true) w := by
  cases b0 <;> cases b1 <;> cases b2 <;> cases b3 <;> cases b4 <;> cases b5 <;> kernel_rfl
theorem neqUses (b0 b1 b2 b3 b4 b5 : Bool) (w : World) : (binOp .neq 35 (.agg #[.bool b0, .bool b1, .bool b2, .bool b3, .bool b4, .bool b5]) (.agg #[.bool b0, .bool b1, .bool b2, .bool b3, .bool b4, .bool b5])).run Try.prog w = .ok (.bool false) w := by
  cases b0 <;> cases b1 <;> cases b2 <;> cases b3 <;> cases b4 <;> cases b5 <;> kernel_rfl
theorem guardUses (k : BinOp) (x y : Operand) (xs ys : Array Value) (w : World) : (eqGuard k 35 x y (.agg xs) (.agg ys)).run Try.prog w = .ok () w :=
  Hp.run_eqGuard_agg (P := Try.prog) (T := 35) (by kernel_rfl) k x y xs ys
theorem wl_eqUses {ops : Array Oper} {rest : List Oper} {o : Oper} {a : Act} {w : World} {Q : Exit → Act → World → Prop} {T' : TypeId} {x y : Operand} {op : Int} (hop : o.op = .binOp .eql 35 x y T') (hw : Region.wanted o (yielded ops a.tmps) = true) (hx : a.eval x = .agg (usesC op).toArray) (hy : a.eval y = .agg (usesC op).toArray)
    (h : wpList Try.prog ops Q rest (a.put o.dst (.bool true)) w) : wpList Try.prog ops Q (o :: rest) a w := by
  refine wl_run hw ?_ h
  have e := eqlUses (us op 0) (us op 1) (us op 2) (us op 3) (us op 4) (us op 5) w
  unfold execOp
  simp only [hop, hx, hy, Sem.run_bind, guardUses, Result.andThen_ok]
  show ((binOp .eql 35 (.agg (usesC op).toArray) (.agg (usesC op).toArray)).run Try.prog w).andThen _ = _
  rw [show (binOp .eql 35 (.agg (usesC op).toArray) (.agg (usesC op).toArray)).run Try.prog w = .ok (.bool true) w from e]
  rfl
theorem wl_neqUses {ops : Array Oper} {rest : List Oper} {o : Oper} {a : Act} {w : World} {Q : Exit → Act → World → Prop} {T' : TypeId} {x y : Operand} {op : Int} (hop : o.op = .binOp .neq 35 x y T') (hw : Region.wanted o (yielded ops a.tmps) = true) (hx : a.eval x = .agg (usesC op).toArray) (hy : a.eval y = .agg (usesC op).toArray)
    (h : wpList Try.prog ops Q rest (a.put o.dst (.bool false)) w) : wpList Try.prog ops Q (o :: rest) a w := by
  refine wl_run hw ?_ h
  have e := neqUses (us op 0) (us op 1) (us op 2) (us op 3) (us op 4) (us op 5) w
  unfold execOp
  simp only [hop, hx, hy, Sem.run_bind, guardUses, Result.andThen_ok]
  show ((binOp .neq 35 (.agg (usesC op).toArray) (.agg (usesC op).toArray)).run Try.prog w).andThen _ = _
  rw [show (binOp .neq 35 (.agg (usesC op).toArray) (.agg (usesC op).toArray)).run Try.prog w = .ok (.bool false) w from e]
  rfl
instance oP2 : TyP2 Try.prog 42 := ⟨by kernel_rfl⟩
@[go_sem ↓] theorem oeqlFault (a b c d : Int) (w : World) : (binOp .eql 42 (.agg #[.int .i64 a, .int .i64 b]) (.agg #[.int .i64 c, .int .i64 d])).run Try.prog w = .ok (.bool ((a == c) && (b == d))) w := run_eql_p2 oP2 a b c d .i64 .i64 w
@[go_sem ↓] theorem oneqFault (a b c d : Int) (w : World) : (binOp .neq 42 (.agg #[.int .i64 a, .int .i64 b]) (.agg #[.int .i64 c, .int .i64 d])).run Try.prog w = .ok (.bool (!((a == c) && (b == d)))) w := run_neq_p2 oP2 a b c d .i64 .i64 w
@[go_sem ↓] theorem oguardFault (op : BinOp) (x y : Operand) (xs ys : Array Value) (w : World) : (eqGuard op 42 x y (.agg xs) (.agg ys)).run Try.prog w = .ok () w := run_guard_p2 oP2 op x y xs ys w
theorem mkB_len : mkB.length = 111 := by decide
theorem awake_any (w : World) : Calls Try.prog 10 #[] w fun e w' => e = .returned (.bool true) ∧ St w [] w' [] := by
  have hst0 := St.refl w
  go_enter Try.func10, Try.ntmps10
  go_wp2_with (first | go_big_skip | go_big_guard | (refine wl_buildX (T := 25) (cs := [.int .i64 1, .string ⟨#[97]⟩, .string ⟨#[]⟩, .int .i64 4, .int .i64 0, .slice none 0 0, .slice none 0 0]) [(0, .int .i64 1), (1, .string ⟨#[97]⟩), (3, .int .i64 4)] rfl rfl (by exact rfl) (by kernel_rfl) ?_) | (go_at_call 12; refine (oput_any mkO mkO_ok none none 0 0 0 0 _ (Rd.nil _ _) (Rd.nil _ _) rfl rfl).mono ?_; rw [mkO_put]; rintro _ w2 ⟨u, rfl, h4⟩; have hst1 : St w [] w2 ([] ++ .rowP isB u 5 1 111 (bytesV mkB) :: []) := h4; obtain ⟨g, cap, cs, rfl, hc1, hc2, hc3, hc4, _, hst⟩ := (St.openP (L1 := []) hst1).resolve_left (fun hh => absurd hh.2.1 (by decide)); have HX := hid (show (cs.drop 0).take (bytesV mkB).length = bytesV mkB by rw [List.drop_zero, length_bytesV, mkB_len]; exact hc4); have n3 : (3 : Int) ≤ (cap : Int) := (by omega); have n4 : (111 : Int) ≤ (cap : Int) := (by omega); have n5 : ¬ (cap = 100) := (by omega); have n6 : ¬ ((cap : Int) = 100) := (by omega); clear h4 hst0 hst1 hc3 hc4) | (apply wl_bsX [.int .u8 1, .int .u8 1, .int .u8 97] [.int .u8 1, .int .u8 1, .int .u8 97] hst; rfl; rfl; exact rfl; exact rfl; infer_instance; infer_instance; rfl; rfl; rfl; intro gl _ hst5; replace hst := hst5; clear hst5) | (apply wl_bsX [.int .u8 0, .int .u8 0, .int .u8 4, .int .u8 0, .int .u8 0, .int .u8 0, .int .u8 0, .int .u8 0, .int .u8 0, .int .u8 0, .int .u8 0] [.int .u8 0, .int .u8 0, .int .u8 4, .int .u8 0, .int .u8 0, .int .u8 0, .int .u8 0, .int .u8 0, .int .u8 0, .int .u8 0, .int .u8 0] hst; rfl; rfl; exact rfl; exact rfl; infer_instance; infer_instance; rfl; rfl; rfl; intro gl _ hst5; replace hst := hst5; clear hst5) | (go_at_call 14; refine (sameBytes_any _ _ 3 3 (mkB.take 3) [1, 1, 97] _ (Rd.takeN (n := 111) (by (first | exact Rd.blk hst (.head _) hc1 hc2 (by rw [length_bytesV, mkB_len]) HX.out | exact Rd.blk hst (.tail _ (.head _)) hc1 hc2 (by rw [length_bytesV, mkB_len]) HX.out | exact Rd.blk hst (.tail _ (.tail _ (.head _))) hc1 hc2 (by rw [length_bytesV, mkB_len]) HX.out)) (by decide)) (Rd.blk0 hst rfl (by decide))).mono ?_; rw [show (mkB.take 3 == [1, 1, 97]) = true from by decide]; rintro _ w9 ⟨rfl, h4⟩; replace hst := St.call0 hst h4; clear h4) | (go_at_call 14; refine (sameBytes_any _ _ 11 11 ((mkB.drop 100).take 11) [0, 0, 4, 0, 0, 0, 0, 0, 0, 0, 0] _ (Rd.win (off := 0) (n := 111) (c := cap) 100 (by (first | exact Rd.blk hst (.head _) hc1 hc2 (by rw [length_bytesV, mkB_len]) HX.out | exact Rd.blk hst (.tail _ (.head _)) hc1 hc2 (by rw [length_bytesV, mkB_len]) HX.out | exact Rd.blk hst (.tail _ (.tail _ (.head _))) hc1 hc2 (by rw [length_bytesV, mkB_len]) HX.out)) rfl (by decide) ⟨by omega, by omega⟩) (Rd.blk0 hst rfl (by decide))).mono ?_; rw [show ((mkB.drop 100).take 11 == [0, 0, 4, 0, 0, 0, 0, 0, 0, 0, 0]) = true from by decide]; rintro _ w9 ⟨rfl, h4⟩; replace hst := St.call0 hst h4; clear h4) | (go_at_call 22; refine (oget_any (some ⟨g, 0, none⟩) 111 cap mkB _ (by (first | exact Rd.blk hst (.head _) hc1 hc2 (by rw [length_bytesV, mkB_len]) HX.out | exact Rd.blk hst (.tail _ (.head _)) hc1 hc2 (by rw [length_bytesV, mkB_len]) HX.out | exact Rd.blk hst (.tail _ (.tail _ (.head _))) hc1 hc2 (by rw [length_bytesV, mkB_len]) HX.out)) mkB_len (by decide)).mono ?_; rw [mkB_get]; rintro _ w11 ⟨lv, bv, rfl, h4⟩; have hst6 := St.call hst h4; clear h4 hst; obtain ⟨al, cl, rfl⟩ := St.rowPSliceF [] hst6; obtain ⟨ab, cb, rfl⟩ := St.rowPSliceF [_] hst6) | (refine wl_alloc (T := 25) hst6 rfl rfl ?_; intro g3 _ hst7; clear hst6) | (refine wl_alloc (T := 42) hst7 rfl rfl ?_; intro g4 _ hst8; clear hst7) | (refine wl_storeA (T := 25) (vs := [.int .i64 1, .string ⟨#[97]⟩, .string ⟨#[]⟩, .int .i64 4, .int .i64 0, .slice al 0 cl, .slice ab 0 cb]) [_] hst8 rfl rfl (by kernel_rfl) (by kernel_rfl) rfl rfl rfl ?_; intro w21 hst9; clear hst8) | (refine wl_storeA (T := 42) (vs := [.int .i64 0, .int .i64 0]) [] hst9 rfl rfl (by kernel_rfl) (by kernel_rfl) rfl rfl rfl ?_; intro w22 hst10; clear hst9) | (refine wl_loadE rfl rfl rfl ?_; first | refine ⟨_, Loads.at [_] hst10 rfl, ?_⟩ | refine ⟨_, Loads.at [] hst10 rfl, ?_⟩) | (go_at_call 17; refine (uses_any 11 _).mono ?_; rintro _ w23 ⟨rfl, h4⟩; have hst11 := St.call0 hst10 h4; clear h4 hst10) | (refine wl_buildX (T := 35) (cs := usesC 11) [(4, .bool true)] rfl rfl (by exact rfl) (by kernel_rfl) ?_) | (refine wl_eqUses (op := 11) rfl rfl (by kernel_rfl) (by kernel_rfl) ?_))
  go_ret
  exact ⟨rfl, hst11.nil⟩
end Go.Proofs.Ytalfdcfcaamnbaa
namespace Go.Proofs.Ytalfdcfcaamnbaa
set_option linter.unusedVariables false
set_option linter.unusedSimpArgs false
open Go.RowKit Hp
attribute [local irreducible] Go.Calls Go.wpList
set_option maxRecDepth 100000
set_option maxHeartbeats 4000000
/-- A reply. -/
structure RV where
  (err : Int)
  (n : List Int)
  (b : List UInt8)
def RV.cells (r : RV) (nv bv : Value) : List Value := [.int .i64 r.err, nv, bv]
def oddW (z : Int) : Bool := decide (z < 0) || decide (1099511627775 < z)
def RV.fine (r : RV) : Bool := if r.err < 0 ∨ 999 < r.err ∨ 2000 < r.n.length ∨ 16384 < r.b.length ∨ r.n.any oddW = true then false else if r.err = 0 then true else decide ((r.n.length : Int) + (r.b.length : Int) = 0)
theorem oddW_any (z : Int) (w : World) : Calls Try.prog 67 #[.int .i64 z] w fun e w' => e = .returned (.bool (oddW z)) ∧ St w [] w' [] := by
  have hst := St.refl w
  unfold oddW
  by_cases h1 : z < 0
  · have d1 : decide (z < 0) = true := decide_eq_true h1
    rw [d1]
    clear h1
    go_enter Try.func67, Try.ntmps67
    go_wp2_with (first | go_big_skip | go_big_guard | fail)
    go_ret
    exact ⟨rfl, hst⟩
  · have d1 : decide (z < 0) = false := decide_eq_false h1
    rw [d1]
    clear h1
    go_enter Try.func67, Try.ntmps67
    go_wp2_with (first | go_big_skip | go_big_guard | fail)
    go_ret
    exact ⟨by rw [Bool.false_or]; rfl, hst⟩
theorem fine_any (r : RV) (an ab : Option Addr) (nn cn nb cb : Nat) (w : World) (hN : Rd w (.slice an nn cn) 1 nn (intsV r.n)) (hnn : r.n.length = nn) (hnb : r.b.length = nb) :
    Calls Try.prog 50 #[.agg (r.cells (.slice an nn cn) (.slice ab nb cb)).toArray] w fun e w' => e = .returned (.bool r.fine) ∧ St w [] w' [] := by
  have hst0 := St.refl w
  have HN := hid hN
  have HL := hid hnn
  have hF : r.fine = if r.err < 0 ∨ 999 < r.err ∨ 2000 < nn ∨ 16384 < nb ∨ r.n.any oddW = true then false else if r.err = 0 then true else decide ((nn : Int) + (nb : Int) = 0) := by unfold RV.fine; rw [hnn, hnb]
  show Calls Try.prog 50 #[.agg (List.toArray [.int .i64 r.err, .slice an nn cn, .slice ab nb cb])] w _
  clear hN hnn hnb
  by_cases c1 : r.err < 0
  · have hE : r.fine = false := by rw [hF]; exact if_pos (by omega)
    have d1 : decide (r.err < 0) = true := decide_eq_true (by omega)
    rw [hE]
    clear hE hF c1
    go_enter Try.func50, Try.ntmps50
    go_wp2_with (first | go_big_skip | go_big_guard | (refine wl_boxA hst0 rfl rfl rfl ?_; intro g1 _ hst; clear hst0) | (refine wl_loadE rfl rfl rfl ?_; first | refine ⟨_, Loads.at [] hst rfl, ?_⟩))
    go_ret
    exact ⟨rfl, hst.nil⟩
  by_cases c2 : 999 < r.err
  · have hE : r.fine = false := by rw [hF]; exact if_pos (by omega)
    have d1 : decide (r.err < 0) = false := decide_eq_false (by omega)
    have d2 : decide (999 < r.err) = true := decide_eq_true (by omega)
    rw [hE]
    clear hE hF c1 c2
    go_enter Try.func50, Try.ntmps50
    go_wp2_with (first | go_big_skip | go_big_guard | (refine wl_boxA hst0 rfl rfl rfl ?_; intro g1 _ hst; clear hst0) | (refine wl_loadE rfl rfl rfl ?_; first | refine ⟨_, Loads.at [] hst rfl, ?_⟩))
    go_ret
    exact ⟨rfl, hst.nil⟩
  by_cases c3 : 2000 < nn
  · have hE : r.fine = false := by rw [hF]; exact if_pos (by omega)
    have d1 : decide (r.err < 0) = false := decide_eq_false (by omega)
    have d2 : decide (999 < r.err) = false := decide_eq_false (by omega)
    have d3 : decide ((2000 : Int) < (nn : Int)) = true := decide_eq_true (by omega)
    rw [hE]
    clear hE hF c1 c2 c3
    go_enter Try.func50, Try.ntmps50
    go_wp2_with (first | go_big_skip | go_big_guard | (refine wl_boxA hst0 rfl rfl rfl ?_; intro g1 _ hst; clear hst0) | (refine wl_loadE rfl rfl rfl ?_; first | refine ⟨_, Loads.at [] hst rfl, ?_⟩))
    go_ret
    exact ⟨rfl, hst.nil⟩
  by_cases c4 : 16384 < nb
  · have hE : r.fine = false := by rw [hF]; exact if_pos (by omega)
    have d1 : decide (r.err < 0) = false := decide_eq_false (by omega)
    have d2 : decide (999 < r.err) = false := decide_eq_false (by omega)
    have d3 : decide ((2000 : Int) < (nn : Int)) = false := decide_eq_false (by omega)
    have d4 : decide ((16384 : Int) < (nb : Int)) = true := decide_eq_true (by omega)
    rw [hE]
    clear hE hF c1 c2 c3 c4
    go_enter Try.func50, Try.ntmps50
    go_wp2_with (first | go_big_skip | go_big_guard | (refine wl_boxA hst0 rfl rfl rfl ?_; intro g1 _ hst; clear hst0) | (refine wl_loadE rfl rfl rfl ?_; first | refine ⟨_, Loads.at [] hst rfl, ?_⟩))
    go_ret
    exact ⟨rfl, hst.nil⟩
  have d1 : decide (r.err < 0) = false := decide_eq_false (by omega)
  have d2 : decide (999 < r.err) = false := decide_eq_false (by omega)
  have d3 : decide ((2000 : Int) < (nn : Int)) = false := decide_eq_false (by omega)
  have d4 : decide ((16384 : Int) < (nb : Int)) = false := decide_eq_false (by omega)
  have hb1 : nn ≤ 2000 := by omega
  have hb2 : nb ≤ 16384 := by omega
  have z1 : IntKind.i64.wrap ((nn : Int) + (nb : Int)) = (nn : Int) + (nb : Int) := IntWalk.i64_in _ (by omega)
  by_cases c5 : r.n.any oddW = true
  · have hE : r.fine = false := by rw [hF]; exact if_pos (.inr (.inr (.inr (.inr c5))))
    have HA := hid c5
    rw [hE]
    clear hE hF c1 c2 c3 c4 c5
    go_enter Try.func50, Try.ntmps50
    go_wp2_with (first | go_big_skip | go_big_guard | (refine wl_boxA hst0 rfl rfl rfl ?_; intro g1 _ hst; clear hst0) | (refine wl_loadE rfl rfl rfl ?_; first | refine ⟨_, Loads.at [] hst rfl, ?_⟩) | (go_at_call 68; refine (containsI_any (w0 := w) (M := []) (L := []) 67 oddW an nn cn r.n _ (fun _ _ => rfl) (fun x w _ => oddW_any x w) (Rd.old hst HN.out) HL.out (by omega)).mono ?_; rw [HA.out]; rintro _ w9 ⟨rfl, h4⟩; replace hst := St.call0 hst h4; clear h4))
    go_ret
    exact ⟨rfl, hst.nil⟩
  have HA := hid (Bool.eq_false_iff.2 c5)
  rw [if_neg (by rintro (h | h | h | h | h); exact c1 h; exact c2 h; exact c3 h; exact c4 h; exact c5 h)] at hF
  by_cases c6 : r.err = 0
  · have d6 : (r.err != 0) = false := by simpa using c6
    rw [if_pos c6] at hF
    rw [hF]
    clear hF c1 c2 c3 c4 c5 c6
    go_enter Try.func50, Try.ntmps50
    go_wp2_with (first | go_big_skip | go_big_guard | (refine wl_boxA hst0 rfl rfl rfl ?_; intro g1 _ hst; clear hst0) | (refine wl_loadE rfl rfl rfl ?_; first | refine ⟨_, Loads.at [] hst rfl, ?_⟩) | (go_at_call 68; refine (containsI_any (w0 := w) (M := []) (L := []) 67 oddW an nn cn r.n _ (fun _ _ => rfl) (fun x w _ => oddW_any x w) (Rd.old hst HN.out) HL.out (by omega)).mono ?_; rw [HA.out]; rintro _ w9 ⟨rfl, h4⟩; replace hst := St.call0 hst h4; clear h4))
    go_ret
    exact ⟨rfl, hst.nil⟩
  · have d6 : (r.err != 0) = true := by simpa using c6
    rw [if_neg c6] at hF
    have e7 : decide ((nn : Int) + (nb : Int) = 0) = ((nn : Int) + (nb : Int) == 0) := rfl
    rw [hF, e7]
    clear hF c1 c2 c3 c4 c5 c6 e7
    go_enter Try.func50, Try.ntmps50
    go_wp2_with (first | go_big_skip | go_big_guard | (refine wl_boxA hst0 rfl rfl rfl ?_; intro g1 _ hst; clear hst0) | (refine wl_loadE rfl rfl rfl ?_; first | refine ⟨_, Loads.at [] hst rfl, ?_⟩) | (go_at_call 68; refine (containsI_any (w0 := w) (M := []) (L := []) 67 oddW an nn cn r.n _ (fun _ _ => rfl) (fun x w _ => oddW_any x w) (Rd.old hst HN.out) HL.out (by omega)).mono ?_; rw [HA.out]; rintro _ w9 ⟨rfl, h4⟩; replace hst := St.call0 hst h4; clear h4))
    go_ret
    exact ⟨rfl, hst.nil⟩
theorem qfine_any (r : RV) (an ab : Option Addr) (nn cn nb cb : Nat) (w : World) (hN : Rd w (.slice an nn cn) 1 nn (intsV r.n)) (hnn : r.n.length = nn) (hnb : r.b.length = nb) :
    Calls Try.prog 52 #[.agg (r.cells (.slice an nn cn) (.slice ab nb cb)).toArray] w fun e w' => e = .returned (.bool r.fine) ∧ St w [] w' [] := by
  have hst0 := St.refl w
  have HN := hid hN
  have HL := hid hnn
  have hF : r.fine = if r.err < 0 ∨ 999 < r.err ∨ 2000 < nn ∨ 16384 < nb ∨ r.n.any oddW = true then false else if r.err = 0 then true else decide ((nn : Int) + (nb : Int) = 0) := by unfold RV.fine; rw [hnn, hnb]
  show Calls Try.prog 52 #[.agg (List.toArray [.int .i64 r.err, .slice an nn cn, .slice ab nb cb])] w _
  clear hN hnn hnb
  by_cases c1 : r.err < 0
  · have hE : r.fine = false := by rw [hF]; exact if_pos (by omega)
    have d1 : decide (r.err < 0) = true := decide_eq_true (by omega)
    rw [hE]
    clear hE hF c1
    go_enter Try.func52, Try.ntmps52
    go_wp2_with (first | go_big_skip | go_big_guard | (refine wl_boxA hst0 rfl rfl rfl ?_; intro g1 _ hst; clear hst0) | (refine wl_loadE rfl rfl rfl ?_; first | refine ⟨_, Loads.at [] hst rfl, ?_⟩))
    go_ret
    exact ⟨rfl, hst.nil⟩
  by_cases c2 : 999 < r.err
  · have hE : r.fine = false := by rw [hF]; exact if_pos (by omega)
    have d1 : decide (r.err < 0) = false := decide_eq_false (by omega)
    have d2 : decide (999 < r.err) = true := decide_eq_true (by omega)
    rw [hE]
    clear hE hF c1 c2
    go_enter Try.func52, Try.ntmps52
    go_wp2_with (first | go_big_skip | go_big_guard | (refine wl_boxA hst0 rfl rfl rfl ?_; intro g1 _ hst; clear hst0) | (refine wl_loadE rfl rfl rfl ?_; first | refine ⟨_, Loads.at [] hst rfl, ?_⟩))
    go_ret
    exact ⟨rfl, hst.nil⟩
  by_cases c3 : 2000 < nn
  · have hE : r.fine = false := by rw [hF]; exact if_pos (by omega)
    have d1 : decide (r.err < 0) = false := decide_eq_false (by omega)
    have d2 : decide (999 < r.err) = false := decide_eq_false (by omega)
    have d3 : decide ((2000 : Int) < (nn : Int)) = true := decide_eq_true (by omega)
    rw [hE]
    clear hE hF c1 c2 c3
    go_enter Try.func52, Try.ntmps52
    go_wp2_with (first | go_big_skip | go_big_guard | (refine wl_boxA hst0 rfl rfl rfl ?_; intro g1 _ hst; clear hst0) | (refine wl_loadE rfl rfl rfl ?_; first | refine ⟨_, Loads.at [] hst rfl, ?_⟩))
    go_ret
    exact ⟨rfl, hst.nil⟩
  by_cases c4 : 16384 < nb
  · have hE : r.fine = false := by rw [hF]; exact if_pos (by omega)
    have d1 : decide (r.err < 0) = false := decide_eq_false (by omega)
    have d2 : decide (999 < r.err) = false := decide_eq_false (by omega)
    have d3 : decide ((2000 : Int) < (nn : Int)) = false := decide_eq_false (by omega)
    have d4 : decide ((16384 : Int) < (nb : Int)) = true := decide_eq_true (by omega)
    rw [hE]
    clear hE hF c1 c2 c3 c4
    go_enter Try.func52, Try.ntmps52
    go_wp2_with (first | go_big_skip | go_big_guard | (refine wl_boxA hst0 rfl rfl rfl ?_; intro g1 _ hst; clear hst0) | (refine wl_loadE rfl rfl rfl ?_; first | refine ⟨_, Loads.at [] hst rfl, ?_⟩))
    go_ret
    exact ⟨rfl, hst.nil⟩
  have d1 : decide (r.err < 0) = false := decide_eq_false (by omega)
  have d2 : decide (999 < r.err) = false := decide_eq_false (by omega)
  have d3 : decide ((2000 : Int) < (nn : Int)) = false := decide_eq_false (by omega)
  have d4 : decide ((16384 : Int) < (nb : Int)) = false := decide_eq_false (by omega)
  have hb1 : nn ≤ 2000 := by omega
  have hb2 : nb ≤ 16384 := by omega
  have z1 : IntKind.i64.wrap ((nn : Int) + (nb : Int)) = (nn : Int) + (nb : Int) := IntWalk.i64_in _ (by omega)
  by_cases c5 : r.err ≠ 0 ∧ 0 < nn + nb
  · have hE : r.fine = false := by
      rw [hF]
      split
      · rfl
      · rw [if_neg c5.1]
        exact decide_eq_false (by omega)
    have d5 : (r.err != 0) = true := by simpa using c5.1
    have d6 : decide ((0 : Int) < (nn : Int) + (nb : Int)) = true := decide_eq_true (by omega)
    rw [hE]
    clear hE hF c1 c2 c3 c4 c5
    go_enter Try.func52, Try.ntmps52
    go_wp2_with (first | go_big_skip | go_big_guard | (refine wl_boxA hst0 rfl rfl rfl ?_; intro g1 _ hst; clear hst0) | (refine wl_loadE rfl rfl rfl ?_; first | refine ⟨_, Loads.at [] hst rfl, ?_⟩))
    go_ret
    exact ⟨rfl, hst.nil⟩
  have hG : r.fine = !(r.n.any oddW) := by
    rw [hF]
    cases ha : r.n.any oddW
    · rw [if_neg (by rintro (h | h | h | h | h); exact c1 h; exact c2 h; exact c3 h; exact c4 h; exact Bool.false_ne_true h)]
      by_cases c6 : r.err = 0
      · rw [if_pos c6]; rfl
      · rw [if_neg c6]
        exact decide_eq_true (by omega)
    · rw [if_pos (.inr (.inr (.inr (.inr rfl))))]; rfl
  have HG := hid hG
  obtain ⟨R, hR⟩ : ∃ R, R = r.fine := ⟨_, rfl⟩
  have HR := hid hR
  rw [← hR]
  by_cases c6 : r.err = 0
  · have d5 : (r.err != 0) = false := by simpa using c6
    clear hF hG hR c1 c2 c3 c4 c5 c6
    go_enter Try.func52, Try.ntmps52
    go_wp2_with (first | go_big_skip | go_big_guard | (refine wl_boxA hst0 rfl rfl rfl ?_; intro g1 _ hst; clear hst0) | (refine wl_loadE rfl rfl rfl ?_; first | refine ⟨_, Loads.at [] hst rfl, ?_⟩))
    go_loopw [3] (fun i wr => ∃ j : Nat, j ≤ nn ∧ i = .int .i64 (j : Int) ∧ St w [] wr [.blk g1 49 [.int .i64 r.err, .slice an nn cn, .slice ab nb cb]] ∧ Hid (∀ x ∈ r.n.take j, oddW x = false)) (fun i _ => nn - (intOf i).toNat)
    case atStart => exact ⟨0, Nat.zero_le _, rfl, hst, hid (by simp)⟩
    case round =>
      clear hst
      obtain ⟨j, hj, rfl, hst, HP⟩ := hrel
      by_cases hlt : j < nn
      · have d7 : decide ((j : Int) < (nn : Int)) = true := decide_eq_true (by omega)
        have z2 : IntKind.i64.wrap ((j : Int) + 1) = (j : Int) + 1 := IntWalk.i64_in _ (by omega)
        have hjl : j < r.n.length := by rw [HL.out]; exact hlt
        obtain ⟨x, hx⟩ : ∃ x, r.n[j]? = some x := ⟨_, List.getElem?_eq_getElem hjl⟩
        have HX := hid hx
        obtain ⟨b, off, rfl, hr⟩ := Rd.at HN.out hlt
        have hcell := hid (show w.cell? ⟨b, off + j, none⟩ = some (.int .i64 x) from hr j _ (intsV_get hx))
        clear hx hr hjl
        by_cases k1 : x < 0
        · have d8 : decide (x < 0) = true := decide_eq_true k1
          have HO := hid (show oddW x = true by unfold oddW; rw [d8]; rfl)
          clear k1
          go_wp2_with (first | go_big_skip | go_big_guard | (refine wl_index rfl rfl rfl rfl hlt ?_) | (refine wl_loadE rfl rfl rfl ?_; first | refine ⟨_, Loads.at [] hst rfl, ?_⟩ | refine ⟨_, Loads.old hst (by rw [Nat.mul_one]; exact hcell.out), ?_⟩))
          go_ret
          refine ⟨congrArg (fun z => Ending.returned (Value.bool z)) (?_ : (_ : Bool) = R), hst.nil⟩
          rw [HR.out, HG.out, List.any_eq_true.2 ⟨x, List.mem_of_getElem? HX.out, HO.out⟩]
          rfl
        have d8 : decide (x < 0) = false := decide_eq_false k1
        by_cases k2 : 1099511627775 < x
        · have d9 : decide (1099511627775 < x) = true := decide_eq_true k2
          have HO := hid (show oddW x = true by unfold oddW; rw [d9, Bool.or_true])
          clear k1 k2
          go_wp2_with (first | go_big_skip | go_big_guard | (refine wl_index rfl rfl rfl rfl hlt ?_) | (refine wl_loadE rfl rfl rfl ?_; first | refine ⟨_, Loads.at [] hst rfl, ?_⟩ | refine ⟨_, Loads.old hst (by rw [Nat.mul_one]; exact hcell.out), ?_⟩))
          go_ret
          refine ⟨congrArg (fun z => Ending.returned (Value.bool z)) (?_ : (_ : Bool) = R), hst.nil⟩
          rw [HR.out, HG.out, List.any_eq_true.2 ⟨x, List.mem_of_getElem? HX.out, HO.out⟩]
          rfl
        · have d9 : decide (1099511627775 < x) = false := decide_eq_false k2
          have HO := hid (show oddW x = false by unfold oddW; rw [d8, d9]; rfl)
          clear k1 k2
          go_wp2_with (first | go_big_skip | go_big_guard | (refine wl_index rfl rfl rfl rfl hlt ?_) | (refine wl_loadE rfl rfl rfl ?_; first | refine ⟨_, Loads.at [] hst rfl, ?_⟩ | refine ⟨_, Loads.old hst (by rw [Nat.mul_one]; exact hcell.out), ?_⟩))
          go_roundw
          case rel =>
            refine ⟨j + 1, by omega, rfl, hst, hid (fun y hy => ?_)⟩
            rw [List.take_add_one, HX.out] at hy
            rcases List.mem_append.1 hy with hy | hy
            · exact HP.out y hy
            · simp at hy
              rw [hy, HO.out]
          case measure => simp [intOf]; omega
      · have hjn : j = nn := by omega
        have d7 : decide ((j : Int) < (nn : Int)) = false := decide_eq_false (by omega)
        have hany : r.n.any oddW = false := by
          rw [List.any_eq_false]
          intro x hx
          rw [HP.out x (by rw [List.take_of_length_le (by rw [HL.out]; omega)]; exact hx)]
          exact Bool.false_ne_true
        have HY := hid hany
        clear hany hjn
        go_wp2_with (first | go_big_skip | go_big_guard | (refine wl_loadE rfl rfl rfl ?_; refine ⟨_, Loads.at [] hst rfl, ?_⟩))
        go_ret
        refine ⟨congrArg (fun z => Ending.returned (Value.bool z)) (?_ : (_ : Bool) = R), hst.nil⟩
        rw [HR.out, HG.out, HY.out]
        rfl
  · have d5 : (r.err != 0) = true := by simpa using c6
    have d6 : decide ((0 : Int) < (nn : Int) + (nb : Int)) = false := decide_eq_false (by omega)
    clear hF hG hR c1 c2 c3 c4 c5 c6
    go_enter Try.func52, Try.ntmps52
    go_wp2_with (first | go_big_skip | go_big_guard | (refine wl_boxA hst0 rfl rfl rfl ?_; intro g1 _ hst; clear hst0) | (refine wl_loadE rfl rfl rfl ?_; first | refine ⟨_, Loads.at [] hst rfl, ?_⟩))
    go_loopw [3] (fun i wr => ∃ j : Nat, j ≤ nn ∧ i = .int .i64 (j : Int) ∧ St w [] wr [.blk g1 49 [.int .i64 r.err, .slice an nn cn, .slice ab nb cb]] ∧ Hid (∀ x ∈ r.n.take j, oddW x = false)) (fun i _ => nn - (intOf i).toNat)
    case atStart => exact ⟨0, Nat.zero_le _, rfl, hst, hid (by simp)⟩
    case round =>
      clear hst
      obtain ⟨j, hj, rfl, hst, HP⟩ := hrel
      by_cases hlt : j < nn
      · have d7 : decide ((j : Int) < (nn : Int)) = true := decide_eq_true (by omega)
        have z2 : IntKind.i64.wrap ((j : Int) + 1) = (j : Int) + 1 := IntWalk.i64_in _ (by omega)
        have hjl : j < r.n.length := by rw [HL.out]; exact hlt
        obtain ⟨x, hx⟩ : ∃ x, r.n[j]? = some x := ⟨_, List.getElem?_eq_getElem hjl⟩
        have HX := hid hx
        obtain ⟨b, off, rfl, hr⟩ := Rd.at HN.out hlt
        have hcell := hid (show w.cell? ⟨b, off + j, none⟩ = some (.int .i64 x) from hr j _ (intsV_get hx))
        clear hx hr hjl
        by_cases k1 : x < 0
        · have d8 : decide (x < 0) = true := decide_eq_true k1
          have HO := hid (show oddW x = true by unfold oddW; rw [d8]; rfl)
          clear k1
          go_wp2_with (first | go_big_skip | go_big_guard | (refine wl_index rfl rfl rfl rfl hlt ?_) | (refine wl_loadE rfl rfl rfl ?_; first | refine ⟨_, Loads.at [] hst rfl, ?_⟩ | refine ⟨_, Loads.old hst (by rw [Nat.mul_one]; exact hcell.out), ?_⟩))
          go_ret
          refine ⟨congrArg (fun z => Ending.returned (Value.bool z)) (?_ : (_ : Bool) = R), hst.nil⟩
          rw [HR.out, HG.out, List.any_eq_true.2 ⟨x, List.mem_of_getElem? HX.out, HO.out⟩]
          rfl
        have d8 : decide (x < 0) = false := decide_eq_false k1
        by_cases k2 : 1099511627775 < x
        · have d9 : decide (1099511627775 < x) = true := decide_eq_true k2
          have HO := hid (show oddW x = true by unfold oddW; rw [d9, Bool.or_true])
          clear k1 k2
          go_wp2_with (first | go_big_skip | go_big_guard | (refine wl_index rfl rfl rfl rfl hlt ?_) | (refine wl_loadE rfl rfl rfl ?_; first | refine ⟨_, Loads.at [] hst rfl, ?_⟩ | refine ⟨_, Loads.old hst (by rw [Nat.mul_one]; exact hcell.out), ?_⟩))
          go_ret
          refine ⟨congrArg (fun z => Ending.returned (Value.bool z)) (?_ : (_ : Bool) = R), hst.nil⟩
          rw [HR.out, HG.out, List.any_eq_true.2 ⟨x, List.mem_of_getElem? HX.out, HO.out⟩]
          rfl
        · have d9 : decide (1099511627775 < x) = false := decide_eq_false k2
          have HO := hid (show oddW x = false by unfold oddW; rw [d8, d9]; rfl)
          clear k1 k2
          go_wp2_with (first | go_big_skip | go_big_guard | (refine wl_index rfl rfl rfl rfl hlt ?_) | (refine wl_loadE rfl rfl rfl ?_; first | refine ⟨_, Loads.at [] hst rfl, ?_⟩ | refine ⟨_, Loads.old hst (by rw [Nat.mul_one]; exact hcell.out), ?_⟩))
          go_roundw
          case rel =>
            refine ⟨j + 1, by omega, rfl, hst, hid (fun y hy => ?_)⟩
            rw [List.take_add_one, HX.out] at hy
            rcases List.mem_append.1 hy with hy | hy
            · exact HP.out y hy
            · simp at hy
              rw [hy, HO.out]
          case measure => simp [intOf]; omega
      · have hjn : j = nn := by omega
        have d7 : decide ((j : Int) < (nn : Int)) = false := decide_eq_false (by omega)
        have hany : r.n.any oddW = false := by
          rw [List.any_eq_false]
          intro x hx
          rw [HP.out x (by rw [List.take_of_length_le (by rw [HL.out]; omega)]; exact hx)]
          exact Bool.false_ne_true
        have HY := hid hany
        clear hany hjn
        go_wp2_with (first | go_big_skip | go_big_guard | (refine wl_loadE rfl rfl rfl ?_; refine ⟨_, Loads.at [] hst rfl, ?_⟩))
        go_ret
        refine ⟨congrArg (fun z => Ending.returned (Value.bool z)) (?_ : (_ : Bool) = R), hst.nil⟩
        rw [HR.out, HG.out, HY.out]
        rfl
end Go.Proofs.Ytalfdcfcaamnbaa
namespace Go.Proofs.Ytalfdcfcaamnbaa
set_option linter.unusedVariables false
set_option linter.unusedSimpArgs false
open Go.RowKit Hp
attribute [local irreducible] Go.Calls Go.wpList
set_option maxRecDepth 100000
set_option maxHeartbeats 4000000
/-- What a reply's fields write, one behind the other. -/
def repF (r : RV) : List (WR → WR) := [fun s => putW s (numR r.err 2), fun s => putAll (putW s (numR (r.n.length : Int) 2)) (r.n.map fun t => numR t 5), fun s => putW (putW s (numR (r.b.length : Int) 3)) (0, r.b)]
def putR (r : RV) : WR := if r.fine = true then goAll (0, []) (repF r) else (2, [])
/-- A reply that the walk can take. -/
structure RV.Ok (r : RV) : Prop where
  err : -9223372036854775808 ≤ r.err ∧ r.err ≤ 9223372036854775807
  ln : r.n.length ≤ 1000000
  lt : ∀ t ∈ r.n, -9223372036854775808 ≤ t ∧ t ≤ 9223372036854775807
  bn : r.b.length ≤ 100000
theorem repF_len (r : RV) : ∀ f ∈ repF r, ∀ s : WR, s.2.length ≤ 65536 → (f s).2.length ≤ 65536 := by
  intro f hf s hs
  unfold repF at hf
  simp only [List.mem_cons, List.not_mem_nil, or_false] at hf
  rcases hf with rfl | rfl | rfl
  · exact putW_len hs
  · exact putAll_len (putW_len hs)
  · exact putW_len (putW_len hs)
theorem replies_ok {w0 w : World} {M : List Nat} {L : List HA} {r : RV} (ok : r.Ok) {an ab : Option Addr} {nn cn nb cb gp go ge : Nat} {n0 z0 l0 h0 n1 z1 m1 f1 n2 : Nat}
    (h : St w0 M w ((.blk gp 89 (partsC (repliesPs n0 z0 l0 h0 n1 z1 m1 f1 n2)) :: repliesBoxes go ge n0 z0 l0 h0 n1 z1 m1 f1 n2) ++ .blk ge 3 [.int .i64 r.err] :: .blk go 49 [.int .i64 r.err, .slice an nn cn, .slice ab nb cb] :: L))
    (hl : Rd w (.slice an nn cn) 1 nn (intsV r.n)) (hb : Rd w (.slice ab nb cb) 1 nb (bytesV r.b)) (hnn : r.n.length = nn) (hnb : r.b.length = nb) :
    ∀ (k : Nat) (p : PartV) (f : WR → WR), (repliesPs n0 z0 l0 h0 n1 z1 m1 f1 n2)[k]? = some p → (repF r)[k]? = some f → PutOk w p.pf p.pc f := by
  unfold repliesBoxes at h
  intro k p f hp hf
  match k, hp, hf with
  | 0, hp, hf => cases hp; cases hf; exact num1_put (h.cell (off := 0) (.tail _ (.tail _ (.tail _ (.tail _ (.tail _ (.tail _ (.tail _ (.tail _ (.tail _ (.head _)))))))))) rfl) (h.cell (off := 0) (.tail _ (.tail _ (.tail _ (.tail _ (.tail _ (.tail _ (.tail _ (.tail _ (.head _))))))))) rfl) (h.cell (off := 0) (.tail _ (.tail _ (.tail _ (.tail _ (.tail _ (.tail _ (.tail _ (.tail _ (.tail _ (.tail _ (.head _))))))))))) rfl) (by decide) ok.err
  | 1, hp, hf => cases hp; cases hf; subst hnn; exact listI_put (h.cell (off := 0) (.tail _ (.tail _ (.tail _ (.tail _ (.tail _ (.head _)))))) rfl) (h.cell (off := 0) (.tail _ (.tail _ (.tail _ (.tail _ (.head _))))) rfl) (h.cell (off := 0) (.tail _ (.tail _ (.head _))) rfl) (h.cell (off := 1) (.tail _ (.tail _ (.tail _ (.tail _ (.tail _ (.tail _ (.tail _ (.tail _ (.tail _ (.tail _ (.tail _ (.head _)))))))))))) rfl) hl rfl ok.ln ok.lt (by decide)
  | 2, hp, hf => cases hp; cases hf; subst hnb; exact raw1_put (h.cell (off := 0) (.tail _ (.head _)) rfl) (h.cell (off := 2) (.tail _ (.tail _ (.tail _ (.tail _ (.tail _ (.tail _ (.tail _ (.tail _ (.tail _ (.tail _ (.tail _ (.head _)))))))))))) rfl) hb rfl ok.bn
  | k + 3, hp, _ => simp [repliesPs] at hp
theorem replies_fn {n0 z0 l0 h0 n1 z1 m1 f1 n2 : Nat} : ∀ p ∈ repliesPs n0 z0 l0 h0 n1 z1 m1 f1 n2, ∀ (a : Array Value) (w : World), (callFunc p.pf a).run Try.prog w = .ok (.enter p.pf a) w := by
  intro p hp a w
  unfold repliesPs at hp
  simp only [List.mem_cons, List.not_mem_nil, or_false] at hp
  rcases hp with rfl | rfl | rfl <;> rfl
theorem oputR_bad (r : RV) (ok : r.Ok) (an ab : Option Addr) (nn cn nb cb : Nat) (w : World) (hl : Rd w (.slice an nn cn) 1 nn (intsV r.n)) (hb : Rd w (.slice ab nb cb) 1 nb (bytesV r.b)) (hnn : r.n.length = nn) (hnb : r.b.length = nb) (h0 : r.fine = false) :
    Calls Try.prog 27 #[.agg (r.cells (.slice an nn cn) (.slice ab nb cb)).toArray] w (OutP w (putR r)) := by
  have hst0 := St.refl w
  have HL := hid hl
  have HB := hid hb
  have HNL := hid hnn
  have HNB := hid hnb
  obtain ⟨R, hR⟩ : ∃ R, R = putR r := ⟨_, rfl⟩
  have HR := hid hR
  rw [← hR]
  have H0 := hid h0
  clear hl hb hnn hnb hR h0
  show Calls Try.prog 27 #[.agg (List.toArray [.int .i64 r.err, .slice an nn cn, .slice ab nb cb])] w _
  go_enter Try.func27, Try.ntmps27
  go_wp2_with (first | go_big_skip | go_big_guard | (refine wl_boxA hst0 rfl rfl rfl ?_; intro g1 _ hst1; clear hst0) | (refine wl_loadE rfl rfl rfl ?_; first | refine ⟨_, Loads.whole (T := 49) [] hst1 rfl, ?_⟩ | refine ⟨_, Loads.at [] hst2 rfl, ?_⟩) | (go_at_call 50; refine (fine_any r an ab nn cn nb cb _ (Rd.old hst1 HL.out) HNL.out HNB.out).mono ?_; rw [H0.out]; rintro _ w9 ⟨rfl, h4⟩; have hst2 := St.call0 hst1 h4; clear h4 hst1))
  go_ret2
  have e : R = (2, []) := by rw [HR.out]; unfold putR; rw [if_neg (by rw [H0.out]; exact Bool.false_ne_true)]
  refine ⟨.slice none 0 0, by rw [e]; rfl, ?_⟩
  rw [e, show outW (2, []) = [] from rfl]
  exact St.nilPQ isB _ 1 hst2.nil
theorem oputR_ok (r : RV) (ok : r.Ok) (an ab : Option Addr) (nn cn nb cb : Nat) (w : World) (hl : Rd w (.slice an nn cn) 1 nn (intsV r.n)) (hb : Rd w (.slice ab nb cb) 1 nb (bytesV r.b)) (hnn : r.n.length = nn) (hnb : r.b.length = nb) (h0 : r.fine = true) :
    Calls Try.prog 27 #[.agg (r.cells (.slice an nn cn) (.slice ab nb cb)).toArray] w (OutP w (putR r)) := by
  have hst0 := St.refl w
  have HL := hid hl
  have HB := hid hb
  have HNL := hid hnn
  have HNB := hid hnb
  obtain ⟨R, hR⟩ : ∃ R, R = putR r := ⟨_, rfl⟩
  have HR := hid hR
  rw [← hR]
  have H0 := hid h0
  clear hl hb hnn hnb hR h0
  show Calls Try.prog 27 #[.agg (List.toArray [.int .i64 r.err, .slice an nn cn, .slice ab nb cb])] w _
  go_enter Try.func27, Try.ntmps27
  go_wp2_with (first | go_big_skip | go_big_guard | (refine wl_boxA hst0 rfl rfl rfl ?_; intro g1 _ hst1; clear hst0) | (refine wl_loadE rfl rfl rfl ?_; first | refine ⟨_, Loads.whole (T := 49) [] hst1 rfl, ?_⟩ | refine ⟨_, Loads.at [] hst2 rfl, ?_⟩) | (go_at_call 50; refine (fine_any r an ab nn cn nb cb _ (Rd.old hst1 HL.out) HNL.out HNB.out).mono ?_; rw [H0.out]; rintro _ w9 ⟨rfl, h4⟩; have hst2 := St.call0 hst1 h4; clear h4 hst1) | (refine wl_alloc (T := 3) hst2 rfl rfl ?_; intro g4 _ hst3; clear hst2) | (refine wl_store [] hst3 rfl rfl rfl (v := .int _ _) rfl rfl rfl (by show (1 : Nat) ≤ 1; decide) ?_; intro w5 hst4; clear hst3; have hst5 : St w [] w5 (.blk g4 3 [.int .i64 r.err] :: .blk g1 49 [.int .i64 r.err, .slice an nn cn, .slice ab nb cb] :: []) := hst4; clear hst4) | (go_at_call 51; refine (replies_any g1 g4 _).mono ?_; rintro _ w10 ⟨gp, n0, z0, l0, h0, n1, z1, m1, f1, n2, rfl, hh⟩; have hst6 := St.call hst5 hh; clear hh hst5) | (go_at_call 33; have hP := replies_ok ok (L := []) hst6 (Rd.old hst6 HL.out) (Rd.old hst6 HB.out) HNL.out HNB.out; refine (parts_put (some ⟨gp, 0, none⟩) 3 3 (repliesPs n0 z0 l0 h0 n1 z1 m1 f1 n2) (repF r) _ (Rd.blk hst6 (.head _) (Nat.le_refl _) (by decide) rfl rfl) rfl rfl (by decide) replies_fn hP (repF_len r)).mono ?_; rintro _ w11 ⟨u, rfl, hh⟩; have hst7 := St.call hst6 hh; clear hh hst6))
  go_ret2
  have e : R = goAll (0, []) (repF r) := by rw [HR.out]; unfold putR; rw [if_pos H0.out]
  rw [e]
  exact ⟨u, rfl, St.sub hst7 (List.sublist_append_left _ _)⟩
theorem oputR_any (r : RV) (ok : r.Ok) (an ab : Option Addr) (nn cn nb cb : Nat) (w : World) (hl : Rd w (.slice an nn cn) 1 nn (intsV r.n)) (hb : Rd w (.slice ab nb cb) 1 nb (bytesV r.b)) (hnn : r.n.length = nn) (hnb : r.b.length = nb) :
    Calls Try.prog 27 #[.agg (r.cells (.slice an nn cn) (.slice ab nb cb)).toArray] w (OutP w (putR r)) := by
  cases h0 : r.fine
  · exact oputR_bad r ok an ab nn cn nb cb w hl hb hnn hnb h0
  · exact oputR_ok r ok an ab nn cn nb cb w hl hb hnn hnb h0
end Go.Proofs.Ytalfdcfcaamnbaa
namespace Go.Proofs.Ytalfdcfcaamnbaa
set_option linter.unusedVariables false
set_option linter.unusedSimpArgs false
open Go.RowKit Hp
attribute [local irreducible] Go.Calls Go.wpList
set_option maxRecDepth 100000
set_option maxHeartbeats 4000000
/-- How a reply's fields are read, one behind the other. -/
def getRF (B : List UInt8) : List (RS × RV → RS × RV) := [
  fun y => ((stepR y.1 (numRR B y.1.pos 2 0 999) 0).1, { y.2 with err := (stepR y.1 (numRR B y.1.pos 2 0 999) 0).2 }),
  fun y => ((listR (wideF B) B 2 2000 y.1).1, { y.2 with n := (listR (wideF B) B 2 2000 y.1).2 }),
  fun y => ((rawS B y.1).1, { y.2 with b := (rawS B y.1).2 })]
theorem rawR_pos' {B : List UInt8} {s : RS} (hp : s.pos ≤ B.length) : (rawS B s).1.pos ≤ B.length := raw_pos (num_pos hp)
theorem wideR_pos {B : List UInt8} (s : RS) (hp : s.pos ≤ B.length) : (wideF B s).1.pos ≤ B.length := num_pos hp
theorem listW_pos {B : List UInt8} {s : RS} (hp : s.pos ≤ B.length) : (listR (wideF B) B 2 2000 s).1.pos ≤ B.length := manyS_pos (num_pos hp) wideR_pos _
theorem getRF_pos (B : List UInt8) : ∀ f ∈ getRF B, ∀ y : RS × RV, y.1.pos ≤ B.length → (f y).1.pos ≤ B.length := by
  intro f hf y hy
  unfold getRF at hf
  simp only [List.mem_cons, List.not_mem_nil, or_false] at hf
  rcases hf with rfl | rfl | rfl
  · exact num_pos hy
  · exact listW_pos hy
  · exact rawR_pos' hy
def RV.none : RV := ⟨0, [], []⟩
/-- The reply that bytes are, its fault. -/
def getR (B : List UInt8) : RV × Int × Int :=
  let S := goAll ((⟨0, 0, 0⟩, RV.none) : RS × RV) (getRF B)
  let e := if (endR B S.1).1 = 0 then (if S.2.fine = true then 0 else 2) else (endR B S.1).1
  if e = 0 then (S.2, e, (endR B S.1).2) else (RV.none, e, (endR B S.1).2)
/-- A reply under way. -/
def repM (go ge k : Nat) (x : RV) (a : Value × Value) : List HA := match k with
  | 2 => [.blk go 49 [.int .i64 0, a.1, .slice none 0 0], .rowP isI a.1 3 1 x.n.length (intsV x.n), .blk ge 3 [.int .i64 x.err]]
  | 3 => [.rowP isB a.2 5 1 x.b.length (bytesV x.b), .blk go 49 [.int .i64 0, a.1, a.2], .rowP isI a.1 3 1 x.n.length (intsV x.n), .blk ge 3 [.int .i64 x.err]]
  | _ => [.blk go 49 [.int .i64 0, .slice none 0 0, .slice none 0 0], .blk ge 3 [.int .i64 x.err]]
theorem replies_off {w0 w : World} {M0 : List Nat} {L : List HA} {gp go ge : Nat} {n0 z0 l0 h0 n1 z1 m1 f1 n2 : Nat}
    (h : St w0 M0 w ((.blk gp 89 (partsC (repliesPs n0 z0 l0 h0 n1 z1 m1 f1 n2)) :: repliesBoxes go ge n0 z0 l0 h0 n1 z1 m1 f1 n2) ++ .blk go 49 [.int .i64 0, .slice none 0 0, .slice none 0 0] :: .blk ge 3 [.int .i64 0] :: L)) :
    ∀ (i : Nat) (q : Nat) (T : TypeId) (cs : List Value), (HA.blk gp 89 (partsC (repliesPs n0 z0 l0 h0 n1 z1 m1 f1 n2)) :: repliesBoxes go ge n0 z0 l0 h0 n1 z1 m1 f1 n2)[i]? = some (.blk q T cs) → q ∉ [go, ge] := by
  intro i q T cs hx hq
  have hap := h.apart
  unfold Apart at hap
  rw [List.pairwise_append] at hap
  simp only [List.mem_cons, List.not_mem_nil, or_false] at hq
  rcases hq with hq | hq
  · exact hap.2.2 _ (List.mem_of_getElem? hx) _ List.mem_cons_self q rfl (by rw [hq]; rfl)
  · exact hap.2.2 _ (List.mem_of_getElem? hx) _ (List.mem_cons_of_mem _ List.mem_cons_self) q rfl (by rw [hq]; rfl)
theorem replies_gok {w0 w : World} {M0 : List Nat} {L : List HA} {B : List UInt8} (hB : B.length ≤ 100000) {gp go ge : Nat} {n0 z0 l0 h0 n1 z1 m1 f1 n2 : Nat}
    (h : St w0 M0 w ((.blk gp 89 (partsC (repliesPs n0 z0 l0 h0 n1 z1 m1 f1 n2)) :: repliesBoxes go ge n0 z0 l0 h0 n1 z1 m1 f1 n2) ++ .blk go 49 [.int .i64 0, .slice none 0 0, .slice none 0 0] :: .blk ge 3 [.int .i64 0] :: L)) :
    ∀ (k : Nat) (p : PartV) (f : RS × RV → RS × RV), (repliesPs n0 z0 l0 h0 n1 z1 m1 f1 n2)[k]? = some p → (getRF B)[k]? = some f → GetOk w [go, ge] (repM go ge k) (repM go ge (k + 1)) p.gf p.gc B f := by
  have hh := h
  unfold repliesBoxes at hh
  have hd := replies_off h
  have hne_n0 : n0 ∉ [go, ge] := hd 9 _ _ _ rfl
  have hne_z0 : z0 ∉ [go, ge] := hd 8 _ _ _ rfl
  have hne_l0 : l0 ∉ [go, ge] := hd 7 _ _ _ rfl
  have hne_h0 : h0 ∉ [go, ge] := hd 6 _ _ _ rfl
  have hne_n1 : n1 ∉ [go, ge] := hd 5 _ _ _ rfl
  have hne_z1 : z1 ∉ [go, ge] := hd 4 _ _ _ rfl
  have hne_m1 : m1 ∉ [go, ge] := hd 3 _ _ _ rfl
  have hne_f1 : f1 ∉ [go, ge] := hd 2 _ _ _ rfl
  have hne_n2 : n2 ∉ [go, ge] := hd 1 _ _ _ rfl
  clear hd
  intro k p f hp hf
  match k, hp, hf with
  | 0, hp, hf => cases hp; cases hf; exact fun g bv s x a w9 hw hs => (num2_at g bv B s _ [.blk go 49 [.int .i64 0, .slice none 0 0, .slice none 0 0]] [] ge 0 _ [.int .i64 x.err] w9 hw.selfF hs hB (by show (0 : Nat) < 1; decide) (hw.old_cell (hh.cell (off := 0) (.tail _ (.tail _ (.tail _ (.tail _ (.tail _ (.tail _ (.tail _ (.tail _ (.tail _ (.head _)))))))))) rfl) (hne_n0)) (elem_off hw (World.block_lt_of_cell? w _ (hh.cell (off := 0) (.tail _ (.tail _ (.tail _ (.tail _ (.tail _ (.tail _ (.tail _ (.tail _ (.tail _ (.head _)))))))))) rfl)) (hne_n0)) (hw.old_cell (hh.cell (off := 0) (.tail _ (.tail _ (.tail _ (.tail _ (.tail _ (.tail _ (.tail _ (.tail _ (.head _))))))))) rfl) (hne_z0)) (elem_off hw (World.block_lt_of_cell? w _ (hh.cell (off := 0) (.tail _ (.tail _ (.tail _ (.tail _ (.tail _ (.tail _ (.tail _ (.tail _ (.head _))))))))) rfl)) (hne_z0)) (hw.old_cell (hh.cell (off := 0) (.tail _ (.tail _ (.tail _ (.tail _ (.tail _ (.tail _ (.tail _ (.head _)))))))) rfl) (hne_l0)) (elem_off hw (World.block_lt_of_cell? w _ (hh.cell (off := 0) (.tail _ (.tail _ (.tail _ (.tail _ (.tail _ (.tail _ (.tail _ (.head _)))))))) rfl)) (hne_l0)) (hw.old_cell (hh.cell (off := 0) (.tail _ (.tail _ (.tail _ (.tail _ (.tail _ (.tail _ (.head _))))))) rfl) (hne_h0)) (elem_off hw (World.block_lt_of_cell? w _ (hh.cell (off := 0) (.tail _ (.tail _ (.tail _ (.tail _ (.tail _ (.tail _ (.head _))))))) rfl)) (hne_h0)) (by decide)).mono fun e w8 ⟨he, h8⟩ => ⟨he, a, h8⟩
  | 1, hp, hf => cases hp; cases hf; exact fun g bv s x a w9 hw hs => (listI_at g bv B s _ [.blk ge 3 [.int .i64 x.err]] go 1 _ [.int .i64 0, .slice none 0 0, .slice none 0 0] w9 hw.selfF hs hB (by show (1 : Nat) < 3; decide) rfl (hw.old_cell (hh.cell (off := 0) (.tail _ (.tail _ (.tail _ (.tail _ (.tail _ (.head _)))))) rfl) (hne_n1)) (elem_off hw (World.block_lt_of_cell? w _ (hh.cell (off := 0) (.tail _ (.tail _ (.tail _ (.tail _ (.tail _ (.head _)))))) rfl)) (hne_n1)) (hw.old_cell (hh.cell (off := 0) (.tail _ (.tail _ (.tail _ (.tail _ (.head _))))) rfl) (hne_z1)) (elem_off hw (World.block_lt_of_cell? w _ (hh.cell (off := 0) (.tail _ (.tail _ (.tail _ (.tail _ (.head _))))) rfl)) (hne_z1)) (hw.old_cell (hh.cell (off := 0) (.tail _ (.tail _ (.tail _ (.head _)))) rfl) (hne_m1)) (elem_off hw (World.block_lt_of_cell? w _ (hh.cell (off := 0) (.tail _ (.tail _ (.tail _ (.head _)))) rfl)) (hne_m1)) (hw.old_cell (hh.cell (off := 0) (.tail _ (.tail _ (.head _))) rfl) (hne_f1)) (elem_off hw (World.block_lt_of_cell? w _ (hh.cell (off := 0) (.tail _ (.tail _ (.head _))) rfl)) (hne_f1)) (by decide) (by decide)).mono fun e w8 ⟨he, lv, h8⟩ => ⟨he, (lv, a.2), h8⟩
  | 2, hp, hf => cases hp; cases hf; exact fun g bv s x a w9 hw hs => (raw2_at g bv B s _ [] [.rowP isI a.1 3 1 x.n.length (intsV x.n), .blk ge 3 [.int .i64 x.err]] go 2 _ [.int .i64 0, a.1, .slice none 0 0] w9 hw.selfF hs hB (by show (2 : Nat) < 3; decide) (hw.old_cell (hh.cell (off := 0) (.tail _ (.head _)) rfl) (hne_n2)) (elem_off hw (World.block_lt_of_cell? w _ (hh.cell (off := 0) (.tail _ (.head _)) rfl)) (hne_n2)) (num_pos hs) (by have := num_in (B := B) (s := s) (size := 3) (low := 0) (high := 16384) ⟨by decide, by decide⟩; omega)).mono fun e w8 ⟨he, u, h8⟩ => ⟨he, (a.1, u), h8⟩
  | k + 3, hp, _ => simp [repliesPs] at hp
theorem replies_gfn {n0 z0 l0 h0 n1 z1 m1 f1 n2 : Nat} : ∀ p ∈ repliesPs n0 z0 l0 h0 n1 z1 m1 f1 n2, ∀ (a : Array Value) (w : World), (callFunc p.gf a).run Try.prog w = .ok (.enter p.gf a) w := by
  intro p hp a w
  unfold repliesPs at hp
  simp only [List.mem_cons, List.not_mem_nil, or_false] at hp
  rcases hp with rfl | rfl | rfl <;> rfl
end Go.Proofs.Ytalfdcfcaamnbaa
namespace Go.Proofs.Ytalfdcfcaamnbaa
set_option linter.unusedVariables false
set_option linter.unusedSimpArgs false
open Go.RowKit Hp
attribute [local irreducible] Go.Calls Go.wpList
set_option maxRecDepth 100000
set_option maxHeartbeats 4000000
theorem loadedRyy (A : Addr) : loadVar 49 A = loadVarH 49 A := rfl
theorem Hp.St.newOffs {w0 w : World} {L : List HA} (h : St w0 [] w L) {ks : List Nat} (hk : ∀ k ∈ ks, ∃ T cs, HA.blk k T cs ∈ L) {v : Value} {sz n : Nat} {xs : List Value} (hr : Rd w0 v sz n xs) (hs : 0 < sz) : Off v ks := by
  refine Off.old hr hs fun k hm => ?_
  obtain ⟨T, cs, hx⟩ := hk k hm
  rcases h.own _ hx k rfl with h1 | h1
  · exact h1
  · cases h1
/-- What GetReply tells. -/
def GetRP (w : World) (r : RV × Int × Int) (e : Ending) (w' : World) : Prop := ∃ lv bv, e = .returned (.tuple #[.agg (r.1.cells lv bv).toArray, .agg #[.int .i64 r.2.1, .int .i64 r.2.2]]) ∧
  St w [] w' [.rowP isI lv 3 1 r.1.n.length (intsV r.1.n), .rowP isB bv 5 1 r.1.b.length (bytesV r.1.b)]
section
attribute [local go_sem ↓] loadedRyy loadedFt
theorem ogetR_bad (ao : Option Addr) (n c : Nat) (B : List UInt8) (w : World) (hr : Rd w (.slice ao n c) 1 n (bytesV B)) (hn : B.length = n) (hb : n ≤ 100000) (h0 : (endR B (goAll ((⟨0, 0, 0⟩, RV.none) : RS × RV) (getRF B)).1).1 ≠ 0) :
    Calls Try.prog 30 #[.slice ao n c] w (GetRP w (getR B)) := by
  have hst0 := St.refl w
  have HR := hid hr
  have HN := hid hn
  have hBl : B.length ≤ 100000 := by rw [hn]; exact hb
  obtain ⟨S, hS⟩ : ∃ S, S = (goAll ((⟨0, 0, 0⟩, RV.none) : RS × RV) (getRF B)) := ⟨_, rfl⟩
  have HS := hid hS
  obtain ⟨f, hf⟩ : ∃ f, f = endR B S.1 := ⟨_, rfl⟩
  have HF := hid hf
  rw [← hS] at h0
  rw [← hf] at h0
  obtain ⟨R, hR⟩ : ∃ R, R = getR B := ⟨_, rfl⟩
  rw [← hR]
  have e : R = (RV.none, f.1, f.2) := by
    rw [hR]; unfold getR; simp only [← hS, ← hf]
    rw [if_neg h0, if_neg h0]
  have d0 : (f.1 == 0) = false := by simpa using h0
  have d1 : (f.1 != 0) = true := by simpa using h0
  have HE := hid e
  clear hS hf hR e h0 hr hn
  go_enter Try.func30, Try.ntmps30
  go_wp2_with (first | go_big_skip | go_big_guard | (refine wl_alloc (T := 49) hst0 rfl rfl ?_; intro g2 _ hst1; clear hst0) | (refine wl_alloc hst1 rfl rfl ?_; intro g3 _ hst2; clear hst1) | (refine wl_alloc (T := 49) hst2 rfl rfl ?_; intro go _ hst3; clear hst2) | (refine wl_alloc (T := 3) hst3 rfl rfl ?_; intro ge _ hst3a; clear hst3) | (refine wl_store [] hst3a rfl rfl rfl (v := .int _ _) rfl rfl rfl (by show (1 : Nat) ≤ 1; decide) ?_; intro w9 hst3b; clear hst3a; have hst3c : St w [] w9 [.blk go 49 [.int .i64 0, .slice none 0 0, .slice none 0 0], .blk ge 3 [.int .i64 0], .blk g3 42 [.int .i64 0, .int .i64 0], .blk g2 49 [.int .i64 0, .slice none 0 0, .slice none 0 0]] := St.front [_] hst3b; clear hst3b) | (go_at_call 51; refine (replies_any go ge _).mono ?_; rintro _ w10 ⟨gp, n0, z0, l0, h0, n1, z1, m1, f1, n2, rfl, hh⟩; have hst4 := St.call hst3c hh; clear hh hst3c) | (go_at_call 44; have hSel := (St.sub hst4 ((List.Sublist.trans (List.Sublist.cons_cons _ (List.Sublist.cons_cons _ (List.nil_sublist _))) (List.sublist_append_right _ _)) : List.Sublist [_, _] _)).selfF; refine (parts_get (σ := RV) (τ := Value × Value) ao n c B (some ⟨gp, 0, none⟩) 3 3 (repliesPs n0 z0 l0 h0 n1 z1 m1 f1 n2) (getRF B) (repM go ge) [go, ge] RV.none (.slice none 0 0, .slice none 0 0) w10 hSel (Rd.old hst4 HR.out) HN.out hb (Rd.blk hst4 (.head _) (Nat.le_refl _) (by decide) rfl rfl) (fun b off hbo => by cases hbo; exact replies_off hst4 0 _ _ _ rfl) (St.newOffs hst4 (fun k hk => by simp only [List.mem_cons, List.not_mem_nil, or_false] at hk; rcases hk with rfl | rfl; exact ⟨_, _, List.mem_append_right _ (.head _)⟩; exact ⟨_, _, List.mem_append_right _ (.tail _ (.head _))⟩) HR.out (by decide)) rfl rfl (by decide) replies_gfn (replies_gok hBl hst4) (getRF_pos B)).mono ?_; rw [← HS.out, ← HF.out]; rintro _ w11 ⟨a1, rfl, hh⟩; have hst4p := St.perm hst4 (List.perm_append_comm (l₁ := .blk gp 89 (partsC (repliesPs n0 z0 l0 h0 n1 z1 m1 f1 n2)) :: repliesBoxes go ge n0 z0 l0 h0 n1 z1 m1 f1 n2)); have hst5 := St.sub (St.callF [_, _] hst4p hh) (List.Sublist.append (List.Sublist.refl _) (List.sublist_append_left [_, _] _)); clear hh hst4 hst4p hSel) | (refine wl_alloc hst5 rfl rfl ?_; intro g5 w12 hst6; clear hst5) | (refine wl_storeA [] hst6 rfl rfl rfl rfl rfl rfl rfl ?_; intro w13 hst7; clear hst6; obtain ⟨lv, bv⟩ := a1; unfold repM at hst7; obtain ⟨ab, cb, rfl⟩ := St.rowPSliceF [_] hst7; obtain ⟨al, cl, rfl⟩ := St.rowPSliceF [_, _, _] hst7) | (refine wl_loadE rfl rfl rfl ?_; first | refine ⟨_, Loads.at [_, _, _, _] hst7 rfl, ?_⟩ | refine ⟨_, Loads.at [] hst9 rfl, ?_⟩ | refine ⟨_, Loads.at [] hst12 rfl, ?_⟩) | (refine wl_store [_, _] hst7 rfl rfl rfl (v := .int _ _) rfl rfl rfl (by show (1 : Nat) ≤ 3; decide) ?_; intro w15 hst8; clear hst7; have hst9 : St w [] w15 [.blk g5 42 [.int .i64 f.1, .int .i64 f.2], .rowP isB (.slice ab S.2.b.length cb) 5 1 S.2.b.length (bytesV S.2.b), .blk go 49 (S.2.cells (.slice al S.2.n.length cl) (.slice ab S.2.b.length cb)), .rowP isI (.slice al S.2.n.length cl) 3 1 S.2.n.length (intsV S.2.n), .blk ge 3 [.int .i64 S.2.err], .blk g3 42 [.int .i64 0, .int .i64 0], .blk g2 49 [.int .i64 0, .slice none 0 0, .slice none 0 0]] := hst8; clear hst8))
  have hX := hst9.drew
  clear hst9
  refine wp_region_held_drew (S := (fun w' => (loadVarH 42 ⟨g5, 0, none⟩).run Try.prog w' = .ok (.agg (List.toArray ([.int .i64 f.1, .int .i64 f.2]))) w')) (by kernel_rfl) (by exact ldA ([.int .i64 f.1, .int .i64 f.2]) [] hX (rfl) (rfl)) (fun hHeld => ?_)
  refine wpAnyH_take (i := 0) (oi := ⟨some 24, _, _, _, _, _⟩) (v := ?_) rfl (by kernel_rfl) (by kernel_rfl) (by kernel_rfl) (fun _ _ _ h => h) (Or.inl ⟨by rfl, ?_⟩) (by assumption) ?_
  rotate_left
  · intro w hSw; (try dsimp only at hSw); go_simp; try with_reducible rfl
  (try simp only [Act.put, List.setIfInBounds_toArray, List.set_cons_zero, List.set_cons_succ])
  refine wpAnyH_take (i := 1) (oi := ⟨some 25, _, _, _, _, _⟩) (v := ?_) rfl (by kernel_rfl) (by kernel_rfl) (by kernel_rfl) (fun _ _ _ h => h) (Or.inl ⟨by rfl, ?_⟩) (by assumption) ?_
  rotate_left
  · intro w hSw; (try dsimp only at hSw); go_simp; try with_reducible rfl
  (try simp only [Act.put, List.setIfInBounds_toArray, List.set_cons_zero, List.set_cons_succ])
  refine wpAnyH_ready (rs := [2]) (by kernel_rfl) (by simp) ?_
  refine (AllReadyH.cons (o := ⟨none, _, _, _, _, _⟩) rfl (fun K hK => ?_) AllReadyH.nil)
  rw [if_pos (by rfl)]
  refine ow_of_wl (ops := #[]) (by rfl) ?_
  refine wl_storeA [_, _, _, _, _, _] hX rfl rfl rfl rfl rfl rfl rfl ?_
  intro w26 hZ6
  refine q0_nil ?_
  refine hK.out _ _ ?_ (fun hHeld => ?_)
  · exact ldA ([.int .i64 f.1, .int .i64 f.2]) [] hZ6 (rfl) (rfl)
  clear hK K
  (try simp only [Act.put, List.setIfInBounds_toArray, List.set_cons_zero, List.set_cons_succ])
  refine wpAnyH_ready (rs := [3]) (by kernel_rfl) (by simp) ?_
  refine (AllReadyH.cons (o := ⟨none, _, _, _, _, _⟩) rfl (fun K hK => ?_) AllReadyH.nil)
  rw [if_pos (by rfl)]
  refine ow_of_wl (ops := #[]) (by rfl) ?_
  refine wl_storeA [_, _, _, _, _] hZ6 rfl rfl rfl rfl rfl rfl rfl ?_
  intro w25 hZ5
  refine q0_nil ?_
  refine hK.out _ _ ?_ (fun hHeld => ?_)
  · exact ldA ([.int .i64 f.1, .int .i64 f.2]) [] hZ5 (rfl) (rfl)
  clear hK K
  (try simp only [Act.put, List.setIfInBounds_toArray, List.set_cons_zero, List.set_cons_succ])
  refine wpAnyH_done (by kernel_rfl) ?_ _
  clear hHeld
  go_wp2_with (first | go_big_skip | go_big_guard | fail)
  refine bodyPost_ret (results_cell2L rfl rfl rfl (Loads.whole (T := 49) [_, _, _, _, _, _] hZ5 rfl) (Loads.whole (T := 42) [_, _, _, _, _] hZ5 rfl)) rfl ?_
  rw [HE.out]
  exact ⟨.slice none 0 0, .slice none 0 0, rfl, St.nilPQ isI _ 1 (St.nilPQ isB _ 1 hZ5.nil)⟩
theorem ogetR_odd (ao : Option Addr) (n c : Nat) (B : List UInt8) (w : World) (hr : Rd w (.slice ao n c) 1 n (bytesV B)) (hn : B.length = n) (hb : n ≤ 100000) (h0 : (endR B (goAll ((⟨0, 0, 0⟩, RV.none) : RS × RV) (getRF B)).1).1 = 0) (h1 : (goAll ((⟨0, 0, 0⟩, RV.none) : RS × RV) (getRF B)).2.fine = false) :
    Calls Try.prog 30 #[.slice ao n c] w (GetRP w (getR B)) := by
  have hst0 := St.refl w
  have HR := hid hr
  have HN := hid hn
  have hBl : B.length ≤ 100000 := by rw [hn]; exact hb
  obtain ⟨S, hS⟩ : ∃ S, S = (goAll ((⟨0, 0, 0⟩, RV.none) : RS × RV) (getRF B)) := ⟨_, rfl⟩
  have HS := hid hS
  obtain ⟨f, hf⟩ : ∃ f, f = endR B S.1 := ⟨_, rfl⟩
  have HF := hid hf
  rw [← hS] at h0 h1
  rw [← hf] at h0
  obtain ⟨R, hR⟩ : ∃ R, R = getR B := ⟨_, rfl⟩
  rw [← hR]
  have e : R = (RV.none, 2, f.2) := by
    rw [hR]; unfold getR; simp only [← hS, ← hf]
    rw [if_pos h0, h1]; rfl
  have d0 : (f.1 == 0) = true := by simpa using h0
  have H1 := hid h1
  have HE := hid e
  clear hS hf hR e h0 h1 hr hn
  go_enter Try.func30, Try.ntmps30
  go_wp2_with (first | go_big_skip | go_big_guard | (refine wl_alloc (T := 49) hst0 rfl rfl ?_; intro g2 _ hst1; clear hst0) | (refine wl_alloc hst1 rfl rfl ?_; intro g3 _ hst2; clear hst1) | (refine wl_alloc (T := 49) hst2 rfl rfl ?_; intro go _ hst3; clear hst2) | (refine wl_alloc (T := 3) hst3 rfl rfl ?_; intro ge _ hst3a; clear hst3) | (refine wl_store [] hst3a rfl rfl rfl (v := .int _ _) rfl rfl rfl (by show (1 : Nat) ≤ 1; decide) ?_; intro w9 hst3b; clear hst3a; have hst3c : St w [] w9 [.blk go 49 [.int .i64 0, .slice none 0 0, .slice none 0 0], .blk ge 3 [.int .i64 0], .blk g3 42 [.int .i64 0, .int .i64 0], .blk g2 49 [.int .i64 0, .slice none 0 0, .slice none 0 0]] := St.front [_] hst3b; clear hst3b) | (go_at_call 51; refine (replies_any go ge _).mono ?_; rintro _ w10 ⟨gp, n0, z0, l0, h0, n1, z1, m1, f1, n2, rfl, hh⟩; have hst4 := St.call hst3c hh; clear hh hst3c) | (go_at_call 44; have hSel := (St.sub hst4 ((List.Sublist.trans (List.Sublist.cons_cons _ (List.Sublist.cons_cons _ (List.nil_sublist _))) (List.sublist_append_right _ _)) : List.Sublist [_, _] _)).selfF; refine (parts_get (σ := RV) (τ := Value × Value) ao n c B (some ⟨gp, 0, none⟩) 3 3 (repliesPs n0 z0 l0 h0 n1 z1 m1 f1 n2) (getRF B) (repM go ge) [go, ge] RV.none (.slice none 0 0, .slice none 0 0) w10 hSel (Rd.old hst4 HR.out) HN.out hb (Rd.blk hst4 (.head _) (Nat.le_refl _) (by decide) rfl rfl) (fun b off hbo => by cases hbo; exact replies_off hst4 0 _ _ _ rfl) (St.newOffs hst4 (fun k hk => by simp only [List.mem_cons, List.not_mem_nil, or_false] at hk; rcases hk with rfl | rfl; exact ⟨_, _, List.mem_append_right _ (.head _)⟩; exact ⟨_, _, List.mem_append_right _ (.tail _ (.head _))⟩) HR.out (by decide)) rfl rfl (by decide) replies_gfn (replies_gok hBl hst4) (getRF_pos B)).mono ?_; rw [← HS.out, ← HF.out]; rintro _ w11 ⟨a1, rfl, hh⟩; have hst4p := St.perm hst4 (List.perm_append_comm (l₁ := .blk gp 89 (partsC (repliesPs n0 z0 l0 h0 n1 z1 m1 f1 n2)) :: repliesBoxes go ge n0 z0 l0 h0 n1 z1 m1 f1 n2)); have hst5 := St.sub (St.callF [_, _] hst4p hh) (List.Sublist.append (List.Sublist.refl _) (List.sublist_append_left [_, _] _)); clear hh hst4 hst4p hSel) | (refine wl_alloc hst5 rfl rfl ?_; intro g5 w12 hst6; clear hst5) | (refine wl_storeA [] hst6 rfl rfl rfl rfl rfl rfl rfl ?_; intro w13 hst7; clear hst6; obtain ⟨lv, bv⟩ := a1; unfold repM at hst7; obtain ⟨ab, cb, rfl⟩ := St.rowPSliceF [_] hst7; obtain ⟨al, cl, rfl⟩ := St.rowPSliceF [_, _, _] hst7) | (refine wl_loadE rfl rfl rfl ?_; first | refine ⟨_, Loads.at [_, _, _, _] hst7 rfl, ?_⟩ | refine ⟨_, Loads.at [] hst9 rfl, ?_⟩ | refine ⟨_, Loads.at [] hst12 rfl, ?_⟩) | (refine wl_store [_, _] hst7 rfl rfl rfl (v := .int _ _) rfl rfl rfl (by show (1 : Nat) ≤ 3; decide) ?_; intro w15 hst8; clear hst7; have hst9 : St w [] w15 [.blk g5 42 [.int .i64 f.1, .int .i64 f.2], .rowP isB (.slice ab S.2.b.length cb) 5 1 S.2.b.length (bytesV S.2.b), .blk go 49 (S.2.cells (.slice al S.2.n.length cl) (.slice ab S.2.b.length cb)), .rowP isI (.slice al S.2.n.length cl) 3 1 S.2.n.length (intsV S.2.n), .blk ge 3 [.int .i64 S.2.err], .blk g3 42 [.int .i64 0, .int .i64 0], .blk g2 49 [.int .i64 0, .slice none 0 0, .slice none 0 0]] := hst8; clear hst8) | (refine wl_loadE rfl rfl rfl ?_; refine ⟨_, Loads.whole (T := 49) [_, _] hst9 rfl, ?_⟩) | (go_at_call 50; refine (fine_any S.2 al ab S.2.n.length cl S.2.b.length cb _ (Rd.rowP hst9 (.tail _ (.tail _ (.tail _ (.head _))))) rfl rfl).mono ?_; rw [H1.out]; rintro _ w16 ⟨rfl, h4⟩; have hst10 := St.call0 hst9 h4; clear h4 hst9) | (refine wl_store [] hst10 rfl rfl rfl (v := .int _ _) rfl rfl rfl (by show (1 : Nat) ≤ 2; decide) ?_; intro w17 hst11; clear hst10; have hst12 : St w [] w17 [.blk g5 42 [.int .i64 2, .int .i64 f.2], .rowP isB (.slice ab S.2.b.length cb) 5 1 S.2.b.length (bytesV S.2.b), .blk go 49 (S.2.cells (.slice al S.2.n.length cl) (.slice ab S.2.b.length cb)), .rowP isI (.slice al S.2.n.length cl) 3 1 S.2.n.length (intsV S.2.n), .blk ge 3 [.int .i64 S.2.err], .blk g3 42 [.int .i64 0, .int .i64 0], .blk g2 49 [.int .i64 0, .slice none 0 0, .slice none 0 0]] := hst11; clear hst11))
  have hX := hst12.drew
  clear hst12
  refine wp_region_held_drew (S := (fun w' => (loadVarH 42 ⟨g5, 0, none⟩).run Try.prog w' = .ok (.agg (List.toArray ([.int .i64 2, .int .i64 f.2]))) w')) (by kernel_rfl) (by exact ldA ([.int .i64 2, .int .i64 f.2]) [] hX (rfl) (rfl)) (fun hHeld => ?_)
  refine wpAnyH_take (i := 0) (oi := ⟨some 24, _, _, _, _, _⟩) (v := ?_) rfl (by kernel_rfl) (by kernel_rfl) (by kernel_rfl) (fun _ _ _ h => h) (Or.inl ⟨by rfl, ?_⟩) (by assumption) ?_
  rotate_left
  · intro w hSw; (try dsimp only at hSw); go_simp; try with_reducible rfl
  (try simp only [Act.put, List.setIfInBounds_toArray, List.set_cons_zero, List.set_cons_succ])
  refine wpAnyH_take (i := 1) (oi := ⟨some 25, _, _, _, _, _⟩) (v := ?_) rfl (by kernel_rfl) (by kernel_rfl) (by kernel_rfl) (fun _ _ _ h => h) (Or.inl ⟨by rfl, ?_⟩) (by assumption) ?_
  rotate_left
  · intro w hSw; (try dsimp only at hSw); go_simp; try with_reducible rfl
  (try simp only [Act.put, List.setIfInBounds_toArray, List.set_cons_zero, List.set_cons_succ])
  refine wpAnyH_ready (rs := [2]) (by kernel_rfl) (by simp) ?_
  refine (AllReadyH.cons (o := ⟨none, _, _, _, _, _⟩) rfl (fun K hK => ?_) AllReadyH.nil)
  rw [if_pos (by rfl)]
  refine ow_of_wl (ops := #[]) (by rfl) ?_
  refine wl_storeA [_, _, _, _, _, _] hX rfl rfl rfl rfl rfl rfl rfl ?_
  intro w26 hZ6
  refine q0_nil ?_
  refine hK.out _ _ ?_ (fun hHeld => ?_)
  · exact ldA ([.int .i64 2, .int .i64 f.2]) [] hZ6 (rfl) (rfl)
  clear hK K
  (try simp only [Act.put, List.setIfInBounds_toArray, List.set_cons_zero, List.set_cons_succ])
  refine wpAnyH_ready (rs := [3]) (by kernel_rfl) (by simp) ?_
  refine (AllReadyH.cons (o := ⟨none, _, _, _, _, _⟩) rfl (fun K hK => ?_) AllReadyH.nil)
  rw [if_pos (by rfl)]
  refine ow_of_wl (ops := #[]) (by rfl) ?_
  refine wl_storeA [_, _, _, _, _] hZ6 rfl rfl rfl rfl rfl rfl rfl ?_
  intro w25 hZ5
  refine q0_nil ?_
  refine hK.out _ _ ?_ (fun hHeld => ?_)
  · exact ldA ([.int .i64 2, .int .i64 f.2]) [] hZ5 (rfl) (rfl)
  clear hK K
  (try simp only [Act.put, List.setIfInBounds_toArray, List.set_cons_zero, List.set_cons_succ])
  refine wpAnyH_done (by kernel_rfl) ?_ _
  clear hHeld
  go_wp2_with (first | go_big_skip | go_big_guard | fail)
  refine bodyPost_ret (results_cell2L rfl rfl rfl (Loads.whole (T := 49) [_, _, _, _, _, _] hZ5 rfl) (Loads.whole (T := 42) [_, _, _, _, _] hZ5 rfl)) rfl ?_
  rw [HE.out]
  exact ⟨.slice none 0 0, .slice none 0 0, rfl, St.nilPQ isI _ 1 (St.nilPQ isB _ 1 hZ5.nil)⟩
theorem ogetR_ok (ao : Option Addr) (n c : Nat) (B : List UInt8) (w : World) (hr : Rd w (.slice ao n c) 1 n (bytesV B)) (hn : B.length = n) (hb : n ≤ 100000) (h0 : (endR B (goAll ((⟨0, 0, 0⟩, RV.none) : RS × RV) (getRF B)).1).1 = 0) (h1 : (goAll ((⟨0, 0, 0⟩, RV.none) : RS × RV) (getRF B)).2.fine = true) :
    Calls Try.prog 30 #[.slice ao n c] w (GetRP w (getR B)) := by
  have hst0 := St.refl w
  have HR := hid hr
  have HN := hid hn
  have hBl : B.length ≤ 100000 := by rw [hn]; exact hb
  obtain ⟨S, hS⟩ : ∃ S, S = (goAll ((⟨0, 0, 0⟩, RV.none) : RS × RV) (getRF B)) := ⟨_, rfl⟩
  have HS := hid hS
  obtain ⟨f, hf⟩ : ∃ f, f = endR B S.1 := ⟨_, rfl⟩
  have HF := hid hf
  rw [← hS] at h0 h1
  rw [← hf] at h0
  obtain ⟨R, hR⟩ : ∃ R, R = getR B := ⟨_, rfl⟩
  rw [← hR]
  have e : R = (S.2, f.1, f.2) := by
    rw [hR]; unfold getR; simp only [← hS, ← hf]
    rw [if_pos h0, if_pos h1, if_pos rfl, h0]
  have d0 : (f.1 == 0) = true := by simpa using h0
  have d1 : (f.1 != 0) = false := by simpa using h0
  have H1 := hid h1
  have HE := hid e
  clear hS hf hR e h0 h1 hr hn
  go_enter Try.func30, Try.ntmps30
  go_wp2_with (first | go_big_skip | go_big_guard | (refine wl_alloc (T := 49) hst0 rfl rfl ?_; intro g2 _ hst1; clear hst0) | (refine wl_alloc hst1 rfl rfl ?_; intro g3 _ hst2; clear hst1) | (refine wl_alloc (T := 49) hst2 rfl rfl ?_; intro go _ hst3; clear hst2) | (refine wl_alloc (T := 3) hst3 rfl rfl ?_; intro ge _ hst3a; clear hst3) | (refine wl_store [] hst3a rfl rfl rfl (v := .int _ _) rfl rfl rfl (by show (1 : Nat) ≤ 1; decide) ?_; intro w9 hst3b; clear hst3a; have hst3c : St w [] w9 [.blk go 49 [.int .i64 0, .slice none 0 0, .slice none 0 0], .blk ge 3 [.int .i64 0], .blk g3 42 [.int .i64 0, .int .i64 0], .blk g2 49 [.int .i64 0, .slice none 0 0, .slice none 0 0]] := St.front [_] hst3b; clear hst3b) | (go_at_call 51; refine (replies_any go ge _).mono ?_; rintro _ w10 ⟨gp, n0, z0, l0, h0, n1, z1, m1, f1, n2, rfl, hh⟩; have hst4 := St.call hst3c hh; clear hh hst3c) | (go_at_call 44; have hSel := (St.sub hst4 ((List.Sublist.trans (List.Sublist.cons_cons _ (List.Sublist.cons_cons _ (List.nil_sublist _))) (List.sublist_append_right _ _)) : List.Sublist [_, _] _)).selfF; refine (parts_get (σ := RV) (τ := Value × Value) ao n c B (some ⟨gp, 0, none⟩) 3 3 (repliesPs n0 z0 l0 h0 n1 z1 m1 f1 n2) (getRF B) (repM go ge) [go, ge] RV.none (.slice none 0 0, .slice none 0 0) w10 hSel (Rd.old hst4 HR.out) HN.out hb (Rd.blk hst4 (.head _) (Nat.le_refl _) (by decide) rfl rfl) (fun b off hbo => by cases hbo; exact replies_off hst4 0 _ _ _ rfl) (St.newOffs hst4 (fun k hk => by simp only [List.mem_cons, List.not_mem_nil, or_false] at hk; rcases hk with rfl | rfl; exact ⟨_, _, List.mem_append_right _ (.head _)⟩; exact ⟨_, _, List.mem_append_right _ (.tail _ (.head _))⟩) HR.out (by decide)) rfl rfl (by decide) replies_gfn (replies_gok hBl hst4) (getRF_pos B)).mono ?_; rw [← HS.out, ← HF.out]; rintro _ w11 ⟨a1, rfl, hh⟩; have hst4p := St.perm hst4 (List.perm_append_comm (l₁ := .blk gp 89 (partsC (repliesPs n0 z0 l0 h0 n1 z1 m1 f1 n2)) :: repliesBoxes go ge n0 z0 l0 h0 n1 z1 m1 f1 n2)); have hst5 := St.sub (St.callF [_, _] hst4p hh) (List.Sublist.append (List.Sublist.refl _) (List.sublist_append_left [_, _] _)); clear hh hst4 hst4p hSel) | (refine wl_alloc hst5 rfl rfl ?_; intro g5 w12 hst6; clear hst5) | (refine wl_storeA [] hst6 rfl rfl rfl rfl rfl rfl rfl ?_; intro w13 hst7; clear hst6; obtain ⟨lv, bv⟩ := a1; unfold repM at hst7; obtain ⟨ab, cb, rfl⟩ := St.rowPSliceF [_] hst7; obtain ⟨al, cl, rfl⟩ := St.rowPSliceF [_, _, _] hst7) | (refine wl_loadE rfl rfl rfl ?_; first | refine ⟨_, Loads.at [_, _, _, _] hst7 rfl, ?_⟩ | refine ⟨_, Loads.at [] hst9 rfl, ?_⟩ | refine ⟨_, Loads.at [] hst10 rfl, ?_⟩) | (refine wl_store [_, _] hst7 rfl rfl rfl (v := .int _ _) rfl rfl rfl (by show (1 : Nat) ≤ 3; decide) ?_; intro w15 hst8; clear hst7; have hst9 : St w [] w15 [.blk g5 42 [.int .i64 f.1, .int .i64 f.2], .rowP isB (.slice ab S.2.b.length cb) 5 1 S.2.b.length (bytesV S.2.b), .blk go 49 (S.2.cells (.slice al S.2.n.length cl) (.slice ab S.2.b.length cb)), .rowP isI (.slice al S.2.n.length cl) 3 1 S.2.n.length (intsV S.2.n), .blk ge 3 [.int .i64 S.2.err], .blk g3 42 [.int .i64 0, .int .i64 0], .blk g2 49 [.int .i64 0, .slice none 0 0, .slice none 0 0]] := hst8; clear hst8) | (refine wl_loadE rfl rfl rfl ?_; refine ⟨_, Loads.whole (T := 49) [_, _] hst9 rfl, ?_⟩) | (go_at_call 50; refine (fine_any S.2 al ab S.2.n.length cl S.2.b.length cb _ (Rd.rowP hst9 (.tail _ (.tail _ (.tail _ (.head _))))) rfl rfl).mono ?_; rw [H1.out]; rintro _ w16 ⟨rfl, h4⟩; have hst10 := St.call0 hst9 h4; clear h4 hst9))
  have hX := hst10.drew
  clear hst10
  refine wp_region_held_drew (S := (fun w' => (loadVarH 42 ⟨g5, 0, none⟩).run Try.prog w' = .ok (.agg (List.toArray ([.int .i64 f.1, .int .i64 f.2]))) w' ∧ (loadVarH 49 ⟨go, 0, none⟩).run Try.prog w' = .ok (.agg (List.toArray (S.2.cells (.slice al S.2.n.length cl) (.slice ab S.2.b.length cb)))) w')) (by kernel_rfl) (by exact ⟨ldA ([.int .i64 f.1, .int .i64 f.2]) [] hX (rfl) (rfl), ldA (S.2.cells (.slice al S.2.n.length cl) (.slice ab S.2.b.length cb)) [_, _] hX (rfl) (rfl)⟩) (fun hHeld => ?_)
  refine wpAnyH_take (i := 0) (oi := ⟨some 26, _, _, _, _, _⟩) (v := ?_) rfl (by kernel_rfl) (by kernel_rfl) (by kernel_rfl) (fun _ _ _ h => h) (Or.inl ⟨by rfl, ?_⟩) (by assumption) ?_
  rotate_left
  · intro w hSw; (try dsimp only at hSw); go_simp; try with_reducible rfl
  (try simp only [Act.put, List.setIfInBounds_toArray, List.set_cons_zero, List.set_cons_succ])
  refine wpAnyH_take (i := 1) (oi := ⟨some 27, _, _, _, _, _⟩) (v := ?_) rfl (by kernel_rfl) (by kernel_rfl) (by kernel_rfl) (fun _ _ _ h => h) (Or.inl ⟨by rfl, ?_⟩) (by assumption) ?_
  rotate_left
  · intro w hSw; (try dsimp only at hSw); go_simp; try with_reducible rfl
  (try simp only [Act.put, List.setIfInBounds_toArray, List.set_cons_zero, List.set_cons_succ])
  refine wpAnyH_ready (rs := [2]) (by kernel_rfl) (by simp) ?_
  refine (AllReadyH.cons (o := ⟨none, _, _, _, _, _⟩) rfl (fun K hK => ?_) AllReadyH.nil)
  rw [if_pos (by rfl)]
  refine ow_of_wl (ops := #[]) (by rfl) ?_
  refine wl_storeA [_, _, _, _, _, _] hX rfl rfl rfl rfl rfl rfl rfl ?_
  intro w26 hZ6
  refine q0_nil ?_
  refine hK.out _ _ ?_ (fun hHeld => ?_)
  · exact ⟨ldA ([.int .i64 f.1, .int .i64 f.2]) [] hZ6 (rfl) (rfl), ldA (S.2.cells (.slice al S.2.n.length cl) (.slice ab S.2.b.length cb)) [_, _] hZ6 (rfl) (rfl)⟩
  clear hK K
  (try simp only [Act.put, List.setIfInBounds_toArray, List.set_cons_zero, List.set_cons_succ])
  refine wpAnyH_ready (rs := [3]) (by kernel_rfl) (by simp) ?_
  refine (AllReadyH.cons (o := ⟨none, _, _, _, _, _⟩) rfl (fun K hK => ?_) AllReadyH.nil)
  rw [if_pos (by rfl)]
  refine ow_of_wl (ops := #[]) (by rfl) ?_
  refine wl_storeA [_, _, _, _, _] hZ6 rfl rfl rfl rfl rfl rfl rfl ?_
  intro w25 hZ5
  refine q0_nil ?_
  refine hK.out _ _ ?_ (fun hHeld => ?_)
  · exact ⟨ldA ([.int .i64 f.1, .int .i64 f.2]) [] hZ5 (rfl) (rfl), ldA (S.2.cells (.slice al S.2.n.length cl) (.slice ab S.2.b.length cb)) [_, _] hZ5 (rfl) (rfl)⟩
  clear hK K
  (try simp only [Act.put, List.setIfInBounds_toArray, List.set_cons_zero, List.set_cons_succ])
  refine wpAnyH_done (by kernel_rfl) ?_ _
  clear hHeld
  go_wp2_with (first | go_big_skip | go_big_guard | fail)
  refine bodyPost_ret (results_cell2L rfl rfl rfl (Loads.whole (T := 49) [_, _, _, _, _, _] hZ5 rfl) (Loads.whole (T := 42) [_, _, _, _, _] hZ5 rfl)) rfl ?_
  rw [HE.out]
  refine ⟨_, _, rfl, ?_⟩
  exact St.sub (St.front (L1 := [_, _, _, _, _, _]) (St.front (L1 := [_, _, _, _, _]) (St.front (L1 := [_, _, _, _]) (St.front (L1 := [_, _, _, _, _]) (St.front (L1 := [_, _, _, _, _, _]) (St.front (L1 := [_, _, _, _, _, _]) (St.front (L1 := [_, _, _, _, _, _]) hZ5))))))) (.cons_cons _ (.cons_cons _ (List.nil_sublist _)))
theorem ogetR_any (ao : Option Addr) (n c : Nat) (B : List UInt8) (w : World) (hr : Rd w (.slice ao n c) 1 n (bytesV B)) (hn : B.length = n) (hb : n ≤ 100000) :
    Calls Try.prog 30 #[.slice ao n c] w (GetRP w (getR B)) := by
  by_cases h0 : (endR B (goAll ((⟨0, 0, 0⟩, RV.none) : RS × RV) (getRF B)).1).1 = 0
  · cases h1 : (goAll ((⟨0, 0, 0⟩, RV.none) : RS × RV) (getRF B)).2.fine
    · exact ogetR_odd ao n c B w hr hn hb h0 h1
    · exact ogetR_ok ao n c B w hr hn hb h0 h1
  · exact ogetR_bad ao n c B w hr hn hb h0
end
end Go.Proofs.Ytalfdcfcaamnbaa
namespace Go.Proofs.Ytalfdcfcaamnbaa
set_option linter.unusedVariables false
set_option linter.unusedSimpArgs false
open Go.RowKit Hp
attribute [local irreducible] Go.Calls Go.wpList
set_option maxRecDepth 100000
set_option maxHeartbeats 4000000
def kA : OV := ⟨1, 0, 0, [97], [98], [], []⟩
def kB : OV := ⟨25, 0, 0, [], [], [], []⟩
def kC : OV := ⟨12, 2147483648, 0, [97], [], [], []⟩
theorem kA_c : kA.check = 2 := by decide +kernel
theorem kB_c : kB.check = 2 := by decide +kernel
theorem kC_c : kC.check = 2 := by decide +kernel
def r1 : RV := ⟨17, [], []⟩
def r2 : RV := ⟨0, [258], [7]⟩
def r3 : RV := ⟨17, [], [7]⟩
theorem r1_ok : r1.Ok := ⟨by decide, by decide, by decide, by decide⟩
theorem r2_ok : r2.Ok := ⟨by decide, by decide, by decide, by decide⟩
theorem r3_ok : r3.Ok := ⟨by decide, by decide, by decide, by decide⟩
theorem r1_put : putR r1 = (0, [0, 17, 0, 0, 0, 0, 0]) := by decide +kernel
theorem r2_put : putR r2 = (0, [0, 0, 0, 1, 0, 0, 0, 1, 2, 0, 0, 1, 7]) := by decide +kernel
theorem r3_put : putR r3 = (2, []) := by decide +kernel
theorem o1_get : getO [] = (OV.none, 4, 0) := by kernel_rfl
theorem o2_get : getO (List.replicate 111 0) = (OV.none, 5, 0) := by kernel_rfl
theorem r4_get : getR ([0, 17, 0, 0, 0, 0, 0] ++ [0]) = (RV.none, 4, 7) := by kernel_rfl
theorem zeros_V (n : Nat) : bytesV (List.replicate n 0) = List.replicate n (.int .u8 0) := by simp [bytesV]
theorem oknown_any (w : World) : Calls Try.prog 6 #[] w fun e w' => e = .returned (.bool true) ∧ St w [] w' [] := by
  have hs0 := St.refl w
  go_enter Try.func6, Try.ntmps6
  go_wp2_with (first | go_big_skip | go_big_guard | (refine wl_buildX (T := 25) (cs := [.int .i64 1, .string ⟨#[97]⟩, .string ⟨#[98]⟩, .int .i64 0, .int .i64 0, .slice none 0 0, .slice none 0 0]) [(0, .int .i64 1), (1, .string ⟨#[97]⟩), (2, .string ⟨#[98]⟩)] rfl rfl (by exact rfl) (by kernel_rfl) ?_) | (go_at_call 15; refine (check_any kA none none 0 0 0 0 _ (Rd.nil _ _) rfl rfl (by decide)).mono ?_; rw [kA_c]; rintro _ w101 ⟨rfl, h4⟩; have hs1 := St.call0 hs0 h4; clear h4 hs0) | (refine wl_buildX (T := 25) (cs := [.int .i64 25, .string ⟨#[]⟩, .string ⟨#[]⟩, .int .i64 0, .int .i64 0, .slice none 0 0, .slice none 0 0]) [(0, .int .i64 25)] rfl rfl (by exact rfl) (by kernel_rfl) ?_) | (go_at_call 15; refine (check_any kB none none 0 0 0 0 _ (Rd.nil _ _) rfl rfl (by decide)).mono ?_; rw [kB_c]; rintro _ w102 ⟨rfl, h4⟩; have hs2 := St.call0 hs1 h4; clear h4 hs1) | (refine wl_buildX (T := 25) (cs := [.int .i64 12, .string ⟨#[97]⟩, .string ⟨#[]⟩, .int .i64 2147483648, .int .i64 0, .slice none 0 0, .slice none 0 0]) [(0, .int .i64 12), (1, .string ⟨#[97]⟩), (3, .int .i64 2147483648)] rfl rfl (by exact rfl) (by kernel_rfl) ?_) | (go_at_call 15; refine (check_any kC none none 0 0 0 0 _ (Rd.nil _ _) rfl rfl (by decide)).mono ?_; rw [kC_c]; rintro _ w103 ⟨rfl, h4⟩; have hs3 := St.call0 hs2 h4; clear h4 hs2) | (refine wl_buildX (T := 49) (cs := [.int .i64 17, .slice none 0 0, .slice none 0 0]) [(0, .int .i64 17)] rfl rfl (by exact rfl) (by kernel_rfl) ?_) | (go_at_call 27; refine (oputR_any r1 r1_ok none none 0 0 0 0 _ (Rd.nil _ _) (Rd.nil _ _) rfl rfl).mono ?_; rw [r1_put]; rintro _ w104 ⟨ua, rfl, h4⟩; have h5 : St _ [] w104 [.rowP isB ua 5 1 7 (bytesV [0, 17, 0, 0, 0, 0, 0])] := h4; have hs4 := St.call hs3 h5; clear h4 h5 hs3) | (apply wl_bsX [.int .i64 258] [.int .i64 258] hs4; rfl; rfl; exact rfl; exact rfl; infer_instance; infer_instance; rfl; rfl; rfl; intro gi w105 hs5; clear hs4) | (apply wl_bsX [.int .u8 7] [.int .u8 7] hs5; rfl; rfl; exact rfl; exact rfl; infer_instance; infer_instance; rfl; rfl; rfl; intro gb w106 hs6; clear hs5) | (refine wl_buildX (T := 49) (cs := [.int .i64 0, .slice (some ⟨gi, 0, none⟩) 1 1, .slice (some ⟨gb, 0, none⟩) 1 1]) [(1, .slice (some ⟨gi, 0, none⟩) 1 1), (2, .slice (some ⟨gb, 0, none⟩) 1 1)] rfl rfl (by exact rfl) (by kernel_rfl) ?_) | (go_at_call 27; refine (oputR_any r2 r2_ok (some ⟨gi, 0, none⟩) (some ⟨gb, 0, none⟩) 1 1 1 1 _ (Rd.blk hs6 (.tail _ (.head _)) (Nat.le_refl _) (by decide) rfl rfl) (Rd.blk hs6 (.head _) (Nat.le_refl _) (by decide) rfl rfl) rfl rfl).mono ?_; rw [r2_put]; rintro _ w107 ⟨ub, rfl, h4⟩; have h5 : St _ [] w107 [.rowP isB ub 5 1 13 (bytesV [0, 0, 0, 1, 0, 0, 0, 1, 2, 0, 0, 1, 7])] := h4; have hs7 := St.call hs6 h5; clear h4 h5 hs6) | (apply wl_bsX [.int .u8 7] [.int .u8 7] hs7; rfl; rfl; exact rfl; exact rfl; infer_instance; infer_instance; rfl; rfl; rfl; intro gc w108 hs8; clear hs7) | (refine wl_buildX (T := 49) (cs := [.int .i64 17, .slice none 0 0, .slice (some ⟨gc, 0, none⟩) 1 1]) [(0, .int .i64 17), (2, .slice (some ⟨gc, 0, none⟩) 1 1)] rfl rfl (by exact rfl) (by kernel_rfl) ?_) | (go_at_call 27; refine (oputR_any r3 r3_ok none (some ⟨gc, 0, none⟩) 0 0 1 1 _ (Rd.nil _ _) (Rd.blk hs8 (.head _) (Nat.le_refl _) (by decide) rfl rfl) rfl rfl).mono ?_; rw [r3_put]; rintro _ w109 ⟨uc, rfl, h4⟩; have h5 : St _ [] w109 [.rowP isB uc 5 1 0 (bytesV [])] := h4; have hs9 := St.call hs8 h5; clear h4 h5 hs8) | (apply wl_bsX [.int .u8 0, .int .u8 17, .int .u8 0, .int .u8 0, .int .u8 0, .int .u8 0, .int .u8 0] [.int .u8 0, .int .u8 17, .int .u8 0, .int .u8 0, .int .u8 0, .int .u8 0, .int .u8 0] hs9; rfl; rfl; exact rfl; exact rfl; infer_instance; infer_instance; rfl; rfl; rfl; intro g7 w110 hs10; clear hs9) | (go_at_call 14; refine (sameBytes_any _ _ 7 7 [0, 17, 0, 0, 0, 0, 0] [0, 17, 0, 0, 0, 0, 0] _ (Rd.rowP hs10 (.tail _ (.tail _ (.tail _ (.tail _ (.tail _ (.tail _ (.head _)))))))) (Rd.blk hs10 (.head _) (Nat.le_refl _) (by decide) rfl rfl)).mono ?_; rw [beq_self_eq_true]; rintro _ w111 ⟨rfl, h4⟩; have hs11 := St.call0 hs10 h4; clear h4 hs10) | (apply wl_bsX [.int .u8 0, .int .u8 0, .int .u8 0, .int .u8 1, .int .u8 0, .int .u8 0, .int .u8 0, .int .u8 1, .int .u8 2, .int .u8 0, .int .u8 0, .int .u8 1, .int .u8 7] [.int .u8 0, .int .u8 0, .int .u8 0, .int .u8 1, .int .u8 0, .int .u8 0, .int .u8 0, .int .u8 1, .int .u8 2, .int .u8 0, .int .u8 0, .int .u8 1, .int .u8 7] hs11; rfl; rfl; exact rfl; exact rfl; infer_instance; infer_instance; rfl; rfl; rfl; intro g13 w112 hs12; clear hs11) | (go_at_call 14; refine (sameBytes_any _ _ 13 13 [0, 0, 0, 1, 0, 0, 0, 1, 2, 0, 0, 1, 7] [0, 0, 0, 1, 0, 0, 0, 1, 2, 0, 0, 1, 7] _ (Rd.rowP hs12 (.tail _ (.tail _ (.tail _ (.tail _ (.head _)))))) (Rd.blk hs12 (.head _) (Nat.le_refl _) (by decide) rfl rfl)).mono ?_; rw [beq_self_eq_true]; rintro _ w113 ⟨rfl, h4⟩; have hs13 := St.call0 hs12 h4; clear h4 hs12) | (go_at_call 22; refine (oget_any none 0 0 [] _ (Rd.nil _ _) rfl (by decide)).mono ?_; rw [o1_get]; rintro _ w114 ⟨lb, bb, rfl, h4⟩; have hs14 := St.call hs13 h4; clear h4 hs13; obtain ⟨alb, clb, rfl⟩ := St.rowPSliceF [] hs14; obtain ⟨abb, cbb, rfl⟩ := St.rowPSliceF [_] hs14) | (refine wl_alloc (T := 25) hs14 rfl rfl ?_; intro e1 w115 hs15; clear hs14) | (refine wl_alloc (T := 42) hs15 rfl rfl ?_; intro f1 w116 hs16; clear hs15) | (refine wl_storeA (T := 25) (vs := [.int .i64 0, .string ⟨#[]⟩, .string ⟨#[]⟩, .int .i64 0, .int .i64 0, .slice alb 0 clb, .slice abb 0 cbb]) [_] hs16 rfl rfl (by kernel_rfl) (by kernel_rfl) rfl rfl rfl ?_; intro w117 hs17; clear hs16) | (refine wl_storeA (T := 42) (vs := [.int .i64 4, .int .i64 0]) [] hs17 rfl rfl (by kernel_rfl) (by kernel_rfl) rfl rfl rfl ?_; intro w118 hs18; clear hs17) | (apply wl_make 111 111 hs18; rfl; rfl; exact rfl; exact rfl; infer_instance; infer_instance; infer_instance; exact rfl; exact rfl; exact Nat.le_refl _; (constructor <;> decide); intro gm w119 hs19; clear hs18) | (go_at_call 22; refine (oget_any (some ⟨gm, 0, none⟩) 111 111 (List.replicate 111 0) _ (Rd.blk hs19 (.head _) (Nat.le_refl _) (by decide) (by kernel_rfl) (by kernel_rfl)) (by decide +kernel) (by decide)).mono ?_; rw [o2_get]; rintro _ w120 ⟨ld, bd, rfl, h4⟩; have hs20 := St.call hs19 h4; clear h4 hs19; obtain ⟨ald, cld, rfl⟩ := St.rowPSliceF [] hs20; obtain ⟨abd, cbd, rfl⟩ := St.rowPSliceF [_] hs20) | (refine wl_alloc (T := 25) hs20 rfl rfl ?_; intro e2 w121 hs21; clear hs20) | (refine wl_alloc (T := 42) hs21 rfl rfl ?_; intro f2 w122 hs22; clear hs21) | (refine wl_storeA (T := 25) (vs := [.int .i64 0, .string ⟨#[]⟩, .string ⟨#[]⟩, .int .i64 0, .int .i64 0, .slice ald 0 cld, .slice abd 0 cbd]) [_] hs22 rfl rfl (by kernel_rfl) (by kernel_rfl) rfl rfl rfl ?_; intro w123 hs23; clear hs22) | (refine wl_storeA (T := 42) (vs := [.int .i64 5, .int .i64 0]) [] hs23 rfl rfl (by kernel_rfl) (by kernel_rfl) rfl rfl rfl ?_; intro w124 hs24; clear hs23) | (apply wl_bsX [.int .u8 0] [.int .u8 0] hs24; rfl; rfl; exact rfl; exact rfl; infer_instance; infer_instance; rfl; rfl; rfl; intro gz w125 hs25; clear hs24) | (apply wl_appP (p := isB) (ys := bytesV [0]) [_, _, _, _, _, _, _, _, _, _, _, _, _, _, _, _, _] hs25; rfl; rfl; exact rfl; exact rfl; infer_instance; infer_instance; infer_instance; infer_instance; exact (Rd.blk0 hs25 rfl (by decide)); exact rfl; rfl; exact isB_bytes _; (unfold maxLen; omega); intro uz w126 hs26 _; clear hs25; rw [← bytesV_app] at hs26; obtain ⟨auz, cuz, rfl⟩ := St.rowPSliceF [_, _, _, _, _, _, _, _, _, _, _, _, _, _, _, _, _] hs26) | (go_at_call 30; refine (ogetR_any _ 8 _ ([0, 17, 0, 0, 0, 0, 0] ++ [0]) _ (Rd.rowP hs26 (.tail _ (.tail _ (.tail _ (.tail _ (.tail _ (.tail _ (.tail _ (.tail _ (.tail _ (.tail _ (.tail _ (.tail _ (.tail _ (.tail _ (.tail _ (.tail _ (.tail _ (.head _))))))))))))))))))) rfl (by decide)).mono ?_; rw [r4_get]; rintro _ w127 ⟨lf, bf, rfl, h4⟩; have hs27 := St.call hs26 h4; clear h4 hs26; obtain ⟨alf, clf, rfl⟩ := St.rowPSliceF [] hs27; obtain ⟨abf, cbf, rfl⟩ := St.rowPSliceF [_] hs27) | (refine wl_alloc (T := 49) hs27 rfl rfl ?_; intro e3 w128 hs28; clear hs27) | (refine wl_alloc (T := 42) hs28 rfl rfl ?_; intro f3 w129 hs29; clear hs28) | (refine wl_storeA (T := 49) (vs := [.int .i64 0, .slice alf 0 clf, .slice abf 0 cbf]) [_] hs29 rfl rfl (by kernel_rfl) (by kernel_rfl) rfl rfl rfl ?_; intro w130 hs30; clear hs29) | (refine wl_storeA (T := 42) (vs := [.int .i64 4, .int .i64 7]) [] hs30 rfl rfl (by kernel_rfl) (by kernel_rfl) rfl rfl rfl ?_; intro w131 hs31; clear hs30) | (go_at_call 10; refine (awake_any _).mono ?_; rintro _ w132 ⟨rfl, h4⟩; have hs32 := St.call0 hs31 h4; clear h4 hs31) | (refine wl_loadE rfl rfl rfl ?_; first | refine ⟨_, Loads.whole (T := 42) [_, _, _, _, _, _, _, _, _, _] hs32 rfl, ?_⟩ | refine ⟨_, Loads.whole (T := 42) [_, _, _, _, _] hs32 rfl, ?_⟩ | refine ⟨_, Loads.whole (T := 42) [] hs32 rfl, ?_⟩) | (refine wl_buildX (T := 42) (cs := [.int .i64 4, .int .i64 0]) [(0, .int .i64 4)] rfl rfl (by exact rfl) (by kernel_rfl) ?_) | (refine wl_buildX (T := 42) (cs := [.int .i64 5, .int .i64 0]) [(0, .int .i64 5)] rfl rfl (by exact rfl) (by kernel_rfl) ?_) | (refine wl_buildX (T := 42) (cs := [.int .i64 4, .int .i64 7]) [(0, .int .i64 4), (1, .int .i64 7)] rfl rfl (by exact rfl) (by kernel_rfl) ?_))
  go_ret
  exact ⟨rfl, hs32.nil⟩
end Go.Proofs.Ytalfdcfcaamnbaa
namespace Go.Proofs.Ytalfdcfcaamnbaa
set_option linter.unusedVariables false
set_option linter.unusedSimpArgs false
open Go.RowKit Hp
attribute [local irreducible] Go.Calls Go.wpList Hp.gvV Hp.gB Hp.gA Hp.bOr Hp.bAnd Hp.bNot us withinB longB
set_option maxRecDepth 100000
set_option maxHeartbeats 4000000
def OV.qA (o : OV) (nl nb : Nat) : Bool := ((((((decide (o.op < 1) || decide (24 < o.op)) || longB o.name) || longB o.dest) || !withinB o.n) || !withinB o.m) || decide (16 < (nl : Int))) || decide (16384 < (nb : Int))
def OV.qC (o : OV) (nl nb : Nat) : Bool := (((((!us o.op 0 && !(o.name == [])) || (!us o.op 1 && !(o.dest == []))) || (!us o.op 2 && (o.n != 0))) || (!us o.op 3 && (o.m != 0))) || (!us o.op 4 && decide (0 < (nl : Int)))) || (!us o.op 5 && decide (0 < (nb : Int)))
theorem OV.qcheck (o : OV) {nl nb : Nat} (hl : o.l.length = nl) (hb : o.b.length = nb) : o.check = if o.qA nl nb then 2 else if o.l.any longB then 2 else if o.qC nl nb then 2 else 0 := by
  unfold OV.check OV.oddA OV.oddB OV.oddC OV.qA OV.qC
  rw [hl, hb]
  generalize decide (o.op < 1) = a1
  generalize decide (24 < o.op) = a2
  generalize withinB o.n = a3
  generalize withinB o.m = a4
  generalize decide (16 < (nl : Int)) = a5
  generalize decide (16384 < (nb : Int)) = a6
  generalize longB o.name = a7
  generalize longB o.dest = a8
  generalize o.l.any longB = a9
  rw [Bool.and_comm (!us o.op 0), Bool.and_comm (!us o.op 1), Bool.and_comm (!us o.op 2), Bool.and_comm (!us o.op 3), Bool.and_comm (!us o.op 4), Bool.and_comm (!us o.op 5)]
  cases a1 <;> cases a2 <;> cases a7 <;> cases a8 <;> cases a3 <;> cases a4 <;> cases a5 <;> cases a6 <;> simp
theorem wl_glong {ops : Array Oper} {rest : List Oper} {o : Oper} {a : Act} {w : World} {Q : Exit → Act → World → Prop} {g : Bool} {T T' : TypeId} {x y : Operand} {s : List UInt8} (hop : o.op = .binOp .gtr T x y T') (hw : Region.wanted o (yielded ops a.tmps) = g) (hx : g = true → evL a x = .int .i64 (s.length : Int)) (hy : evL a y = .int .i64 48)
    (h : wpList Try.prog ops Q rest (a.put o.dst (gvV g (.bool (longB s)))) w) : wpList Try.prog ops Q (o :: rest) a w :=
  wl_gcmp hop hw hx (fun _ => hy) (by unfold longB; rfl) h
theorem qcheck_any (o : OV) (al ab : Option Addr) (nl cl nb cb : Nat) (w : World) (hl : Rd w (.slice al nl cl) 1 nl (strsV o.l)) (hnl : o.l.length = nl) (hnb : o.b.length = nb) (hb : nl ≤ 1000000) :
    Calls Try.prog 16 #[.agg (o.cells (.slice al nl cl) (.slice ab nb cb)).toArray] w fun e w' => e = .returned (.int .i64 o.check) ∧ St w [] w' [] := by
  have hst0 := St.refl w
  obtain ⟨R, hR⟩ : ∃ R, R = o.check := ⟨_, rfl⟩
  rw [← hR]
  have HR := hid (hR.trans (OV.qcheck o hnl hnb))
  have HLn := hid hnl
  clear hR
  clear hnl hnb
  show Calls Try.prog 16 #[.agg (List.toArray [.int .i64 o.op, strV o.name, strV o.dest, .int .i64 o.n, .int .i64 o.m, .slice al nl cl, .slice ab nb cb])] w _
  go_enter Try.func16, Try.ntmps16
  go_wp2_with (first | go_big_skip | (refine wl_boxA hst0 rfl rfl rfl ?_; intro g1 _ hst1; clear hst0) | (refine wl_loadE rfl rfl rfl ?_; first | refine ⟨_, Loads.at [] hst1 rfl, ?_⟩) | (go_at_call 18; refine (quses_any o.op _).mono ?_; rintro _ w9 ⟨rfl, h4⟩; have hst2 := St.call0 hst1 h4; clear h4 hst1) | (refine wl_alloc hst2 rfl rfl ?_; intro g3 _ hst3; clear hst2) | (refine wl_storeA [] hst3 rfl rfl rfl rfl rfl rfl rfl ?_; intro w6 hst; clear hst3) | (show wpList _ _ _ (Oper.mk _ (.binOp .gtr 3 _ _ _) _ _ _ (some _) :: _) _ _; refine wl_glong rfl (by first | exact wanted_b rfl rfl | exact wanted_g rfl rfl) (by first | exact (fun hg => gvV_on hg) | exact (fun hg => gvV_gA hg) | exact (fun _ => rfl)) rfl ?_; (try simp only [Act.put, List.setIfInBounds_toArray, List.set_cons_zero, List.set_cons_succ]); (repeat ((first | (show wpList _ _ _ (Oper.mk _ (.move _) _ _ _ none :: _) _ _; refine wl_mv rfl rfl rfl ?_) | (show wpList _ _ _ (Oper.mk _ (.pick _ _ _) _ _ _ none :: _) _ _; (first | (refine wl_pickOr rfl rfl rfl rfl rfl ?_; intro q hq) | (refine wl_pickAnd rfl rfl rfl rfl rfl ?_; intro q hq))) | (show wpList _ _ _ (Oper.mk _ (.pick _ _ _) _ _ _ (some _) :: _) _ _; (first | (refine wl_gpickOr rfl (by first | exact wanted_b rfl rfl | exact wanted_g rfl rfl) rfl rfl rfl ?_; intro q hq) | (refine wl_gpickAnd rfl (by first | exact wanted_b rfl rfl | exact wanted_g rfl rfl) rfl rfl rfl ?_; intro q hq))) | (show wpList _ _ _ (Oper.mk _ (.move _) _ _ _ (some _) :: _) _ _; refine wl_gmove rfl (by first | exact wanted_b rfl rfl | exact wanted_g rfl rfl) (by first | exact (fun hg => gvV_on hg) | exact (fun hg => gvV_gA hg) | exact (fun _ => rfl)) ?_)); (try simp only [Act.put, List.setIfInBounds_toArray, List.set_cons_zero, List.set_cons_succ])))) | (show wpList _ _ _ (Oper.mk _ (.fieldAddr _ _ _) _ _ _ (some _) :: _) _ _; refine wl_gfld1 rfl (by first | exact wanted_b rfl rfl | exact wanted_g rfl rfl) (by first | exact (fun hg => gvV_on hg) | exact (fun hg => gvV_gA hg) | exact (fun _ => rfl)) (by kernel_rfl) ?_; (try simp only [Act.put, List.setIfInBounds_toArray, List.set_cons_zero, List.set_cons_succ])) | (show wpList _ _ _ (Oper.mk _ (.load _ _) _ _ _ (some _) :: _) _ _; refine wl_gloadE rfl (by first | exact wanted_b rfl rfl | exact wanted_g rfl rfl) (by first | exact (fun hg => gvV_on hg) | exact (fun hg => gvV_gA hg) | exact (fun _ => rfl)) ?_; (first | refine ⟨_, Loads.at [_] hst rfl, ?_⟩ | refine ⟨_, Loads.at [] hst rfl, ?_⟩); (try simp only [Act.put, List.setIfInBounds_toArray, List.set_cons_zero, List.set_cons_succ]); (repeat ((first | (show wpList _ _ _ (Oper.mk _ (.move _) _ _ _ none :: _) _ _; refine wl_mv rfl rfl rfl ?_) | (show wpList _ _ _ (Oper.mk _ (.pick _ _ _) _ _ _ none :: _) _ _; (first | (refine wl_pickOr rfl rfl rfl rfl rfl ?_; intro q hq) | (refine wl_pickAnd rfl rfl rfl rfl rfl ?_; intro q hq))) | (show wpList _ _ _ (Oper.mk _ (.pick _ _ _) _ _ _ (some _) :: _) _ _; (first | (refine wl_gpickOr rfl (by first | exact wanted_b rfl rfl | exact wanted_g rfl rfl) rfl rfl rfl ?_; intro q hq) | (refine wl_gpickAnd rfl (by first | exact wanted_b rfl rfl | exact wanted_g rfl rfl) rfl rfl rfl ?_; intro q hq))) | (show wpList _ _ _ (Oper.mk _ (.move _) _ _ _ (some _) :: _) _ _; refine wl_gmove rfl (by first | exact wanted_b rfl rfl | exact wanted_g rfl rfl) (by first | exact (fun hg => gvV_on hg) | exact (fun hg => gvV_gA hg) | exact (fun _ => rfl)) ?_)); (try simp only [Act.put, List.setIfInBounds_toArray, List.set_cons_zero, List.set_cons_succ])))) | (show wpList _ _ _ (Oper.mk _ (.binOp _ 3 _ _ _) _ _ _ (some _) :: _) _ _; refine wl_gcmp rfl (by first | exact wanted_b rfl rfl | exact wanted_g rfl rfl) (by first | exact (fun hg => gvV_on hg) | exact (fun hg => gvV_gA hg) | exact (fun _ => rfl)) (by first | exact (fun hg => gvV_on hg) | exact (fun hg => gvV_gA hg) | exact (fun _ => rfl)) rfl ?_; (try simp only [Act.put, List.setIfInBounds_toArray, List.set_cons_zero, List.set_cons_succ]); (repeat ((first | (show wpList _ _ _ (Oper.mk _ (.move _) _ _ _ none :: _) _ _; refine wl_mv rfl rfl rfl ?_) | (show wpList _ _ _ (Oper.mk _ (.pick _ _ _) _ _ _ none :: _) _ _; (first | (refine wl_pickOr rfl rfl rfl rfl rfl ?_; intro q hq) | (refine wl_pickAnd rfl rfl rfl rfl rfl ?_; intro q hq))) | (show wpList _ _ _ (Oper.mk _ (.pick _ _ _) _ _ _ (some _) :: _) _ _; (first | (refine wl_gpickOr rfl (by first | exact wanted_b rfl rfl | exact wanted_g rfl rfl) rfl rfl rfl ?_; intro q hq) | (refine wl_gpickAnd rfl (by first | exact wanted_b rfl rfl | exact wanted_g rfl rfl) rfl rfl rfl ?_; intro q hq))) | (show wpList _ _ _ (Oper.mk _ (.move _) _ _ _ (some _) :: _) _ _; refine wl_gmove rfl (by first | exact wanted_b rfl rfl | exact wanted_g rfl rfl) (by first | exact (fun hg => gvV_on hg) | exact (fun hg => gvV_gA hg) | exact (fun _ => rfl)) ?_)); (try simp only [Act.put, List.setIfInBounds_toArray, List.set_cons_zero, List.set_cons_succ])))) | (show wpList _ _ _ (Oper.mk _ (.binOp .neq 9 _ _ _) _ _ _ (some _) :: _) _ _; refine wl_gneqS rfl (by first | exact wanted_b rfl rfl | exact wanted_g rfl rfl) (by first | exact (fun hg => gvV_on hg) | exact (fun hg => gvV_gA hg) | exact (fun _ => rfl)) (by first | exact (fun hg => gvV_on hg) | exact (fun hg => gvV_gA hg) | exact (fun _ => rfl)) ?_; (try simp only [Act.put, List.setIfInBounds_toArray, List.set_cons_zero, List.set_cons_succ]); (repeat ((first | (show wpList _ _ _ (Oper.mk _ (.move _) _ _ _ none :: _) _ _; refine wl_mv rfl rfl rfl ?_) | (show wpList _ _ _ (Oper.mk _ (.pick _ _ _) _ _ _ none :: _) _ _; (first | (refine wl_pickOr rfl rfl rfl rfl rfl ?_; intro q hq) | (refine wl_pickAnd rfl rfl rfl rfl rfl ?_; intro q hq))) | (show wpList _ _ _ (Oper.mk _ (.pick _ _ _) _ _ _ (some _) :: _) _ _; (first | (refine wl_gpickOr rfl (by first | exact wanted_b rfl rfl | exact wanted_g rfl rfl) rfl rfl rfl ?_; intro q hq) | (refine wl_gpickAnd rfl (by first | exact wanted_b rfl rfl | exact wanted_g rfl rfl) rfl rfl rfl ?_; intro q hq))) | (show wpList _ _ _ (Oper.mk _ (.move _) _ _ _ (some _) :: _) _ _; refine wl_gmove rfl (by first | exact wanted_b rfl rfl | exact wanted_g rfl rfl) (by first | exact (fun hg => gvV_on hg) | exact (fun hg => gvV_gA hg) | exact (fun _ => rfl)) ?_)); (try simp only [Act.put, List.setIfInBounds_toArray, List.set_cons_zero, List.set_cons_succ])))) | (show wpList _ _ _ (Oper.mk _ (.binOp .eql 9 _ _ _) _ _ _ (some _) :: _) _ _; refine wl_geqS rfl (by first | exact wanted_b rfl rfl | exact wanted_g rfl rfl) (by first | exact (fun hg => gvV_on hg) | exact (fun hg => gvV_gA hg) | exact (fun _ => rfl)) (by first | exact (fun hg => gvV_on hg) | exact (fun hg => gvV_gA hg) | exact (fun _ => rfl)) ?_; (try simp only [Act.put, List.setIfInBounds_toArray, List.set_cons_zero, List.set_cons_succ]); (repeat ((first | (show wpList _ _ _ (Oper.mk _ (.move _) _ _ _ none :: _) _ _; refine wl_mv rfl rfl rfl ?_) | (show wpList _ _ _ (Oper.mk _ (.pick _ _ _) _ _ _ none :: _) _ _; (first | (refine wl_pickOr rfl rfl rfl rfl rfl ?_; intro q hq) | (refine wl_pickAnd rfl rfl rfl rfl rfl ?_; intro q hq))) | (show wpList _ _ _ (Oper.mk _ (.pick _ _ _) _ _ _ (some _) :: _) _ _; (first | (refine wl_gpickOr rfl (by first | exact wanted_b rfl rfl | exact wanted_g rfl rfl) rfl rfl rfl ?_; intro q hq) | (refine wl_gpickAnd rfl (by first | exact wanted_b rfl rfl | exact wanted_g rfl rfl) rfl rfl rfl ?_; intro q hq))) | (show wpList _ _ _ (Oper.mk _ (.move _) _ _ _ (some _) :: _) _ _; refine wl_gmove rfl (by first | exact wanted_b rfl rfl | exact wanted_g rfl rfl) (by first | exact (fun hg => gvV_on hg) | exact (fun hg => gvV_gA hg) | exact (fun _ => rfl)) ?_)); (try simp only [Act.put, List.setIfInBounds_toArray, List.set_cons_zero, List.set_cons_succ])))) | (show wpList _ _ _ (Oper.mk _ (.binOp .neq 9 _ _ _) _ _ _ none :: _) _ _; refine wl_neqS rfl rfl rfl rfl ?_; (try simp only [Act.put, List.setIfInBounds_toArray, List.set_cons_zero, List.set_cons_succ]); (repeat ((first | (show wpList _ _ _ (Oper.mk _ (.move _) _ _ _ none :: _) _ _; refine wl_mv rfl rfl rfl ?_) | (show wpList _ _ _ (Oper.mk _ (.pick _ _ _) _ _ _ none :: _) _ _; (first | (refine wl_pickOr rfl rfl rfl rfl rfl ?_; intro q hq) | (refine wl_pickAnd rfl rfl rfl rfl rfl ?_; intro q hq))) | (show wpList _ _ _ (Oper.mk _ (.pick _ _ _) _ _ _ (some _) :: _) _ _; (first | (refine wl_gpickOr rfl (by first | exact wanted_b rfl rfl | exact wanted_g rfl rfl) rfl rfl rfl ?_; intro q hq) | (refine wl_gpickAnd rfl (by first | exact wanted_b rfl rfl | exact wanted_g rfl rfl) rfl rfl rfl ?_; intro q hq))) | (show wpList _ _ _ (Oper.mk _ (.move _) _ _ _ (some _) :: _) _ _; refine wl_gmove rfl (by first | exact wanted_b rfl rfl | exact wanted_g rfl rfl) (by first | exact (fun hg => gvV_on hg) | exact (fun hg => gvV_gA hg) | exact (fun _ => rfl)) ?_)); (try simp only [Act.put, List.setIfInBounds_toArray, List.set_cons_zero, List.set_cons_succ])))) | (show wpList _ _ _ (Oper.mk _ (.binOp .eql 9 _ _ _) _ _ _ none :: _) _ _; refine wl_eqS rfl rfl rfl rfl ?_; (try simp only [Act.put, List.setIfInBounds_toArray, List.set_cons_zero, List.set_cons_succ]); (repeat ((first | (show wpList _ _ _ (Oper.mk _ (.move _) _ _ _ none :: _) _ _; refine wl_mv rfl rfl rfl ?_) | (show wpList _ _ _ (Oper.mk _ (.pick _ _ _) _ _ _ none :: _) _ _; (first | (refine wl_pickOr rfl rfl rfl rfl rfl ?_; intro q hq) | (refine wl_pickAnd rfl rfl rfl rfl rfl ?_; intro q hq))) | (show wpList _ _ _ (Oper.mk _ (.pick _ _ _) _ _ _ (some _) :: _) _ _; (first | (refine wl_gpickOr rfl (by first | exact wanted_b rfl rfl | exact wanted_g rfl rfl) rfl rfl rfl ?_; intro q hq) | (refine wl_gpickAnd rfl (by first | exact wanted_b rfl rfl | exact wanted_g rfl rfl) rfl rfl rfl ?_; intro q hq))) | (show wpList _ _ _ (Oper.mk _ (.move _) _ _ _ (some _) :: _) _ _; refine wl_gmove rfl (by first | exact wanted_b rfl rfl | exact wanted_g rfl rfl) (by first | exact (fun hg => gvV_on hg) | exact (fun hg => gvV_gA hg) | exact (fun _ => rfl)) ?_)); (try simp only [Act.put, List.setIfInBounds_toArray, List.set_cons_zero, List.set_cons_succ])))) | (show wpList _ _ _ (Oper.mk _ (.call (Call.mk (.builtin .len) _ #[9])) _ _ _ (some _) :: _) _ _; refine wl_glenS rfl (by first | exact wanted_b rfl rfl | exact wanted_g rfl rfl) (by first | exact (fun hg => gvV_on hg) | exact (fun hg => gvV_gA hg) | exact (fun _ => rfl)) ?_; (try simp only [Act.put, List.setIfInBounds_toArray, List.set_cons_zero, List.set_cons_succ])) | (show wpList _ _ _ (Oper.mk _ (.call (Call.mk (.builtin .len) _ #[23])) _ _ _ (some _) :: _) _ _; refine wl_glen rfl (by first | exact wanted_b rfl rfl | exact wanted_g rfl rfl) (by first | exact (fun hg => gvV_on hg) | exact (fun hg => gvV_gA hg) | exact (fun _ => rfl)) ?_; (try simp only [Act.put, List.setIfInBounds_toArray, List.set_cons_zero, List.set_cons_succ])) | (show wpList _ _ _ (Oper.mk _ (.call (Call.mk (.builtin .len) _ #[22])) _ _ _ (some _) :: _) _ _; refine wl_glen rfl (by first | exact wanted_b rfl rfl | exact wanted_g rfl rfl) (by first | exact (fun hg => gvV_on hg) | exact (fun hg => gvV_gA hg) | exact (fun _ => rfl)) ?_; (try simp only [Act.put, List.setIfInBounds_toArray, List.set_cons_zero, List.set_cons_succ])) | (show wpList _ _ _ (Oper.mk _ (.unOp .not _ _) _ _ _ (some _) :: _) _ _; refine wl_gnot rfl (by first | exact wanted_b rfl rfl | exact wanted_g rfl rfl) (by first | exact (fun hg => gvV_on hg) | exact (fun hg => gvV_gA hg) | exact (fun _ => rfl)) ?_; (try simp only [Act.put, List.setIfInBounds_toArray, List.set_cons_zero, List.set_cons_succ]); (repeat ((first | (show wpList _ _ _ (Oper.mk _ (.move _) _ _ _ none :: _) _ _; refine wl_mv rfl rfl rfl ?_) | (show wpList _ _ _ (Oper.mk _ (.pick _ _ _) _ _ _ none :: _) _ _; (first | (refine wl_pickOr rfl rfl rfl rfl rfl ?_; intro q hq) | (refine wl_pickAnd rfl rfl rfl rfl rfl ?_; intro q hq))) | (show wpList _ _ _ (Oper.mk _ (.pick _ _ _) _ _ _ (some _) :: _) _ _; (first | (refine wl_gpickOr rfl (by first | exact wanted_b rfl rfl | exact wanted_g rfl rfl) rfl rfl rfl ?_; intro q hq) | (refine wl_gpickAnd rfl (by first | exact wanted_b rfl rfl | exact wanted_g rfl rfl) rfl rfl rfl ?_; intro q hq))) | (show wpList _ _ _ (Oper.mk _ (.move _) _ _ _ (some _) :: _) _ _; refine wl_gmove rfl (by first | exact wanted_b rfl rfl | exact wanted_g rfl rfl) (by first | exact (fun hg => gvV_on hg) | exact (fun hg => gvV_gA hg) | exact (fun _ => rfl)) ?_)); (try simp only [Act.put, List.setIfInBounds_toArray, List.set_cons_zero, List.set_cons_succ])))) | (show wpList _ _ _ (Oper.mk _ (.call (Call.mk (.value (.func 42)) _ _)) _ _ _ (some _) :: _) _ _; refine wl_gcall (v := .bool (withinB o.n)) hst (by first | exact wanted_b rfl rfl | exact wanted_g rfl rfl) ?_ ?_; (intro hg K hK; have Hg := hid hg; clear hg; go_simp; go_at_call 42; (try (conv => (arg 3; simp only [gvV_on Hg.out]))); refine (number_any o.n _).mono ?_; rintro _ w9 ⟨rfl, h4⟩; have hk := hK _ (St.call0 hst h4); simp only [Act.put, List.setIfInBounds_toArray, List.set_cons_zero, List.set_cons_succ] at hk; dsimp only; exact hk); (intro w5 hst5; replace hst := hst5; clear hst5; (try simp only [Act.put, List.setIfInBounds_toArray, List.set_cons_zero, List.set_cons_succ]); (repeat ((first | (show wpList _ _ _ (Oper.mk _ (.move _) _ _ _ none :: _) _ _; refine wl_mv rfl rfl rfl ?_) | (show wpList _ _ _ (Oper.mk _ (.pick _ _ _) _ _ _ none :: _) _ _; (first | (refine wl_pickOr rfl rfl rfl rfl rfl ?_; intro q hq) | (refine wl_pickAnd rfl rfl rfl rfl rfl ?_; intro q hq))) | (show wpList _ _ _ (Oper.mk _ (.pick _ _ _) _ _ _ (some _) :: _) _ _; (first | (refine wl_gpickOr rfl (by first | exact wanted_b rfl rfl | exact wanted_g rfl rfl) rfl rfl rfl ?_; intro q hq) | (refine wl_gpickAnd rfl (by first | exact wanted_b rfl rfl | exact wanted_g rfl rfl) rfl rfl rfl ?_; intro q hq))) | (show wpList _ _ _ (Oper.mk _ (.move _) _ _ _ (some _) :: _) _ _; refine wl_gmove rfl (by first | exact wanted_b rfl rfl | exact wanted_g rfl rfl) (by first | exact (fun hg => gvV_on hg) | exact (fun hg => gvV_gA hg) | exact (fun _ => rfl)) ?_)); (try simp only [Act.put, List.setIfInBounds_toArray, List.set_cons_zero, List.set_cons_succ]))))) | (show wpList _ _ _ (Oper.mk _ (.call (Call.mk (.value (.func 42)) _ _)) _ _ _ (some _) :: _) _ _; refine wl_gcall (v := .bool (withinB o.m)) hst (by first | exact wanted_b rfl rfl | exact wanted_g rfl rfl) ?_ ?_; (intro hg K hK; have Hg := hid hg; clear hg; go_simp; go_at_call 42; (try (conv => (arg 3; simp only [gvV_on Hg.out]))); refine (number_any o.m _).mono ?_; rintro _ w9 ⟨rfl, h4⟩; have hk := hK _ (St.call0 hst h4); simp only [Act.put, List.setIfInBounds_toArray, List.set_cons_zero, List.set_cons_succ] at hk; dsimp only; exact hk); (intro w5 hst5; replace hst := hst5; clear hst5; (try simp only [Act.put, List.setIfInBounds_toArray, List.set_cons_zero, List.set_cons_succ]); (repeat ((first | (show wpList _ _ _ (Oper.mk _ (.move _) _ _ _ none :: _) _ _; refine wl_mv rfl rfl rfl ?_) | (show wpList _ _ _ (Oper.mk _ (.pick _ _ _) _ _ _ none :: _) _ _; (first | (refine wl_pickOr rfl rfl rfl rfl rfl ?_; intro q hq) | (refine wl_pickAnd rfl rfl rfl rfl rfl ?_; intro q hq))) | (show wpList _ _ _ (Oper.mk _ (.pick _ _ _) _ _ _ (some _) :: _) _ _; (first | (refine wl_gpickOr rfl (by first | exact wanted_b rfl rfl | exact wanted_g rfl rfl) rfl rfl rfl ?_; intro q hq) | (refine wl_gpickAnd rfl (by first | exact wanted_b rfl rfl | exact wanted_g rfl rfl) rfl rfl rfl ?_; intro q hq))) | (show wpList _ _ _ (Oper.mk _ (.move _) _ _ _ (some _) :: _) _ _; refine wl_gmove rfl (by first | exact wanted_b rfl rfl | exact wanted_g rfl rfl) (by first | exact (fun hg => gvV_on hg) | exact (fun hg => gvV_gA hg) | exact (fun _ => rfl)) ?_)); (try simp only [Act.put, List.setIfInBounds_toArray, List.set_cons_zero, List.set_cons_succ]))))) | (refine wl_loadE rfl rfl rfl ?_; first | refine ⟨_, Loads.at [_] hst rfl, ?_⟩ | refine ⟨_, Loads.at [] hst rfl, ?_⟩))
  · go_ret
    refine ⟨congrArg (fun z => Ending.returned (Value.int .i64 z)) (?_ : (_ : Int) = R), hst.nil⟩
    have eA : OV.qA o nl nb = ((((((((decide (o.op < 1) || decide (24 < o.op)) || longB o.name) || longB o.dest) || !withinB o.n) || !withinB o.m) || decide (16 < (nl : Int))) || decide (16384 < (nb : Int)))) := rfl
    have hR := HR.out
    clear HR HLn hst hl
    simp only [hid_iff, bNot_eq] at *
    simp_all only [Bool.false_or, Bool.true_or, if_true, if_false, Bool.false_eq_true]
  · rename q = false => hq0
    have hA : OV.qA o nl nb = false := by
      have eA : OV.qA o nl nb = ((((((((decide (o.op < 1) || decide (24 < o.op)) || longB o.name) || longB o.dest) || !withinB o.n) || !withinB o.m) || decide (16 < (nl : Int))) || decide (16384 < (nb : Int)))) := rfl
      clear HR HLn hst hl
      simp only [hid_iff, bNot_eq] at *
      simp_all only [Bool.false_or, Bool.true_or, if_true, if_false, Bool.false_eq_true]
    have HA := hid hA
    have hsz : ∀ x : List UInt8, (⟨x.toArray⟩ : ByteArray).size = x.length := fun x => by simp [ByteArray.size]
    clear hA hq0
    go_loopw [4] (fun i wr => ∃ j : Nat, j ≤ nl ∧ i = .int .i64 (j : Int) ∧ St w [] wr [.blk g3 35 (usesC o.op), .blk g1 25 [.int .i64 o.op, strV o.name, strV o.dest, .int .i64 o.n, .int .i64 o.m, .slice al nl cl, .slice ab nb cb]] ∧ Hid (∀ x ∈ o.l.take j, longB x = false)) (fun i _ => nl - (intOf i).toNat)
    case atStart => exact ⟨0, Nat.zero_le _, rfl, hst, hid (by simp)⟩
    case round =>
      clear hst
      obtain ⟨j, hj, rfl, hst, HP⟩ := hrel
      by_cases hlt : j < nl
      · have d1 : decide ((j : Int) < (nl : Int)) = true := decide_eq_true (by omega)
        have z1 : IntKind.i64.wrap ((j : Int) + 1) = (j : Int) + 1 := IntWalk.i64_in _ (by omega)
        have hjl : j < o.l.length := by rw [HLn.out]; exact hlt
        obtain ⟨x, hx⟩ : ∃ x, o.l[j]? = some x := ⟨_, List.getElem?_eq_getElem hjl⟩
        have HX := hid hx
        obtain ⟨b, off, rfl, hr⟩ := Rd.at hl hlt
        have hcell := hid (show w.cell? ⟨b, off + j, none⟩ = some (.string ⟨x.toArray⟩) from hr j _ (strsV_get hx))
        have HS := hid (hsz x)
        obtain ⟨q5, hq5⟩ : ∃ q, q = longB x := ⟨_, rfl⟩
        have HQ := hid hq5
        have d2 : decide ((48 : Int) < (x.length : Int)) = q5 := by rw [hq5]; unfold longB; rfl
        clear hx hq5 hr hjl
        cases q5
        · go_wp2_with (first | go_big_skip | go_big_guard | (refine wl_loadE rfl rfl rfl ?_; first | refine ⟨_, Loads.at [_] hst rfl, ?_⟩) | (refine wl_index rfl rfl rfl rfl hlt ?_) | (refine wl_loadE rfl rfl rfl ?_; refine ⟨_, Loads.old hst (by rw [Nat.mul_one]; exact hcell.out), ?_⟩))
          go_roundw
          case rel =>
            refine ⟨j + 1, by omega, rfl, hst, hid (fun y hy => ?_)⟩
            rw [List.take_add_one, HX.out] at hy
            rcases List.mem_append.1 hy with hy | hy
            · exact HP.out y hy
            · simp at hy
              rw [hy, ← HQ.out]
          case measure => simp [intOf]; omega
        · go_wp2_with (first | go_big_skip | go_big_guard | (refine wl_loadE rfl rfl rfl ?_; first | refine ⟨_, Loads.at [_] hst rfl, ?_⟩) | (refine wl_index rfl rfl rfl rfl hlt ?_) | (refine wl_loadE rfl rfl rfl ?_; refine ⟨_, Loads.old hst (by rw [Nat.mul_one]; exact hcell.out), ?_⟩))
          go_ret
          refine ⟨congrArg (fun z => Ending.returned (Value.int .i64 z)) (?_ : (_ : Int) = R), hst.nil⟩
          have hany : o.l.any longB = true := List.any_eq_true.2 ⟨x, List.mem_of_getElem? HX.out, HQ.out.symm⟩
          rw [HR.out, HA.out, hany]
          rfl
      · have hjn : j = nl := by omega
        have d1 : decide ((j : Int) < (nl : Int)) = false := decide_eq_false (by omega)
        have hany : o.l.any longB = false := by
          rw [List.any_eq_false]
          intro x hx
          rw [HP.out x (by rw [List.take_of_length_le (by rw [HLn.out]; omega)]; exact hx)]
          exact Bool.false_ne_true
        have HN := hid hany
        clear hany hjn
        go_wp2_with (first | go_big_skip | (show wpList _ _ _ (Oper.mk _ (.fieldAddr _ _ _) _ _ _ (some _) :: _) _ _; refine wl_gfld1 rfl (by first | exact wanted_b rfl rfl | exact wanted_g rfl rfl) (by first | exact (fun hg => gvV_on hg) | exact (fun hg => gvV_gA hg) | exact (fun _ => rfl)) (by kernel_rfl) ?_; (try simp only [Act.put, List.setIfInBounds_toArray, List.set_cons_zero, List.set_cons_succ])) | (show wpList _ _ _ (Oper.mk _ (.load _ _) _ _ _ (some _) :: _) _ _; refine wl_gloadE rfl (by first | exact wanted_b rfl rfl | exact wanted_g rfl rfl) (by first | exact (fun hg => gvV_on hg) | exact (fun hg => gvV_gA hg) | exact (fun _ => rfl)) ?_; (first | refine ⟨_, Loads.at [_] hst rfl, ?_⟩ | refine ⟨_, Loads.at [] hst rfl, ?_⟩); (try simp only [Act.put, List.setIfInBounds_toArray, List.set_cons_zero, List.set_cons_succ]); (repeat ((first | (show wpList _ _ _ (Oper.mk _ (.move _) _ _ _ none :: _) _ _; refine wl_mv rfl rfl rfl ?_) | (show wpList _ _ _ (Oper.mk _ (.pick _ _ _) _ _ _ none :: _) _ _; (first | (refine wl_pickOr rfl rfl rfl rfl rfl ?_; intro q hq) | (refine wl_pickAnd rfl rfl rfl rfl rfl ?_; intro q hq))) | (show wpList _ _ _ (Oper.mk _ (.pick _ _ _) _ _ _ (some _) :: _) _ _; (first | (refine wl_gpickOr rfl (by first | exact wanted_b rfl rfl | exact wanted_g rfl rfl) rfl rfl rfl ?_; intro q hq) | (refine wl_gpickAnd rfl (by first | exact wanted_b rfl rfl | exact wanted_g rfl rfl) rfl rfl rfl ?_; intro q hq))) | (show wpList _ _ _ (Oper.mk _ (.move _) _ _ _ (some _) :: _) _ _; refine wl_gmove rfl (by first | exact wanted_b rfl rfl | exact wanted_g rfl rfl) (by first | exact (fun hg => gvV_on hg) | exact (fun hg => gvV_gA hg) | exact (fun _ => rfl)) ?_)); (try simp only [Act.put, List.setIfInBounds_toArray, List.set_cons_zero, List.set_cons_succ])))) | (show wpList _ _ _ (Oper.mk _ (.binOp _ 3 _ _ _) _ _ _ (some _) :: _) _ _; refine wl_gcmp rfl (by first | exact wanted_b rfl rfl | exact wanted_g rfl rfl) (by first | exact (fun hg => gvV_on hg) | exact (fun hg => gvV_gA hg) | exact (fun _ => rfl)) (by first | exact (fun hg => gvV_on hg) | exact (fun hg => gvV_gA hg) | exact (fun _ => rfl)) rfl ?_; (try simp only [Act.put, List.setIfInBounds_toArray, List.set_cons_zero, List.set_cons_succ]); (repeat ((first | (show wpList _ _ _ (Oper.mk _ (.move _) _ _ _ none :: _) _ _; refine wl_mv rfl rfl rfl ?_) | (show wpList _ _ _ (Oper.mk _ (.pick _ _ _) _ _ _ none :: _) _ _; (first | (refine wl_pickOr rfl rfl rfl rfl rfl ?_; intro q hq) | (refine wl_pickAnd rfl rfl rfl rfl rfl ?_; intro q hq))) | (show wpList _ _ _ (Oper.mk _ (.pick _ _ _) _ _ _ (some _) :: _) _ _; (first | (refine wl_gpickOr rfl (by first | exact wanted_b rfl rfl | exact wanted_g rfl rfl) rfl rfl rfl ?_; intro q hq) | (refine wl_gpickAnd rfl (by first | exact wanted_b rfl rfl | exact wanted_g rfl rfl) rfl rfl rfl ?_; intro q hq))) | (show wpList _ _ _ (Oper.mk _ (.move _) _ _ _ (some _) :: _) _ _; refine wl_gmove rfl (by first | exact wanted_b rfl rfl | exact wanted_g rfl rfl) (by first | exact (fun hg => gvV_on hg) | exact (fun hg => gvV_gA hg) | exact (fun _ => rfl)) ?_)); (try simp only [Act.put, List.setIfInBounds_toArray, List.set_cons_zero, List.set_cons_succ])))) | (show wpList _ _ _ (Oper.mk _ (.binOp .neq 9 _ _ _) _ _ _ (some _) :: _) _ _; refine wl_gneqS rfl (by first | exact wanted_b rfl rfl | exact wanted_g rfl rfl) (by first | exact (fun hg => gvV_on hg) | exact (fun hg => gvV_gA hg) | exact (fun _ => rfl)) (by first | exact (fun hg => gvV_on hg) | exact (fun hg => gvV_gA hg) | exact (fun _ => rfl)) ?_; (try simp only [Act.put, List.setIfInBounds_toArray, List.set_cons_zero, List.set_cons_succ]); (repeat ((first | (show wpList _ _ _ (Oper.mk _ (.move _) _ _ _ none :: _) _ _; refine wl_mv rfl rfl rfl ?_) | (show wpList _ _ _ (Oper.mk _ (.pick _ _ _) _ _ _ none :: _) _ _; (first | (refine wl_pickOr rfl rfl rfl rfl rfl ?_; intro q hq) | (refine wl_pickAnd rfl rfl rfl rfl rfl ?_; intro q hq))) | (show wpList _ _ _ (Oper.mk _ (.pick _ _ _) _ _ _ (some _) :: _) _ _; (first | (refine wl_gpickOr rfl (by first | exact wanted_b rfl rfl | exact wanted_g rfl rfl) rfl rfl rfl ?_; intro q hq) | (refine wl_gpickAnd rfl (by first | exact wanted_b rfl rfl | exact wanted_g rfl rfl) rfl rfl rfl ?_; intro q hq))) | (show wpList _ _ _ (Oper.mk _ (.move _) _ _ _ (some _) :: _) _ _; refine wl_gmove rfl (by first | exact wanted_b rfl rfl | exact wanted_g rfl rfl) (by first | exact (fun hg => gvV_on hg) | exact (fun hg => gvV_gA hg) | exact (fun _ => rfl)) ?_)); (try simp only [Act.put, List.setIfInBounds_toArray, List.set_cons_zero, List.set_cons_succ])))) | (show wpList _ _ _ (Oper.mk _ (.binOp .eql 9 _ _ _) _ _ _ (some _) :: _) _ _; refine wl_geqS rfl (by first | exact wanted_b rfl rfl | exact wanted_g rfl rfl) (by first | exact (fun hg => gvV_on hg) | exact (fun hg => gvV_gA hg) | exact (fun _ => rfl)) (by first | exact (fun hg => gvV_on hg) | exact (fun hg => gvV_gA hg) | exact (fun _ => rfl)) ?_; (try simp only [Act.put, List.setIfInBounds_toArray, List.set_cons_zero, List.set_cons_succ]); (repeat ((first | (show wpList _ _ _ (Oper.mk _ (.move _) _ _ _ none :: _) _ _; refine wl_mv rfl rfl rfl ?_) | (show wpList _ _ _ (Oper.mk _ (.pick _ _ _) _ _ _ none :: _) _ _; (first | (refine wl_pickOr rfl rfl rfl rfl rfl ?_; intro q hq) | (refine wl_pickAnd rfl rfl rfl rfl rfl ?_; intro q hq))) | (show wpList _ _ _ (Oper.mk _ (.pick _ _ _) _ _ _ (some _) :: _) _ _; (first | (refine wl_gpickOr rfl (by first | exact wanted_b rfl rfl | exact wanted_g rfl rfl) rfl rfl rfl ?_; intro q hq) | (refine wl_gpickAnd rfl (by first | exact wanted_b rfl rfl | exact wanted_g rfl rfl) rfl rfl rfl ?_; intro q hq))) | (show wpList _ _ _ (Oper.mk _ (.move _) _ _ _ (some _) :: _) _ _; refine wl_gmove rfl (by first | exact wanted_b rfl rfl | exact wanted_g rfl rfl) (by first | exact (fun hg => gvV_on hg) | exact (fun hg => gvV_gA hg) | exact (fun _ => rfl)) ?_)); (try simp only [Act.put, List.setIfInBounds_toArray, List.set_cons_zero, List.set_cons_succ])))) | (show wpList _ _ _ (Oper.mk _ (.binOp .neq 9 _ _ _) _ _ _ none :: _) _ _; refine wl_neqS rfl rfl rfl rfl ?_; (try simp only [Act.put, List.setIfInBounds_toArray, List.set_cons_zero, List.set_cons_succ]); (repeat ((first | (show wpList _ _ _ (Oper.mk _ (.move _) _ _ _ none :: _) _ _; refine wl_mv rfl rfl rfl ?_) | (show wpList _ _ _ (Oper.mk _ (.pick _ _ _) _ _ _ none :: _) _ _; (first | (refine wl_pickOr rfl rfl rfl rfl rfl ?_; intro q hq) | (refine wl_pickAnd rfl rfl rfl rfl rfl ?_; intro q hq))) | (show wpList _ _ _ (Oper.mk _ (.pick _ _ _) _ _ _ (some _) :: _) _ _; (first | (refine wl_gpickOr rfl (by first | exact wanted_b rfl rfl | exact wanted_g rfl rfl) rfl rfl rfl ?_; intro q hq) | (refine wl_gpickAnd rfl (by first | exact wanted_b rfl rfl | exact wanted_g rfl rfl) rfl rfl rfl ?_; intro q hq))) | (show wpList _ _ _ (Oper.mk _ (.move _) _ _ _ (some _) :: _) _ _; refine wl_gmove rfl (by first | exact wanted_b rfl rfl | exact wanted_g rfl rfl) (by first | exact (fun hg => gvV_on hg) | exact (fun hg => gvV_gA hg) | exact (fun _ => rfl)) ?_)); (try simp only [Act.put, List.setIfInBounds_toArray, List.set_cons_zero, List.set_cons_succ])))) | (show wpList _ _ _ (Oper.mk _ (.binOp .eql 9 _ _ _) _ _ _ none :: _) _ _; refine wl_eqS rfl rfl rfl rfl ?_; (try simp only [Act.put, List.setIfInBounds_toArray, List.set_cons_zero, List.set_cons_succ]); (repeat ((first | (show wpList _ _ _ (Oper.mk _ (.move _) _ _ _ none :: _) _ _; refine wl_mv rfl rfl rfl ?_) | (show wpList _ _ _ (Oper.mk _ (.pick _ _ _) _ _ _ none :: _) _ _; (first | (refine wl_pickOr rfl rfl rfl rfl rfl ?_; intro q hq) | (refine wl_pickAnd rfl rfl rfl rfl rfl ?_; intro q hq))) | (show wpList _ _ _ (Oper.mk _ (.pick _ _ _) _ _ _ (some _) :: _) _ _; (first | (refine wl_gpickOr rfl (by first | exact wanted_b rfl rfl | exact wanted_g rfl rfl) rfl rfl rfl ?_; intro q hq) | (refine wl_gpickAnd rfl (by first | exact wanted_b rfl rfl | exact wanted_g rfl rfl) rfl rfl rfl ?_; intro q hq))) | (show wpList _ _ _ (Oper.mk _ (.move _) _ _ _ (some _) :: _) _ _; refine wl_gmove rfl (by first | exact wanted_b rfl rfl | exact wanted_g rfl rfl) (by first | exact (fun hg => gvV_on hg) | exact (fun hg => gvV_gA hg) | exact (fun _ => rfl)) ?_)); (try simp only [Act.put, List.setIfInBounds_toArray, List.set_cons_zero, List.set_cons_succ])))) | (show wpList _ _ _ (Oper.mk _ (.call (Call.mk (.builtin .len) _ #[9])) _ _ _ (some _) :: _) _ _; refine wl_glenS rfl (by first | exact wanted_b rfl rfl | exact wanted_g rfl rfl) (by first | exact (fun hg => gvV_on hg) | exact (fun hg => gvV_gA hg) | exact (fun _ => rfl)) ?_; (try simp only [Act.put, List.setIfInBounds_toArray, List.set_cons_zero, List.set_cons_succ])) | (show wpList _ _ _ (Oper.mk _ (.call (Call.mk (.builtin .len) _ #[23])) _ _ _ (some _) :: _) _ _; refine wl_glen rfl (by first | exact wanted_b rfl rfl | exact wanted_g rfl rfl) (by first | exact (fun hg => gvV_on hg) | exact (fun hg => gvV_gA hg) | exact (fun _ => rfl)) ?_; (try simp only [Act.put, List.setIfInBounds_toArray, List.set_cons_zero, List.set_cons_succ])) | (show wpList _ _ _ (Oper.mk _ (.call (Call.mk (.builtin .len) _ #[22])) _ _ _ (some _) :: _) _ _; refine wl_glen rfl (by first | exact wanted_b rfl rfl | exact wanted_g rfl rfl) (by first | exact (fun hg => gvV_on hg) | exact (fun hg => gvV_gA hg) | exact (fun _ => rfl)) ?_; (try simp only [Act.put, List.setIfInBounds_toArray, List.set_cons_zero, List.set_cons_succ])) | (show wpList _ _ _ (Oper.mk _ (.unOp .not _ _) _ _ _ (some _) :: _) _ _; refine wl_gnot rfl (by first | exact wanted_b rfl rfl | exact wanted_g rfl rfl) (by first | exact (fun hg => gvV_on hg) | exact (fun hg => gvV_gA hg) | exact (fun _ => rfl)) ?_; (try simp only [Act.put, List.setIfInBounds_toArray, List.set_cons_zero, List.set_cons_succ]); (repeat ((first | (show wpList _ _ _ (Oper.mk _ (.move _) _ _ _ none :: _) _ _; refine wl_mv rfl rfl rfl ?_) | (show wpList _ _ _ (Oper.mk _ (.pick _ _ _) _ _ _ none :: _) _ _; (first | (refine wl_pickOr rfl rfl rfl rfl rfl ?_; intro q hq) | (refine wl_pickAnd rfl rfl rfl rfl rfl ?_; intro q hq))) | (show wpList _ _ _ (Oper.mk _ (.pick _ _ _) _ _ _ (some _) :: _) _ _; (first | (refine wl_gpickOr rfl (by first | exact wanted_b rfl rfl | exact wanted_g rfl rfl) rfl rfl rfl ?_; intro q hq) | (refine wl_gpickAnd rfl (by first | exact wanted_b rfl rfl | exact wanted_g rfl rfl) rfl rfl rfl ?_; intro q hq))) | (show wpList _ _ _ (Oper.mk _ (.move _) _ _ _ (some _) :: _) _ _; refine wl_gmove rfl (by first | exact wanted_b rfl rfl | exact wanted_g rfl rfl) (by first | exact (fun hg => gvV_on hg) | exact (fun hg => gvV_gA hg) | exact (fun _ => rfl)) ?_)); (try simp only [Act.put, List.setIfInBounds_toArray, List.set_cons_zero, List.set_cons_succ])))) | (show wpList _ _ _ (Oper.mk _ (.call (Call.mk (.value (.func 42)) _ _)) _ _ _ (some _) :: _) _ _; refine wl_gcall (v := .bool (withinB o.n)) hst (by first | exact wanted_b rfl rfl | exact wanted_g rfl rfl) ?_ ?_; (intro hg K hK; have Hg := hid hg; clear hg; go_simp; go_at_call 42; (try (conv => (arg 3; simp only [gvV_on Hg.out]))); refine (number_any o.n _).mono ?_; rintro _ w9 ⟨rfl, h4⟩; have hk := hK _ (St.call0 hst h4); simp only [Act.put, List.setIfInBounds_toArray, List.set_cons_zero, List.set_cons_succ] at hk; dsimp only; exact hk); (intro w5 hst5; replace hst := hst5; clear hst5; (try simp only [Act.put, List.setIfInBounds_toArray, List.set_cons_zero, List.set_cons_succ]); (repeat ((first | (show wpList _ _ _ (Oper.mk _ (.move _) _ _ _ none :: _) _ _; refine wl_mv rfl rfl rfl ?_) | (show wpList _ _ _ (Oper.mk _ (.pick _ _ _) _ _ _ none :: _) _ _; (first | (refine wl_pickOr rfl rfl rfl rfl rfl ?_; intro q hq) | (refine wl_pickAnd rfl rfl rfl rfl rfl ?_; intro q hq))) | (show wpList _ _ _ (Oper.mk _ (.pick _ _ _) _ _ _ (some _) :: _) _ _; (first | (refine wl_gpickOr rfl (by first | exact wanted_b rfl rfl | exact wanted_g rfl rfl) rfl rfl rfl ?_; intro q hq) | (refine wl_gpickAnd rfl (by first | exact wanted_b rfl rfl | exact wanted_g rfl rfl) rfl rfl rfl ?_; intro q hq))) | (show wpList _ _ _ (Oper.mk _ (.move _) _ _ _ (some _) :: _) _ _; refine wl_gmove rfl (by first | exact wanted_b rfl rfl | exact wanted_g rfl rfl) (by first | exact (fun hg => gvV_on hg) | exact (fun hg => gvV_gA hg) | exact (fun _ => rfl)) ?_)); (try simp only [Act.put, List.setIfInBounds_toArray, List.set_cons_zero, List.set_cons_succ]))))) | (show wpList _ _ _ (Oper.mk _ (.call (Call.mk (.value (.func 42)) _ _)) _ _ _ (some _) :: _) _ _; refine wl_gcall (v := .bool (withinB o.m)) hst (by first | exact wanted_b rfl rfl | exact wanted_g rfl rfl) ?_ ?_; (intro hg K hK; have Hg := hid hg; clear hg; go_simp; go_at_call 42; (try (conv => (arg 3; simp only [gvV_on Hg.out]))); refine (number_any o.m _).mono ?_; rintro _ w9 ⟨rfl, h4⟩; have hk := hK _ (St.call0 hst h4); simp only [Act.put, List.setIfInBounds_toArray, List.set_cons_zero, List.set_cons_succ] at hk; dsimp only; exact hk); (intro w5 hst5; replace hst := hst5; clear hst5; (try simp only [Act.put, List.setIfInBounds_toArray, List.set_cons_zero, List.set_cons_succ]); (repeat ((first | (show wpList _ _ _ (Oper.mk _ (.move _) _ _ _ none :: _) _ _; refine wl_mv rfl rfl rfl ?_) | (show wpList _ _ _ (Oper.mk _ (.pick _ _ _) _ _ _ none :: _) _ _; (first | (refine wl_pickOr rfl rfl rfl rfl rfl ?_; intro q hq) | (refine wl_pickAnd rfl rfl rfl rfl rfl ?_; intro q hq))) | (show wpList _ _ _ (Oper.mk _ (.pick _ _ _) _ _ _ (some _) :: _) _ _; (first | (refine wl_gpickOr rfl (by first | exact wanted_b rfl rfl | exact wanted_g rfl rfl) rfl rfl rfl ?_; intro q hq) | (refine wl_gpickAnd rfl (by first | exact wanted_b rfl rfl | exact wanted_g rfl rfl) rfl rfl rfl ?_; intro q hq))) | (show wpList _ _ _ (Oper.mk _ (.move _) _ _ _ (some _) :: _) _ _; refine wl_gmove rfl (by first | exact wanted_b rfl rfl | exact wanted_g rfl rfl) (by first | exact (fun hg => gvV_on hg) | exact (fun hg => gvV_gA hg) | exact (fun _ => rfl)) ?_)); (try simp only [Act.put, List.setIfInBounds_toArray, List.set_cons_zero, List.set_cons_succ]))))) | (refine wl_loadE rfl rfl rfl ?_; first | refine ⟨_, Loads.at [_] hst rfl, ?_⟩ | refine ⟨_, Loads.at [] hst rfl, ?_⟩))
        all_goals go_ret
        all_goals refine ⟨congrArg (fun z => Ending.returned (Value.int .i64 z)) (?_ : (_ : Int) = R), hst.nil⟩
        all_goals
          have hR := HR.out
          have hA := HA.out
          have hN := HN.out
          have eC : OV.qC o nl nb = ((((((!us o.op 0 && !(o.name == [])) || (!us o.op 1 && !(o.dest == []))) || (!us o.op 2 && (o.n != 0))) || (!us o.op 3 && (o.m != 0))) || (!us o.op 4 && decide (0 < (nl : Int)))) || (!us o.op 5 && decide (0 < (nb : Int)))) := rfl
          rw [hA, hN, eC] at hR
          clear HR HLn HA HN HP hst hl hA hN eC
          simp only [hid_iff, bNot_eq] at *
          simp_all only [Bool.false_or, Bool.true_or, if_true, if_false, Bool.false_eq_true]
end Go.Proofs.Ytalfdcfcaamnbaa
namespace Go.Proofs.Ytalfdcfcaamnbaa
set_option linter.unusedVariables false
set_option linter.unusedSimpArgs false
open Go.RowKit Hp
attribute [local irreducible] Go.Calls Go.wpList
set_option maxRecDepth 100000
set_option maxHeartbeats 4000000
/-- Without a fault there is no place of one. -/
def RS.Fine (s : RS) : Prop := s.e = 0 → s.fa = 0
theorem stepR_fine {α : Type} {s : RS} {r : RR α} {d : α} (h : s.Fine) (hr : ∀ e a, r = .stop e a → e ≠ 0) : (stepR s r d).1.Fine := by
  unfold stepR
  split
  · exact h
  · split
    · rename_i e a
      intro he
      exact absurd he (hr e a rfl)
    · exact h
theorem numRR_stop {B : List UInt8} {p : Nat} {size low high : Int} (e a : Int) (h : numRR B p size low high = .stop e a) : e ≠ 0 := by
  unfold numRR at h
  split at h
  · cases h; decide
  · split at h
    · cases h; decide
    · split at h
      · cases h; decide
      · cases h
theorem textRR_stop {B : List UInt8} {p : Nat} {most : Int} (e a : Int) (h : textRR B p most = .stop e a) : e ≠ 0 := by
  unfold textRR at h
  split at h
  · cases h; decide
  · split at h
    · cases h; decide
    · split at h
      · cases h; decide
      · split at h
        · cases h; decide
        · cases h
theorem rawRR_stop {B : List UInt8} {p : Nat} {m : Int} (e a : Int) (h : rawRR B p m = .stop e a) : e ≠ 0 := by
  unfold rawRR at h
  split at h
  · cases h; decide
  · split at h
    · cases h; decide
    · cases h
theorem manyS_fine {α : Type} {f : RS → RS × α} {s : RS} (h0 : s.Fine) (h : ∀ s : RS, s.Fine → (f s).1.Fine) (k : Nat) : (manyS f s k).1.Fine := by
  induction k with
  | zero => exact h0
  | succ k ih => exact h _ ih
theorem getF_fine (B : List UInt8) : ∀ f ∈ getF B, ∀ y : RS × OV, y.1.Fine → (f y).1.Fine := by
  intro f hf y hy
  unfold getF at hf
  simp only [List.mem_cons, List.not_mem_nil, or_false] at hf
  rcases hf with rfl | rfl | rfl | rfl | rfl | rfl | rfl
  · exact stepR_fine hy numRR_stop
  · exact stepR_fine hy textRR_stop
  · exact stepR_fine hy textRR_stop
  · exact stepR_fine hy numRR_stop
  · exact stepR_fine hy numRR_stop
  · exact manyS_fine (stepR_fine hy numRR_stop) (fun s hs => stepR_fine hs textRR_stop) _
  · exact stepR_fine (stepR_fine hy numRR_stop) rawRR_stop
theorem endR_fine {B : List UInt8} {s : RS} (h : s.Fine) (h0 : (endR B s).1 = 0) : (endR B s).2 = 0 := by
  unfold endR at h0 ⊢
  split at h0
  · cases h0
  · rename_i hh
    rw [if_neg hh]
    exact h h0
theorem get_fine (B : List UInt8) : (goAll ((⟨0, 0, 0⟩, OV.none) : RS × OV) (getF B)).1.Fine := goAll_inv (P := fun y : RS × OV => y.1.Fine) (fun _ => rfl) (getF_fine B)
theorem check_two (o : OV) : o.check = 2 ∨ o.check = 0 := by
  unfold OV.check
  split
  · exact .inl rfl
  · split
    · exact .inl rfl
    · split
      · exact .inl rfl
      · exact .inr rfl
section
attribute [local go_sem ↓] loadedOr loadedFt
theorem qget_bad (ao : Option Addr) (n c : Nat) (B : List UInt8) (w : World) (hr : Rd w (.slice ao n c) 1 n (bytesV B)) (hn : B.length = n) (hb : n ≤ 100000) (h0 : (endR B (goAll ((⟨0, 0, 0⟩, OV.none) : RS × OV) (getF B)).1).1 ≠ 0) :
    Calls Try.prog 23 #[.slice ao n c] w (GetP w (getO B)) := by
  have hst0 := St.refl w
  have HR := hid hr
  have HN := hid hn
  have hBl : B.length ≤ 100000 := by rw [hn]; exact hb
  obtain ⟨S, hS⟩ : ∃ S, S = goAll ((⟨0, 0, 0⟩, OV.none) : RS × OV) (getF B) := ⟨_, rfl⟩
  have HS := hid hS
  have HL16 := hid (show S.2.l.length ≤ 16 by rw [hS]; exact get_len B)
  obtain ⟨f, hf⟩ : ∃ f, f = endR B S.1 := ⟨_, rfl⟩
  have HF := hid hf
  obtain ⟨ck, hck⟩ : ∃ ck, ck = S.2.check := ⟨_, rfl⟩
  have HCK := hid hck
  rw [← hS] at h0
  rw [← hf] at h0
  obtain ⟨R, hR⟩ : ∃ R, R = getO B := ⟨_, rfl⟩
  rw [← hR]
  have e : R = (OV.none, f.1, f.2) := by
    rw [hR]; unfold getO; simp only [← hS, ← hf]
    rw [if_neg h0, if_neg h0]
  have d1 : (f.1 != 0) = true := by simpa using h0
  have HE := hid e
  clear hS hf hck hR e h0 hr hn
  go_enter Try.func23, Try.ntmps23
  go_wp2_with (first | go_big_skip | go_big_guard | (refine wl_alloc (T := 25) hst0 rfl rfl ?_; intro g2 w1 hst1; clear hst0) | (refine wl_alloc hst1 rfl rfl ?_; intro g3 w2 hst2; clear hst1) | (go_at_call 45; refine (qopen_any ao n c _).mono ?_; rintro _ w3 ⟨gq, rfl, h4⟩; have hst3 := St.call hst2 h4; clear h4 hst2; have hoff := hid (St.newOff (L1 := []) hst3 HR.out (by decide))) | (refine wl_alloc (T := 25) hst3 rfl rfl ?_; intro go w4 hst4; clear hst3; obtain ⟨y0, hy0⟩ : ∃ y : RS × OV, y = (⟨0, 0, 0⟩, OV.none) := ⟨_, rfl⟩; have HY0 := hid hy0; have hS0 : St w [] w4 (qP gq (.slice ao n c) y0.1 ++ .blk go 25 (y0.2.cells (.slice none 0 0) (.slice none 0 0)) :: [.blk g3 42 [.int .i64 0, .int .i64 0], .blk g2 25 [.int .i64 0, .string ⟨#[]⟩, .string ⟨#[]⟩, .int .i64 0, .int .i64 0, .slice none 0 0, .slice none 0 0]]) := (by rw [hy0]; exact St.front [_] hst4); have HP0 := hid (show y0.1.pos ≤ B.length by rw [hy0]; exact Nat.zero_le _); clear hst4 hy0) | (go_at_call 46; refine (qnum_any gq ao n c B y0.1 1 1 24 _ (St.sub hS0 (List.sublist_append_left _ _)) (Rd.old hS0 HR.out) hoff.out HN.out (by rw [← HN.out]; exact HP0.out) hb (by decide)).mono ?_; rintro _ w9 ⟨rfl, h4⟩; have hC0 := St.callF (qP gq (.slice ao n c) y0.1) hS0 h4; clear h4 hS0) | (refine wl_store [_] hC0 rfl rfl rfl (v := .int _ _) rfl rfl rfl (by show (1 : Nat) ≤ 7; decide) ?_; intro w20 hT; obtain ⟨y1, hy1⟩ : ∃ y : RS × OV, y = ((stepR y0.1 (numRR B y0.1.pos 1 1 24) 0).1, OV.mk ((stepR y0.1 (numRR B y0.1.pos 1 1 24) 0).2) y0.2.n y0.2.m y0.2.name y0.2.dest y0.2.l y0.2.b) := ⟨_, rfl⟩; have HY1 := hid hy1; have hS1 : St w [] w20 (qP gq (.slice ao n c) y1.1 ++ .blk go 25 (y1.2.cells (.slice none 0 0) (.slice none 0 0)) :: [.blk g3 42 [.int .i64 0, .int .i64 0], .blk g2 25 [.int .i64 0, .string ⟨#[]⟩, .string ⟨#[]⟩, .int .i64 0, .int .i64 0, .slice none 0 0, .slice none 0 0]]) := (by rw [hy1]; exact hT); have HP1 := hid (show y1.1.pos ≤ B.length by rw [hy1]; exact num_pos HP0.out); clear hT hC0 hy1) | (go_at_call 47; refine (qtext_any gq ao n c B y1.1 48 _ (St.sub hS1 (List.sublist_append_left _ _)) (Rd.old hS1 HR.out) hoff.out HN.out (by rw [← HN.out]; exact HP1.out) hb (by decide)).mono ?_; rintro _ w9 ⟨rfl, h4⟩; have hC1 := St.callF (qP gq (.slice ao n c) y1.1) hS1 h4; clear h4 hS1) | (refine wl_store [_] hC1 rfl rfl rfl (v := .string _) rfl rfl rfl (by show (2 : Nat) ≤ 7; decide) ?_; intro w21 hT; obtain ⟨y2, hy2⟩ : ∃ y : RS × OV, y = ((textF B y1.1).1, OV.mk y1.2.op y1.2.n y1.2.m ((textF B y1.1).2) y1.2.dest y1.2.l y1.2.b) := ⟨_, rfl⟩; have HY2 := hid hy2; have hS2 : St w [] w21 (qP gq (.slice ao n c) y2.1 ++ .blk go 25 (y2.2.cells (.slice none 0 0) (.slice none 0 0)) :: [.blk g3 42 [.int .i64 0, .int .i64 0], .blk g2 25 [.int .i64 0, .string ⟨#[]⟩, .string ⟨#[]⟩, .int .i64 0, .int .i64 0, .slice none 0 0, .slice none 0 0]]) := (by rw [hy2]; exact hT); have HP2 := hid (show y2.1.pos ≤ B.length by rw [hy2]; exact text_pos HP1.out); clear hT hC1 hy2) | (go_at_call 47; refine (qtext_any gq ao n c B y2.1 48 _ (St.sub hS2 (List.sublist_append_left _ _)) (Rd.old hS2 HR.out) hoff.out HN.out (by rw [← HN.out]; exact HP2.out) hb (by decide)).mono ?_; rintro _ w9 ⟨rfl, h4⟩; have hC2 := St.callF (qP gq (.slice ao n c) y2.1) hS2 h4; clear h4 hS2) | (refine wl_store [_] hC2 rfl rfl rfl (v := .string _) rfl rfl rfl (by show (3 : Nat) ≤ 7; decide) ?_; intro w22 hT; obtain ⟨y3, hy3⟩ : ∃ y : RS × OV, y = ((textF B y2.1).1, OV.mk y2.2.op y2.2.n y2.2.m y2.2.name ((textF B y2.1).2) y2.2.l y2.2.b) := ⟨_, rfl⟩; have HY3 := hid hy3; have hS3 : St w [] w22 (qP gq (.slice ao n c) y3.1 ++ .blk go 25 (y3.2.cells (.slice none 0 0) (.slice none 0 0)) :: [.blk g3 42 [.int .i64 0, .int .i64 0], .blk g2 25 [.int .i64 0, .string ⟨#[]⟩, .string ⟨#[]⟩, .int .i64 0, .int .i64 0, .slice none 0 0, .slice none 0 0]]) := (by rw [hy3]; exact hT); have HP3 := hid (show y3.1.pos ≤ B.length by rw [hy3]; exact text_pos HP2.out); clear hT hC2 hy3) | (go_at_call 46; refine (qnum_any gq ao n c B y3.1 4 0 2147483647 _ (St.sub hS3 (List.sublist_append_left _ _)) (Rd.old hS3 HR.out) hoff.out HN.out (by rw [← HN.out]; exact HP3.out) hb (by decide)).mono ?_; rintro _ w9 ⟨rfl, h4⟩; have hC3 := St.callF (qP gq (.slice ao n c) y3.1) hS3 h4; clear h4 hS3) | (refine wl_store [_] hC3 rfl rfl rfl (v := .int _ _) rfl rfl rfl (by show (4 : Nat) ≤ 7; decide) ?_; intro w23 hT; obtain ⟨y4, hy4⟩ : ∃ y : RS × OV, y = ((stepR y3.1 (numRR B y3.1.pos 4 0 2147483647) 0).1, OV.mk y3.2.op ((stepR y3.1 (numRR B y3.1.pos 4 0 2147483647) 0).2) y3.2.m y3.2.name y3.2.dest y3.2.l y3.2.b) := ⟨_, rfl⟩; have HY4 := hid hy4; have hS4 : St w [] w23 (qP gq (.slice ao n c) y4.1 ++ .blk go 25 (y4.2.cells (.slice none 0 0) (.slice none 0 0)) :: [.blk g3 42 [.int .i64 0, .int .i64 0], .blk g2 25 [.int .i64 0, .string ⟨#[]⟩, .string ⟨#[]⟩, .int .i64 0, .int .i64 0, .slice none 0 0, .slice none 0 0]]) := (by rw [hy4]; exact hT); have HP4 := hid (show y4.1.pos ≤ B.length by rw [hy4]; exact num_pos HP3.out); clear hT hC3 hy4) | (go_at_call 46; refine (qnum_any gq ao n c B y4.1 4 0 2147483647 _ (St.sub hS4 (List.sublist_append_left _ _)) (Rd.old hS4 HR.out) hoff.out HN.out (by rw [← HN.out]; exact HP4.out) hb (by decide)).mono ?_; rintro _ w9 ⟨rfl, h4⟩; have hC4 := St.callF (qP gq (.slice ao n c) y4.1) hS4 h4; clear h4 hS4) | (refine wl_store [_] hC4 rfl rfl rfl (v := .int _ _) rfl rfl rfl (by show (5 : Nat) ≤ 7; decide) ?_; intro w24 hT; obtain ⟨y5, hy5⟩ : ∃ y : RS × OV, y = ((stepR y4.1 (numRR B y4.1.pos 4 0 2147483647) 0).1, OV.mk y4.2.op y4.2.n ((stepR y4.1 (numRR B y4.1.pos 4 0 2147483647) 0).2) y4.2.name y4.2.dest y4.2.l y4.2.b) := ⟨_, rfl⟩; have HY5 := hid hy5; have hS5 : St w [] w24 (qP gq (.slice ao n c) y5.1 ++ .blk go 25 (y5.2.cells (.slice none 0 0) (.slice none 0 0)) :: [.blk g3 42 [.int .i64 0, .int .i64 0], .blk g2 25 [.int .i64 0, .string ⟨#[]⟩, .string ⟨#[]⟩, .int .i64 0, .int .i64 0, .slice none 0 0, .slice none 0 0]]) := (by rw [hy5]; exact hT); have HP5 := hid (show y5.1.pos ≤ B.length by rw [hy5]; exact num_pos HP4.out); clear hT hC4 hy5) | (go_at_call 46; obtain ⟨N1, hN1⟩ : ∃ N1, N1 = stepR y5.1 (numRR B y5.1.pos 1 0 16) 0 := ⟨_, rfl⟩; obtain ⟨k, hk⟩ : ∃ k : Nat, N1.2 = (k : Int) := ⟨N1.2.toNat, by rw [hN1]; exact (Int.toNat_of_nonneg (num_in ⟨by decide, by decide⟩).1).symm⟩; have hk16 : k ≤ 16 := (by have h9 := (num_in (B := B) (s := y5.1) (size := 1) (low := 0) (high := 16) ⟨by decide, by decide⟩).2; rw [← hN1, hk] at h9; omega); have HN1 := hid hN1; have HK := hid hk; refine (qnum_any gq ao n c B y5.1 1 0 16 _ (St.sub hS5 (List.sublist_append_left _ _)) (Rd.old hS5 HR.out) hoff.out HN.out (by rw [← HN.out]; exact HP5.out) hb (by decide)).mono ?_; rw [← HN1.out, HK.out]; rintro _ w9 ⟨rfl, h4⟩; have hC5 := St.callF (qP gq (.slice ao n c) y5.1) hS5 h4; clear h4 hS5 hN1 hk))
  have hPJ := hid (fun j : Nat => manyS_pos (f := textF B) (s := N1.1) (N := B.length) (by rw [HN1.out]; exact num_pos HP5.out) (fun s hs => textF_pos s hs) j)
  have hL0 : St w [] w9 (qP gq (.slice ao n c) (manyS (textF B) N1.1 0).1 ++ .blk go 25 (y5.2.cells (.slice none 0 0) (.slice none 0 0)) :: .rowP isS (.slice none 0 0) 9 1 0 (strsV (manyS (textF B) N1.1 0).2) :: [.blk g3 42 [.int .i64 0, .int .i64 0], .blk g2 25 [.int .i64 0, .string ⟨#[]⟩, .string ⟨#[]⟩, .int .i64 0, .int .i64 0, .slice none 0 0, .slice none 0 0]]) := by
    have h1 := St.nilPQ isS 9 1 hC5
    exact (St.front (L1 := [_, _, _, _]) (St.front (L1 := [_, _, _, _]) (St.front (L1 := [_, _]) (St.front (L1 := [_, _, _, _]) (St.front (L1 := [_, _, _, _]) h1)))))
  clear hC5
  go_loopw [7] (fun i wr => ∃ (j : Nat) (lv : Value), j ≤ k ∧ i = .int .i64 (j : Int) ∧ St w [] wr (qP gq (.slice ao n c) (manyS (textF B) N1.1 j).1 ++ .blk go 25 (y5.2.cells lv (.slice none 0 0)) :: .rowP isS lv 9 1 j (strsV (manyS (textF B) N1.1 j).2) :: [.blk g3 42 [.int .i64 0, .int .i64 0], .blk g2 25 [.int .i64 0, .string ⟨#[]⟩, .string ⟨#[]⟩, .int .i64 0, .int .i64 0, .slice none 0 0, .slice none 0 0]])) (fun i _ => k - (intOf i).toNat)
  case atStart => exact ⟨0, _, Nat.zero_le _, rfl, hL0⟩
  case round =>
    clear hL0
    obtain ⟨j, lv, hj, rfl, hst⟩ := hrel
    obtain ⟨al, cl, rfl⟩ := St.rowPSliceF [_, _] hst
    have hposj := hPJ.out j
    by_cases hlt : j < k
    · have d1 : decide ((j : Int) < (k : Int)) = true := decide_eq_true (by omega)
      have z1 : IntKind.i64.wrap ((j : Int) + 1) = (j : Int) + 1 := IntWalk.i64_in _ (by omega)
      have hsucc : manyS (textF B) N1.1 (j + 1) = ((textF B (manyS (textF B) N1.1 j).1).1, (manyS (textF B) N1.1 j).2 ++ [(textF B (manyS (textF B) N1.1 j).1).2]) := rfl
      obtain ⟨S1, hS1⟩ : ∃ S1, S1 = manyS (textF B) N1.1 j := ⟨_, rfl⟩
      rw [← hS1] at hst hposj hsucc
      obtain ⟨S2, hS2⟩ : ∃ S2, S2 = textF B S1.1 := ⟨_, rfl⟩
      rw [← hS2] at hsucc
      have HS2 := hid (show stepR S1.1 (textRR B S1.1.pos 48) [] = S2 from hS2.symm)
      have HSU := hid hsucc
      have HPj := hid hposj
      clear hS1 hS2 hsucc hposj
      go_wp2_with (first | go_big_skip | go_big_guard | (go_at_call 47; refine (qtext_any gq ao n c B S1.1 48 _ (St.sub hst (List.sublist_append_left _ _)) (Rd.old hst HR.out) hoff.out HN.out (by rw [← HN.out]; exact HPj.out) hb (by decide)).mono ?_; rw [HS2.out]; rintro _ w10 ⟨rfl, h4⟩; have hC := St.callF (qP gq (.slice ao n c) S1.1) hst h4; clear h4 hst) | (refine wl_loadE rfl rfl rfl ?_; refine ⟨_, Loads.at [_] hC rfl, ?_⟩) | (apply wl_bsX [strV S2.2] [strV S2.2] hC; rfl; rfl; exact rfl; exact rfl; infer_instance; infer_instance; rfl; rfl; rfl; intro gs w11 hD; clear hC) | (apply wl_appP (ys := [strV S2.2]) [_, _, _] hD; rfl; rfl; exact rfl; exact rfl; infer_instance; infer_instance; infer_instance; infer_instance; exact (Rd.blk0 hD rfl (by decide)); exact rfl; rfl; exact isS_one (by rw [← HS2.out]; exact textF_len _ _); (unfold maxLen; omega); intro v2 w12 hE _; clear hD; obtain ⟨a2, c2, rfl⟩ := St.rowPSliceF [_, _, _] hE) | (refine wl_store [_, _] hE rfl rfl rfl (v := .slice _ _ _) rfl rfl rfl (by show (6 : Nat) ≤ 7; decide) ?_; intro w13 hG; clear hE))
      go_roundw
      case rel =>
        refine ⟨j + 1, .slice a2 (j + 1) c2, by omega, rfl, ?_⟩
        rw [HSU.out]
        have e2 : strsV (S1.2 ++ [S2.2]) = strsV S1.2 ++ [strV S2.2] := by rw [strsV_append]; rfl
        show St w [] _ (qP gq (.slice ao n c) S2.1 ++ .blk go 25 (y5.2.cells (.slice a2 (j + 1) c2) (.slice none 0 0)) :: .rowP isS (.slice a2 (j + 1) c2) 9 1 (j + 1) (strsV (S1.2 ++ [S2.2])) :: [.blk g3 42 [.int .i64 0, .int .i64 0], .blk g2 25 [.int .i64 0, .string ⟨#[]⟩, .string ⟨#[]⟩, .int .i64 0, .int .i64 0, .slice none 0 0, .slice none 0 0]])
        rw [e2]
        exact St.sub hG (.cons _ (List.Sublist.refl _))
      case measure => simp [intOf]; omega
    · have hjk : j = k := by omega
      have d1' : decide ((j : Int) < (k : Int)) = false := decide_eq_false (by omega)
      have eL : listR (textF B) B 1 16 y5.1 = manyS (textF B) N1.1 j := by
        unfold listR
        rw [← HN1.out, HK.out, Int.toNat_natCast, hjk]
      obtain ⟨y6, hy6⟩ : ∃ y : RS × OV, y = ((listR (textF B) B 1 16 y5.1).1, OV.mk y5.2.op y5.2.n y5.2.m y5.2.name y5.2.dest (listR (textF B) B 1 16 y5.1).2 y5.2.b) := ⟨_, rfl⟩
      have HY6 := hid hy6
      have ej : j = y6.2.l.length := by rw [hy6, eL]; exact (manyS_len _ _ _).symm
      have hS6 : St w [] wr (qP gq (.slice ao n c) y6.1 ++ .blk go 25 (y6.2.cells (.slice al j cl) (.slice none 0 0)) :: .rowP isS (.slice al j cl) 9 1 j (strsV y6.2.l) :: [.blk g3 42 [.int .i64 0, .int .i64 0], .blk g2 25 [.int .i64 0, .string ⟨#[]⟩, .string ⟨#[]⟩, .int .i64 0, .int .i64 0, .slice none 0 0, .slice none 0 0]]) := by
        rw [hy6, eL]
        exact hst
      have HP6 := hid (show y6.1.pos ≤ B.length by rw [hy6]; exact listR_pos textF_pos HP5.out)
      have HJ := hid ej
      clear hst hjk eL hy6 hposj ej
      go_wp2_with (first | go_big_skip | go_big_guard | (go_at_call 46; obtain ⟨M1, hM1⟩ : ∃ M1, M1 = stepR y6.1 (numRR B y6.1.pos 3 0 16384) 0 := ⟨_, rfl⟩; have HM1 := hid hM1; have HPM := hid (show M1.1.pos ≤ B.length by rw [hM1]; exact num_pos HP6.out); refine (qnum_any gq ao n c B y6.1 3 0 16384 _ (St.sub hS6 (List.sublist_append_left _ _)) (Rd.old hS6 HR.out) hoff.out HN.out (by rw [← HN.out]; exact HP6.out) hb (by decide)).mono ?_; rw [← HM1.out]; rintro _ w14 ⟨rfl, h4⟩; have hC6 := St.callF (qP gq (.slice ao n c) y6.1) hS6 h4; clear h4 hS6 hM1) | (go_at_call 48; obtain ⟨M2, hM2⟩ : ∃ M2, M2 = stepR M1.1 (rawRR B M1.1.pos M1.2) [] := ⟨_, rfl⟩; have HM2 := hid hM2; refine (qraw_any gq ao n c B M1.1 M1.2 _ (St.sub hC6 (List.sublist_append_left _ _)) (Rd.old hC6 HR.out) hoff.out HN.out (by rw [← HN.out]; exact HPM.out) hb).mono ?_; rw [← HM2.out]; rintro _ w15 ⟨u, rfl, h4⟩; have hC7 := St.callF (qP gq (.slice ao n c) M1.1) hC6 h4; clear h4 hC6 hM2; obtain ⟨ab, cb, rfl⟩ := St.rowPSliceF [_] hC7) | (refine wl_store [_, _] hC7 rfl rfl rfl (v := .slice _ _ _) rfl rfl rfl (by show (7 : Nat) ≤ 7; decide) ?_; intro w16 hT; clear hC7; obtain ⟨y7, hy7⟩ : ∃ y : RS × OV, y = ((rawS B y6.1).1, OV.mk y6.2.op y6.2.n y6.2.m y6.2.name y6.2.dest y6.2.l (rawS B y6.1).2) := ⟨_, rfl⟩; have eM : rawS B y6.1 = M2 := (by rw [HM2.out, HM1.out]; rfl); have eS : y7 = S := (by rw [hy7, HY6.out, HY5.out, HY4.out, HY3.out, HY2.out, HY1.out, HY0.out, HS.out]; rfl); have hS7 : St w [] w16 (qP gq (.slice ao n c) S.1 ++ .rowP isB (.slice ab M2.2.length cb) 5 1 M2.2.length (bytesV M2.2) :: .blk go 25 (S.2.cells (.slice al j cl) (.slice ab M2.2.length cb)) :: .rowP isS (.slice al j cl) 9 1 j (strsV S.2.l) :: [.blk g3 42 [.int .i64 0, .int .i64 0], .blk g2 25 [.int .i64 0, .string ⟨#[]⟩, .string ⟨#[]⟩, .int .i64 0, .int .i64 0, .slice none 0 0, .slice none 0 0]]) := (by rw [← eS, hy7, eM]; exact hT); have HB2 := hid (show M2.2 = S.2.b by rw [← eS, hy7, eM]); have HP7 := hid (show S.1.pos ≤ B.length by rw [← eS, hy7]; exact rawS_pos HP6.out); have HJ2 := hid (show j = S.2.l.length by rw [HJ.out, ← eS, hy7]); clear hT hy7 eM eS) | (go_at_call 49; refine (qend_any gq ao n c S.1 B _ (St.sub hS7 (List.sublist_append_left _ _)) HN.out (by omega) (by rw [← HN.out]; exact HP7.out)).mono ?_; rw [← HF.out]; rintro _ w17 ⟨rfl, h4⟩; have hS8 := St.call0 hS7 h4; clear h4 hS7) | (refine wl_alloc hS8 rfl rfl ?_; intro g9 w18 hS9; clear hS8) | (refine wl_storeA [] hS9 rfl rfl rfl rfl rfl rfl rfl ?_; intro w19 hX; clear hS9) | (refine wl_loadE rfl rfl rfl ?_; first | refine ⟨_, Loads.at [] hX rfl, ?_⟩))
      have hY := hX.drew
      clear hX
      refine wp_region_held_drew (S := (fun w' => (loadVarH 42 ⟨g9, 0, none⟩).run Try.prog w' = .ok (.agg (List.toArray ([.int .i64 f.1, .int .i64 f.2]))) w')) (by kernel_rfl) (by exact ldA ([.int .i64 f.1, .int .i64 f.2]) [] hY (rfl) (rfl)) (fun hHeld => ?_)
      refine wpAnyH_take (i := 0) (oi := ⟨some 52, _, _, _, _, _⟩) (v := ?_) rfl (by kernel_rfl) (by kernel_rfl) (by kernel_rfl) (fun _ _ _ h => h) (Or.inl ⟨by rfl, ?_⟩) (by assumption) ?_
      rotate_left
      · intro w hSw; (try dsimp only at hSw); go_simp; try with_reducible rfl
      (try simp only [Act.put, List.setIfInBounds_toArray, List.set_cons_zero, List.set_cons_succ])
      refine wpAnyH_take (i := 1) (oi := ⟨some 53, _, _, _, _, _⟩) (v := ?_) rfl (by kernel_rfl) (by kernel_rfl) (by kernel_rfl) (fun _ _ _ h => h) (Or.inl ⟨by rfl, ?_⟩) (by assumption) ?_
      rotate_left
      · intro w hSw; (try dsimp only at hSw); go_simp; try with_reducible rfl
      (try simp only [Act.put, List.setIfInBounds_toArray, List.set_cons_zero, List.set_cons_succ])
      refine wpAnyH_ready (rs := [2]) (by kernel_rfl) (by simp) ?_
      refine (AllReadyH.cons (o := ⟨none, _, _, _, _, _⟩) rfl (fun K hK => ?_) AllReadyH.nil)
      rw [if_pos (by rfl)]
      refine ow_of_wl (ops := #[]) (by rfl) ?_
      refine wl_storeA [_, _, _, _, _, _] hY rfl rfl rfl rfl rfl rfl rfl ?_
      intro w46 hZ6
      refine q0_nil ?_
      refine hK.out _ _ ?_ (fun hHeld => ?_)
      · exact ldA ([.int .i64 f.1, .int .i64 f.2]) [] hZ6 (rfl) (rfl)
      clear hK K
      (try simp only [Act.put, List.setIfInBounds_toArray, List.set_cons_zero, List.set_cons_succ])
      refine wpAnyH_ready (rs := [3]) (by kernel_rfl) (by simp) ?_
      refine (AllReadyH.cons (o := ⟨none, _, _, _, _, _⟩) rfl (fun K hK => ?_) AllReadyH.nil)
      rw [if_pos (by rfl)]
      refine ow_of_wl (ops := #[]) (by rfl) ?_
      refine wl_storeA [_, _, _, _, _] hZ6 rfl rfl rfl rfl rfl rfl rfl ?_
      intro w45 hZ5
      refine q0_nil ?_
      refine hK.out _ _ ?_ (fun hHeld => ?_)
      · exact ldA ([.int .i64 f.1, .int .i64 f.2]) [] hZ5 (rfl) (rfl)
      clear hK K
      (try simp only [Act.put, List.setIfInBounds_toArray, List.set_cons_zero, List.set_cons_succ])
      refine wpAnyH_done (by kernel_rfl) ?_ _
      clear hHeld
      go_wp2_with (first | go_big_skip | go_big_guard | fail)
      refine bodyPost_ret (results_cell2L rfl rfl rfl (Loads.whole (T := 25) [_, _, _, _, _, _] hZ5 rfl) (Loads.whole (T := 42) [_, _, _, _, _] hZ5 rfl)) rfl ?_
      rw [HE.out]
      exact ⟨.slice none 0 0, .slice none 0 0, rfl, St.nilPQ isS _ 1 (St.nilPQ isB _ 1 hZ5.nil)⟩
theorem qget_odd (ao : Option Addr) (n c : Nat) (B : List UInt8) (w : World) (hr : Rd w (.slice ao n c) 1 n (bytesV B)) (hn : B.length = n) (hb : n ≤ 100000) (h0 : (endR B (goAll ((⟨0, 0, 0⟩, OV.none) : RS × OV) (getF B)).1).1 = 0) (h1 : (goAll ((⟨0, 0, 0⟩, OV.none) : RS × OV) (getF B)).2.check ≠ 0) :
    Calls Try.prog 23 #[.slice ao n c] w (GetP w (getO B)) := by
  have hst0 := St.refl w
  have HR := hid hr
  have HN := hid hn
  have hBl : B.length ≤ 100000 := by rw [hn]; exact hb
  obtain ⟨S, hS⟩ : ∃ S, S = goAll ((⟨0, 0, 0⟩, OV.none) : RS × OV) (getF B) := ⟨_, rfl⟩
  have HS := hid hS
  have HL16 := hid (show S.2.l.length ≤ 16 by rw [hS]; exact get_len B)
  obtain ⟨f, hf⟩ : ∃ f, f = endR B S.1 := ⟨_, rfl⟩
  have HF := hid hf
  obtain ⟨ck, hck⟩ : ∃ ck, ck = S.2.check := ⟨_, rfl⟩
  have HCK := hid hck
  rw [← hS] at h0 h1
  rw [← hf] at h0
  rw [← hck] at h1
  obtain ⟨R, hR⟩ : ∃ R, R = getO B := ⟨_, rfl⟩
  rw [← hR]
  have e : R = (OV.none, 2, 0) := by
    have e2 : f.2 = 0 := by rw [hf]; refine endR_fine (by rw [hS]; exact get_fine B) (by rw [← hf]; exact h0)
    have e3 : ck = 2 := by
      rcases check_two S.2 with h | h
      · rw [hck]; exact h
      · rw [hck] at h1; exact absurd h h1
    rw [hR]; unfold getO; simp only [← hS, ← hf, ← hck]
    rw [if_pos h0, if_neg h1, e2, e3]
  have d1 : (f.1 != 0) = false := by simpa using h0
  have d2 : (ck != 0) = true := by simpa using h1
  have HE := hid e
  clear hS hf hck hR e h0 h1 hr hn
  go_enter Try.func23, Try.ntmps23
  go_wp2_with (first | go_big_skip | go_big_guard | (refine wl_alloc (T := 25) hst0 rfl rfl ?_; intro g2 w1 hst1; clear hst0) | (refine wl_alloc hst1 rfl rfl ?_; intro g3 w2 hst2; clear hst1) | (go_at_call 45; refine (qopen_any ao n c _).mono ?_; rintro _ w3 ⟨gq, rfl, h4⟩; have hst3 := St.call hst2 h4; clear h4 hst2; have hoff := hid (St.newOff (L1 := []) hst3 HR.out (by decide))) | (refine wl_alloc (T := 25) hst3 rfl rfl ?_; intro go w4 hst4; clear hst3; obtain ⟨y0, hy0⟩ : ∃ y : RS × OV, y = (⟨0, 0, 0⟩, OV.none) := ⟨_, rfl⟩; have HY0 := hid hy0; have hS0 : St w [] w4 (qP gq (.slice ao n c) y0.1 ++ .blk go 25 (y0.2.cells (.slice none 0 0) (.slice none 0 0)) :: [.blk g3 42 [.int .i64 0, .int .i64 0], .blk g2 25 [.int .i64 0, .string ⟨#[]⟩, .string ⟨#[]⟩, .int .i64 0, .int .i64 0, .slice none 0 0, .slice none 0 0]]) := (by rw [hy0]; exact St.front [_] hst4); have HP0 := hid (show y0.1.pos ≤ B.length by rw [hy0]; exact Nat.zero_le _); clear hst4 hy0) | (go_at_call 46; refine (qnum_any gq ao n c B y0.1 1 1 24 _ (St.sub hS0 (List.sublist_append_left _ _)) (Rd.old hS0 HR.out) hoff.out HN.out (by rw [← HN.out]; exact HP0.out) hb (by decide)).mono ?_; rintro _ w9 ⟨rfl, h4⟩; have hC0 := St.callF (qP gq (.slice ao n c) y0.1) hS0 h4; clear h4 hS0) | (refine wl_store [_] hC0 rfl rfl rfl (v := .int _ _) rfl rfl rfl (by show (1 : Nat) ≤ 7; decide) ?_; intro w20 hT; obtain ⟨y1, hy1⟩ : ∃ y : RS × OV, y = ((stepR y0.1 (numRR B y0.1.pos 1 1 24) 0).1, OV.mk ((stepR y0.1 (numRR B y0.1.pos 1 1 24) 0).2) y0.2.n y0.2.m y0.2.name y0.2.dest y0.2.l y0.2.b) := ⟨_, rfl⟩; have HY1 := hid hy1; have hS1 : St w [] w20 (qP gq (.slice ao n c) y1.1 ++ .blk go 25 (y1.2.cells (.slice none 0 0) (.slice none 0 0)) :: [.blk g3 42 [.int .i64 0, .int .i64 0], .blk g2 25 [.int .i64 0, .string ⟨#[]⟩, .string ⟨#[]⟩, .int .i64 0, .int .i64 0, .slice none 0 0, .slice none 0 0]]) := (by rw [hy1]; exact hT); have HP1 := hid (show y1.1.pos ≤ B.length by rw [hy1]; exact num_pos HP0.out); clear hT hC0 hy1) | (go_at_call 47; refine (qtext_any gq ao n c B y1.1 48 _ (St.sub hS1 (List.sublist_append_left _ _)) (Rd.old hS1 HR.out) hoff.out HN.out (by rw [← HN.out]; exact HP1.out) hb (by decide)).mono ?_; rintro _ w9 ⟨rfl, h4⟩; have hC1 := St.callF (qP gq (.slice ao n c) y1.1) hS1 h4; clear h4 hS1) | (refine wl_store [_] hC1 rfl rfl rfl (v := .string _) rfl rfl rfl (by show (2 : Nat) ≤ 7; decide) ?_; intro w21 hT; obtain ⟨y2, hy2⟩ : ∃ y : RS × OV, y = ((textF B y1.1).1, OV.mk y1.2.op y1.2.n y1.2.m ((textF B y1.1).2) y1.2.dest y1.2.l y1.2.b) := ⟨_, rfl⟩; have HY2 := hid hy2; have hS2 : St w [] w21 (qP gq (.slice ao n c) y2.1 ++ .blk go 25 (y2.2.cells (.slice none 0 0) (.slice none 0 0)) :: [.blk g3 42 [.int .i64 0, .int .i64 0], .blk g2 25 [.int .i64 0, .string ⟨#[]⟩, .string ⟨#[]⟩, .int .i64 0, .int .i64 0, .slice none 0 0, .slice none 0 0]]) := (by rw [hy2]; exact hT); have HP2 := hid (show y2.1.pos ≤ B.length by rw [hy2]; exact text_pos HP1.out); clear hT hC1 hy2) | (go_at_call 47; refine (qtext_any gq ao n c B y2.1 48 _ (St.sub hS2 (List.sublist_append_left _ _)) (Rd.old hS2 HR.out) hoff.out HN.out (by rw [← HN.out]; exact HP2.out) hb (by decide)).mono ?_; rintro _ w9 ⟨rfl, h4⟩; have hC2 := St.callF (qP gq (.slice ao n c) y2.1) hS2 h4; clear h4 hS2) | (refine wl_store [_] hC2 rfl rfl rfl (v := .string _) rfl rfl rfl (by show (3 : Nat) ≤ 7; decide) ?_; intro w22 hT; obtain ⟨y3, hy3⟩ : ∃ y : RS × OV, y = ((textF B y2.1).1, OV.mk y2.2.op y2.2.n y2.2.m y2.2.name ((textF B y2.1).2) y2.2.l y2.2.b) := ⟨_, rfl⟩; have HY3 := hid hy3; have hS3 : St w [] w22 (qP gq (.slice ao n c) y3.1 ++ .blk go 25 (y3.2.cells (.slice none 0 0) (.slice none 0 0)) :: [.blk g3 42 [.int .i64 0, .int .i64 0], .blk g2 25 [.int .i64 0, .string ⟨#[]⟩, .string ⟨#[]⟩, .int .i64 0, .int .i64 0, .slice none 0 0, .slice none 0 0]]) := (by rw [hy3]; exact hT); have HP3 := hid (show y3.1.pos ≤ B.length by rw [hy3]; exact text_pos HP2.out); clear hT hC2 hy3) | (go_at_call 46; refine (qnum_any gq ao n c B y3.1 4 0 2147483647 _ (St.sub hS3 (List.sublist_append_left _ _)) (Rd.old hS3 HR.out) hoff.out HN.out (by rw [← HN.out]; exact HP3.out) hb (by decide)).mono ?_; rintro _ w9 ⟨rfl, h4⟩; have hC3 := St.callF (qP gq (.slice ao n c) y3.1) hS3 h4; clear h4 hS3) | (refine wl_store [_] hC3 rfl rfl rfl (v := .int _ _) rfl rfl rfl (by show (4 : Nat) ≤ 7; decide) ?_; intro w23 hT; obtain ⟨y4, hy4⟩ : ∃ y : RS × OV, y = ((stepR y3.1 (numRR B y3.1.pos 4 0 2147483647) 0).1, OV.mk y3.2.op ((stepR y3.1 (numRR B y3.1.pos 4 0 2147483647) 0).2) y3.2.m y3.2.name y3.2.dest y3.2.l y3.2.b) := ⟨_, rfl⟩; have HY4 := hid hy4; have hS4 : St w [] w23 (qP gq (.slice ao n c) y4.1 ++ .blk go 25 (y4.2.cells (.slice none 0 0) (.slice none 0 0)) :: [.blk g3 42 [.int .i64 0, .int .i64 0], .blk g2 25 [.int .i64 0, .string ⟨#[]⟩, .string ⟨#[]⟩, .int .i64 0, .int .i64 0, .slice none 0 0, .slice none 0 0]]) := (by rw [hy4]; exact hT); have HP4 := hid (show y4.1.pos ≤ B.length by rw [hy4]; exact num_pos HP3.out); clear hT hC3 hy4) | (go_at_call 46; refine (qnum_any gq ao n c B y4.1 4 0 2147483647 _ (St.sub hS4 (List.sublist_append_left _ _)) (Rd.old hS4 HR.out) hoff.out HN.out (by rw [← HN.out]; exact HP4.out) hb (by decide)).mono ?_; rintro _ w9 ⟨rfl, h4⟩; have hC4 := St.callF (qP gq (.slice ao n c) y4.1) hS4 h4; clear h4 hS4) | (refine wl_store [_] hC4 rfl rfl rfl (v := .int _ _) rfl rfl rfl (by show (5 : Nat) ≤ 7; decide) ?_; intro w24 hT; obtain ⟨y5, hy5⟩ : ∃ y : RS × OV, y = ((stepR y4.1 (numRR B y4.1.pos 4 0 2147483647) 0).1, OV.mk y4.2.op y4.2.n ((stepR y4.1 (numRR B y4.1.pos 4 0 2147483647) 0).2) y4.2.name y4.2.dest y4.2.l y4.2.b) := ⟨_, rfl⟩; have HY5 := hid hy5; have hS5 : St w [] w24 (qP gq (.slice ao n c) y5.1 ++ .blk go 25 (y5.2.cells (.slice none 0 0) (.slice none 0 0)) :: [.blk g3 42 [.int .i64 0, .int .i64 0], .blk g2 25 [.int .i64 0, .string ⟨#[]⟩, .string ⟨#[]⟩, .int .i64 0, .int .i64 0, .slice none 0 0, .slice none 0 0]]) := (by rw [hy5]; exact hT); have HP5 := hid (show y5.1.pos ≤ B.length by rw [hy5]; exact num_pos HP4.out); clear hT hC4 hy5) | (go_at_call 46; obtain ⟨N1, hN1⟩ : ∃ N1, N1 = stepR y5.1 (numRR B y5.1.pos 1 0 16) 0 := ⟨_, rfl⟩; obtain ⟨k, hk⟩ : ∃ k : Nat, N1.2 = (k : Int) := ⟨N1.2.toNat, by rw [hN1]; exact (Int.toNat_of_nonneg (num_in ⟨by decide, by decide⟩).1).symm⟩; have hk16 : k ≤ 16 := (by have h9 := (num_in (B := B) (s := y5.1) (size := 1) (low := 0) (high := 16) ⟨by decide, by decide⟩).2; rw [← hN1, hk] at h9; omega); have HN1 := hid hN1; have HK := hid hk; refine (qnum_any gq ao n c B y5.1 1 0 16 _ (St.sub hS5 (List.sublist_append_left _ _)) (Rd.old hS5 HR.out) hoff.out HN.out (by rw [← HN.out]; exact HP5.out) hb (by decide)).mono ?_; rw [← HN1.out, HK.out]; rintro _ w9 ⟨rfl, h4⟩; have hC5 := St.callF (qP gq (.slice ao n c) y5.1) hS5 h4; clear h4 hS5 hN1 hk))
  have hPJ := hid (fun j : Nat => manyS_pos (f := textF B) (s := N1.1) (N := B.length) (by rw [HN1.out]; exact num_pos HP5.out) (fun s hs => textF_pos s hs) j)
  have hL0 : St w [] w9 (qP gq (.slice ao n c) (manyS (textF B) N1.1 0).1 ++ .blk go 25 (y5.2.cells (.slice none 0 0) (.slice none 0 0)) :: .rowP isS (.slice none 0 0) 9 1 0 (strsV (manyS (textF B) N1.1 0).2) :: [.blk g3 42 [.int .i64 0, .int .i64 0], .blk g2 25 [.int .i64 0, .string ⟨#[]⟩, .string ⟨#[]⟩, .int .i64 0, .int .i64 0, .slice none 0 0, .slice none 0 0]]) := by
    have h1 := St.nilPQ isS 9 1 hC5
    exact (St.front (L1 := [_, _, _, _]) (St.front (L1 := [_, _, _, _]) (St.front (L1 := [_, _]) (St.front (L1 := [_, _, _, _]) (St.front (L1 := [_, _, _, _]) h1)))))
  clear hC5
  go_loopw [7] (fun i wr => ∃ (j : Nat) (lv : Value), j ≤ k ∧ i = .int .i64 (j : Int) ∧ St w [] wr (qP gq (.slice ao n c) (manyS (textF B) N1.1 j).1 ++ .blk go 25 (y5.2.cells lv (.slice none 0 0)) :: .rowP isS lv 9 1 j (strsV (manyS (textF B) N1.1 j).2) :: [.blk g3 42 [.int .i64 0, .int .i64 0], .blk g2 25 [.int .i64 0, .string ⟨#[]⟩, .string ⟨#[]⟩, .int .i64 0, .int .i64 0, .slice none 0 0, .slice none 0 0]])) (fun i _ => k - (intOf i).toNat)
  case atStart => exact ⟨0, _, Nat.zero_le _, rfl, hL0⟩
  case round =>
    clear hL0
    obtain ⟨j, lv, hj, rfl, hst⟩ := hrel
    obtain ⟨al, cl, rfl⟩ := St.rowPSliceF [_, _] hst
    have hposj := hPJ.out j
    by_cases hlt : j < k
    · have d1 : decide ((j : Int) < (k : Int)) = true := decide_eq_true (by omega)
      have z1 : IntKind.i64.wrap ((j : Int) + 1) = (j : Int) + 1 := IntWalk.i64_in _ (by omega)
      have hsucc : manyS (textF B) N1.1 (j + 1) = ((textF B (manyS (textF B) N1.1 j).1).1, (manyS (textF B) N1.1 j).2 ++ [(textF B (manyS (textF B) N1.1 j).1).2]) := rfl
      obtain ⟨S1, hS1⟩ : ∃ S1, S1 = manyS (textF B) N1.1 j := ⟨_, rfl⟩
      rw [← hS1] at hst hposj hsucc
      obtain ⟨S2, hS2⟩ : ∃ S2, S2 = textF B S1.1 := ⟨_, rfl⟩
      rw [← hS2] at hsucc
      have HS2 := hid (show stepR S1.1 (textRR B S1.1.pos 48) [] = S2 from hS2.symm)
      have HSU := hid hsucc
      have HPj := hid hposj
      clear hS1 hS2 hsucc hposj
      go_wp2_with (first | go_big_skip | go_big_guard | (go_at_call 47; refine (qtext_any gq ao n c B S1.1 48 _ (St.sub hst (List.sublist_append_left _ _)) (Rd.old hst HR.out) hoff.out HN.out (by rw [← HN.out]; exact HPj.out) hb (by decide)).mono ?_; rw [HS2.out]; rintro _ w10 ⟨rfl, h4⟩; have hC := St.callF (qP gq (.slice ao n c) S1.1) hst h4; clear h4 hst) | (refine wl_loadE rfl rfl rfl ?_; refine ⟨_, Loads.at [_] hC rfl, ?_⟩) | (apply wl_bsX [strV S2.2] [strV S2.2] hC; rfl; rfl; exact rfl; exact rfl; infer_instance; infer_instance; rfl; rfl; rfl; intro gs w11 hD; clear hC) | (apply wl_appP (ys := [strV S2.2]) [_, _, _] hD; rfl; rfl; exact rfl; exact rfl; infer_instance; infer_instance; infer_instance; infer_instance; exact (Rd.blk0 hD rfl (by decide)); exact rfl; rfl; exact isS_one (by rw [← HS2.out]; exact textF_len _ _); (unfold maxLen; omega); intro v2 w12 hE _; clear hD; obtain ⟨a2, c2, rfl⟩ := St.rowPSliceF [_, _, _] hE) | (refine wl_store [_, _] hE rfl rfl rfl (v := .slice _ _ _) rfl rfl rfl (by show (6 : Nat) ≤ 7; decide) ?_; intro w13 hG; clear hE))
      go_roundw
      case rel =>
        refine ⟨j + 1, .slice a2 (j + 1) c2, by omega, rfl, ?_⟩
        rw [HSU.out]
        have e2 : strsV (S1.2 ++ [S2.2]) = strsV S1.2 ++ [strV S2.2] := by rw [strsV_append]; rfl
        show St w [] _ (qP gq (.slice ao n c) S2.1 ++ .blk go 25 (y5.2.cells (.slice a2 (j + 1) c2) (.slice none 0 0)) :: .rowP isS (.slice a2 (j + 1) c2) 9 1 (j + 1) (strsV (S1.2 ++ [S2.2])) :: [.blk g3 42 [.int .i64 0, .int .i64 0], .blk g2 25 [.int .i64 0, .string ⟨#[]⟩, .string ⟨#[]⟩, .int .i64 0, .int .i64 0, .slice none 0 0, .slice none 0 0]])
        rw [e2]
        exact St.sub hG (.cons _ (List.Sublist.refl _))
      case measure => simp [intOf]; omega
    · have hjk : j = k := by omega
      have d1' : decide ((j : Int) < (k : Int)) = false := decide_eq_false (by omega)
      have eL : listR (textF B) B 1 16 y5.1 = manyS (textF B) N1.1 j := by
        unfold listR
        rw [← HN1.out, HK.out, Int.toNat_natCast, hjk]
      obtain ⟨y6, hy6⟩ : ∃ y : RS × OV, y = ((listR (textF B) B 1 16 y5.1).1, OV.mk y5.2.op y5.2.n y5.2.m y5.2.name y5.2.dest (listR (textF B) B 1 16 y5.1).2 y5.2.b) := ⟨_, rfl⟩
      have HY6 := hid hy6
      have ej : j = y6.2.l.length := by rw [hy6, eL]; exact (manyS_len _ _ _).symm
      have hS6 : St w [] wr (qP gq (.slice ao n c) y6.1 ++ .blk go 25 (y6.2.cells (.slice al j cl) (.slice none 0 0)) :: .rowP isS (.slice al j cl) 9 1 j (strsV y6.2.l) :: [.blk g3 42 [.int .i64 0, .int .i64 0], .blk g2 25 [.int .i64 0, .string ⟨#[]⟩, .string ⟨#[]⟩, .int .i64 0, .int .i64 0, .slice none 0 0, .slice none 0 0]]) := by
        rw [hy6, eL]
        exact hst
      have HP6 := hid (show y6.1.pos ≤ B.length by rw [hy6]; exact listR_pos textF_pos HP5.out)
      have HJ := hid ej
      clear hst hjk eL hy6 hposj ej
      go_wp2_with (first | go_big_skip | go_big_guard | (go_at_call 46; obtain ⟨M1, hM1⟩ : ∃ M1, M1 = stepR y6.1 (numRR B y6.1.pos 3 0 16384) 0 := ⟨_, rfl⟩; have HM1 := hid hM1; have HPM := hid (show M1.1.pos ≤ B.length by rw [hM1]; exact num_pos HP6.out); refine (qnum_any gq ao n c B y6.1 3 0 16384 _ (St.sub hS6 (List.sublist_append_left _ _)) (Rd.old hS6 HR.out) hoff.out HN.out (by rw [← HN.out]; exact HP6.out) hb (by decide)).mono ?_; rw [← HM1.out]; rintro _ w14 ⟨rfl, h4⟩; have hC6 := St.callF (qP gq (.slice ao n c) y6.1) hS6 h4; clear h4 hS6 hM1) | (go_at_call 48; obtain ⟨M2, hM2⟩ : ∃ M2, M2 = stepR M1.1 (rawRR B M1.1.pos M1.2) [] := ⟨_, rfl⟩; have HM2 := hid hM2; refine (qraw_any gq ao n c B M1.1 M1.2 _ (St.sub hC6 (List.sublist_append_left _ _)) (Rd.old hC6 HR.out) hoff.out HN.out (by rw [← HN.out]; exact HPM.out) hb).mono ?_; rw [← HM2.out]; rintro _ w15 ⟨u, rfl, h4⟩; have hC7 := St.callF (qP gq (.slice ao n c) M1.1) hC6 h4; clear h4 hC6 hM2; obtain ⟨ab, cb, rfl⟩ := St.rowPSliceF [_] hC7) | (refine wl_store [_, _] hC7 rfl rfl rfl (v := .slice _ _ _) rfl rfl rfl (by show (7 : Nat) ≤ 7; decide) ?_; intro w16 hT; clear hC7; obtain ⟨y7, hy7⟩ : ∃ y : RS × OV, y = ((rawS B y6.1).1, OV.mk y6.2.op y6.2.n y6.2.m y6.2.name y6.2.dest y6.2.l (rawS B y6.1).2) := ⟨_, rfl⟩; have eM : rawS B y6.1 = M2 := (by rw [HM2.out, HM1.out]; rfl); have eS : y7 = S := (by rw [hy7, HY6.out, HY5.out, HY4.out, HY3.out, HY2.out, HY1.out, HY0.out, HS.out]; rfl); have hS7 : St w [] w16 (qP gq (.slice ao n c) S.1 ++ .rowP isB (.slice ab M2.2.length cb) 5 1 M2.2.length (bytesV M2.2) :: .blk go 25 (S.2.cells (.slice al j cl) (.slice ab M2.2.length cb)) :: .rowP isS (.slice al j cl) 9 1 j (strsV S.2.l) :: [.blk g3 42 [.int .i64 0, .int .i64 0], .blk g2 25 [.int .i64 0, .string ⟨#[]⟩, .string ⟨#[]⟩, .int .i64 0, .int .i64 0, .slice none 0 0, .slice none 0 0]]) := (by rw [← eS, hy7, eM]; exact hT); have HB2 := hid (show M2.2 = S.2.b by rw [← eS, hy7, eM]); have HP7 := hid (show S.1.pos ≤ B.length by rw [← eS, hy7]; exact rawS_pos HP6.out); have HJ2 := hid (show j = S.2.l.length by rw [HJ.out, ← eS, hy7]); clear hT hy7 eM eS) | (go_at_call 49; refine (qend_any gq ao n c S.1 B _ (St.sub hS7 (List.sublist_append_left _ _)) HN.out (by omega) (by rw [← HN.out]; exact HP7.out)).mono ?_; rw [← HF.out]; rintro _ w17 ⟨rfl, h4⟩; have hS8 := St.call0 hS7 h4; clear h4 hS7) | (refine wl_alloc hS8 rfl rfl ?_; intro g9 w18 hS9; clear hS8) | (refine wl_storeA [] hS9 rfl rfl rfl rfl rfl rfl rfl ?_; intro w19 hX; clear hS9) | (refine wl_loadE rfl rfl rfl ?_; first | refine ⟨_, Loads.at [] hX rfl, ?_⟩) | (refine wl_loadE rfl rfl rfl ?_; refine ⟨_, Loads.whole (T := 25) [_, _, _] hX rfl, ?_⟩) | (go_at_call 16; refine (qcheck_any S.2 al ab j cl M2.2.length cb _ (Rd.rowP hX (.tail _ (.tail _ (.tail _ (.tail _ (.head _)))))) HJ2.out.symm (by rw [HB2.out]) (by have h9 := HL16.out; rw [HJ2.out]; omega)).mono ?_; rw [← HCK.out]; rintro _ w20' ⟨rfl, h4⟩; have hX2 := St.call0 hX h4; clear h4 hX) | (refine wl_build0 rfl rfl ?_) | (refine wl_buildX (cs := [.int .i64 2, .int .i64 0]) [(0, .int .i64 2)] rfl rfl (by exact rfl) (by kernel_rfl) ?_) | (refine wl_storeA (T := 25) [_, _, _, _, _, _] hX2 rfl rfl rfl rfl rfl rfl rfl ?_; intro w31 hX3; clear hX2) | (refine wl_storeA (T := 42) [_, _, _, _, _] hX3 rfl rfl rfl rfl rfl rfl rfl ?_; intro w32 hX4; clear hX3))
      refine bodyPost_ret (results_cell2L rfl rfl rfl (Loads.whole (T := 25) [_, _, _, _, _, _] hX4 rfl) (Loads.whole (T := 42) [_, _, _, _, _] hX4 rfl)) rfl ?_
      rw [HE.out]
      exact ⟨.slice none 0 0, .slice none 0 0, rfl, St.nilPQ isS _ 1 (St.nilPQ isB _ 1 hX4.nil)⟩
theorem qget_ok (ao : Option Addr) (n c : Nat) (B : List UInt8) (w : World) (hr : Rd w (.slice ao n c) 1 n (bytesV B)) (hn : B.length = n) (hb : n ≤ 100000) (h0 : (endR B (goAll ((⟨0, 0, 0⟩, OV.none) : RS × OV) (getF B)).1).1 = 0) (h1 : (goAll ((⟨0, 0, 0⟩, OV.none) : RS × OV) (getF B)).2.check = 0) :
    Calls Try.prog 23 #[.slice ao n c] w (GetP w (getO B)) := by
  have hst0 := St.refl w
  have HR := hid hr
  have HN := hid hn
  have hBl : B.length ≤ 100000 := by rw [hn]; exact hb
  obtain ⟨S, hS⟩ : ∃ S, S = goAll ((⟨0, 0, 0⟩, OV.none) : RS × OV) (getF B) := ⟨_, rfl⟩
  have HS := hid hS
  have HL16 := hid (show S.2.l.length ≤ 16 by rw [hS]; exact get_len B)
  obtain ⟨f, hf⟩ : ∃ f, f = endR B S.1 := ⟨_, rfl⟩
  have HF := hid hf
  obtain ⟨ck, hck⟩ : ∃ ck, ck = S.2.check := ⟨_, rfl⟩
  have HCK := hid hck
  rw [← hS] at h0 h1
  rw [← hf] at h0
  rw [← hck] at h1
  obtain ⟨R, hR⟩ : ∃ R, R = getO B := ⟨_, rfl⟩
  rw [← hR]
  have e : R = (S.2, f.1, f.2) := by
    rw [hR]; unfold getO; simp only [← hS, ← hf, ← hck]
    rw [if_pos h0, if_pos h1, h0, h1]
  have d1 : (f.1 != 0) = false := by simpa using h0
  have d2 : (ck != 0) = false := by simpa using h1
  have HE := hid e
  clear hS hf hck hR e h0 h1 hr hn
  go_enter Try.func23, Try.ntmps23
  go_wp2_with (first | go_big_skip | go_big_guard | (refine wl_alloc (T := 25) hst0 rfl rfl ?_; intro g2 w1 hst1; clear hst0) | (refine wl_alloc hst1 rfl rfl ?_; intro g3 w2 hst2; clear hst1) | (go_at_call 45; refine (qopen_any ao n c _).mono ?_; rintro _ w3 ⟨gq, rfl, h4⟩; have hst3 := St.call hst2 h4; clear h4 hst2; have hoff := hid (St.newOff (L1 := []) hst3 HR.out (by decide))) | (refine wl_alloc (T := 25) hst3 rfl rfl ?_; intro go w4 hst4; clear hst3; obtain ⟨y0, hy0⟩ : ∃ y : RS × OV, y = (⟨0, 0, 0⟩, OV.none) := ⟨_, rfl⟩; have HY0 := hid hy0; have hS0 : St w [] w4 (qP gq (.slice ao n c) y0.1 ++ .blk go 25 (y0.2.cells (.slice none 0 0) (.slice none 0 0)) :: [.blk g3 42 [.int .i64 0, .int .i64 0], .blk g2 25 [.int .i64 0, .string ⟨#[]⟩, .string ⟨#[]⟩, .int .i64 0, .int .i64 0, .slice none 0 0, .slice none 0 0]]) := (by rw [hy0]; exact St.front [_] hst4); have HP0 := hid (show y0.1.pos ≤ B.length by rw [hy0]; exact Nat.zero_le _); clear hst4 hy0) | (go_at_call 46; refine (qnum_any gq ao n c B y0.1 1 1 24 _ (St.sub hS0 (List.sublist_append_left _ _)) (Rd.old hS0 HR.out) hoff.out HN.out (by rw [← HN.out]; exact HP0.out) hb (by decide)).mono ?_; rintro _ w9 ⟨rfl, h4⟩; have hC0 := St.callF (qP gq (.slice ao n c) y0.1) hS0 h4; clear h4 hS0) | (refine wl_store [_] hC0 rfl rfl rfl (v := .int _ _) rfl rfl rfl (by show (1 : Nat) ≤ 7; decide) ?_; intro w20 hT; obtain ⟨y1, hy1⟩ : ∃ y : RS × OV, y = ((stepR y0.1 (numRR B y0.1.pos 1 1 24) 0).1, OV.mk ((stepR y0.1 (numRR B y0.1.pos 1 1 24) 0).2) y0.2.n y0.2.m y0.2.name y0.2.dest y0.2.l y0.2.b) := ⟨_, rfl⟩; have HY1 := hid hy1; have hS1 : St w [] w20 (qP gq (.slice ao n c) y1.1 ++ .blk go 25 (y1.2.cells (.slice none 0 0) (.slice none 0 0)) :: [.blk g3 42 [.int .i64 0, .int .i64 0], .blk g2 25 [.int .i64 0, .string ⟨#[]⟩, .string ⟨#[]⟩, .int .i64 0, .int .i64 0, .slice none 0 0, .slice none 0 0]]) := (by rw [hy1]; exact hT); have HP1 := hid (show y1.1.pos ≤ B.length by rw [hy1]; exact num_pos HP0.out); clear hT hC0 hy1) | (go_at_call 47; refine (qtext_any gq ao n c B y1.1 48 _ (St.sub hS1 (List.sublist_append_left _ _)) (Rd.old hS1 HR.out) hoff.out HN.out (by rw [← HN.out]; exact HP1.out) hb (by decide)).mono ?_; rintro _ w9 ⟨rfl, h4⟩; have hC1 := St.callF (qP gq (.slice ao n c) y1.1) hS1 h4; clear h4 hS1) | (refine wl_store [_] hC1 rfl rfl rfl (v := .string _) rfl rfl rfl (by show (2 : Nat) ≤ 7; decide) ?_; intro w21 hT; obtain ⟨y2, hy2⟩ : ∃ y : RS × OV, y = ((textF B y1.1).1, OV.mk y1.2.op y1.2.n y1.2.m ((textF B y1.1).2) y1.2.dest y1.2.l y1.2.b) := ⟨_, rfl⟩; have HY2 := hid hy2; have hS2 : St w [] w21 (qP gq (.slice ao n c) y2.1 ++ .blk go 25 (y2.2.cells (.slice none 0 0) (.slice none 0 0)) :: [.blk g3 42 [.int .i64 0, .int .i64 0], .blk g2 25 [.int .i64 0, .string ⟨#[]⟩, .string ⟨#[]⟩, .int .i64 0, .int .i64 0, .slice none 0 0, .slice none 0 0]]) := (by rw [hy2]; exact hT); have HP2 := hid (show y2.1.pos ≤ B.length by rw [hy2]; exact text_pos HP1.out); clear hT hC1 hy2) | (go_at_call 47; refine (qtext_any gq ao n c B y2.1 48 _ (St.sub hS2 (List.sublist_append_left _ _)) (Rd.old hS2 HR.out) hoff.out HN.out (by rw [← HN.out]; exact HP2.out) hb (by decide)).mono ?_; rintro _ w9 ⟨rfl, h4⟩; have hC2 := St.callF (qP gq (.slice ao n c) y2.1) hS2 h4; clear h4 hS2) | (refine wl_store [_] hC2 rfl rfl rfl (v := .string _) rfl rfl rfl (by show (3 : Nat) ≤ 7; decide) ?_; intro w22 hT; obtain ⟨y3, hy3⟩ : ∃ y : RS × OV, y = ((textF B y2.1).1, OV.mk y2.2.op y2.2.n y2.2.m y2.2.name ((textF B y2.1).2) y2.2.l y2.2.b) := ⟨_, rfl⟩; have HY3 := hid hy3; have hS3 : St w [] w22 (qP gq (.slice ao n c) y3.1 ++ .blk go 25 (y3.2.cells (.slice none 0 0) (.slice none 0 0)) :: [.blk g3 42 [.int .i64 0, .int .i64 0], .blk g2 25 [.int .i64 0, .string ⟨#[]⟩, .string ⟨#[]⟩, .int .i64 0, .int .i64 0, .slice none 0 0, .slice none 0 0]]) := (by rw [hy3]; exact hT); have HP3 := hid (show y3.1.pos ≤ B.length by rw [hy3]; exact text_pos HP2.out); clear hT hC2 hy3) | (go_at_call 46; refine (qnum_any gq ao n c B y3.1 4 0 2147483647 _ (St.sub hS3 (List.sublist_append_left _ _)) (Rd.old hS3 HR.out) hoff.out HN.out (by rw [← HN.out]; exact HP3.out) hb (by decide)).mono ?_; rintro _ w9 ⟨rfl, h4⟩; have hC3 := St.callF (qP gq (.slice ao n c) y3.1) hS3 h4; clear h4 hS3) | (refine wl_store [_] hC3 rfl rfl rfl (v := .int _ _) rfl rfl rfl (by show (4 : Nat) ≤ 7; decide) ?_; intro w23 hT; obtain ⟨y4, hy4⟩ : ∃ y : RS × OV, y = ((stepR y3.1 (numRR B y3.1.pos 4 0 2147483647) 0).1, OV.mk y3.2.op ((stepR y3.1 (numRR B y3.1.pos 4 0 2147483647) 0).2) y3.2.m y3.2.name y3.2.dest y3.2.l y3.2.b) := ⟨_, rfl⟩; have HY4 := hid hy4; have hS4 : St w [] w23 (qP gq (.slice ao n c) y4.1 ++ .blk go 25 (y4.2.cells (.slice none 0 0) (.slice none 0 0)) :: [.blk g3 42 [.int .i64 0, .int .i64 0], .blk g2 25 [.int .i64 0, .string ⟨#[]⟩, .string ⟨#[]⟩, .int .i64 0, .int .i64 0, .slice none 0 0, .slice none 0 0]]) := (by rw [hy4]; exact hT); have HP4 := hid (show y4.1.pos ≤ B.length by rw [hy4]; exact num_pos HP3.out); clear hT hC3 hy4) | (go_at_call 46; refine (qnum_any gq ao n c B y4.1 4 0 2147483647 _ (St.sub hS4 (List.sublist_append_left _ _)) (Rd.old hS4 HR.out) hoff.out HN.out (by rw [← HN.out]; exact HP4.out) hb (by decide)).mono ?_; rintro _ w9 ⟨rfl, h4⟩; have hC4 := St.callF (qP gq (.slice ao n c) y4.1) hS4 h4; clear h4 hS4) | (refine wl_store [_] hC4 rfl rfl rfl (v := .int _ _) rfl rfl rfl (by show (5 : Nat) ≤ 7; decide) ?_; intro w24 hT; obtain ⟨y5, hy5⟩ : ∃ y : RS × OV, y = ((stepR y4.1 (numRR B y4.1.pos 4 0 2147483647) 0).1, OV.mk y4.2.op y4.2.n ((stepR y4.1 (numRR B y4.1.pos 4 0 2147483647) 0).2) y4.2.name y4.2.dest y4.2.l y4.2.b) := ⟨_, rfl⟩; have HY5 := hid hy5; have hS5 : St w [] w24 (qP gq (.slice ao n c) y5.1 ++ .blk go 25 (y5.2.cells (.slice none 0 0) (.slice none 0 0)) :: [.blk g3 42 [.int .i64 0, .int .i64 0], .blk g2 25 [.int .i64 0, .string ⟨#[]⟩, .string ⟨#[]⟩, .int .i64 0, .int .i64 0, .slice none 0 0, .slice none 0 0]]) := (by rw [hy5]; exact hT); have HP5 := hid (show y5.1.pos ≤ B.length by rw [hy5]; exact num_pos HP4.out); clear hT hC4 hy5) | (go_at_call 46; obtain ⟨N1, hN1⟩ : ∃ N1, N1 = stepR y5.1 (numRR B y5.1.pos 1 0 16) 0 := ⟨_, rfl⟩; obtain ⟨k, hk⟩ : ∃ k : Nat, N1.2 = (k : Int) := ⟨N1.2.toNat, by rw [hN1]; exact (Int.toNat_of_nonneg (num_in ⟨by decide, by decide⟩).1).symm⟩; have hk16 : k ≤ 16 := (by have h9 := (num_in (B := B) (s := y5.1) (size := 1) (low := 0) (high := 16) ⟨by decide, by decide⟩).2; rw [← hN1, hk] at h9; omega); have HN1 := hid hN1; have HK := hid hk; refine (qnum_any gq ao n c B y5.1 1 0 16 _ (St.sub hS5 (List.sublist_append_left _ _)) (Rd.old hS5 HR.out) hoff.out HN.out (by rw [← HN.out]; exact HP5.out) hb (by decide)).mono ?_; rw [← HN1.out, HK.out]; rintro _ w9 ⟨rfl, h4⟩; have hC5 := St.callF (qP gq (.slice ao n c) y5.1) hS5 h4; clear h4 hS5 hN1 hk))
  have hPJ := hid (fun j : Nat => manyS_pos (f := textF B) (s := N1.1) (N := B.length) (by rw [HN1.out]; exact num_pos HP5.out) (fun s hs => textF_pos s hs) j)
  have hL0 : St w [] w9 (qP gq (.slice ao n c) (manyS (textF B) N1.1 0).1 ++ .blk go 25 (y5.2.cells (.slice none 0 0) (.slice none 0 0)) :: .rowP isS (.slice none 0 0) 9 1 0 (strsV (manyS (textF B) N1.1 0).2) :: [.blk g3 42 [.int .i64 0, .int .i64 0], .blk g2 25 [.int .i64 0, .string ⟨#[]⟩, .string ⟨#[]⟩, .int .i64 0, .int .i64 0, .slice none 0 0, .slice none 0 0]]) := by
    have h1 := St.nilPQ isS 9 1 hC5
    exact (St.front (L1 := [_, _, _, _]) (St.front (L1 := [_, _, _, _]) (St.front (L1 := [_, _]) (St.front (L1 := [_, _, _, _]) (St.front (L1 := [_, _, _, _]) h1)))))
  clear hC5
  go_loopw [7] (fun i wr => ∃ (j : Nat) (lv : Value), j ≤ k ∧ i = .int .i64 (j : Int) ∧ St w [] wr (qP gq (.slice ao n c) (manyS (textF B) N1.1 j).1 ++ .blk go 25 (y5.2.cells lv (.slice none 0 0)) :: .rowP isS lv 9 1 j (strsV (manyS (textF B) N1.1 j).2) :: [.blk g3 42 [.int .i64 0, .int .i64 0], .blk g2 25 [.int .i64 0, .string ⟨#[]⟩, .string ⟨#[]⟩, .int .i64 0, .int .i64 0, .slice none 0 0, .slice none 0 0]])) (fun i _ => k - (intOf i).toNat)
  case atStart => exact ⟨0, _, Nat.zero_le _, rfl, hL0⟩
  case round =>
    clear hL0
    obtain ⟨j, lv, hj, rfl, hst⟩ := hrel
    obtain ⟨al, cl, rfl⟩ := St.rowPSliceF [_, _] hst
    have hposj := hPJ.out j
    by_cases hlt : j < k
    · have d1 : decide ((j : Int) < (k : Int)) = true := decide_eq_true (by omega)
      have z1 : IntKind.i64.wrap ((j : Int) + 1) = (j : Int) + 1 := IntWalk.i64_in _ (by omega)
      have hsucc : manyS (textF B) N1.1 (j + 1) = ((textF B (manyS (textF B) N1.1 j).1).1, (manyS (textF B) N1.1 j).2 ++ [(textF B (manyS (textF B) N1.1 j).1).2]) := rfl
      obtain ⟨S1, hS1⟩ : ∃ S1, S1 = manyS (textF B) N1.1 j := ⟨_, rfl⟩
      rw [← hS1] at hst hposj hsucc
      obtain ⟨S2, hS2⟩ : ∃ S2, S2 = textF B S1.1 := ⟨_, rfl⟩
      rw [← hS2] at hsucc
      have HS2 := hid (show stepR S1.1 (textRR B S1.1.pos 48) [] = S2 from hS2.symm)
      have HSU := hid hsucc
      have HPj := hid hposj
      clear hS1 hS2 hsucc hposj
      go_wp2_with (first | go_big_skip | go_big_guard | (go_at_call 47; refine (qtext_any gq ao n c B S1.1 48 _ (St.sub hst (List.sublist_append_left _ _)) (Rd.old hst HR.out) hoff.out HN.out (by rw [← HN.out]; exact HPj.out) hb (by decide)).mono ?_; rw [HS2.out]; rintro _ w10 ⟨rfl, h4⟩; have hC := St.callF (qP gq (.slice ao n c) S1.1) hst h4; clear h4 hst) | (refine wl_loadE rfl rfl rfl ?_; refine ⟨_, Loads.at [_] hC rfl, ?_⟩) | (apply wl_bsX [strV S2.2] [strV S2.2] hC; rfl; rfl; exact rfl; exact rfl; infer_instance; infer_instance; rfl; rfl; rfl; intro gs w11 hD; clear hC) | (apply wl_appP (ys := [strV S2.2]) [_, _, _] hD; rfl; rfl; exact rfl; exact rfl; infer_instance; infer_instance; infer_instance; infer_instance; exact (Rd.blk0 hD rfl (by decide)); exact rfl; rfl; exact isS_one (by rw [← HS2.out]; exact textF_len _ _); (unfold maxLen; omega); intro v2 w12 hE _; clear hD; obtain ⟨a2, c2, rfl⟩ := St.rowPSliceF [_, _, _] hE) | (refine wl_store [_, _] hE rfl rfl rfl (v := .slice _ _ _) rfl rfl rfl (by show (6 : Nat) ≤ 7; decide) ?_; intro w13 hG; clear hE))
      go_roundw
      case rel =>
        refine ⟨j + 1, .slice a2 (j + 1) c2, by omega, rfl, ?_⟩
        rw [HSU.out]
        have e2 : strsV (S1.2 ++ [S2.2]) = strsV S1.2 ++ [strV S2.2] := by rw [strsV_append]; rfl
        show St w [] _ (qP gq (.slice ao n c) S2.1 ++ .blk go 25 (y5.2.cells (.slice a2 (j + 1) c2) (.slice none 0 0)) :: .rowP isS (.slice a2 (j + 1) c2) 9 1 (j + 1) (strsV (S1.2 ++ [S2.2])) :: [.blk g3 42 [.int .i64 0, .int .i64 0], .blk g2 25 [.int .i64 0, .string ⟨#[]⟩, .string ⟨#[]⟩, .int .i64 0, .int .i64 0, .slice none 0 0, .slice none 0 0]])
        rw [e2]
        exact St.sub hG (.cons _ (List.Sublist.refl _))
      case measure => simp [intOf]; omega
    · have hjk : j = k := by omega
      have d1' : decide ((j : Int) < (k : Int)) = false := decide_eq_false (by omega)
      have eL : listR (textF B) B 1 16 y5.1 = manyS (textF B) N1.1 j := by
        unfold listR
        rw [← HN1.out, HK.out, Int.toNat_natCast, hjk]
      obtain ⟨y6, hy6⟩ : ∃ y : RS × OV, y = ((listR (textF B) B 1 16 y5.1).1, OV.mk y5.2.op y5.2.n y5.2.m y5.2.name y5.2.dest (listR (textF B) B 1 16 y5.1).2 y5.2.b) := ⟨_, rfl⟩
      have HY6 := hid hy6
      have ej : j = y6.2.l.length := by rw [hy6, eL]; exact (manyS_len _ _ _).symm
      have hS6 : St w [] wr (qP gq (.slice ao n c) y6.1 ++ .blk go 25 (y6.2.cells (.slice al j cl) (.slice none 0 0)) :: .rowP isS (.slice al j cl) 9 1 j (strsV y6.2.l) :: [.blk g3 42 [.int .i64 0, .int .i64 0], .blk g2 25 [.int .i64 0, .string ⟨#[]⟩, .string ⟨#[]⟩, .int .i64 0, .int .i64 0, .slice none 0 0, .slice none 0 0]]) := by
        rw [hy6, eL]
        exact hst
      have HP6 := hid (show y6.1.pos ≤ B.length by rw [hy6]; exact listR_pos textF_pos HP5.out)
      have HJ := hid ej
      clear hst hjk eL hy6 hposj ej
      go_wp2_with (first | go_big_skip | go_big_guard | (go_at_call 46; obtain ⟨M1, hM1⟩ : ∃ M1, M1 = stepR y6.1 (numRR B y6.1.pos 3 0 16384) 0 := ⟨_, rfl⟩; have HM1 := hid hM1; have HPM := hid (show M1.1.pos ≤ B.length by rw [hM1]; exact num_pos HP6.out); refine (qnum_any gq ao n c B y6.1 3 0 16384 _ (St.sub hS6 (List.sublist_append_left _ _)) (Rd.old hS6 HR.out) hoff.out HN.out (by rw [← HN.out]; exact HP6.out) hb (by decide)).mono ?_; rw [← HM1.out]; rintro _ w14 ⟨rfl, h4⟩; have hC6 := St.callF (qP gq (.slice ao n c) y6.1) hS6 h4; clear h4 hS6 hM1) | (go_at_call 48; obtain ⟨M2, hM2⟩ : ∃ M2, M2 = stepR M1.1 (rawRR B M1.1.pos M1.2) [] := ⟨_, rfl⟩; have HM2 := hid hM2; refine (qraw_any gq ao n c B M1.1 M1.2 _ (St.sub hC6 (List.sublist_append_left _ _)) (Rd.old hC6 HR.out) hoff.out HN.out (by rw [← HN.out]; exact HPM.out) hb).mono ?_; rw [← HM2.out]; rintro _ w15 ⟨u, rfl, h4⟩; have hC7 := St.callF (qP gq (.slice ao n c) M1.1) hC6 h4; clear h4 hC6 hM2; obtain ⟨ab, cb, rfl⟩ := St.rowPSliceF [_] hC7) | (refine wl_store [_, _] hC7 rfl rfl rfl (v := .slice _ _ _) rfl rfl rfl (by show (7 : Nat) ≤ 7; decide) ?_; intro w16 hT; clear hC7; obtain ⟨y7, hy7⟩ : ∃ y : RS × OV, y = ((rawS B y6.1).1, OV.mk y6.2.op y6.2.n y6.2.m y6.2.name y6.2.dest y6.2.l (rawS B y6.1).2) := ⟨_, rfl⟩; have eM : rawS B y6.1 = M2 := (by rw [HM2.out, HM1.out]; rfl); have eS : y7 = S := (by rw [hy7, HY6.out, HY5.out, HY4.out, HY3.out, HY2.out, HY1.out, HY0.out, HS.out]; rfl); have hS7 : St w [] w16 (qP gq (.slice ao n c) S.1 ++ .rowP isB (.slice ab M2.2.length cb) 5 1 M2.2.length (bytesV M2.2) :: .blk go 25 (S.2.cells (.slice al j cl) (.slice ab M2.2.length cb)) :: .rowP isS (.slice al j cl) 9 1 j (strsV S.2.l) :: [.blk g3 42 [.int .i64 0, .int .i64 0], .blk g2 25 [.int .i64 0, .string ⟨#[]⟩, .string ⟨#[]⟩, .int .i64 0, .int .i64 0, .slice none 0 0, .slice none 0 0]]) := (by rw [← eS, hy7, eM]; exact hT); have HB2 := hid (show M2.2 = S.2.b by rw [← eS, hy7, eM]); have HP7 := hid (show S.1.pos ≤ B.length by rw [← eS, hy7]; exact rawS_pos HP6.out); have HJ2 := hid (show j = S.2.l.length by rw [HJ.out, ← eS, hy7]); clear hT hy7 eM eS) | (go_at_call 49; refine (qend_any gq ao n c S.1 B _ (St.sub hS7 (List.sublist_append_left _ _)) HN.out (by omega) (by rw [← HN.out]; exact HP7.out)).mono ?_; rw [← HF.out]; rintro _ w17 ⟨rfl, h4⟩; have hS8 := St.call0 hS7 h4; clear h4 hS7) | (refine wl_alloc hS8 rfl rfl ?_; intro g9 w18 hS9; clear hS8) | (refine wl_storeA [] hS9 rfl rfl rfl rfl rfl rfl rfl ?_; intro w19 hX; clear hS9) | (refine wl_loadE rfl rfl rfl ?_; first | refine ⟨_, Loads.at [] hX rfl, ?_⟩) | (refine wl_loadE rfl rfl rfl ?_; refine ⟨_, Loads.whole (T := 25) [_, _, _] hX rfl, ?_⟩) | (go_at_call 16; refine (qcheck_any S.2 al ab j cl M2.2.length cb _ (Rd.rowP hX (.tail _ (.tail _ (.tail _ (.tail _ (.head _)))))) HJ2.out.symm (by rw [HB2.out]) (by have h9 := HL16.out; rw [HJ2.out]; omega)).mono ?_; rw [← HCK.out]; rintro _ w20' ⟨rfl, h4⟩; have hX2 := St.call0 hX h4; clear h4 hX))
      have hY := hX2.drew
      clear hX2
      refine wp_region_held_drew (S := (fun w' => (loadVarH 42 ⟨g9, 0, none⟩).run Try.prog w' = .ok (.agg (List.toArray ([.int .i64 f.1, .int .i64 f.2]))) w' ∧ (loadVarH 25 ⟨go, 0, none⟩).run Try.prog w' = .ok (.agg (List.toArray (S.2.cells (.slice al j cl) (.slice ab M2.2.length cb)))) w')) (by kernel_rfl) (by exact ⟨ldA ([.int .i64 f.1, .int .i64 f.2]) [] hY (rfl) (rfl), ldA (S.2.cells (.slice al j cl) (.slice ab M2.2.length cb)) [_, _, _] hY (rfl) (rfl)⟩) (fun hHeld => ?_)
      refine wpAnyH_take (i := 0) (oi := ⟨some 59, _, _, _, _, _⟩) (v := ?_) rfl (by kernel_rfl) (by kernel_rfl) (by kernel_rfl) (fun _ _ _ h => h) (Or.inl ⟨by rfl, ?_⟩) (by assumption) ?_
      rotate_left
      · intro w hSw; (try dsimp only at hSw); go_simp; try with_reducible rfl
      (try simp only [Act.put, List.setIfInBounds_toArray, List.set_cons_zero, List.set_cons_succ])
      refine wpAnyH_take (i := 1) (oi := ⟨some 60, _, _, _, _, _⟩) (v := ?_) rfl (by kernel_rfl) (by kernel_rfl) (by kernel_rfl) (fun _ _ _ h => h) (Or.inl ⟨by rfl, ?_⟩) (by assumption) ?_
      rotate_left
      · intro w hSw; (try dsimp only at hSw); go_simp; try with_reducible rfl
      (try simp only [Act.put, List.setIfInBounds_toArray, List.set_cons_zero, List.set_cons_succ])
      refine wpAnyH_ready (rs := [2]) (by kernel_rfl) (by simp) ?_
      refine (AllReadyH.cons (o := ⟨none, _, _, _, _, _⟩) rfl (fun K hK => ?_) AllReadyH.nil)
      rw [if_pos (by rfl)]
      refine ow_of_wl (ops := #[]) (by rfl) ?_
      refine wl_storeA [_, _, _, _, _, _] hY rfl rfl rfl rfl rfl rfl rfl ?_
      intro w46 hZ6
      refine q0_nil ?_
      refine hK.out _ _ ?_ (fun hHeld => ?_)
      · exact ⟨ldA ([.int .i64 f.1, .int .i64 f.2]) [] hZ6 (rfl) (rfl), ldA (S.2.cells (.slice al j cl) (.slice ab M2.2.length cb)) [_, _, _] hZ6 (rfl) (rfl)⟩
      clear hK K
      (try simp only [Act.put, List.setIfInBounds_toArray, List.set_cons_zero, List.set_cons_succ])
      refine wpAnyH_ready (rs := [3]) (by kernel_rfl) (by simp) ?_
      refine (AllReadyH.cons (o := ⟨none, _, _, _, _, _⟩) rfl (fun K hK => ?_) AllReadyH.nil)
      rw [if_pos (by rfl)]
      refine ow_of_wl (ops := #[]) (by rfl) ?_
      refine wl_storeA [_, _, _, _, _] hZ6 rfl rfl rfl rfl rfl rfl rfl ?_
      intro w45 hZ5
      refine q0_nil ?_
      refine hK.out _ _ ?_ (fun hHeld => ?_)
      · exact ⟨ldA ([.int .i64 f.1, .int .i64 f.2]) [] hZ5 (rfl) (rfl), ldA (S.2.cells (.slice al j cl) (.slice ab M2.2.length cb)) [_, _, _] hZ5 (rfl) (rfl)⟩
      clear hK K
      (try simp only [Act.put, List.setIfInBounds_toArray, List.set_cons_zero, List.set_cons_succ])
      refine wpAnyH_done (by kernel_rfl) ?_ _
      clear hHeld
      go_wp2_with (first | go_big_skip | go_big_guard | fail)
      refine bodyPost_ret (results_cell2L rfl rfl rfl (Loads.whole (T := 25) [_, _, _, _, _, _] hZ5 rfl) (Loads.whole (T := 42) [_, _, _, _, _] hZ5 rfl)) rfl ?_
      rw [HE.out]
      refine ⟨.slice al j cl, .slice ab M2.2.length cb, rfl, ?_⟩
      rw [← HJ2.out, ← HB2.out]
      exact St.sub (St.front (L1 := [_, _, _, _, _, _]) (St.front (L1 := [_, _, _, _, _]) (St.front (L1 := [_, _, _, _]) (St.front (L1 := [_, _, _, _]) (St.front (L1 := [_, _, _, _, _]) (St.front (L1 := [_, _, _, _, _, _]) (St.front (L1 := [_, _, _, _, _, _]) hZ5))))))) (.cons_cons _ (.cons_cons _ (List.nil_sublist _)))
theorem qget_any (ao : Option Addr) (n c : Nat) (B : List UInt8) (w : World) (hr : Rd w (.slice ao n c) 1 n (bytesV B)) (hn : B.length = n) (hb : n ≤ 100000) :
    Calls Try.prog 23 #[.slice ao n c] w (GetP w (getO B)) := by
  by_cases h0 : (endR B (goAll ((⟨0, 0, 0⟩, OV.none) : RS × OV) (getF B)).1).1 = 0
  · by_cases h1 : (goAll ((⟨0, 0, 0⟩, OV.none) : RS × OV) (getF B)).2.check = 0
    · exact qget_ok ao n c B w hr hn hb h0 h1
    · exact qget_odd ao n c B w hr hn hb h0 h1
  · exact qget_bad ao n c B w hr hn hb h0
end
end Go.Proofs.Ytalfdcfcaamnbaa
namespace Go.Proofs.Ytalfdcfcaamnbaa
set_option linter.unusedVariables false
set_option linter.unusedSimpArgs false
open Go.RowKit Hp
theorem beN_numB_take (n : Int) (k i : Nat) (h0 : 0 ≤ n) (h : n < 2 ^ (8 * k)) (hi : i ≤ k) : (beN ((numB n k).take i) : Int) = n / 2 ^ (8 * (k - i)) := by
  induction i with
  | zero =>
    rw [List.take_zero, Nat.sub_zero, Int.ediv_eq_zero_of_lt h0 h]
    rfl
  | succ i ih =>
    rw [numB_take n k i hi, beN_snoc]
    have h1 := ih (by omega)
    rw [Int.natCast_add, Int.natCast_mul, h1, byteAt_int, show k - 1 - i = k - (i + 1) by omega, show ((256 : Nat) : Int) = 256 from rfl]
    have h2 : (2 : Int) ^ (8 * (k - i)) = 2 ^ (8 * (k - (i + 1))) * 256 := by
      rw [show 8 * (k - i) = 8 * (k - (i + 1)) + 8 by omega, Int.pow_add]
      rfl
    rw [h2, ← Int.ediv_ediv_of_nonneg (Int.le_of_lt (Int.pow_pos (by decide)))]
    omega
theorem beN_numB (n : Int) (k : Nat) (h0 : 0 ≤ n) (h : n < 2 ^ (8 * k)) : (beN (numB n k) : Int) = n := by
  have := beN_numB_take n k k h0 h (Nat.le_refl _)
  rw [List.take_of_length_le (by rw [length_numB]; exact Nat.le_refl _), Nat.sub_self, Nat.mul_zero] at this
  rw [this]
  simp
theorem nz_zeros (k : Nat) : nz (List.replicate k 0) = none := nz_eq_none (fun i hi => by
  rw [List.length_replicate] at hi
  simp [List.getD, hi])
theorem nz_zeros' {l : List UInt8} (h : nz l = none) : l = List.replicate l.length 0 := by
  apply List.ext_getElem (by simp)
  intro i h1 h2
  have := nz_none h i h1
  simp [List.getD, h1] at this
  simpa using this
theorem numB_beN (l : List UInt8) : numB (beN l) l.length = l := by
  suffices h : ∀ (k : Nat) (l : List UInt8), l.length = k → ∀ m : Nat, numB ((m * 256 ^ k + beN l : Nat) : Int) k = l by
    have := h l.length l rfl 0
    simpa using this
  intro k
  induction k with
  | zero => intro l hl m; rw [List.eq_nil_of_length_eq_zero hl]; rfl
  | succ k ih =>
    intro l hl m
    match l, hl with
    | x :: l, hl =>
      have hl' : l.length = k := by simpa using hl
      have hb : beN (x :: l) = x.toNat * 256 ^ k + beN l := by
        have : ∀ (l : List UInt8) (a : Nat), l.foldl (fun a x => a * 256 + x.toNat) a = a * 256 ^ l.length + beN l := by
          intro l
          induction l with
          | nil => intro a; simp [beN]
          | cons y l ih =>
            intro a
            unfold beN
            rw [List.foldl_cons, List.foldl_cons, ih, ih (0 * 256 + y.toNat), List.length_cons, Nat.pow_succ]
            simp only [Nat.zero_mul, Nat.zero_add, Nat.add_mul, Nat.mul_assoc, Nat.mul_comm 256]
            omega
        have h9 := this l (0 * 256 + x.toNat)
        rw [hl', Nat.zero_mul, Nat.zero_add] at h9
        unfold beN at h9 ⊢
        rw [List.foldl_cons, Nat.zero_mul, Nat.zero_add]
        exact h9
      have hlt := beN_lt l
      rw [hl'] at hlt
      have hcast : ((m * 256 ^ (k + 1) + beN (x :: l) : Nat) : Int) = (((m * 256 + x.toNat) * 256 ^ k + beN l : Nat) : Int) := by
        congr 1
        rw [hb, Nat.pow_succ, Nat.add_mul, Nat.mul_assoc, Nat.mul_comm 256]
        omega
      rw [hcast]
      show byteAt _ k :: numB _ k = x :: l
      congr 1
      · have h1 := byteAt_int (((m * 256 + x.toNat) * 256 ^ k + beN l : Nat) : Int) k
        have h2 : (2 : Int) ^ (8 * k) = ((256 ^ k : Nat) : Int) := by
          rw [Int.pow_mul, Int.natCast_pow, show (2 : Int) ^ 8 = ((256 : Nat) : Int) from rfl]
        have hdiv : ((m * 256 + x.toNat) * 256 ^ k + beN l) / 256 ^ k = m * 256 + x.toNat := by
          rw [Nat.add_comm, Nat.add_mul_div_right _ _ (Nat.pow_pos (by decide)), Nat.div_eq_of_lt hlt, Nat.zero_add]
        rw [h2, ← Int.natCast_ediv, hdiv] at h1
        have hx := x.toNat_lt
        apply UInt8.toNat_inj.1
        omega
      · exact ih l hl' (m * 256 + x.toNat)
/-- The bytes of a text of at most 48. -/
def textT (s : List UInt8) : List UInt8 := UInt8.ofNat s.length :: (s ++ List.replicate (48 - s.length) 0)
theorem length_textT {s : List UInt8} (h : s.length ≤ 48) : (textT s).length = 49 := by
  unfold textT
  rw [List.length_cons, List.length_append, List.length_replicate]
  omega
theorem numR_fit {n : Int} {k : Nat} (h1 : 1 ≤ k ∧ k ≤ 7) (h0 : 0 ≤ n) (h : n < 2 ^ (8 * k)) : numR n (k : Int) = (0, numB n k) := by
  unfold numR
  rw [if_neg (by omega), if_neg (by
    rw [show (8 * (k : Int)).toNat = 8 * k by omega]
    have := Int.ediv_eq_zero_of_lt h0 h
    omega), Int.toNat_natCast]
theorem textR_fit {s : List UInt8} (h : s.length ≤ 48) : textR s 48 = (0, textT s) := by
  unfold textR textT
  rw [if_neg (by decide), if_neg (by omega)]
  rfl
theorem num_fwd {A C : List UInt8} {n low high : Int} {k : Nat} (h1 : 1 ≤ k ∧ k ≤ 7) (h0 : 0 ≤ n) (h : n < 2 ^ (8 * k)) (hl : low ≤ n) (hh : n ≤ high) : numRR (A ++ (numB n k ++ C)) A.length (k : Int) low high = .ok n (A.length + k) := by
  have hk : (numB n k).length = k := length_numB _ _
  have hd : ((A ++ (numB n k ++ C)).drop A.length).take k = numB n k := by
    rw [List.drop_left, List.take_append_of_le_length (by omega), List.take_of_length_le (by omega)]
  have hb := beN_numB n k h0 h
  unfold numRR
  rw [Int.toNat_natCast, if_neg (by omega), if_neg (by rw [List.length_append, List.length_append]; omega), hd, hb, if_neg (by omega)]
theorem text_fwd {A C s : List UInt8} (h : s.length ≤ 48) : textRR (A ++ (textT s ++ C)) A.length 48 = .ok s (A.length + 49) := by
  have hl := length_textT h
  have hg : ((A ++ (textT s ++ C)).getD A.length 0).toNat = s.length := by
    unfold textT
    rw [List.getD_eq_getElem?_getD, List.getElem?_append_right (Nat.le_refl _), Nat.sub_self]
    simp
    omega
  have hd1 : (A ++ (textT s ++ C)).drop (A.length + 1) = s ++ (List.replicate (48 - s.length) 0 ++ C) := by
    rw [List.drop_append, List.drop_of_length_le (by omega), List.nil_append, show A.length + 1 - A.length = 1 by omega]
    simp [textT]
  have hd2 : (A ++ (textT s ++ C)).drop (A.length + 1 + s.length) = List.replicate (48 - s.length) 0 ++ C := by
    rw [← List.drop_drop, hd1, List.drop_left]
  unfold textRR
  rw [if_neg (by decide), if_neg (by rw [List.length_append, List.length_append]; omega), if_neg (by rw [hg]; omega), hg, hd1, hd2, show (48 : Int).toNat = 48 from rfl,
    List.take_append_of_le_length (by rw [List.length_replicate]; exact Nat.le_refl _), List.take_of_length_le (by rw [List.length_replicate]; exact Nat.le_refl _), nz_zeros, List.take_left]
theorem raw_fwd {A C b : List UInt8} : rawRR (A ++ (b ++ C)) A.length (b.length : Int) = .ok b (A.length + b.length) := by
  unfold rawRR
  rw [if_neg (by omega), if_neg (by rw [List.length_append, List.length_append]; omega), List.drop_left, Int.toNat_natCast, List.take_left]
theorem num_rev {B : List UInt8} {p p' k : Nat} {low high v : Int} (h : numRR B p (k : Int) low high = .ok v p') : numR v (k : Int) = (0, (B.drop p).take k) ∧ p' = p + k ∧ p' ≤ B.length ∧ low ≤ v ∧ v ≤ high := by
  unfold numRR at h
  rw [Int.toNat_natCast] at h
  split at h
  · cases h
  · split at h
    · cases h
    · split at h
      · cases h
      · cases h
        have hl : ((B.drop p).take k).length = k := by rw [List.length_take, List.length_drop]; omega
        have hlt := beN_lt ((B.drop p).take k)
        rw [hl] at hlt
        refine ⟨?_, rfl, by omega, by omega, by omega⟩
        rw [numR_fit (by omega) (by omega) (by
          rw [Int.pow_mul, show (2 : Int) ^ 8 = ((256 : Nat) : Int) from rfl, ← Int.natCast_pow]
          exact Int.ofNat_lt.2 hlt)]
        have h9 := numB_beN ((B.drop p).take k)
        rw [hl] at h9
        rw [h9]
theorem raw_rev {B v : List UInt8} {p p' : Nat} {m : Int} (h : rawRR B p m = .ok v p') : v = (B.drop p).take m.toNat ∧ p' = p + m.toNat ∧ p' ≤ B.length ∧ (v.length : Int) = m := by
  unfold rawRR at h
  split at h
  · cases h
  · split at h
    · cases h
    · cases h
      refine ⟨rfl, rfl, by omega, ?_⟩
      rw [List.length_take, List.length_drop]
      omega
end Go.Proofs.Ytalfdcfcaamnbaa
