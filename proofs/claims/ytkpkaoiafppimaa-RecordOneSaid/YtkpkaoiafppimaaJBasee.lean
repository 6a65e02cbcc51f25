/- The reference: may the records of a table be. -/
import Derived.Test.YtkpkaoiafppimaaJBased
import Derived.Test.YtkpkaoiafppimaaSepR
import Derived.Test.YtkpkaoiafppimaaJBasea
import Derived.Test.YtkpkaoiafppimaaJBasec
import Derived.Test.YtkpkaoiafppimaaSepX
import Derived.Test.YtkpkaoiafppimaaSepQ
import Derived.Lib.ConvBytes
import Derived.Test.YtkpkaoiafppimaaJBaseb
namespace Go.Proofs.Ytkpkaoiafppimaa
set_option linter.unusedVariables false
set_option linter.unusedSimpArgs false
open Go.RowKit Hp
set_option maxRecDepth 100000
def xC (id : Int) (nm : List UInt8) (kind size : Int) (p : PV) (a b c d e : Int) : List Value := .int .i64 id :: .string ⟨nm.toArray⟩ :: .int .i64 kind :: .int .i64 size :: (p.cells ++ [.int .i64 a, .int .i64 b, .int .i64 c, .int .i64 d, .int .i64 e])
section
variable {id : Int} {nm : List UInt8} {kind size : Int} {p : PV} {a b c d e : Int}
theorem xC_len (h : L32 p.S) : (xC id nm kind size p a b c d e).length = 44 := by simp [xC, PV.len h]
theorem xC_put0 (z : Int) : putAt (xC id nm kind size p a b c d e) 0 [.int .i64 z] = xC z nm kind size p a b c d e := rfl
theorem xC_put1 (z : List UInt8) : putAt (xC id nm kind size p a b c d e) 1 [.string ⟨z.toArray⟩] = xC id z kind size p a b c d e := rfl
theorem xC_put2 (z : Int) : putAt (xC id nm kind size p a b c d e) 2 [.int .i64 z] = xC id nm z size p a b c d e := rfl
theorem xC_put3 (z : Int) : putAt (xC id nm kind size p a b c d e) 3 [.int .i64 z] = xC id nm kind z p a b c d e := rfl
theorem xC_put4 {q : PV} (h : L32 p.S) (h' : L32 q.S) : putAt (xC id nm kind size p a b c d e) 4 q.cells = xC id nm kind size q a b c d e :=
  put_at [.int .i64 id, .string ⟨nm.toArray⟩, .int .i64 kind, .int .i64 size] p.cells [.int .i64 a, .int .i64 b, .int .i64 c, .int .i64 d, .int .i64 e] q.cells (by rw [PV.len h, PV.len h']) rfl
theorem xC_tail (h : L32 p.S) {k : Nat} {v : Value} {t t' : List Value} (ht : putAt t k [v] = t') : putAt (.int .i64 id :: .string ⟨nm.toArray⟩ :: .int .i64 kind :: .int .i64 size :: (p.cells ++ t)) (39 + k) [v] = .int .i64 id :: .string ⟨nm.toArray⟩ :: .int .i64 kind :: .int .i64 size :: (p.cells ++ t') := by
  have hl := PV.len h
  subst ht
  unfold putAt
  have e1 : (Value.int IntKind.i64 id :: Value.string ⟨nm.toArray⟩ :: Value.int IntKind.i64 kind :: Value.int IntKind.i64 size :: (p.cells ++ t)) = ([Value.int IntKind.i64 id, Value.string ⟨nm.toArray⟩, Value.int IntKind.i64 kind, Value.int IntKind.i64 size] ++ p.cells) ++ t := by simp
  have e2 : ([Value.int IntKind.i64 id, Value.string ⟨nm.toArray⟩, Value.int IntKind.i64 kind, Value.int IntKind.i64 size] ++ p.cells).length = 39 := by simp [hl]
  rw [e1, List.take_append, List.drop_append, e2, List.take_of_length_le (by rw [e2]; omega), List.drop_of_length_le (by rw [e2]; omega)]
  simp
  congr 2
  omega
theorem xC_put39 (h : L32 p.S) (z : Int) : putAt (xC id nm kind size p a b c d e) 39 [.int .i64 z] = xC id nm kind size p z b c d e := xC_tail h (k := 0) rfl
theorem xC_put40 (h : L32 p.S) (z : Int) : putAt (xC id nm kind size p a b c d e) 40 [.int .i64 z] = xC id nm kind size p a z c d e := xC_tail h (k := 1) rfl
theorem xC_put41 (h : L32 p.S) (z : Int) : putAt (xC id nm kind size p a b c d e) 41 [.int .i64 z] = xC id nm kind size p a b z d e := xC_tail h (k := 2) rfl
theorem xC_put42 (h : L32 p.S) (z : Int) : putAt (xC id nm kind size p a b c d e) 42 [.int .i64 z] = xC id nm kind size p a b c z e := xC_tail h (k := 3) rfl
theorem xC_put43 (h : L32 p.S) (z : Int) : putAt (xC id nm kind size p a b c d e) 43 [.int .i64 z] = xC id nm kind size p a b c d z := xC_tail h (k := 4) rfl
theorem xC_all : ((xC id nm kind size p a b c d e).drop 0).take (xC id nm kind size p a b c d e).length = xC id nm kind size p a b c d e := by simp
theorem xC_ones (h : p.cells.all (·.oneCell') = true) : (xC id nm kind size p a b c d e).all (·.oneCell') = true := by
  simp [xC, Value.oneCell', List.all_append] at h ⊢
  exact h
end
theorem numG1_lt (B : List UInt8) (s : GS) : numG B 1 s < 256 := by
  unfold numG
  refine Nat.lt_of_lt_of_le (beN_lt _) ?_
  have : (gotG false B 1 s).length ≤ 1 := by
    unfold gotG
    split
    · simp
    · rw [List.length_take]; omega
  calc 256 ^ (gotG false B 1 s).length ≤ 256 ^ 1 := Nat.pow_le_pow_right (by decide) this
    _ = 256 := by decide
theorem rS_le {B : List UInt8} {s : GS} (h : s.pos ≤ B.length) : (rS1 B s).pos ≤ B.length ∧ (rS2 B s).pos ≤ B.length ∧ (rS3 B s).pos ≤ B.length ∧ (rS4 B s).pos ≤ B.length ∧ (rS5 B s).pos ≤ B.length ∧ (rS6 B s).pos ≤ B.length ∧ (rS7 B s).pos ≤ B.length ∧ (rS8 B s).pos ≤ B.length ∧ (rS9 B s).pos ≤ B.length ∧ (rS10 B s).pos ≤ B.length := by
  have h1 : (rS1 B s).pos ≤ B.length := GS.go_pos h
  have h2 : (rS2 B s).pos ≤ B.length := GS.go_pos h1
  have h3 : (rS3 B s).pos ≤ B.length := GS.go_pos h2
  have h4 : (rS4 B s).pos ≤ B.length := GS.go_pos h3
  have h5 : (rS5 B s).pos ≤ B.length := GS.go_pos h4
  have h6 : (rS6 B s).pos ≤ B.length := GS.go_pos h5
  have h7 : (rS7 B s).pos ≤ B.length := GS.go_pos h6
  have h8 : (rS8 B s).pos ≤ B.length := GS.go_pos h7
  have h9 : (rS9 B s).pos ≤ B.length := GS.go_pos h8
  exact ⟨h1, h2, h3, h4, h5, h6, h7, h8, h9, GS.go_pos h9⟩
theorem rec_cells {z : Bool} {B : List UInt8} {s : GS} {sv : Value} {l : List (Int × Int)} {b v : Int} {S : List UInt8} (h : rootG (gotG z B 47 (rS5 B s)) = ⟨l, b, v, S⟩) :
    cellsR (sv, recG z B s) = xC (numG B 4 s : Nat) (gotG z B (numG B 1 (rS1 B s)) (rS2 B s)) (numG B 1 (rS3 B s) : Nat) (numG B 1 (rS4 B s) : Nat) ⟨sv, l, b, v, S⟩ (numG B 4 (rS6 B s) : Nat) (numG B 4 (rS7 B s) : Nat) (numG B 4 (rS8 B s) : Nat) (numG B 1 (rS9 B s) : Nat) (numG B 1 (rS10 B s) : Nat) := by
  show xC (numG B 4 s : Nat) (gotG z B (numG B 1 (rS1 B s)) (rS2 B s)) (numG B 1 (rS3 B s) : Nat) (numG B 1 (rS4 B s) : Nat) ⟨sv, (rootG (gotG z B 47 (rS5 B s))).l, (rootG (gotG z B 47 (rS5 B s))).b, (rootG (gotG z B 47 (rS5 B s))).v, (rootG (gotG z B 47 (rS5 B s))).S⟩ (numG B 4 (rS6 B s) : Nat) (numG B 4 (rS7 B s) : Nat) (numG B 4 (rS8 B s) : Nat) (numG B 1 (rS9 B s) : Nat) (numG B 1 (rS10 B s) : Nat) = _
  rw [h]
theorem rec_l {z : Bool} {B : List UInt8} {s : GS} {l : List (Int × Int)} {b v : Int} {S : List UInt8} (h : rootG (gotG z B 47 (rS5 B s)) = ⟨l, b, v, S⟩) : (recG z B s).l = l := by
  show (rootG (gotG z B 47 (rS5 B s))).l = l
  rw [h]
theorem rec_S (z : Bool) (B : List UInt8) (s : GS) : L32 (recG z B s).S := rootG_L _
theorem rootG_yes {bs : List UInt8} (h : rOK bs = true) : rootG bs = ⟨rAddrs bs 3, rBirth bs, rLevel bs, rSum bs⟩ := by unfold rootG; rw [if_pos h]
theorem rootG_no {bs : List UInt8} (h : rOK bs = false) : rootG bs = ⟨[], 0, 0, nones⟩ := by unfold rootG; rw [h]; rfl
end Go.Proofs.Ytkpkaoiafppimaa
namespace Go.Proofs.Ytkpkaoiafppimaa
set_option linter.unusedVariables false
set_option linter.unusedSimpArgs false
open Go.RowKit
namespace Hp
variable {P : Program}
theorem wl_storeO {ops : Array Oper} {rest : List Oper} {o : Oper} {a : Act} {w0 w : World} {M : List Nat} {Q : Exit → Act → World → Prop} {T T' : TypeId} {x y : Operand} {g n off : Nat} {vs cs cs' : List Value} (L1 : List HA) {L2 : List HA} (hst : St w0 M w (L1 ++ .blk g T' cs :: L2)) (hop : o.op = .store T x y)
    (hw : Region.wanted o (yielded ops a.tmps) = true) (hx : a.eval x = .pointer (some ⟨g, off, none⟩)) (hy : a.eval y = .agg vs.toArray) [hi : TyN P T n] (hn : vs.length = n)
    (h1 : vs.all (·.oneCell') = true) (hf : off + n ≤ cs.length) (he : putAt cs off vs = cs')
    (h : ∀ w', St w0 M w' (L1 ++ .blk g T' cs' :: L2) → wpList P ops Q rest (a.put o.dst undef) w') : wpList P ops Q (o :: rest) a w := by
  refine wl_store L1 hst hop hw hx hy (n := n) (by simpa [Value.cells] using hn) (by simpa [Value.cells] using h1) (by simp [Value.cells, hn, hf]) fun w' hst' => h w' ?_
  rw [← he]
  simpa [Value.cells] using hst'
end Hp
end Go.Proofs.Ytkpkaoiafppimaa
namespace Go.Proofs.Ytkpkaoiafppimaa
set_option linter.unusedVariables false
set_option linter.unusedSimpArgs false
open Go.RowKit Hp
attribute [local irreducible] Go.Calls
set_option maxHeartbeats 4000000
theorem beq_any (v u : Value) (n m : Nat) (l k : List UInt8) (w : World) (hv : Rd w v 1 n (bytesV l)) (hu : Rd w u 1 m (bytesV k)) :
    Calls Try.prog 34 #[v, u] w fun e w' => e = .returned (.bool (l == k)) ∧ St w [] w' [] := by
  go_enter Try.func34, Try.ntmps34
  go_wp2_with (first | go_big_skip | go_big_guard | (refine wl_bytes_string rfl rfl rfl hv ?_) | (refine wl_bytes_string rfl rfl rfl hu ?_))
  go_ret
  exact ⟨rfl, St.refl w⟩
theorem results_cellTmp {fn : Func} {p q : Tmp} {ty : TypeId} {tmps : Array Value} {P : Program} {w : World} {A : Addr} {v : Value} (h : fn.results = #[.cell p ty, .tmp q]) (hp : tmps.getD p undef = .pointer (some A)) (hl : Loads P w ty A v) :
    (results fn tmps).run P w = .ok (.tuple #[v, tmps.getD q undef]) w := by
  have hl' : (loadVar ty A).run P w = .ok v w := hl
  have hp' : tmps[p]?.getD undef = .pointer (some A) := by simpa using hp
  simp [results, h, hp', asAddr, hl', Sem.run_bind]
theorem zN_ln (lv : Int) : (zN lv).Ln := (zN_in lv default).ln
theorem zN_ones (lv : Int) : (zN lv).cells.all (·.oneCell') = true := by
  have : (zN lv).cells = .int .i64 lv :: (zN 0).cells.tail := rfl
  rw [this, List.all_cons]
  rfl
theorem zN_get (lv : Int) : ∀ j, (zN lv).get j = zP
  | 0 => rfl
  | 1 => rfl
  | 2 => rfl
  | _ + 3 => rfl
end Go.Proofs.Ytkpkaoiafppimaa
namespace Go.Proofs.Ytkpkaoiafppimaa
set_option linter.unusedVariables false
set_option linter.unusedSimpArgs false
open Go.RowKit Hp
attribute [local irreducible] Go.Calls Go.wpList
set_option maxRecDepth 100000
set_option maxHeartbeats 8000000
theorem heldErr (A : Addr) : loadVar 31 A = loadVarH 31 A := rfl
instance dZI : TyZ Try.prog 3 [.int .i64 0] := ⟨by kernel_rfl⟩
section
attribute [local go_sem ↓] heldRec heldErr
theorem grec_ok {w0 w : World} {R : List HA} {gr : Nat} (ao : Option Addr) (c : Nat) (B : List UInt8) (s : GS) (hS : St w0 [] w (.blk gr 62 (rdC (.slice ao B.length c) s) :: R)) (hB : Rd w0 (.slice ao B.length c) 1 B.length (bytesV B)) (hN : B.length ≤ 100000) (hp : s.pos ≤ B.length) (hok : rOK (gotG false B 47 (rS5 B s)) = true) :
    Calls Try.prog 33 #[.pointer (some ⟨gr, 0, none⟩)] w fun e w' => ∃ sv, e = .returned (.tuple #[.agg (cellsR (sv, recG false B s)).toArray, .bool (rootOk false B s)]) ∧ St w0 [] w' (.blk gr 62 (rdC (.slice ao B.length c) (recE B s)) :: .row sv 98 2 (recG false B s).l.length (addrsV (recG false B s).l) :: R) := by
  have hst0 := hS
  have HB := hid hB
  have HP := hid hp
  obtain ⟨p1, p2, p3, p4, p5, p6, p7, p8, p9, p10⟩ := rS_le hp
  have HP1 := hid p1
  have HP2 := hid p2
  have HP3 := hid p3
  have HP4 := hid p4
  have HP5 := hid p5
  have HP6 := hid p6
  have HP7 := hid p7
  have HP8 := hid p8
  have HP9 := hid p9
  have HP10 := hid p10
  have HOK := hid hok
  have HZ := hid (show L32 zP.S from L32.nones)
  have HS := hid (rSum_len (rOK_len hok))
  clear hS hB hp p1 p2 p3 p4 p5 p6 p7 p8 p9 p10 hok
  go_enter Try.func33, Try.ntmps33
  go_wp2_with (first | go_big_skip | go_big_guard | (refine wl_alloc hst0 rfl rfl ?_; intro g2 w1 hA1; clear hst0) | (refine wl_alloc hA1 rfl rfl ?_; intro g4 w1 hA2; clear hA1) | (refine wl_alloc hA2 rfl rfl ?_; intro g5 w1 hA3; clear hA2) | (refine wl_store [] hA3 rfl rfl rfl (v := .int .i64 0) rfl rfl rfl (by show (0 : Nat) + 1 ≤ 1; decide) ?_; intro w1 h4; have hA4 : St w0 [] w1 (.blk g5 3 ([.int .i64 0]) :: .blk g4 47 (xC 0 [] 0 0 zP 0 0 0 0 0) :: .blk g2 47 (rec0) :: .blk gr 62 (rdC (.slice ao B.length c) s) :: R) := h4; clear h4 hA3) | (go_at_call 32; refine (gnum_any (gx := g4) (off := 0) ao B.length c B s 4 4 rfl (St.front (L1 := [_, _, _]) (St.front (L1 := [_]) hA4)) (by first | decide | (rw [xC_len HZ.out]; decide)) HB.out rfl hN (by decide) HP.out).mono ?_; rintro _ w9 ⟨rfl, h4⟩; have hA5 : St w0 [] w9 (.blk gr 62 (rdC (.slice ao B.length c) (rS1 B s)) :: .blk g4 47 (xC (numG B 4 s : Nat) [] 0 0 zP 0 0 0 0 0) :: .blk g5 3 ([.int .i64 0]) :: .blk g2 47 (rec0) :: R) := h4; clear h4 hA4) | (go_at_call 32; refine (gnum_any (gx := g5) (off := 0) ao B.length c B (rS1 B s) 1 1 rfl (St.front (L1 := [_]) (St.front (L1 := [_, _]) hA5)) (by first | decide | (rw [xC_len HZ.out]; decide)) HB.out rfl hN (by decide) HP1.out).mono ?_; rintro _ w9 ⟨rfl, h4⟩; have hA6 : St w0 [] w9 (.blk gr 62 (rdC (.slice ao B.length c) (rS2 B s)) :: .blk g5 3 ([.int .i64 (numG B 1 (rS1 B s) : Nat)]) :: .blk g4 47 (xC (numG B 4 s : Nat) [] 0 0 zP 0 0 0 0 0) :: .blk g2 47 (rec0) :: R) := h4; clear h4 hA5) | (refine wl_loadE rfl rfl rfl ?_; refine ⟨_, Loads.at [_] hA6 rfl, ?_⟩) | (go_at_call 63; refine (graw_any ao B.length c B (rS2 B s) (numG B 1 (rS1 B s)) _ rfl hA6 HB.out rfl hN (by have := numG1_lt B (rS1 B s); omega) HP2.out).mono ?_; rintro _ w9 ⟨ao1, c1, rfl, hrd, h4⟩; have HR1 := hid hrd; have hA7 : St w0 [] w9 (.blk gr 62 (rdC (.slice ao B.length c) (rS3 B s)) :: .blk g5 3 ([.int .i64 (numG B 1 (rS1 B s) : Nat)]) :: .blk g4 47 (xC (numG B 4 s : Nat) [] 0 0 zP 0 0 0 0 0) :: .blk g2 47 (rec0) :: R) := h4; clear hrd h4 hA6) | (refine wl_bytes_string rfl rfl rfl (Rd.old hA7 HR1.out) ?_) | (refine wl_store [_, _] hA7 rfl rfl rfl (off := 1) (v := .string ⟨(gotG false B (numG B 1 (rS1 B s)) (rS2 B s)).toArray⟩) rfl rfl rfl (by rw [xC_len HZ.out]; show (1 : Nat) + 1 ≤ 44; decide) ?_; intro w1 h4; have hA8 : St w0 [] w1 (.blk gr 62 (rdC (.slice ao B.length c) (rS3 B s)) :: .blk g5 3 ([.int .i64 (numG B 1 (rS1 B s) : Nat)]) :: .blk g4 47 (xC (numG B 4 s : Nat) (gotG false B (numG B 1 (rS1 B s)) (rS2 B s)) 0 0 zP 0 0 0 0 0) :: .blk g2 47 (rec0) :: R) := h4; clear h4 hA7) | (go_at_call 32; refine (gnum_any (gx := g4) (off := 2) ao B.length c B (rS3 B s) 1 1 rfl (St.front (L1 := [_]) (St.front (L1 := [_, _]) hA8)) (by first | decide | (rw [xC_len HZ.out]; decide)) HB.out rfl hN (by decide) HP3.out).mono ?_; rintro _ w9 ⟨rfl, h4⟩; have hA9 : St w0 [] w9 (.blk gr 62 (rdC (.slice ao B.length c) (rS4 B s)) :: .blk g4 47 (xC (numG B 4 s : Nat) (gotG false B (numG B 1 (rS1 B s)) (rS2 B s)) (numG B 1 (rS3 B s) : Nat) 0 zP 0 0 0 0 0) :: .blk g5 3 ([.int .i64 (numG B 1 (rS1 B s) : Nat)]) :: .blk g2 47 (rec0) :: R) := h4; clear h4 hA8) | (go_at_call 32; refine (gnum_any (gx := g4) (off := 3) ao B.length c B (rS4 B s) 1 1 rfl (St.front (L1 := [_]) (St.front (L1 := [_]) hA9)) (by first | decide | (rw [xC_len HZ.out]; decide)) HB.out rfl hN (by decide) HP4.out).mono ?_; rintro _ w9 ⟨rfl, h4⟩; have hA10 : St w0 [] w9 (.blk gr 62 (rdC (.slice ao B.length c) (rS5 B s)) :: .blk g4 47 (xC (numG B 4 s : Nat) (gotG false B (numG B 1 (rS1 B s)) (rS2 B s)) (numG B 1 (rS3 B s) : Nat) (numG B 1 (rS4 B s) : Nat) zP 0 0 0 0 0) :: .blk g5 3 ([.int .i64 (numG B 1 (rS1 B s) : Nat)]) :: .blk g2 47 (rec0) :: R) := h4; clear h4 hA9) | (go_at_call 63; refine (graw_any ao B.length c B (rS5 B s) 47 47 rfl hA10 HB.out rfl hN (by decide) HP5.out).mono ?_; rintro _ w9 ⟨ao2, c2, rfl, hrd, h4⟩; have HR2 := hid hrd; have hA11 : St w0 [] w9 (.blk gr 62 (rdC (.slice ao B.length c) (rS6 B s)) :: .blk g4 47 (xC (numG B 4 s : Nat) (gotG false B (numG B 1 (rS1 B s)) (rS2 B s)) (numG B 1 (rS3 B s) : Nat) (numG B 1 (rS4 B s) : Nat) zP 0 0 0 0 0) :: .blk g5 3 ([.int .i64 (numG B 1 (rS1 B s) : Nat)]) :: .blk g2 47 (rec0) :: R) := h4; clear hrd h4 hA10) | (go_at_call 64; refine (Read_any ao2 _ c2 (gotG false B 47 (rS5 B s)) _ (Rd.old hA11 HR2.out) rfl).mono ?_; intro e9 w9 hr9; obtain ⟨ao3, n3, c3, rfl, h4, hl9⟩ := readOut.ok HOK.out hr9; have HL3 := hid hl9; have hA12 := St.call hA11 h4; clear hr9 h4 hl9 hA11) | (refine wl_alloc hA12 rfl rfl ?_; intro g6 w1 hA13; clear hA12) | (refine wl_alloc hA13 rfl rfl ?_; intro g7 w1 hA14; clear hA13) | (refine wl_storeA [_] hA14 rfl rfl rfl rfl (PV.len (p := ⟨.slice ao3 n3 c3, rAddrs (gotG false B 47 (rS5 B s)) 3, rBirth (gotG false B 47 (rS5 B s)), rLevel (gotG false B 47 (rS5 B s)), rSum (gotG false B 47 (rS5 B s))⟩) HS.out) (ptr_ones _ _ _ _ _ _) rfl ?_; intro w1 h4; have hA15 : St w0 [] w1 (.blk g7 33 ([.int .i64 0, .int .i64 0]) :: .blk g6 45 (PV.cells ⟨.slice ao3 n3 c3, rAddrs (gotG false B 47 (rS5 B s)) 3, rBirth (gotG false B 47 (rS5 B s)), rLevel (gotG false B 47 (rS5 B s)), rSum (gotG false B 47 (rS5 B s))⟩) :: .row (.slice ao3 n3 c3) 98 2 n3 (addrsV (rAddrs (gotG false B 47 (rS5 B s)) 3)) :: .blk gr 62 (rdC (.slice ao B.length c) (rS6 B s)) :: .blk g4 47 (xC (numG B 4 s : Nat) (gotG false B (numG B 1 (rS1 B s)) (rS2 B s)) (numG B 1 (rS3 B s) : Nat) (numG B 1 (rS4 B s) : Nat) zP 0 0 0 0 0) :: .blk g5 3 ([.int .i64 (numG B 1 (rS1 B s) : Nat)]) :: .blk g2 47 (rec0) :: R) := h4; clear h4 hA14) | (refine wl_storeA [] hA15 rfl rfl rfl rfl (by rfl) (by rfl) rfl ?_; intro w1 h4; have hA16 : St w0 [] w1 (.blk g7 33 ([.int .i64 0, .int .i64 0]) :: .blk g6 45 (PV.cells ⟨.slice ao3 n3 c3, rAddrs (gotG false B 47 (rS5 B s)) 3, rBirth (gotG false B 47 (rS5 B s)), rLevel (gotG false B 47 (rS5 B s)), rSum (gotG false B 47 (rS5 B s))⟩) :: .row (.slice ao3 n3 c3) 98 2 n3 (addrsV (rAddrs (gotG false B 47 (rS5 B s)) 3)) :: .blk gr 62 (rdC (.slice ao B.length c) (rS6 B s)) :: .blk g4 47 (xC (numG B 4 s : Nat) (gotG false B (numG B 1 (rS1 B s)) (rS2 B s)) (numG B 1 (rS3 B s) : Nat) (numG B 1 (rS4 B s) : Nat) zP 0 0 0 0 0) :: .blk g5 3 ([.int .i64 (numG B 1 (rS1 B s) : Nat)]) :: .blk g2 47 (rec0) :: R) := h4; clear h4 hA15) | (refine wl_loadE rfl rfl rfl ?_; refine ⟨_, Loads.atA (PV.cells ⟨.slice ao3 n3 c3, rAddrs (gotG false B 47 (rS5 B s)) 3, rBirth (gotG false B 47 (rS5 B s)), rLevel (gotG false B 47 (rS5 B s)), rSum (gotG false B 47 (rS5 B s))⟩) [_] hA16 (PV.len HS.out) (by simp), ?_⟩) | (refine wl_storeO [_, _, _, _] hA16 rfl rfl rfl rfl (off := 4) (PV.len (p := ⟨.slice ao3 n3 c3, rAddrs (gotG false B 47 (rS5 B s)) 3, rBirth (gotG false B 47 (rS5 B s)), rLevel (gotG false B 47 (rS5 B s)), rSum (gotG false B 47 (rS5 B s))⟩) HS.out) (ptr_ones _ _ _ _ _ _) (by rw [xC_len HZ.out]; decide) (xC_put4 (q := ⟨.slice ao3 n3 c3, rAddrs (gotG false B 47 (rS5 B s)) 3, rBirth (gotG false B 47 (rS5 B s)), rLevel (gotG false B 47 (rS5 B s)), rSum (gotG false B 47 (rS5 B s))⟩) HZ.out HS.out) ?_; intro w1 h4; have hA17 : St w0 [] w1 (.blk g7 33 ([.int .i64 0, .int .i64 0]) :: .blk g6 45 (PV.cells ⟨.slice ao3 n3 c3, rAddrs (gotG false B 47 (rS5 B s)) 3, rBirth (gotG false B 47 (rS5 B s)), rLevel (gotG false B 47 (rS5 B s)), rSum (gotG false B 47 (rS5 B s))⟩) :: .row (.slice ao3 n3 c3) 98 2 n3 (addrsV (rAddrs (gotG false B 47 (rS5 B s)) 3)) :: .blk gr 62 (rdC (.slice ao B.length c) (rS6 B s)) :: .blk g4 47 (xC (numG B 4 s : Nat) (gotG false B (numG B 1 (rS1 B s)) (rS2 B s)) (numG B 1 (rS3 B s) : Nat) (numG B 1 (rS4 B s) : Nat) ⟨.slice ao3 n3 c3, rAddrs (gotG false B 47 (rS5 B s)) 3, rBirth (gotG false B 47 (rS5 B s)), rLevel (gotG false B 47 (rS5 B s)), rSum (gotG false B 47 (rS5 B s))⟩ 0 0 0 0 0) :: .blk g5 3 ([.int .i64 (numG B 1 (rS1 B s) : Nat)]) :: .blk g2 47 (rec0) :: R) := h4; clear h4 hA16) | (go_at_call 32; refine (gnum_any (gx := g4) (off := 39) ao B.length c B (rS6 B s) 4 4 rfl (St.front (L1 := [_, _, _, _]) (St.front (L1 := [_, _, _, _]) hA17)) (by rw [xC_len HS.out]; decide) HB.out rfl hN (by decide) HP6.out).mono ?_; rintro _ w9 ⟨rfl, h4⟩; rw [xC_put39 HS.out] at h4; have hA18 : St w0 [] w9 (.blk gr 62 (rdC (.slice ao B.length c) (rS7 B s)) :: .blk g4 47 (xC (numG B 4 s : Nat) (gotG false B (numG B 1 (rS1 B s)) (rS2 B s)) (numG B 1 (rS3 B s) : Nat) (numG B 1 (rS4 B s) : Nat) ⟨.slice ao3 n3 c3, rAddrs (gotG false B 47 (rS5 B s)) 3, rBirth (gotG false B 47 (rS5 B s)), rLevel (gotG false B 47 (rS5 B s)), rSum (gotG false B 47 (rS5 B s))⟩ (numG B 4 (rS6 B s) : Nat) 0 0 0 0) :: .blk g7 33 ([.int .i64 0, .int .i64 0]) :: .blk g6 45 (PV.cells ⟨.slice ao3 n3 c3, rAddrs (gotG false B 47 (rS5 B s)) 3, rBirth (gotG false B 47 (rS5 B s)), rLevel (gotG false B 47 (rS5 B s)), rSum (gotG false B 47 (rS5 B s))⟩) :: .row (.slice ao3 n3 c3) 98 2 n3 (addrsV (rAddrs (gotG false B 47 (rS5 B s)) 3)) :: .blk g5 3 ([.int .i64 (numG B 1 (rS1 B s) : Nat)]) :: .blk g2 47 (rec0) :: R) := h4; clear h4 hA17) | (go_at_call 32; refine (gnum_any (gx := g4) (off := 40) ao B.length c B (rS7 B s) 4 4 rfl (St.front (L1 := [_]) (St.front (L1 := [_]) hA18)) (by rw [xC_len HS.out]; decide) HB.out rfl hN (by decide) HP7.out).mono ?_; rintro _ w9 ⟨rfl, h4⟩; rw [xC_put40 HS.out] at h4; have hA19 : St w0 [] w9 (.blk gr 62 (rdC (.slice ao B.length c) (rS8 B s)) :: .blk g4 47 (xC (numG B 4 s : Nat) (gotG false B (numG B 1 (rS1 B s)) (rS2 B s)) (numG B 1 (rS3 B s) : Nat) (numG B 1 (rS4 B s) : Nat) ⟨.slice ao3 n3 c3, rAddrs (gotG false B 47 (rS5 B s)) 3, rBirth (gotG false B 47 (rS5 B s)), rLevel (gotG false B 47 (rS5 B s)), rSum (gotG false B 47 (rS5 B s))⟩ (numG B 4 (rS6 B s) : Nat) (numG B 4 (rS7 B s) : Nat) 0 0 0) :: .blk g7 33 ([.int .i64 0, .int .i64 0]) :: .blk g6 45 (PV.cells ⟨.slice ao3 n3 c3, rAddrs (gotG false B 47 (rS5 B s)) 3, rBirth (gotG false B 47 (rS5 B s)), rLevel (gotG false B 47 (rS5 B s)), rSum (gotG false B 47 (rS5 B s))⟩) :: .row (.slice ao3 n3 c3) 98 2 n3 (addrsV (rAddrs (gotG false B 47 (rS5 B s)) 3)) :: .blk g5 3 ([.int .i64 (numG B 1 (rS1 B s) : Nat)]) :: .blk g2 47 (rec0) :: R) := h4; clear h4 hA18) | (go_at_call 32; refine (gnum_any (gx := g4) (off := 41) ao B.length c B (rS8 B s) 4 4 rfl (St.front (L1 := [_]) (St.front (L1 := [_]) hA19)) (by rw [xC_len HS.out]; decide) HB.out rfl hN (by decide) HP8.out).mono ?_; rintro _ w9 ⟨rfl, h4⟩; rw [xC_put41 HS.out] at h4; have hA20 : St w0 [] w9 (.blk gr 62 (rdC (.slice ao B.length c) (rS9 B s)) :: .blk g4 47 (xC (numG B 4 s : Nat) (gotG false B (numG B 1 (rS1 B s)) (rS2 B s)) (numG B 1 (rS3 B s) : Nat) (numG B 1 (rS4 B s) : Nat) ⟨.slice ao3 n3 c3, rAddrs (gotG false B 47 (rS5 B s)) 3, rBirth (gotG false B 47 (rS5 B s)), rLevel (gotG false B 47 (rS5 B s)), rSum (gotG false B 47 (rS5 B s))⟩ (numG B 4 (rS6 B s) : Nat) (numG B 4 (rS7 B s) : Nat) (numG B 4 (rS8 B s) : Nat) 0 0) :: .blk g7 33 ([.int .i64 0, .int .i64 0]) :: .blk g6 45 (PV.cells ⟨.slice ao3 n3 c3, rAddrs (gotG false B 47 (rS5 B s)) 3, rBirth (gotG false B 47 (rS5 B s)), rLevel (gotG false B 47 (rS5 B s)), rSum (gotG false B 47 (rS5 B s))⟩) :: .row (.slice ao3 n3 c3) 98 2 n3 (addrsV (rAddrs (gotG false B 47 (rS5 B s)) 3)) :: .blk g5 3 ([.int .i64 (numG B 1 (rS1 B s) : Nat)]) :: .blk g2 47 (rec0) :: R) := h4; clear h4 hA19) | (go_at_call 32; refine (gnum_any (gx := g4) (off := 42) ao B.length c B (rS9 B s) 1 1 rfl (St.front (L1 := [_]) (St.front (L1 := [_]) hA20)) (by rw [xC_len HS.out]; decide) HB.out rfl hN (by decide) HP9.out).mono ?_; rintro _ w9 ⟨rfl, h4⟩; rw [xC_put42 HS.out] at h4; have hA21 : St w0 [] w9 (.blk gr 62 (rdC (.slice ao B.length c) (rS10 B s)) :: .blk g4 47 (xC (numG B 4 s : Nat) (gotG false B (numG B 1 (rS1 B s)) (rS2 B s)) (numG B 1 (rS3 B s) : Nat) (numG B 1 (rS4 B s) : Nat) ⟨.slice ao3 n3 c3, rAddrs (gotG false B 47 (rS5 B s)) 3, rBirth (gotG false B 47 (rS5 B s)), rLevel (gotG false B 47 (rS5 B s)), rSum (gotG false B 47 (rS5 B s))⟩ (numG B 4 (rS6 B s) : Nat) (numG B 4 (rS7 B s) : Nat) (numG B 4 (rS8 B s) : Nat) (numG B 1 (rS9 B s) : Nat) 0) :: .blk g7 33 ([.int .i64 0, .int .i64 0]) :: .blk g6 45 (PV.cells ⟨.slice ao3 n3 c3, rAddrs (gotG false B 47 (rS5 B s)) 3, rBirth (gotG false B 47 (rS5 B s)), rLevel (gotG false B 47 (rS5 B s)), rSum (gotG false B 47 (rS5 B s))⟩) :: .row (.slice ao3 n3 c3) 98 2 n3 (addrsV (rAddrs (gotG false B 47 (rS5 B s)) 3)) :: .blk g5 3 ([.int .i64 (numG B 1 (rS1 B s) : Nat)]) :: .blk g2 47 (rec0) :: R) := h4; clear h4 hA20) | (go_at_call 32; refine (gnum_any (gx := g4) (off := 43) ao B.length c B (rS10 B s) 1 1 rfl (St.front (L1 := [_]) (St.front (L1 := [_]) hA21)) (by rw [xC_len HS.out]; decide) HB.out rfl hN (by decide) HP10.out).mono ?_; rintro _ w9 ⟨rfl, h4⟩; rw [xC_put43 HS.out] at h4; have hA22 : St w0 [] w9 (.blk gr 62 (rdC (.slice ao B.length c) (rS11 B s)) :: .blk g4 47 (xC (numG B 4 s : Nat) (gotG false B (numG B 1 (rS1 B s)) (rS2 B s)) (numG B 1 (rS3 B s) : Nat) (numG B 1 (rS4 B s) : Nat) ⟨.slice ao3 n3 c3, rAddrs (gotG false B 47 (rS5 B s)) 3, rBirth (gotG false B 47 (rS5 B s)), rLevel (gotG false B 47 (rS5 B s)), rSum (gotG false B 47 (rS5 B s))⟩ (numG B 4 (rS6 B s) : Nat) (numG B 4 (rS7 B s) : Nat) (numG B 4 (rS8 B s) : Nat) (numG B 1 (rS9 B s) : Nat) (numG B 1 (rS10 B s) : Nat)) :: .blk g7 33 ([.int .i64 0, .int .i64 0]) :: .blk g6 45 (PV.cells ⟨.slice ao3 n3 c3, rAddrs (gotG false B 47 (rS5 B s)) 3, rBirth (gotG false B 47 (rS5 B s)), rLevel (gotG false B 47 (rS5 B s)), rSum (gotG false B 47 (rS5 B s))⟩) :: .row (.slice ao3 n3 c3) 98 2 n3 (addrsV (rAddrs (gotG false B 47 (rS5 B s)) 3)) :: .blk g5 3 ([.int .i64 (numG B 1 (rS1 B s) : Nat)]) :: .blk g2 47 (rec0) :: R) := h4; clear h4 hA21))
  have hE := hA22.drew
  clear hA22
  refine wp_region_held_drew (S := (fun w' => (loadVarH 47 ⟨g4, 0, none⟩).run Try.prog w' = .ok (.agg (List.toArray (xC (numG B 4 s : Nat) (gotG false B (numG B 1 (rS1 B s)) (rS2 B s)) (numG B 1 (rS3 B s) : Nat) (numG B 1 (rS4 B s) : Nat) ⟨.slice ao3 n3 c3, rAddrs (gotG false B 47 (rS5 B s)) 3, rBirth (gotG false B 47 (rS5 B s)), rLevel (gotG false B 47 (rS5 B s)), rSum (gotG false B 47 (rS5 B s))⟩ (numG B 4 (rS6 B s) : Nat) (numG B 4 (rS7 B s) : Nat) (numG B 4 (rS8 B s) : Nat) (numG B 1 (rS9 B s) : Nat) (numG B 1 (rS10 B s) : Nat)))) w' ∧ (loadVarH 31 ⟨g7, 0, none⟩).run Try.prog w' = .ok (.int .i64 0) w')) (by kernel_rfl) (by exact ⟨ldA (xC (numG B 4 s : Nat) (gotG false B (numG B 1 (rS1 B s)) (rS2 B s)) (numG B 1 (rS3 B s) : Nat) (numG B 1 (rS4 B s) : Nat) ⟨.slice ao3 n3 c3, rAddrs (gotG false B 47 (rS5 B s)) 3, rBirth (gotG false B 47 (rS5 B s)), rLevel (gotG false B 47 (rS5 B s)), rSum (gotG false B 47 (rS5 B s))⟩ (numG B 4 (rS6 B s) : Nat) (numG B 4 (rS7 B s) : Nat) (numG B 4 (rS8 B s) : Nat) (numG B 1 (rS9 B s) : Nat) (numG B 1 (rS10 B s) : Nat)) [_] hE (xC_len HS.out) (by simp), ldS [_, _] hE rfl⟩) (fun hHeld => ?_)
  refine tk 0 41 ?_
  (try simp only [Act.put, List.setIfInBounds_toArray, List.set_cons_zero, List.set_cons_succ])
  refine tk 1 42 ?_
  (try simp only [Act.put, List.setIfInBounds_toArray, List.set_cons_zero, List.set_cons_succ])
  refine tk 2 43 ?_
  (try simp only [Act.put, List.setIfInBounds_toArray, List.set_cons_zero, List.set_cons_succ])
  refine tk 3 44 ?_
  (try simp only [Act.put, List.setIfInBounds_toArray, List.set_cons_zero, List.set_cons_succ])
  refine wpAnyH_ready (rs := [4]) (by kernel_rfl) (by simp) ?_
  refine (AllReadyH.cons (o := ⟨none, _, _, _, _, _⟩) rfl (fun K hK => ?_) AllReadyH.nil)
  rw [if_pos (by rfl)]
  refine ow_of_wl (ops := #[]) (by rfl) ?_
  refine wl_storeA [_, _, _, _, _, _] hE rfl rfl rfl rfl (xC_len HS.out) (xC_ones (ptr_ones _ _ _ _ _ _)) (by rfl) ?_
  intro w7 hB7
  refine q0_nil ?_
  refine hK.out _ _ ?_ (fun hHeld => ?_)
  · exact ⟨ldA (xC (numG B 4 s : Nat) (gotG false B (numG B 1 (rS1 B s)) (rS2 B s)) (numG B 1 (rS3 B s) : Nat) (numG B 1 (rS4 B s) : Nat) ⟨.slice ao3 n3 c3, rAddrs (gotG false B 47 (rS5 B s)) 3, rBirth (gotG false B 47 (rS5 B s)), rLevel (gotG false B 47 (rS5 B s)), rSum (gotG false B 47 (rS5 B s))⟩ (numG B 4 (rS6 B s) : Nat) (numG B 4 (rS7 B s) : Nat) (numG B 4 (rS8 B s) : Nat) (numG B 1 (rS9 B s) : Nat) (numG B 1 (rS10 B s) : Nat)) [_] hB7 (xC_len HS.out) (by simp), ldS [_, _] hB7 rfl⟩
  clear hK K
  (try simp only [Act.put, List.setIfInBounds_toArray, List.set_cons_zero, List.set_cons_succ])
  refine tk 5 3 ?_
  (try simp only [Act.put, List.setIfInBounds_toArray, List.set_cons_zero, List.set_cons_succ])
  refine wpAnyH_done (by kernel_rfl) ?_ _
  clear hHeld
  go_wp2_with (first | go_big_skip | go_big_guard | fail)
  have hl := Loads.atA (P := Try.prog) (off := 0) (T := 47) (xC (numG B 4 s : Nat) (gotG false B (numG B 1 (rS1 B s)) (rS2 B s)) (numG B 1 (rS3 B s) : Nat) (numG B 1 (rS4 B s) : Nat) ⟨.slice ao3 n3 c3, rAddrs (gotG false B 47 (rS5 B s)) 3, rBirth (gotG false B 47 (rS5 B s)), rLevel (gotG false B 47 (rS5 B s)), rSum (gotG false B 47 (rS5 B s))⟩ (numG B 4 (rS6 B s) : Nat) (numG B 4 (rS7 B s) : Nat) (numG B 4 (rS8 B s) : Nat) (numG B 1 (rS9 B s) : Nat) (numG B 1 (rS10 B s) : Nat)) [_, _, _, _, _, _] hB7 (xC_len HS.out) (by simp)
  refine bodyPost_ret (results_cellTmp rfl rfl hl) rfl ?_
  refine ⟨.slice ao3 n3 c3, ?_, ?_⟩
  · rw [rec_cells (sv := .slice ao3 n3 c3) (rootG_yes HOK.out), show rootOk false B s = true from HOK.out]
    rfl
  · rw [rec_l (rootG_yes HOK.out), HL3.out]
    exact St.sub (St.front (L1 := [_]) (St.front (L1 := [_, _, _, _]) hB7)) (List.Sublist.cons_cons _ (List.Sublist.cons_cons _ (List.Sublist.cons _ (List.Sublist.cons _ (List.Sublist.cons _ (List.Sublist.cons _ (List.Sublist.cons _ (List.Sublist.refl _))))))))
end
section
attribute [local go_sem ↓] heldRec heldErr
theorem grec_no {w0 w : World} {R : List HA} {gr : Nat} (ao : Option Addr) (c : Nat) (B : List UInt8) (s : GS) (hS : St w0 [] w (.blk gr 62 (rdC (.slice ao B.length c) s) :: R)) (hB : Rd w0 (.slice ao B.length c) 1 B.length (bytesV B)) (hN : B.length ≤ 100000) (hp : s.pos ≤ B.length) (hok : rOK (gotG false B 47 (rS5 B s)) = false) :
    Calls Try.prog 33 #[.pointer (some ⟨gr, 0, none⟩)] w fun e w' => ∃ sv, e = .returned (.tuple #[.agg (cellsR (sv, recG false B s)).toArray, .bool (rootOk false B s)]) ∧ St w0 [] w' (.blk gr 62 (rdC (.slice ao B.length c) (recE B s)) :: .row sv 98 2 (recG false B s).l.length (addrsV (recG false B s).l) :: R) := by
  have hst0 := hS
  have HB := hid hB
  have HP := hid hp
  obtain ⟨p1, p2, p3, p4, p5, p6, p7, p8, p9, p10⟩ := rS_le hp
  have HP1 := hid p1
  have HP2 := hid p2
  have HP3 := hid p3
  have HP4 := hid p4
  have HP5 := hid p5
  have HP6 := hid p6
  have HP7 := hid p7
  have HP8 := hid p8
  have HP9 := hid p9
  have HP10 := hid p10
  have HOK := hid hok
  have HZ := hid (show L32 zP.S from L32.nones)
  clear hS hB hp p1 p2 p3 p4 p5 p6 p7 p8 p9 p10 hok
  have z9 : (rErr (gotG false B 47 (rS5 B s)) == 0) = false := by rw [beq_eq_false_iff_ne]; exact rErr_ne _
  go_enter Try.func33, Try.ntmps33
  go_wp2_with (first | go_big_skip | go_big_guard | (refine wl_alloc hst0 rfl rfl ?_; intro g2 w1 hA1; clear hst0) | (refine wl_alloc hA1 rfl rfl ?_; intro g4 w1 hA2; clear hA1) | (refine wl_alloc hA2 rfl rfl ?_; intro g5 w1 hA3; clear hA2) | (refine wl_store [] hA3 rfl rfl rfl (v := .int .i64 0) rfl rfl rfl (by show (0 : Nat) + 1 ≤ 1; decide) ?_; intro w1 h4; have hA4 : St w0 [] w1 (.blk g5 3 ([.int .i64 0]) :: .blk g4 47 (xC 0 [] 0 0 zP 0 0 0 0 0) :: .blk g2 47 (rec0) :: .blk gr 62 (rdC (.slice ao B.length c) s) :: R) := h4; clear h4 hA3) | (go_at_call 32; refine (gnum_any (gx := g4) (off := 0) ao B.length c B s 4 4 rfl (St.front (L1 := [_, _, _]) (St.front (L1 := [_]) hA4)) (by first | decide | (rw [xC_len HZ.out]; decide)) HB.out rfl hN (by decide) HP.out).mono ?_; rintro _ w9 ⟨rfl, h4⟩; have hA5 : St w0 [] w9 (.blk gr 62 (rdC (.slice ao B.length c) (rS1 B s)) :: .blk g4 47 (xC (numG B 4 s : Nat) [] 0 0 zP 0 0 0 0 0) :: .blk g5 3 ([.int .i64 0]) :: .blk g2 47 (rec0) :: R) := h4; clear h4 hA4) | (go_at_call 32; refine (gnum_any (gx := g5) (off := 0) ao B.length c B (rS1 B s) 1 1 rfl (St.front (L1 := [_]) (St.front (L1 := [_, _]) hA5)) (by first | decide | (rw [xC_len HZ.out]; decide)) HB.out rfl hN (by decide) HP1.out).mono ?_; rintro _ w9 ⟨rfl, h4⟩; have hA6 : St w0 [] w9 (.blk gr 62 (rdC (.slice ao B.length c) (rS2 B s)) :: .blk g5 3 ([.int .i64 (numG B 1 (rS1 B s) : Nat)]) :: .blk g4 47 (xC (numG B 4 s : Nat) [] 0 0 zP 0 0 0 0 0) :: .blk g2 47 (rec0) :: R) := h4; clear h4 hA5) | (refine wl_loadE rfl rfl rfl ?_; refine ⟨_, Loads.at [_] hA6 rfl, ?_⟩) | (go_at_call 63; refine (graw_any ao B.length c B (rS2 B s) (numG B 1 (rS1 B s)) _ rfl hA6 HB.out rfl hN (by have := numG1_lt B (rS1 B s); omega) HP2.out).mono ?_; rintro _ w9 ⟨ao1, c1, rfl, hrd, h4⟩; have HR1 := hid hrd; have hA7 : St w0 [] w9 (.blk gr 62 (rdC (.slice ao B.length c) (rS3 B s)) :: .blk g5 3 ([.int .i64 (numG B 1 (rS1 B s) : Nat)]) :: .blk g4 47 (xC (numG B 4 s : Nat) [] 0 0 zP 0 0 0 0 0) :: .blk g2 47 (rec0) :: R) := h4; clear hrd h4 hA6) | (refine wl_bytes_string rfl rfl rfl (Rd.old hA7 HR1.out) ?_) | (refine wl_store [_, _] hA7 rfl rfl rfl (off := 1) (v := .string ⟨(gotG false B (numG B 1 (rS1 B s)) (rS2 B s)).toArray⟩) rfl rfl rfl (by rw [xC_len HZ.out]; show (1 : Nat) + 1 ≤ 44; decide) ?_; intro w1 h4; have hA8 : St w0 [] w1 (.blk gr 62 (rdC (.slice ao B.length c) (rS3 B s)) :: .blk g5 3 ([.int .i64 (numG B 1 (rS1 B s) : Nat)]) :: .blk g4 47 (xC (numG B 4 s : Nat) (gotG false B (numG B 1 (rS1 B s)) (rS2 B s)) 0 0 zP 0 0 0 0 0) :: .blk g2 47 (rec0) :: R) := h4; clear h4 hA7) | (go_at_call 32; refine (gnum_any (gx := g4) (off := 2) ao B.length c B (rS3 B s) 1 1 rfl (St.front (L1 := [_]) (St.front (L1 := [_, _]) hA8)) (by first | decide | (rw [xC_len HZ.out]; decide)) HB.out rfl hN (by decide) HP3.out).mono ?_; rintro _ w9 ⟨rfl, h4⟩; have hA9 : St w0 [] w9 (.blk gr 62 (rdC (.slice ao B.length c) (rS4 B s)) :: .blk g4 47 (xC (numG B 4 s : Nat) (gotG false B (numG B 1 (rS1 B s)) (rS2 B s)) (numG B 1 (rS3 B s) : Nat) 0 zP 0 0 0 0 0) :: .blk g5 3 ([.int .i64 (numG B 1 (rS1 B s) : Nat)]) :: .blk g2 47 (rec0) :: R) := h4; clear h4 hA8) | (go_at_call 32; refine (gnum_any (gx := g4) (off := 3) ao B.length c B (rS4 B s) 1 1 rfl (St.front (L1 := [_]) (St.front (L1 := [_]) hA9)) (by first | decide | (rw [xC_len HZ.out]; decide)) HB.out rfl hN (by decide) HP4.out).mono ?_; rintro _ w9 ⟨rfl, h4⟩; have hA10 : St w0 [] w9 (.blk gr 62 (rdC (.slice ao B.length c) (rS5 B s)) :: .blk g4 47 (xC (numG B 4 s : Nat) (gotG false B (numG B 1 (rS1 B s)) (rS2 B s)) (numG B 1 (rS3 B s) : Nat) (numG B 1 (rS4 B s) : Nat) zP 0 0 0 0 0) :: .blk g5 3 ([.int .i64 (numG B 1 (rS1 B s) : Nat)]) :: .blk g2 47 (rec0) :: R) := h4; clear h4 hA9) | (go_at_call 63; refine (graw_any ao B.length c B (rS5 B s) 47 47 rfl hA10 HB.out rfl hN (by decide) HP5.out).mono ?_; rintro _ w9 ⟨ao2, c2, rfl, hrd, h4⟩; have HR2 := hid hrd; have hA11 : St w0 [] w9 (.blk gr 62 (rdC (.slice ao B.length c) (rS6 B s)) :: .blk g4 47 (xC (numG B 4 s : Nat) (gotG false B (numG B 1 (rS1 B s)) (rS2 B s)) (numG B 1 (rS3 B s) : Nat) (numG B 1 (rS4 B s) : Nat) zP 0 0 0 0 0) :: .blk g5 3 ([.int .i64 (numG B 1 (rS1 B s) : Nat)]) :: .blk g2 47 (rec0) :: R) := h4; clear hrd h4 hA10) | (go_at_call 64; refine (Read_any ao2 _ c2 (gotG false B 47 (rS5 B s)) _ (Rd.old hA11 HR2.out) rfl).mono ?_; intro e9 w9 hr9; obtain ⟨rfl, h4⟩ := readOut.no HOK.out hr9; have hA12 := St.nilRow 98 2 (St.call0 hA11 h4); clear hr9 h4 hA11) | (refine wl_alloc hA12 rfl rfl ?_; intro g6 w1 hA13; clear hA12) | (refine wl_alloc hA13 rfl rfl ?_; intro g7 w1 hA14; clear hA13) | (refine wl_storeA [_] hA14 rfl rfl rfl rfl (PV.len (p := zP) HZ.out) (ptr_ones _ _ _ _ _ _) rfl ?_; intro w1 h4; have hA15 : St w0 [] w1 (.blk g7 33 ([.int .i64 0, .int .i64 0]) :: .blk g6 45 (PV.cells zP) :: .row (.slice none 0 0) 98 2 0 [] :: .blk gr 62 (rdC (.slice ao B.length c) (rS6 B s)) :: .blk g4 47 (xC (numG B 4 s : Nat) (gotG false B (numG B 1 (rS1 B s)) (rS2 B s)) (numG B 1 (rS3 B s) : Nat) (numG B 1 (rS4 B s) : Nat) zP 0 0 0 0 0) :: .blk g5 3 ([.int .i64 (numG B 1 (rS1 B s) : Nat)]) :: .blk g2 47 (rec0) :: R) := h4; clear h4 hA14) | (refine wl_storeA [] hA15 rfl rfl rfl rfl (by rfl) (by rfl) rfl ?_; intro w1 h4; have hA16 : St w0 [] w1 (.blk g7 33 ([.int .i64 (rErr (gotG false B 47 (rS5 B s))), .int .i64 (rAt (gotG false B 47 (rS5 B s)))]) :: .blk g6 45 (PV.cells zP) :: .row (.slice none 0 0) 98 2 0 [] :: .blk gr 62 (rdC (.slice ao B.length c) (rS6 B s)) :: .blk g4 47 (xC (numG B 4 s : Nat) (gotG false B (numG B 1 (rS1 B s)) (rS2 B s)) (numG B 1 (rS3 B s) : Nat) (numG B 1 (rS4 B s) : Nat) zP 0 0 0 0 0) :: .blk g5 3 ([.int .i64 (numG B 1 (rS1 B s) : Nat)]) :: .blk g2 47 (rec0) :: R) := h4; clear h4 hA15) | (refine wl_loadE rfl rfl rfl ?_; refine ⟨_, Loads.atA (PV.cells zP) [_] hA16 (PV.len HZ.out) (by simp), ?_⟩) | (refine wl_storeO [_, _, _, _] hA16 rfl rfl rfl rfl (off := 4) (PV.len (p := zP) HZ.out) (ptr_ones _ _ _ _ _ _) (by rw [xC_len HZ.out]; decide) (xC_put4 (q := zP) HZ.out HZ.out) ?_; intro w1 h4; have hA17 : St w0 [] w1 (.blk g7 33 ([.int .i64 (rErr (gotG false B 47 (rS5 B s))), .int .i64 (rAt (gotG false B 47 (rS5 B s)))]) :: .blk g6 45 (PV.cells zP) :: .row (.slice none 0 0) 98 2 0 [] :: .blk gr 62 (rdC (.slice ao B.length c) (rS6 B s)) :: .blk g4 47 (xC (numG B 4 s : Nat) (gotG false B (numG B 1 (rS1 B s)) (rS2 B s)) (numG B 1 (rS3 B s) : Nat) (numG B 1 (rS4 B s) : Nat) zP 0 0 0 0 0) :: .blk g5 3 ([.int .i64 (numG B 1 (rS1 B s) : Nat)]) :: .blk g2 47 (rec0) :: R) := h4; clear h4 hA16) | (go_at_call 32; refine (gnum_any (gx := g4) (off := 39) ao B.length c B (rS6 B s) 4 4 rfl (St.front (L1 := [_, _, _, _]) (St.front (L1 := [_, _, _, _]) hA17)) (by rw [xC_len HZ.out]; decide) HB.out rfl hN (by decide) HP6.out).mono ?_; rintro _ w9 ⟨rfl, h4⟩; rw [xC_put39 HZ.out] at h4; have hA18 : St w0 [] w9 (.blk gr 62 (rdC (.slice ao B.length c) (rS7 B s)) :: .blk g4 47 (xC (numG B 4 s : Nat) (gotG false B (numG B 1 (rS1 B s)) (rS2 B s)) (numG B 1 (rS3 B s) : Nat) (numG B 1 (rS4 B s) : Nat) zP (numG B 4 (rS6 B s) : Nat) 0 0 0 0) :: .blk g7 33 ([.int .i64 (rErr (gotG false B 47 (rS5 B s))), .int .i64 (rAt (gotG false B 47 (rS5 B s)))]) :: .blk g6 45 (PV.cells zP) :: .row (.slice none 0 0) 98 2 0 [] :: .blk g5 3 ([.int .i64 (numG B 1 (rS1 B s) : Nat)]) :: .blk g2 47 (rec0) :: R) := h4; clear h4 hA17) | (go_at_call 32; refine (gnum_any (gx := g4) (off := 40) ao B.length c B (rS7 B s) 4 4 rfl (St.front (L1 := [_]) (St.front (L1 := [_]) hA18)) (by rw [xC_len HZ.out]; decide) HB.out rfl hN (by decide) HP7.out).mono ?_; rintro _ w9 ⟨rfl, h4⟩; rw [xC_put40 HZ.out] at h4; have hA19 : St w0 [] w9 (.blk gr 62 (rdC (.slice ao B.length c) (rS8 B s)) :: .blk g4 47 (xC (numG B 4 s : Nat) (gotG false B (numG B 1 (rS1 B s)) (rS2 B s)) (numG B 1 (rS3 B s) : Nat) (numG B 1 (rS4 B s) : Nat) zP (numG B 4 (rS6 B s) : Nat) (numG B 4 (rS7 B s) : Nat) 0 0 0) :: .blk g7 33 ([.int .i64 (rErr (gotG false B 47 (rS5 B s))), .int .i64 (rAt (gotG false B 47 (rS5 B s)))]) :: .blk g6 45 (PV.cells zP) :: .row (.slice none 0 0) 98 2 0 [] :: .blk g5 3 ([.int .i64 (numG B 1 (rS1 B s) : Nat)]) :: .blk g2 47 (rec0) :: R) := h4; clear h4 hA18) | (go_at_call 32; refine (gnum_any (gx := g4) (off := 41) ao B.length c B (rS8 B s) 4 4 rfl (St.front (L1 := [_]) (St.front (L1 := [_]) hA19)) (by rw [xC_len HZ.out]; decide) HB.out rfl hN (by decide) HP8.out).mono ?_; rintro _ w9 ⟨rfl, h4⟩; rw [xC_put41 HZ.out] at h4; have hA20 : St w0 [] w9 (.blk gr 62 (rdC (.slice ao B.length c) (rS9 B s)) :: .blk g4 47 (xC (numG B 4 s : Nat) (gotG false B (numG B 1 (rS1 B s)) (rS2 B s)) (numG B 1 (rS3 B s) : Nat) (numG B 1 (rS4 B s) : Nat) zP (numG B 4 (rS6 B s) : Nat) (numG B 4 (rS7 B s) : Nat) (numG B 4 (rS8 B s) : Nat) 0 0) :: .blk g7 33 ([.int .i64 (rErr (gotG false B 47 (rS5 B s))), .int .i64 (rAt (gotG false B 47 (rS5 B s)))]) :: .blk g6 45 (PV.cells zP) :: .row (.slice none 0 0) 98 2 0 [] :: .blk g5 3 ([.int .i64 (numG B 1 (rS1 B s) : Nat)]) :: .blk g2 47 (rec0) :: R) := h4; clear h4 hA19) | (go_at_call 32; refine (gnum_any (gx := g4) (off := 42) ao B.length c B (rS9 B s) 1 1 rfl (St.front (L1 := [_]) (St.front (L1 := [_]) hA20)) (by rw [xC_len HZ.out]; decide) HB.out rfl hN (by decide) HP9.out).mono ?_; rintro _ w9 ⟨rfl, h4⟩; rw [xC_put42 HZ.out] at h4; have hA21 : St w0 [] w9 (.blk gr 62 (rdC (.slice ao B.length c) (rS10 B s)) :: .blk g4 47 (xC (numG B 4 s : Nat) (gotG false B (numG B 1 (rS1 B s)) (rS2 B s)) (numG B 1 (rS3 B s) : Nat) (numG B 1 (rS4 B s) : Nat) zP (numG B 4 (rS6 B s) : Nat) (numG B 4 (rS7 B s) : Nat) (numG B 4 (rS8 B s) : Nat) (numG B 1 (rS9 B s) : Nat) 0) :: .blk g7 33 ([.int .i64 (rErr (gotG false B 47 (rS5 B s))), .int .i64 (rAt (gotG false B 47 (rS5 B s)))]) :: .blk g6 45 (PV.cells zP) :: .row (.slice none 0 0) 98 2 0 [] :: .blk g5 3 ([.int .i64 (numG B 1 (rS1 B s) : Nat)]) :: .blk g2 47 (rec0) :: R) := h4; clear h4 hA20) | (go_at_call 32; refine (gnum_any (gx := g4) (off := 43) ao B.length c B (rS10 B s) 1 1 rfl (St.front (L1 := [_]) (St.front (L1 := [_]) hA21)) (by rw [xC_len HZ.out]; decide) HB.out rfl hN (by decide) HP10.out).mono ?_; rintro _ w9 ⟨rfl, h4⟩; rw [xC_put43 HZ.out] at h4; have hA22 : St w0 [] w9 (.blk gr 62 (rdC (.slice ao B.length c) (rS11 B s)) :: .blk g4 47 (xC (numG B 4 s : Nat) (gotG false B (numG B 1 (rS1 B s)) (rS2 B s)) (numG B 1 (rS3 B s) : Nat) (numG B 1 (rS4 B s) : Nat) zP (numG B 4 (rS6 B s) : Nat) (numG B 4 (rS7 B s) : Nat) (numG B 4 (rS8 B s) : Nat) (numG B 1 (rS9 B s) : Nat) (numG B 1 (rS10 B s) : Nat)) :: .blk g7 33 ([.int .i64 (rErr (gotG false B 47 (rS5 B s))), .int .i64 (rAt (gotG false B 47 (rS5 B s)))]) :: .blk g6 45 (PV.cells zP) :: .row (.slice none 0 0) 98 2 0 [] :: .blk g5 3 ([.int .i64 (numG B 1 (rS1 B s) : Nat)]) :: .blk g2 47 (rec0) :: R) := h4; clear h4 hA21))
  have hE := hA22.drew
  clear hA22
  refine wp_region_held_drew (S := (fun w' => (loadVarH 47 ⟨g4, 0, none⟩).run Try.prog w' = .ok (.agg (List.toArray (xC (numG B 4 s : Nat) (gotG false B (numG B 1 (rS1 B s)) (rS2 B s)) (numG B 1 (rS3 B s) : Nat) (numG B 1 (rS4 B s) : Nat) zP (numG B 4 (rS6 B s) : Nat) (numG B 4 (rS7 B s) : Nat) (numG B 4 (rS8 B s) : Nat) (numG B 1 (rS9 B s) : Nat) (numG B 1 (rS10 B s) : Nat)))) w' ∧ (loadVarH 31 ⟨g7, 0, none⟩).run Try.prog w' = .ok (.int .i64 (rErr (gotG false B 47 (rS5 B s)))) w')) (by kernel_rfl) (by exact ⟨ldA (xC (numG B 4 s : Nat) (gotG false B (numG B 1 (rS1 B s)) (rS2 B s)) (numG B 1 (rS3 B s) : Nat) (numG B 1 (rS4 B s) : Nat) zP (numG B 4 (rS6 B s) : Nat) (numG B 4 (rS7 B s) : Nat) (numG B 4 (rS8 B s) : Nat) (numG B 1 (rS9 B s) : Nat) (numG B 1 (rS10 B s) : Nat)) [_] hE (xC_len HZ.out) (by simp), ldS [_, _] hE rfl⟩) (fun hHeld => ?_)
  refine tk 0 41 ?_
  (try simp only [Act.put, List.setIfInBounds_toArray, List.set_cons_zero, List.set_cons_succ])
  refine tk 1 42 ?_
  (try simp only [Act.put, List.setIfInBounds_toArray, List.set_cons_zero, List.set_cons_succ])
  refine tk 2 43 ?_
  (try simp only [Act.put, List.setIfInBounds_toArray, List.set_cons_zero, List.set_cons_succ])
  refine tk 3 44 ?_
  (try simp only [Act.put, List.setIfInBounds_toArray, List.set_cons_zero, List.set_cons_succ])
  refine wpAnyH_ready (rs := [4]) (by kernel_rfl) (by simp) ?_
  refine (AllReadyH.cons (o := ⟨none, _, _, _, _, _⟩) rfl (fun K hK => ?_) AllReadyH.nil)
  rw [if_pos (by rfl)]
  refine ow_of_wl (ops := #[]) (by rfl) ?_
  refine wl_storeA [_, _, _, _, _, _] hE rfl rfl rfl rfl (xC_len HZ.out) (xC_ones (ptr_ones _ _ _ _ _ _)) (by rfl) ?_
  intro w7 hB7
  refine q0_nil ?_
  refine hK.out _ _ ?_ (fun hHeld => ?_)
  · exact ⟨ldA (xC (numG B 4 s : Nat) (gotG false B (numG B 1 (rS1 B s)) (rS2 B s)) (numG B 1 (rS3 B s) : Nat) (numG B 1 (rS4 B s) : Nat) zP (numG B 4 (rS6 B s) : Nat) (numG B 4 (rS7 B s) : Nat) (numG B 4 (rS8 B s) : Nat) (numG B 1 (rS9 B s) : Nat) (numG B 1 (rS10 B s) : Nat)) [_] hB7 (xC_len HZ.out) (by simp), ldS [_, _] hB7 rfl⟩
  clear hK K
  (try simp only [Act.put, List.setIfInBounds_toArray, List.set_cons_zero, List.set_cons_succ])
  refine tk 5 3 ?_
  (try simp only [Act.put, List.setIfInBounds_toArray, List.set_cons_zero, List.set_cons_succ])
  refine wpAnyH_done (by kernel_rfl) ?_ _
  clear hHeld
  go_wp2_with (first | go_big_skip | go_big_guard | fail)
  have hl := Loads.atA (P := Try.prog) (off := 0) (T := 47) (xC (numG B 4 s : Nat) (gotG false B (numG B 1 (rS1 B s)) (rS2 B s)) (numG B 1 (rS3 B s) : Nat) (numG B 1 (rS4 B s) : Nat) zP (numG B 4 (rS6 B s) : Nat) (numG B 4 (rS7 B s) : Nat) (numG B 4 (rS8 B s) : Nat) (numG B 1 (rS9 B s) : Nat) (numG B 1 (rS10 B s) : Nat)) [_, _, _, _, _, _] hB7 (xC_len HZ.out) (by simp)
  refine bodyPost_ret (results_cellTmp rfl rfl hl) rfl ?_
  refine ⟨.slice none 0 0, ?_, ?_⟩
  · rw [rec_cells (sv := .slice none 0 0) (rootG_no HOK.out), show rootOk false B s = false from HOK.out]
    rfl
  · rw [rec_l (rootG_no HOK.out)]
    exact St.sub (St.front (L1 := [_]) (St.front (L1 := [_, _, _, _]) hB7)) (List.Sublist.cons_cons _ (List.Sublist.cons_cons _ (List.Sublist.cons _ (List.Sublist.cons _ (List.Sublist.cons _ (List.Sublist.cons _ (List.Sublist.cons _ (List.Sublist.refl _))))))))
end
end Go.Proofs.Ytkpkaoiafppimaa
namespace Go.Proofs.Ytkpkaoiafppimaa
set_option linter.unusedVariables false
set_option linter.unusedSimpArgs false
open Go.RowKit
namespace Hp
section
variable {P : Program}
variable {w0 w : World} {M : List Nat} {L1 L2 : List HA}

theorem freeze_other (w : World) (a : Addr) (n k : Nat) (h : k ≠ a.block) : (w.freeze a n).heap[k]? = w.heap[k]? := by
  unfold World.freeze
  split
  · rfl
  · simp only [Array.getElem?_modify]
    rw [if_neg (fun e => h e.symm)]
theorem freeze_here (w : World) (g off n : Nat) (cs : Array Value) (T : TypeId) (h : w.heap[g]? = some (.cells cs T (0, 0))) (hn : n ≠ 0) : (w.freeze ⟨g, off, none⟩ n).heap[g]? = some (.cells cs T (off, off + n)) := by
  unfold World.freeze
  rw [if_neg hn]
  simp only [Array.getElem?_modify, if_true, h, Option.map_some]
  simp
theorem freeze_size (w : World) (a : Addr) (n : Nat) : (w.freeze a n).heap.size = w.heap.size := by
  unfold World.freeze
  split <;> simp
theorem freeze_os (w : World) (a : Addr) (n : Nat) : (w.freeze a n).os = w.os ∧ (w.freeze a n).tape = w.tape ∧ (w.freeze a n).output = w.output := by
  unfold World.freeze
  split <;> exact ⟨rfl, rfl, rfl⟩

theorem St.freeze {g : Nat} {T : TypeId} {cs : List Value} (h : St w0 M w (L1 ++ .blk g T cs :: L2)) (off n : Nat) (hn : n ≠ 0) : St w0 M (w.freeze ⟨g, off, none⟩ n) (L1 ++ .frz (off, off + n) g T cs :: L2) := by
  have hmem : HA.blk g T cs ∈ L1 ++ .blk g T cs :: L2 := by simp
  have hown := h.own _ hmem g rfl
  have hap := h.apart
  unfold Apart at hap
  rw [List.pairwise_append, List.pairwise_cons] at hap
  have hother : ∀ x, x ∈ L1 ∨ x ∈ L2 → ∀ k, x.foot = some k → k ≠ g := by
    rintro x (hx | hx) k hk rfl
    · exact hap.2.2 x hx (.blk k T cs) (by simp) k hk rfl
    · exact hap.2.1.1 x hx k rfl hk
  obtain ⟨f1, f2, f3⟩ := freeze_os w ⟨g, off, none⟩ n
  refine ⟨f1.trans h.os, f2.trans h.tape, f3.trans h.output, by rw [freeze_size]; exact h.size, fun k hk hM => ?_, fun x hx => ?_, fun x hx k hk => ?_, ?_⟩
  · rw [freeze_other w _ n k (by rintro rfl; rcases hown with h1 | h1; exact absurd hk (Nat.not_lt.2 h1); exact hM h1)]; exact h.old k hk hM
  · rcases List.mem_append.1 hx with hx | hx
    · exact HA.keep (h.all x (by simp [hx])) fun k hk => freeze_other w _ n k (hother x (.inl hx) k hk)
    · rcases List.mem_cons.1 hx with rfl | hx
      · exact freeze_here w g off n cs.toArray T (h.all _ hmem) hn
      · exact HA.keep (h.all x (by simp [hx])) fun k hk => freeze_other w _ n k (hother x (.inr hx) k hk)
  · rcases List.mem_append.1 hx with hx | hx
    · exact h.own x (by simp [hx]) k hk
    · rcases List.mem_cons.1 hx with rfl | hx
      · simp [HA.foot] at hk; subst hk; exact hown
      · exact h.own x (by simp [hx]) k hk
  · unfold Apart
    rw [List.pairwise_append, List.pairwise_cons]
    refine ⟨hap.1, ⟨fun y hy k hk => hap.2.1.1 y hy k hk, hap.2.1.2⟩, fun x hx y hy k hk => ?_⟩
    rcases List.mem_cons.1 hy with rfl | hy
    · exact hap.2.2 x hx (.blk g T cs) (by simp) k hk
    · exact hap.2.2 x hx y (by simp [hy]) k hk

/-- The conversion of a literal's bytes to their own type marks the block. -/
theorem wl_convSS {ops : Array Oper} {rest : List Oper} {o : Oper} {a : Act} {Q : Exit → Act → World → Prop} {t e : TypeId} {x : Operand} {g n c : Nat} {T : TypeId} {cs : List Value} (hst : St w0 M w (L1 ++ .blk g T cs :: L2))
    (hop : o.op = .convert t t x) (hw : Region.wanted o (yielded ops a.tmps) = true) (hx : a.eval x = .slice (some ⟨g, 0, none⟩) n c) [ht : TySl P t e] [he : TyI P e .u8]
    (h : ∀ w', St w0 M w' (L1 ++ .frz (cs.length, cs.length + 1) g T cs :: L2) → wpList P ops Q rest (a.put o.dst (.slice (some ⟨g, 0, none⟩) n c)) w') : wpList P ops Q (o :: rest) a w := by
  have hg : w.heap[g]? = some (.cells cs.toArray T (0, 0)) := hst.all (.blk g T cs) (by simp)
  have hsh : w.shape? g = some (T, cs.length) := by
    unfold World.shape?
    rw [hg]
    simp
  refine wl_run hw ?_ (h _ (hst.freeze cs.length 1 (by decide)))
  unfold execOp
  simp [hop, hx, convert, run_underlying ht.out, run_underlying he.out, markStringish, hsh]

theorem Rd.frz {g off n c sz : Nat} {T : TypeId} {m : Nat × Nat} {cs xs : List Value} {L : List HA} (hst : St w0 M w L) (hm : HA.frz m g T cs ∈ L) (hn : n ≤ c) (hc : c ≤ maxLen) (hl : xs.length = n * sz) (hx : (cs.drop off).take xs.length = xs) :
    Rd w (.slice (some ⟨g, off, none⟩) n c) sz n xs := by
  refine Rd.mk hn hc hl fun j v hv => ?_
  have h := hst.all _ hm
  unfold HA.holds at h
  rw [cell_of_row w g _ _ T _ h]
  rw [← hx, List.getElem?_take] at hv
  split at hv
  · simpa using hv
  · simp at hv
theorem Rd.frz0 {g n sz : Nat} {T : TypeId} {m : Nat × Nat} {cs : List Value} {L : List HA} (hst : St w0 M w L) (hm : HA.frz m g T cs ∈ L) (hl : cs.length = n * sz) (hn : n ≤ 9223372036854775807) : Rd w (.slice (some ⟨g, 0, none⟩) n n) sz n cs :=
  Rd.frz hst hm (Nat.le_refl _) (by unfold maxLen; omega) hl (by simp)
end
end Hp
end Go.Proofs.Ytkpkaoiafppimaa
namespace Go.Proofs.Ytkpkaoiafppimaa
set_option linter.unusedVariables false
set_option linter.unusedSimpArgs false
open Go.RowKit
namespace Hp
variable {P : Program} {w0 w : World} {M : List Nat} {L : List HA}
theorem wl_convSB {ops : Array Oper} {rest : List Oper} {o : Oper} {a : Act} {Q : Exit → Act → World → Prop} {src dst e : TypeId} {x : Operand} {l : List UInt8} (hst : St w0 M w L)
    (hop : o.op = .convert src dst x) (hw : Region.wanted o (yielded ops a.tmps) = true) (hx : a.eval x = .string ⟨l.toArray⟩) [hs : TyStr P src] [hd : TySl P dst e] [he : TyI P e .u8] (hl : l.length ≤ 100000)
    (h : ∀ bv mk g cs w', St w0 M w' (.frz mk g e cs :: L) → (∀ (w1 w2 : World) (M2 : List Nat) (L2 : List HA), St w1 M2 w2 L2 → HA.frz mk g e cs ∈ L2 → Rd w2 bv 1 l.length (bytesV l)) → wpList P ops Q rest (a.put o.dst bv) w') : wpList P ops Q (o :: rest) a w := by
  have hr := Lib.run_convert_string_bytes (P := P) w src dst e ⟨l.toArray⟩ hs.out hd.out he.out
  obtain ⟨cs, hcs⟩ : ∃ cs : List Value, cs = (Lib.bytesCells w e ⟨l.toArray⟩).toList := ⟨_, rfl⟩
  have hcs' : cs.toArray = Lib.bytesCells w e ⟨l.toArray⟩ := by rw [hcs]
  have hsz : (⟨l.toArray⟩ : ByteArray).size = l.length := by simp [ByteArray.size]
  have hge := grownCap_ge w l.length 0 e
  have hcm : grownCap w l.length 0 e ≤ maxLen := grownCap_le_maxLen w l.length 0 e (by unfold maxLen; omega)
  have hcl : cs = bytesV l ++ List.replicate (grownCap w l.length 0 e - l.length) (.int .u8 0) := by
    rw [hcs]
    unfold Lib.bytesCells bytesV
    rw [hsz]
    simp
  have h1 := St.freeze (L1 := []) (St.alloc hst.drew e cs) (Lib.bytesCells w e ⟨l.toArray⟩).size 1 (by decide)
  have hw' : (w.drew.alloc (.cells cs.toArray e)).freeze ⟨w.drew.heap.size, (Lib.bytesCells w e ⟨l.toArray⟩).size, none⟩ 1 = Lib.bytesWorld w e ⟨l.toArray⟩ := by
    rw [hcs']
    rfl
  rw [hw'] at h1
  refine wl_run hw ?_ (h _ _ _ _ _ h1 (fun _ _ _ _ h2 hm => Rd.frz (off := 0) (n := l.length) (c := grownCap w l.length 0 e) h2 hm hge hcm (by simp) (by rw [hcl, List.drop_zero, List.take_left])))
  unfold execOp
  simp only [hop, hx, Sem.run_bind, hr, Result.andThen_ok, Sem.run_pure, hsz]
  rfl
end Hp
end Go.Proofs.Ytkpkaoiafppimaa
namespace Go.Proofs.Ytkpkaoiafppimaa
set_option linter.unusedVariables false
set_option linter.unusedSimpArgs false
open Go.RowKit Hp
attribute [local irreducible] Go.Calls Go.wpList
set_option maxRecDepth 100000
set_option maxHeartbeats 8000000
attribute [local go_sem ↓] heldInt heldRecs heldStr heldInts
theorem wnum_k {w0 w : World} {M : List Nat} {R : List HA} {gw m : Nat} {wv : Value} {B : List UInt8} (hS : St w0 M w (.blk gw 77 [wv] :: .rowP isB wv 5 1 m (bytesV B) :: R)) (z : Int) (s : Int) (k : Nat) (hs : s = (k : Int)) (hk : k ≤ 8) (hm : m ≤ 100000) (hz : R64 z) :
    Calls Try.prog 40 #[.pointer (some ⟨gw, 0, none⟩), .int .i64 z, .int .i64 s] w fun e w' => e = .returned (.pointer (some ⟨gw, 0, none⟩)) ∧ ∃ wv', St w0 M w' (.blk gw 77 [wv'] :: .rowP isB wv' 5 1 (m + k) (bytesV (B ++ numB z k)) :: R) := by
  subst hs
  exact wnum_w hS z k hk hm hz
theorem bytes12_no (t : TC) (ar al : Option Addr) (nr cr nl cl : Nat) (xs : List (Value × RC)) (w : World) (hR : RecsIn w (.slice ar nr cr) nr xs) (hx : xs.map (·.2) = t.recs) (hb : nr ≤ 1000000) (hl : Rd w (.slice al nl cl) 1 nl (numsV t.lives)) (hnl : t.lives.length = nl) (hbl : nl ≤ 1000000) (hok : t.ok = false) :
    Calls Try.prog 17 #[.agg (tabC t (.slice ar nr cr) (.slice al nl cl)).toArray] w fun e w' => e = .returned (.tuple #[.slice none 0 0, .int .i64 2]) ∧ St w [] w' [] := by
  have hst0 := St.refl w
  have HE := hid (err_no hok)
  have HR := hid hR
  have HX := hid hx
  have HL := hid hl
  have HN := hid hnl
  clear hR hx hl hnl hok
  go_enter Try.func17, Try.ntmps17
  go_wp2_with (first | go_big_skip | go_big_guard | (refine wl_boxA hst0 rfl rfl rfl ?_; intro g1 w1 hst; clear hst0) | (refine wl_loadE rfl rfl rfl ?_; refine ⟨_, Loads.atA (tabC t (.slice ar nr cr) (.slice al nl cl)) [] hst rfl rfl, ?_⟩) | (go_at_call 19; refine (check12_any t ar al nr cr nl cl xs _ (HR.out.old hst.nil) HX.out hb (Rd.old hst HL.out) HN.out hbl).mono ?_; rw [HE.out]; rintro _ w9 ⟨rfl, h4⟩; replace hst := St.call0 hst h4; clear h4))
  go_ret2
  exact ⟨rfl, hst.nil⟩
theorem bytes12_ok (t : TC) (ar al : Option Addr) (nr cr nl cl : Nat) (xs : List (Value × RC)) (w : World) (hR : RecsIn w (.slice ar nr cr) nr xs) (hx : xs.map (·.2) = t.recs) (hl : Rd w (.slice al nl cl) 1 nl (numsV t.lives)) (hnl : t.lives.length = nl) (hok : t.ok = true) :
    Calls Try.prog 17 #[.agg (tabC t (.slice ar nr cr) (.slice al nl cl)).toArray] w fun e w' => ∃ u m, e = .returned (.tuple #[u, .int .i64 0]) ∧ m ≤ 3300 ∧ St w [] w' [.rowP isB u 5 1 m (bytesV t.bytes)] := by
  have hst0 := St.refl w
  have hbd := ok_bd hok
  have hlen : t.recs.length = nr := by rw [← hx, List.length_map, hR.len]
  have hnr : nr ≤ 16 := by rw [← hlen]; exact hbd.many
  have hnl8 : nl ≤ 8 := by rw [← hnl]; exact hbd.lives
  have HE := hid (err_yes hok)
  have HR := hid hR
  have HX := hid hx
  have HL := hid hl
  have HN := hid hnl
  have HB := hid hbd
  have HLN := hid hlen
  obtain ⟨T, hT⟩ : ∃ T, T = t.bytes := ⟨_, rfl⟩
  rw [← hT]
  have HT := hid hT
  clear hR hx hl hnl hok hbd hlen hT
  go_enter Try.func17, Try.ntmps17
  go_wp2_with (first | go_big_skip | go_big_guard | (refine wl_boxA hst0 rfl rfl rfl ?_; intro g1 w1 hst1; clear hst0) | (refine wl_loadE rfl rfl rfl ?_; refine ⟨_, Loads.atA (tabC t (.slice ar nr cr) (.slice al nl cl)) [] hst1 rfl rfl, ?_⟩) | (go_at_call 19; refine (check12_any t ar al nr cr nl cl xs _ (HR.out.old hst1.nil) HX.out (by omega) (Rd.old hst1 HL.out) HN.out (by omega)).mono ?_; rw [HE.out]; rintro _ w9 ⟨rfl, h4⟩; have hst2 := St.call0 hst1 h4; clear h4 hst1) | (refine wl_build0 rfl rfl ?_) | (refine wl_boxA hst2 rfl rfl rfl ?_; intro gw w2 hst3; clear hst2))
  have hst : St w [] w2 (.blk gw 77 [.slice none 0 0] :: .rowP isB (.slice none 0 0) 5 1 0 (bytesV []) :: [.blk g1 30 (tabC t (.slice ar nr cr) (.slice al nl cl))]) := St.perm (St.nilPQ isB 5 1 hst3) (List.Perm.swap _ _ _)
  clear hst3
  have hX := hst.drew
  clear hst
  refine wp_region_held_drew (S := (fun w' => (loadVarH 3 ⟨g1, 0, none⟩).run Try.prog w' = .ok (.int .i64 t.next) w' ∧ (loadVarH 25 ⟨g1, 1, none⟩).run Try.prog w' = .ok (.slice ar nr cr) w')) (by kernel_rfl) (by exact ⟨ldS [_, _] hX rfl, ldS [_, _] hX rfl⟩) (fun hHeld => ?_)
  refine tk 0 19 ?_
  (try simp only [Act.put, List.setIfInBounds_toArray, List.set_cons_zero, List.set_cons_succ])
  refine tk 1 20 ?_
  (try simp only [Act.put, List.setIfInBounds_toArray, List.set_cons_zero, List.set_cons_succ])
  refine tk 4 23 ?_
  (try simp only [Act.put, List.setIfInBounds_toArray, List.set_cons_zero, List.set_cons_succ])
  refine tk 2 21 ?_
  (try simp only [Act.put, List.setIfInBounds_toArray, List.set_cons_zero, List.set_cons_succ])
  refine tk 5 24 ?_
  (try simp only [Act.put, List.setIfInBounds_toArray, List.set_cons_zero, List.set_cons_succ])
  refine tk 6 25 ?_
  (try simp only [Act.put, List.setIfInBounds_toArray, List.set_cons_zero, List.set_cons_succ])
  refine wpAnyH_ready (rs := [3]) (by kernel_rfl) (by simp) ?_
  refine (AllReadyH.cons (o := ⟨some 22, _, _, _, _, _⟩) rfl (fun K hK => ?_) AllReadyH.nil)
  rw [if_pos (by rfl)]
  go_simp
  go_at_call 40
  refine (wnum_k (St.front (L1 := [_]) (St.front (L1 := [_]) hX)) (t.next) 4 4 (by rfl) (by decide) (by omega) HB.out.next.r64).mono ?_
  rintro _ w4 ⟨rfl, wv9, h4⟩
  have hN1 := h4
  clear h4 hX
  refine hK.out _ _ ?_ (fun hHeld => ?_)
  · exact ⟨ldS [_, _] hN1 rfl, ldS [_, _] hN1 rfl⟩
  clear hK K
  (try simp only [Act.put, List.setIfInBounds_toArray, List.set_cons_zero, List.set_cons_succ])
  refine wpAnyH_ready (rs := [7]) (by kernel_rfl) (by simp) ?_
  refine (AllReadyH.cons (o := ⟨some 26, _, _, _, _, _⟩) rfl (fun K hK => ?_) AllReadyH.nil)
  rw [if_pos (by rfl)]
  go_simp
  go_at_call 40
  refine (wnum_k (St.front (L1 := [_]) (St.front (L1 := [_]) hN1)) ((nr : Int)) 1 1 (by rfl) (by decide) (by omega) ⟨by omega, by omega⟩).mono ?_
  rintro _ w4 ⟨rfl, wv9, h4⟩
  have hN2 := h4
  clear h4 hN1
  refine hK.out _ _ ?_ (fun hHeld => ?_)
  · exact ⟨ldS [_, _] hN2 rfl, ldS [_, _] hN2 rfl⟩
  clear hK K
  (try simp only [Act.put, List.setIfInBounds_toArray, List.set_cons_zero, List.set_cons_succ])
  refine wpAnyH_done (by kernel_rfl) ?_ _
  clear hHeld
  go_wp2_with (first | go_big_skip | go_big_guard | (refine wl_loadE rfl rfl rfl ?_; first | refine ⟨_, Loads.at [_, _] hN2 rfl, ?_⟩))
  go_loopw [30] (fun i wr => ∃ (j m : Nat) (wv : Value), j ≤ nr ∧ i = .int .i64 (j : Int) ∧ m ≤ 5 + 200 * j ∧ St w [] wr (.blk gw 77 [wv] :: .rowP isB wv 5 1 m (bytesV ((numB t.next 4 ++ numB (nr : Int) 1) ++ ((xs.map (·.2)).take j).flatMap RC.bytes)) :: [.blk g1 30 (tabC t (.slice ar nr cr) (.slice al nl cl))])) (fun i _ => nr - (intOf i).toNat)
  case atStart => exact ⟨0, 0 + 4 + 1, wv9, Nat.zero_le _, rfl, by omega, by simpa using hN2⟩
  case round =>
    clear hN2
    obtain ⟨j, m, wv, hj, rfl, hm, hst⟩ := hrel
    by_cases hlt : j < nr
    · have e1 : decide ((j : Int) < (nr : Int)) = true := decide_eq_true (by omega)
      have z1 : IntKind.i64.wrap ((j : Int) + 1) = (j : Int) + 1 := IntWalk.i64_in _ (by omega)
      obtain ⟨x, lb, lo, hxj, har, hin, hr⟩ := RecsIn.at HR.out hlt
      subst har
      have hbx := HB.out.recs x.2 (by rw [← HX.out]; exact List.mem_map_of_mem (List.mem_of_getElem? hxj))
      have hn41 := hbx.name
      have hnm : R64 (x.2.name.length : Int) := ⟨by omega, by omega⟩
      have hsz : (⟨x.2.name.toArray⟩ : ByteArray).size = x.2.name.length := by simp [ByteArray.size]
      have HXJ := hid hxj
      have HIN := hid hin
      have HLR := hid hin.L
      have HL44 := hid (cellsR_len hin.L)
      have H35 := hid (PV.len (p := x.2.pv x.1) hin.L)
      have HWR := hid hr
      have HBX := hid hbx
      have HNM := hid hnm
      clear hxj hin hr hbx hnm
      go_wp2_with (first | go_big_skip | go_big_guard | (refine wl_index rfl rfl rfl rfl hlt ?_) | (refine wl_loadE rfl rfl rfl ?_; first | refine ⟨_, Loads.oldA (cs := cellsR x) hst HL44.out HWR.out, ?_⟩ | refine ⟨_, Loads.atA ((x.2.pv x.1).cells) [] hst3 H35.out (cellsR_root HLR.out), ?_⟩) | (refine wl_alloc hst rfl rfl ?_; intro gx w2 hst2; clear hst) | (refine wl_storeA [] hst2 rfl rfl rfl rfl (by exact HL44.out) (cellsR_ones HIN.out) rfl ?_; intro w3 hst3; clear hst2) | (go_at_call 41; refine (bytes_pv (x.2.pv x.1) _ (PV.In.old hst3 HIN.out.1) HBX.out.root).mono ?_; rintro _ w4 ⟨u, rfl, h4⟩; have hst4 := St.call hst3 h4; clear h4 hst3; obtain ⟨uo, uc, rfl, _, _, _⟩ := row_form hst4 (.head _)))
      have hX := hst4.drew
      clear hst4
      refine wp_region_held_drew (S := (fun w' => (loadVarH 3 ⟨gx, 0, none⟩).run Try.prog w' = .ok (.int .i64 x.2.id) w' ∧ (loadVarH 9 ⟨gx, 1, none⟩).run Try.prog w' = .ok (.string ⟨x.2.name.toArray⟩) w' ∧ (loadVarH 3 ⟨gx, 2, none⟩).run Try.prog w' = .ok (.int .i64 x.2.kind) w' ∧ (loadVarH 3 ⟨gx, 3, none⟩).run Try.prog w' = .ok (.int .i64 x.2.size) w')) (by kernel_rfl) (by exact ⟨ldS [_] hX rfl, ldS [_] hX rfl, ldS [_] hX rfl, ldS [_] hX rfl⟩) (fun hHeld => ?_)
      refine tk 0 40 ?_
      (try simp only [Act.put, List.setIfInBounds_toArray, List.set_cons_zero, List.set_cons_succ])
      refine tk 1 41 ?_
      (try simp only [Act.put, List.setIfInBounds_toArray, List.set_cons_zero, List.set_cons_succ])
      refine tk 4 44 ?_
      (try simp only [Act.put, List.setIfInBounds_toArray, List.set_cons_zero, List.set_cons_succ])
      refine tk 8 48 ?_
      (try simp only [Act.put, List.setIfInBounds_toArray, List.set_cons_zero, List.set_cons_succ])
      refine tk 12 52 ?_
      (try simp only [Act.put, List.setIfInBounds_toArray, List.set_cons_zero, List.set_cons_succ])
      refine tk 15 55 ?_
      (try simp only [Act.put, List.setIfInBounds_toArray, List.set_cons_zero, List.set_cons_succ])
      refine tk 18 58 ?_
      (try simp only [Act.put, List.setIfInBounds_toArray, List.set_cons_zero, List.set_cons_succ])
      refine tk 2 42 ?_
      (try simp only [Act.put, List.setIfInBounds_toArray, List.set_cons_zero, List.set_cons_succ])
      refine tk 5 45 ?_
      (try simp only [Act.put, List.setIfInBounds_toArray, List.set_cons_zero, List.set_cons_succ])
      refine tk 9 49 ?_
      (try simp only [Act.put, List.setIfInBounds_toArray, List.set_cons_zero, List.set_cons_succ])
      refine tk 13 53 ?_
      (try simp only [Act.put, List.setIfInBounds_toArray, List.set_cons_zero, List.set_cons_succ])
      refine tk 16 56 ?_
      (try simp only [Act.put, List.setIfInBounds_toArray, List.set_cons_zero, List.set_cons_succ])
      refine tk 6 46 ?_
      (try simp only [Act.put, List.setIfInBounds_toArray, List.set_cons_zero, List.set_cons_succ])
      refine wpAnyH_ready (rs := [3, 10]) (by kernel_rfl) (by simp) ?_
      refine (AllReadyH.cons (o := ⟨some 43, _, _, _, _, _⟩) rfl (fun K hK => ?_) (AllReadyH.cons (o := ⟨some 50, _, _, _, _, _⟩) rfl (fun K hK => ?_) AllReadyH.nil))
      · rw [if_pos (by rfl)]
        go_simp
        go_at_call 40
        refine (wnum_k (St.front (L1 := [_, _, _]) (St.front (L1 := [_, _, _]) hX)) (x.2.id) 4 4 (by rfl) (by decide) (by omega) HBX.out.id.r64).mono ?_
        rintro _ w4 ⟨rfl, wv9, h4⟩
        have hN3 := h4
        clear h4 hX
        refine hK.out _ _ ?_ (fun hHeld => ?_)
        · exact ⟨ldS [_, _, _] hN3 rfl, ldS [_, _, _] hN3 rfl, ldS [_, _, _] hN3 rfl, ldS [_, _, _] hN3 rfl⟩
        clear hK K
        (try simp only [Act.put, List.setIfInBounds_toArray, List.set_cons_zero, List.set_cons_succ])
        refine wpAnyH_ready (rs := [7, 10]) (by kernel_rfl) (by simp) ?_
        refine (AllReadyH.cons (o := ⟨some 47, _, _, _, _, _⟩) rfl (fun K hK => ?_) (AllReadyH.cons (o := ⟨some 50, _, _, _, _, _⟩) rfl (fun K hK => ?_) AllReadyH.nil))
        · rw [if_pos (by rfl)]
          go_simp
          go_at_call 40
          refine (wnum_k (St.front (L1 := [_]) (St.front (L1 := [_]) hN3)) ((x.2.name.length : Int)) 1 1 (by rfl) (by decide) (by omega) HNM.out).mono ?_
          rintro _ w4 ⟨rfl, wv9, h4⟩
          have hN4 := h4
          clear h4 hN3
          refine hK.out _ _ ?_ (fun hHeld => ?_)
          · exact ⟨ldS [_, _, _] hN4 rfl, ldS [_, _, _] hN4 rfl, ldS [_, _, _] hN4 rfl, ldS [_, _, _] hN4 rfl⟩
          clear hK K
          (try simp only [Act.put, List.setIfInBounds_toArray, List.set_cons_zero, List.set_cons_succ])
          refine wpAnyH_ready (rs := [10]) (by kernel_rfl) (by simp) ?_
          refine (AllReadyH.cons (o := ⟨some 50, _, _, _, _, _⟩) rfl (fun K hK => ?_) AllReadyH.nil)
          rw [if_pos (by rfl)]
          refine ow_of_wl (ops := #[]) (by rfl) ?_
          refine wl_convSB (l := x.2.name) hN4 rfl rfl rfl (by omega) ?_
          intro bv mk gz zs w5 hN5 HRF
          have HRD := hid HRF
          clear HRF hN4
          refine q0_nil ?_
          refine hK.out _ _ ?_ (fun hHeld => ?_)
          · exact ⟨ldS [_, _, _, _] hN5 rfl, ldS [_, _, _, _] hN5 rfl, ldS [_, _, _, _] hN5 rfl, ldS [_, _, _, _] hN5 rfl⟩
          clear hK K
          (try simp only [Act.put, List.setIfInBounds_toArray, List.set_cons_zero, List.set_cons_succ])
          refine wpAnyH_ready (rs := [11]) (by kernel_rfl) (by simp) ?_
          refine (AllReadyH.cons (o := ⟨some 51, _, _, _, _, _⟩) rfl (fun K hK => ?_) AllReadyH.nil)
          rw [if_pos (by rfl)]
          go_simp
          go_at_call 42
          refine (wraw_w (St.front (L1 := [_, _]) (St.front (L1 := [_, _]) hN5)) (HRD.out _ _ _ _ (St.front (L1 := [_, _]) (St.front (L1 := [_, _]) hN5)) (.tail _ (.tail _ (.head _)))) (by omega) (by omega)).mono ?_
          rintro _ w4 ⟨rfl, wv9, h4⟩
          have hN6 := h4
          clear h4 hN5
          refine hK.out _ _ ?_ (fun hHeld => ?_)
          · exact ⟨ldS [_, _, _, _] hN6 rfl, ldS [_, _, _, _] hN6 rfl, ldS [_, _, _, _] hN6 rfl, ldS [_, _, _, _] hN6 rfl⟩
          clear hK K
          (try simp only [Act.put, List.setIfInBounds_toArray, List.set_cons_zero, List.set_cons_succ])
          refine wpAnyH_ready (rs := [14]) (by kernel_rfl) (by simp) ?_
          refine (AllReadyH.cons (o := ⟨some 54, _, _, _, _, _⟩) rfl (fun K hK => ?_) AllReadyH.nil)
          rw [if_pos (by rfl)]
          go_simp
          go_at_call 40
          refine (wnum_k (St.front (L1 := [_]) (St.front (L1 := [_]) hN6)) (x.2.kind) 1 1 (by rfl) (by decide) (by omega) HBX.out.kind.r64).mono ?_
          rintro _ w4 ⟨rfl, wv9, h4⟩
          have hN7 := h4
          clear h4 hN6
          refine hK.out _ _ ?_ (fun hHeld => ?_)
          · exact ⟨ldS [_, _, _, _] hN7 rfl, ldS [_, _, _, _] hN7 rfl, ldS [_, _, _, _] hN7 rfl, ldS [_, _, _, _] hN7 rfl⟩
          clear hK K
          (try simp only [Act.put, List.setIfInBounds_toArray, List.set_cons_zero, List.set_cons_succ])
          refine wpAnyH_ready (rs := [17]) (by kernel_rfl) (by simp) ?_
          refine (AllReadyH.cons (o := ⟨some 57, _, _, _, _, _⟩) rfl (fun K hK => ?_) AllReadyH.nil)
          rw [if_pos (by rfl)]
          go_simp
          go_at_call 40
          refine (wnum_k (St.front (L1 := [_]) (St.front (L1 := [_]) hN7)) (x.2.size) 1 1 (by rfl) (by decide) (by omega) HBX.out.size.r64).mono ?_
          rintro _ w4 ⟨rfl, wv9, h4⟩
          have hN8 := h4
          clear h4 hN7
          refine hK.out _ _ ?_ (fun hHeld => ?_)
          · exact ⟨ldS [_, _, _, _] hN8 rfl, ldS [_, _, _, _] hN8 rfl, ldS [_, _, _, _] hN8 rfl, ldS [_, _, _, _] hN8 rfl⟩
          clear hK K
          (try simp only [Act.put, List.setIfInBounds_toArray, List.set_cons_zero, List.set_cons_succ])
          refine wpAnyH_ready (rs := [19]) (by kernel_rfl) (by simp) ?_
          refine (AllReadyH.cons (o := ⟨some 59, _, _, _, _, _⟩) rfl (fun K hK => ?_) AllReadyH.nil)
          rw [if_pos (by rfl)]
          go_simp
          go_at_call 42
          refine (wraw_w (St.front (L1 := [_]) (St.front (L1 := [_]) hN8)) (Rd.row (St.front (L1 := [_]) (St.front (L1 := [_]) hN8)) (.tail _ (.tail _ (.tail _ (.head _))))) (by omega) (by omega)).mono ?_
          rintro _ w4 ⟨rfl, wv9, h4⟩
          have hN9 := h4
          clear h4 hN8
          refine hK.out _ _ ?_ (fun hHeld => ?_)
          · exact ⟨ldS [_, _, _, _] hN9 rfl, ldS [_, _, _, _] hN9 rfl, ldS [_, _, _, _] hN9 rfl, ldS [_, _, _, _] hN9 rfl⟩
          clear hK K
          (try simp only [Act.put, List.setIfInBounds_toArray, List.set_cons_zero, List.set_cons_succ])
          refine wpAnyH_done (by kernel_rfl) ?_ _
          clear hHeld
          go_wp2_with (first | go_big_skip | go_big_guard | fail)
          have hZ := hN9.drew
          clear hN9
          refine wp_region_held_drew (S := (fun w' => (loadVarH 3 ⟨gx, 39, none⟩).run Try.prog w' = .ok (.int .i64 x.2.made) w' ∧ (loadVarH 3 ⟨gx, 40, none⟩).run Try.prog w' = .ok (.int .i64 x.2.own) w' ∧ (loadVarH 3 ⟨gx, 41, none⟩).run Try.prog w' = .ok (.int .i64 x.2.origin) w' ∧ (loadVarH 3 ⟨gx, 42, none⟩).run Try.prog w' = .ok (.int .i64 x.2.quota) w' ∧ (loadVarH 3 ⟨gx, 43, none⟩).run Try.prog w' = .ok (.int .i64 x.2.reserve) w')) (by kernel_rfl) (by exact ⟨ldS [_, _, _, _] hZ (cellsR_39 HLR.out), ldS [_, _, _, _] hZ (cellsR_40 HLR.out), ldS [_, _, _, _] hZ (cellsR_41 HLR.out), ldS [_, _, _, _] hZ (cellsR_42 HLR.out), ldS [_, _, _, _] hZ (cellsR_43 HLR.out)⟩) (fun hHeld => ?_)
          refine tk 0 60 ?_
          (try simp only [Act.put, List.setIfInBounds_toArray, List.set_cons_zero, List.set_cons_succ])
          refine tk 1 61 ?_
          (try simp only [Act.put, List.setIfInBounds_toArray, List.set_cons_zero, List.set_cons_succ])
          refine tk 4 64 ?_
          (try simp only [Act.put, List.setIfInBounds_toArray, List.set_cons_zero, List.set_cons_succ])
          refine tk 7 67 ?_
          (try simp only [Act.put, List.setIfInBounds_toArray, List.set_cons_zero, List.set_cons_succ])
          refine tk 10 70 ?_
          (try simp only [Act.put, List.setIfInBounds_toArray, List.set_cons_zero, List.set_cons_succ])
          refine tk 13 73 ?_
          (try simp only [Act.put, List.setIfInBounds_toArray, List.set_cons_zero, List.set_cons_succ])
          refine tk 2 62 ?_
          (try simp only [Act.put, List.setIfInBounds_toArray, List.set_cons_zero, List.set_cons_succ])
          refine tk 5 65 ?_
          (try simp only [Act.put, List.setIfInBounds_toArray, List.set_cons_zero, List.set_cons_succ])
          refine tk 8 68 ?_
          (try simp only [Act.put, List.setIfInBounds_toArray, List.set_cons_zero, List.set_cons_succ])
          refine tk 11 71 ?_
          (try simp only [Act.put, List.setIfInBounds_toArray, List.set_cons_zero, List.set_cons_succ])
          refine tk 14 74 ?_
          (try simp only [Act.put, List.setIfInBounds_toArray, List.set_cons_zero, List.set_cons_succ])
          refine wpAnyH_ready (rs := [3]) (by kernel_rfl) (by simp) ?_
          refine (AllReadyH.cons (o := ⟨some 63, _, _, _, _, _⟩) rfl (fun K hK => ?_) AllReadyH.nil)
          rw [if_pos (by rfl)]
          go_simp
          go_at_call 40
          refine (wnum_k (St.front (L1 := [_]) (St.front (L1 := [_]) hZ)) (x.2.made) 4 4 (by rfl) (by decide) (by omega) HBX.out.made.r64).mono ?_
          rintro _ w4 ⟨rfl, wv9, h4⟩
          have hN10 := h4
          clear h4 hZ
          refine hK.out _ _ ?_ (fun hHeld => ?_)
          · exact ⟨ldS [_, _, _, _] hN10 (cellsR_39 HLR.out), ldS [_, _, _, _] hN10 (cellsR_40 HLR.out), ldS [_, _, _, _] hN10 (cellsR_41 HLR.out), ldS [_, _, _, _] hN10 (cellsR_42 HLR.out), ldS [_, _, _, _] hN10 (cellsR_43 HLR.out)⟩
          clear hK K
          (try simp only [Act.put, List.setIfInBounds_toArray, List.set_cons_zero, List.set_cons_succ])
          refine wpAnyH_ready (rs := [6]) (by kernel_rfl) (by simp) ?_
          refine (AllReadyH.cons (o := ⟨some 66, _, _, _, _, _⟩) rfl (fun K hK => ?_) AllReadyH.nil)
          rw [if_pos (by rfl)]
          go_simp
          go_at_call 40
          refine (wnum_k (St.front (L1 := [_]) (St.front (L1 := [_]) hN10)) (x.2.own) 4 4 (by rfl) (by decide) (by omega) HBX.out.own.r64).mono ?_
          rintro _ w4 ⟨rfl, wv9, h4⟩
          have hN11 := h4
          clear h4 hN10
          refine hK.out _ _ ?_ (fun hHeld => ?_)
          · exact ⟨ldS [_, _, _, _] hN11 (cellsR_39 HLR.out), ldS [_, _, _, _] hN11 (cellsR_40 HLR.out), ldS [_, _, _, _] hN11 (cellsR_41 HLR.out), ldS [_, _, _, _] hN11 (cellsR_42 HLR.out), ldS [_, _, _, _] hN11 (cellsR_43 HLR.out)⟩
          clear hK K
          (try simp only [Act.put, List.setIfInBounds_toArray, List.set_cons_zero, List.set_cons_succ])
          refine wpAnyH_ready (rs := [9]) (by kernel_rfl) (by simp) ?_
          refine (AllReadyH.cons (o := ⟨some 69, _, _, _, _, _⟩) rfl (fun K hK => ?_) AllReadyH.nil)
          rw [if_pos (by rfl)]
          go_simp
          go_at_call 40
          refine (wnum_k (St.front (L1 := [_]) (St.front (L1 := [_]) hN11)) (x.2.origin) 4 4 (by rfl) (by decide) (by omega) HBX.out.origin.r64).mono ?_
          rintro _ w4 ⟨rfl, wv9, h4⟩
          have hN12 := h4
          clear h4 hN11
          refine hK.out _ _ ?_ (fun hHeld => ?_)
          · exact ⟨ldS [_, _, _, _] hN12 (cellsR_39 HLR.out), ldS [_, _, _, _] hN12 (cellsR_40 HLR.out), ldS [_, _, _, _] hN12 (cellsR_41 HLR.out), ldS [_, _, _, _] hN12 (cellsR_42 HLR.out), ldS [_, _, _, _] hN12 (cellsR_43 HLR.out)⟩
          clear hK K
          (try simp only [Act.put, List.setIfInBounds_toArray, List.set_cons_zero, List.set_cons_succ])
          refine wpAnyH_ready (rs := [12]) (by kernel_rfl) (by simp) ?_
          refine (AllReadyH.cons (o := ⟨some 72, _, _, _, _, _⟩) rfl (fun K hK => ?_) AllReadyH.nil)
          rw [if_pos (by rfl)]
          go_simp
          go_at_call 40
          refine (wnum_k (St.front (L1 := [_]) (St.front (L1 := [_]) hN12)) (x.2.quota) 1 1 (by rfl) (by decide) (by omega) HBX.out.quota.r64).mono ?_
          rintro _ w4 ⟨rfl, wv9, h4⟩
          have hN13 := h4
          clear h4 hN12
          refine hK.out _ _ ?_ (fun hHeld => ?_)
          · exact ⟨ldS [_, _, _, _] hN13 (cellsR_39 HLR.out), ldS [_, _, _, _] hN13 (cellsR_40 HLR.out), ldS [_, _, _, _] hN13 (cellsR_41 HLR.out), ldS [_, _, _, _] hN13 (cellsR_42 HLR.out), ldS [_, _, _, _] hN13 (cellsR_43 HLR.out)⟩
          clear hK K
          (try simp only [Act.put, List.setIfInBounds_toArray, List.set_cons_zero, List.set_cons_succ])
          refine wpAnyH_ready (rs := [15]) (by kernel_rfl) (by simp) ?_
          refine (AllReadyH.cons (o := ⟨some 75, _, _, _, _, _⟩) rfl (fun K hK => ?_) AllReadyH.nil)
          rw [if_pos (by rfl)]
          go_simp
          go_at_call 40
          refine (wnum_k (St.front (L1 := [_]) (St.front (L1 := [_]) hN13)) (x.2.reserve) 1 1 (by rfl) (by decide) (by omega) HBX.out.reserve.r64).mono ?_
          rintro _ w4 ⟨rfl, wv9, h4⟩
          have hN14 := h4
          clear h4 hN13
          refine hK.out _ _ ?_ (fun hHeld => ?_)
          · exact ⟨ldS [_, _, _, _] hN14 (cellsR_39 HLR.out), ldS [_, _, _, _] hN14 (cellsR_40 HLR.out), ldS [_, _, _, _] hN14 (cellsR_41 HLR.out), ldS [_, _, _, _] hN14 (cellsR_42 HLR.out), ldS [_, _, _, _] hN14 (cellsR_43 HLR.out)⟩
          clear hK K
          (try simp only [Act.put, List.setIfInBounds_toArray, List.set_cons_zero, List.set_cons_succ])
          refine wpAnyH_done (by kernel_rfl) ?_ _
          clear hHeld
          have h5 := St.sub (L' := [_, _, _]) hN14 (List.Sublist.cons_cons _ (List.Sublist.cons_cons _ (List.Sublist.cons _ (List.Sublist.cons _ (List.Sublist.cons _ (List.Sublist.refl _))))))
          clear hN14
          go_wp2_with (first | go_big_skip | go_big_guard | fail)
          go_roundw
          case rel =>
            refine ⟨j + 1, ?_, ?_, by omega, rfl, ?_, ?_⟩
            rotate_left 3
            · rw [flat_step RC.bytes (map_at HXJ.out), RC.bytes]
              simp only [List.append_assoc, List.append_nil] at h5 ⊢
              exact h5
            · omega
          case measure => simp [intOf]; omega
        · rw [if_pos (by rfl)]
          refine ow_of_wl (ops := #[]) (by rfl) ?_
          refine wl_convSB (l := x.2.name) hN3 rfl rfl rfl (by omega) ?_
          intro bv mk gz zs w5 hN15 HRF
          have HRD := hid HRF
          clear HRF hN3
          refine q0_nil ?_
          refine hK.out _ _ ?_ (fun hHeld => ?_)
          · exact ⟨ldS [_, _, _, _] hN15 rfl, ldS [_, _, _, _] hN15 rfl, ldS [_, _, _, _] hN15 rfl, ldS [_, _, _, _] hN15 rfl⟩
          clear hK K
          (try simp only [Act.put, List.setIfInBounds_toArray, List.set_cons_zero, List.set_cons_succ])
          refine wpAnyH_ready (rs := [7]) (by kernel_rfl) (by simp) ?_
          refine (AllReadyH.cons (o := ⟨some 47, _, _, _, _, _⟩) rfl (fun K hK => ?_) AllReadyH.nil)
          rw [if_pos (by rfl)]
          go_simp
          go_at_call 40
          refine (wnum_k (St.front (L1 := [_, _]) (St.front (L1 := [_, _]) hN15)) ((x.2.name.length : Int)) 1 1 (by rfl) (by decide) (by omega) HNM.out).mono ?_
          rintro _ w4 ⟨rfl, wv9, h4⟩
          have hN16 := h4
          clear h4 hN15
          refine hK.out _ _ ?_ (fun hHeld => ?_)
          · exact ⟨ldS [_, _, _, _] hN16 rfl, ldS [_, _, _, _] hN16 rfl, ldS [_, _, _, _] hN16 rfl, ldS [_, _, _, _] hN16 rfl⟩
          clear hK K
          (try simp only [Act.put, List.setIfInBounds_toArray, List.set_cons_zero, List.set_cons_succ])
          refine wpAnyH_ready (rs := [11]) (by kernel_rfl) (by simp) ?_
          refine (AllReadyH.cons (o := ⟨some 51, _, _, _, _, _⟩) rfl (fun K hK => ?_) AllReadyH.nil)
          rw [if_pos (by rfl)]
          go_simp
          go_at_call 42
          refine (wraw_w (St.front (L1 := [_]) (St.front (L1 := [_]) hN16)) (HRD.out _ _ _ _ (St.front (L1 := [_]) (St.front (L1 := [_]) hN16)) (.tail _ (.tail _ (.head _)))) (by omega) (by omega)).mono ?_
          rintro _ w4 ⟨rfl, wv9, h4⟩
          have hN17 := h4
          clear h4 hN16
          refine hK.out _ _ ?_ (fun hHeld => ?_)
          · exact ⟨ldS [_, _, _, _] hN17 rfl, ldS [_, _, _, _] hN17 rfl, ldS [_, _, _, _] hN17 rfl, ldS [_, _, _, _] hN17 rfl⟩
          clear hK K
          (try simp only [Act.put, List.setIfInBounds_toArray, List.set_cons_zero, List.set_cons_succ])
          refine wpAnyH_ready (rs := [14]) (by kernel_rfl) (by simp) ?_
          refine (AllReadyH.cons (o := ⟨some 54, _, _, _, _, _⟩) rfl (fun K hK => ?_) AllReadyH.nil)
          rw [if_pos (by rfl)]
          go_simp
          go_at_call 40
          refine (wnum_k (St.front (L1 := [_]) (St.front (L1 := [_]) hN17)) (x.2.kind) 1 1 (by rfl) (by decide) (by omega) HBX.out.kind.r64).mono ?_
          rintro _ w4 ⟨rfl, wv9, h4⟩
          have hN18 := h4
          clear h4 hN17
          refine hK.out _ _ ?_ (fun hHeld => ?_)
          · exact ⟨ldS [_, _, _, _] hN18 rfl, ldS [_, _, _, _] hN18 rfl, ldS [_, _, _, _] hN18 rfl, ldS [_, _, _, _] hN18 rfl⟩
          clear hK K
          (try simp only [Act.put, List.setIfInBounds_toArray, List.set_cons_zero, List.set_cons_succ])
          refine wpAnyH_ready (rs := [17]) (by kernel_rfl) (by simp) ?_
          refine (AllReadyH.cons (o := ⟨some 57, _, _, _, _, _⟩) rfl (fun K hK => ?_) AllReadyH.nil)
          rw [if_pos (by rfl)]
          go_simp
          go_at_call 40
          refine (wnum_k (St.front (L1 := [_]) (St.front (L1 := [_]) hN18)) (x.2.size) 1 1 (by rfl) (by decide) (by omega) HBX.out.size.r64).mono ?_
          rintro _ w4 ⟨rfl, wv9, h4⟩
          have hN19 := h4
          clear h4 hN18
          refine hK.out _ _ ?_ (fun hHeld => ?_)
          · exact ⟨ldS [_, _, _, _] hN19 rfl, ldS [_, _, _, _] hN19 rfl, ldS [_, _, _, _] hN19 rfl, ldS [_, _, _, _] hN19 rfl⟩
          clear hK K
          (try simp only [Act.put, List.setIfInBounds_toArray, List.set_cons_zero, List.set_cons_succ])
          refine wpAnyH_ready (rs := [19]) (by kernel_rfl) (by simp) ?_
          refine (AllReadyH.cons (o := ⟨some 59, _, _, _, _, _⟩) rfl (fun K hK => ?_) AllReadyH.nil)
          rw [if_pos (by rfl)]
          go_simp
          go_at_call 42
          refine (wraw_w (St.front (L1 := [_]) (St.front (L1 := [_]) hN19)) (Rd.row (St.front (L1 := [_]) (St.front (L1 := [_]) hN19)) (.tail _ (.tail _ (.tail _ (.head _))))) (by omega) (by omega)).mono ?_
          rintro _ w4 ⟨rfl, wv9, h4⟩
          have hN20 := h4
          clear h4 hN19
          refine hK.out _ _ ?_ (fun hHeld => ?_)
          · exact ⟨ldS [_, _, _, _] hN20 rfl, ldS [_, _, _, _] hN20 rfl, ldS [_, _, _, _] hN20 rfl, ldS [_, _, _, _] hN20 rfl⟩
          clear hK K
          (try simp only [Act.put, List.setIfInBounds_toArray, List.set_cons_zero, List.set_cons_succ])
          refine wpAnyH_done (by kernel_rfl) ?_ _
          clear hHeld
          go_wp2_with (first | go_big_skip | go_big_guard | fail)
          have hZ := hN20.drew
          clear hN20
          refine wp_region_held_drew (S := (fun w' => (loadVarH 3 ⟨gx, 39, none⟩).run Try.prog w' = .ok (.int .i64 x.2.made) w' ∧ (loadVarH 3 ⟨gx, 40, none⟩).run Try.prog w' = .ok (.int .i64 x.2.own) w' ∧ (loadVarH 3 ⟨gx, 41, none⟩).run Try.prog w' = .ok (.int .i64 x.2.origin) w' ∧ (loadVarH 3 ⟨gx, 42, none⟩).run Try.prog w' = .ok (.int .i64 x.2.quota) w' ∧ (loadVarH 3 ⟨gx, 43, none⟩).run Try.prog w' = .ok (.int .i64 x.2.reserve) w')) (by kernel_rfl) (by exact ⟨ldS [_, _, _, _] hZ (cellsR_39 HLR.out), ldS [_, _, _, _] hZ (cellsR_40 HLR.out), ldS [_, _, _, _] hZ (cellsR_41 HLR.out), ldS [_, _, _, _] hZ (cellsR_42 HLR.out), ldS [_, _, _, _] hZ (cellsR_43 HLR.out)⟩) (fun hHeld => ?_)
          refine tk 0 60 ?_
          (try simp only [Act.put, List.setIfInBounds_toArray, List.set_cons_zero, List.set_cons_succ])
          refine tk 1 61 ?_
          (try simp only [Act.put, List.setIfInBounds_toArray, List.set_cons_zero, List.set_cons_succ])
          refine tk 4 64 ?_
          (try simp only [Act.put, List.setIfInBounds_toArray, List.set_cons_zero, List.set_cons_succ])
          refine tk 7 67 ?_
          (try simp only [Act.put, List.setIfInBounds_toArray, List.set_cons_zero, List.set_cons_succ])
          refine tk 10 70 ?_
          (try simp only [Act.put, List.setIfInBounds_toArray, List.set_cons_zero, List.set_cons_succ])
          refine tk 13 73 ?_
          (try simp only [Act.put, List.setIfInBounds_toArray, List.set_cons_zero, List.set_cons_succ])
          refine tk 2 62 ?_
          (try simp only [Act.put, List.setIfInBounds_toArray, List.set_cons_zero, List.set_cons_succ])
          refine tk 5 65 ?_
          (try simp only [Act.put, List.setIfInBounds_toArray, List.set_cons_zero, List.set_cons_succ])
          refine tk 8 68 ?_
          (try simp only [Act.put, List.setIfInBounds_toArray, List.set_cons_zero, List.set_cons_succ])
          refine tk 11 71 ?_
          (try simp only [Act.put, List.setIfInBounds_toArray, List.set_cons_zero, List.set_cons_succ])
          refine tk 14 74 ?_
          (try simp only [Act.put, List.setIfInBounds_toArray, List.set_cons_zero, List.set_cons_succ])
          refine wpAnyH_ready (rs := [3]) (by kernel_rfl) (by simp) ?_
          refine (AllReadyH.cons (o := ⟨some 63, _, _, _, _, _⟩) rfl (fun K hK => ?_) AllReadyH.nil)
          rw [if_pos (by rfl)]
          go_simp
          go_at_call 40
          refine (wnum_k (St.front (L1 := [_]) (St.front (L1 := [_]) hZ)) (x.2.made) 4 4 (by rfl) (by decide) (by omega) HBX.out.made.r64).mono ?_
          rintro _ w4 ⟨rfl, wv9, h4⟩
          have hN21 := h4
          clear h4 hZ
          refine hK.out _ _ ?_ (fun hHeld => ?_)
          · exact ⟨ldS [_, _, _, _] hN21 (cellsR_39 HLR.out), ldS [_, _, _, _] hN21 (cellsR_40 HLR.out), ldS [_, _, _, _] hN21 (cellsR_41 HLR.out), ldS [_, _, _, _] hN21 (cellsR_42 HLR.out), ldS [_, _, _, _] hN21 (cellsR_43 HLR.out)⟩
          clear hK K
          (try simp only [Act.put, List.setIfInBounds_toArray, List.set_cons_zero, List.set_cons_succ])
          refine wpAnyH_ready (rs := [6]) (by kernel_rfl) (by simp) ?_
          refine (AllReadyH.cons (o := ⟨some 66, _, _, _, _, _⟩) rfl (fun K hK => ?_) AllReadyH.nil)
          rw [if_pos (by rfl)]
          go_simp
          go_at_call 40
          refine (wnum_k (St.front (L1 := [_]) (St.front (L1 := [_]) hN21)) (x.2.own) 4 4 (by rfl) (by decide) (by omega) HBX.out.own.r64).mono ?_
          rintro _ w4 ⟨rfl, wv9, h4⟩
          have hN22 := h4
          clear h4 hN21
          refine hK.out _ _ ?_ (fun hHeld => ?_)
          · exact ⟨ldS [_, _, _, _] hN22 (cellsR_39 HLR.out), ldS [_, _, _, _] hN22 (cellsR_40 HLR.out), ldS [_, _, _, _] hN22 (cellsR_41 HLR.out), ldS [_, _, _, _] hN22 (cellsR_42 HLR.out), ldS [_, _, _, _] hN22 (cellsR_43 HLR.out)⟩
          clear hK K
          (try simp only [Act.put, List.setIfInBounds_toArray, List.set_cons_zero, List.set_cons_succ])
          refine wpAnyH_ready (rs := [9]) (by kernel_rfl) (by simp) ?_
          refine (AllReadyH.cons (o := ⟨some 69, _, _, _, _, _⟩) rfl (fun K hK => ?_) AllReadyH.nil)
          rw [if_pos (by rfl)]
          go_simp
          go_at_call 40
          refine (wnum_k (St.front (L1 := [_]) (St.front (L1 := [_]) hN22)) (x.2.origin) 4 4 (by rfl) (by decide) (by omega) HBX.out.origin.r64).mono ?_
          rintro _ w4 ⟨rfl, wv9, h4⟩
          have hN23 := h4
          clear h4 hN22
          refine hK.out _ _ ?_ (fun hHeld => ?_)
          · exact ⟨ldS [_, _, _, _] hN23 (cellsR_39 HLR.out), ldS [_, _, _, _] hN23 (cellsR_40 HLR.out), ldS [_, _, _, _] hN23 (cellsR_41 HLR.out), ldS [_, _, _, _] hN23 (cellsR_42 HLR.out), ldS [_, _, _, _] hN23 (cellsR_43 HLR.out)⟩
          clear hK K
          (try simp only [Act.put, List.setIfInBounds_toArray, List.set_cons_zero, List.set_cons_succ])
          refine wpAnyH_ready (rs := [12]) (by kernel_rfl) (by simp) ?_
          refine (AllReadyH.cons (o := ⟨some 72, _, _, _, _, _⟩) rfl (fun K hK => ?_) AllReadyH.nil)
          rw [if_pos (by rfl)]
          go_simp
          go_at_call 40
          refine (wnum_k (St.front (L1 := [_]) (St.front (L1 := [_]) hN23)) (x.2.quota) 1 1 (by rfl) (by decide) (by omega) HBX.out.quota.r64).mono ?_
          rintro _ w4 ⟨rfl, wv9, h4⟩
          have hN24 := h4
          clear h4 hN23
          refine hK.out _ _ ?_ (fun hHeld => ?_)
          · exact ⟨ldS [_, _, _, _] hN24 (cellsR_39 HLR.out), ldS [_, _, _, _] hN24 (cellsR_40 HLR.out), ldS [_, _, _, _] hN24 (cellsR_41 HLR.out), ldS [_, _, _, _] hN24 (cellsR_42 HLR.out), ldS [_, _, _, _] hN24 (cellsR_43 HLR.out)⟩
          clear hK K
          (try simp only [Act.put, List.setIfInBounds_toArray, List.set_cons_zero, List.set_cons_succ])
          refine wpAnyH_ready (rs := [15]) (by kernel_rfl) (by simp) ?_
          refine (AllReadyH.cons (o := ⟨some 75, _, _, _, _, _⟩) rfl (fun K hK => ?_) AllReadyH.nil)
          rw [if_pos (by rfl)]
          go_simp
          go_at_call 40
          refine (wnum_k (St.front (L1 := [_]) (St.front (L1 := [_]) hN24)) (x.2.reserve) 1 1 (by rfl) (by decide) (by omega) HBX.out.reserve.r64).mono ?_
          rintro _ w4 ⟨rfl, wv9, h4⟩
          have hN25 := h4
          clear h4 hN24
          refine hK.out _ _ ?_ (fun hHeld => ?_)
          · exact ⟨ldS [_, _, _, _] hN25 (cellsR_39 HLR.out), ldS [_, _, _, _] hN25 (cellsR_40 HLR.out), ldS [_, _, _, _] hN25 (cellsR_41 HLR.out), ldS [_, _, _, _] hN25 (cellsR_42 HLR.out), ldS [_, _, _, _] hN25 (cellsR_43 HLR.out)⟩
          clear hK K
          (try simp only [Act.put, List.setIfInBounds_toArray, List.set_cons_zero, List.set_cons_succ])
          refine wpAnyH_done (by kernel_rfl) ?_ _
          clear hHeld
          have h5 := St.sub (L' := [_, _, _]) hN25 (List.Sublist.cons_cons _ (List.Sublist.cons_cons _ (List.Sublist.cons _ (List.Sublist.cons _ (List.Sublist.cons _ (List.Sublist.refl _))))))
          clear hN25
          go_wp2_with (first | go_big_skip | go_big_guard | fail)
          go_roundw
          case rel =>
            refine ⟨j + 1, ?_, ?_, by omega, rfl, ?_, ?_⟩
            rotate_left 3
            · rw [flat_step RC.bytes (map_at HXJ.out), RC.bytes]
              simp only [List.append_assoc, List.append_nil] at h5 ⊢
              exact h5
            · omega
          case measure => simp [intOf]; omega
      · rw [if_pos (by rfl)]
        refine ow_of_wl (ops := #[]) (by rfl) ?_
        refine wl_convSB (l := x.2.name) hX rfl rfl rfl (by omega) ?_
        intro bv mk gz zs w5 hN26 HRF
        have HRD := hid HRF
        clear HRF hX
        refine q0_nil ?_
        refine hK.out _ _ ?_ (fun hHeld => ?_)
        · exact ⟨ldS [_, _] hN26 rfl, ldS [_, _] hN26 rfl, ldS [_, _] hN26 rfl, ldS [_, _] hN26 rfl⟩
        clear hK K
        (try simp only [Act.put, List.setIfInBounds_toArray, List.set_cons_zero, List.set_cons_succ])
        refine wpAnyH_ready (rs := [3]) (by kernel_rfl) (by simp) ?_
        refine (AllReadyH.cons (o := ⟨some 43, _, _, _, _, _⟩) rfl (fun K hK => ?_) AllReadyH.nil)
        rw [if_pos (by rfl)]
        go_simp
        go_at_call 40
        refine (wnum_k (St.front (L1 := [_, _, _, _]) (St.front (L1 := [_, _, _, _]) hN26)) (x.2.id) 4 4 (by rfl) (by decide) (by omega) HBX.out.id.r64).mono ?_
        rintro _ w4 ⟨rfl, wv9, h4⟩
        have hN27 := h4
        clear h4 hN26
        refine hK.out _ _ ?_ (fun hHeld => ?_)
        · exact ⟨ldS [_, _, _, _] hN27 rfl, ldS [_, _, _, _] hN27 rfl, ldS [_, _, _, _] hN27 rfl, ldS [_, _, _, _] hN27 rfl⟩
        clear hK K
        (try simp only [Act.put, List.setIfInBounds_toArray, List.set_cons_zero, List.set_cons_succ])
        refine wpAnyH_ready (rs := [7]) (by kernel_rfl) (by simp) ?_
        refine (AllReadyH.cons (o := ⟨some 47, _, _, _, _, _⟩) rfl (fun K hK => ?_) AllReadyH.nil)
        rw [if_pos (by rfl)]
        go_simp
        go_at_call 40
        refine (wnum_k (St.front (L1 := [_]) (St.front (L1 := [_]) hN27)) ((x.2.name.length : Int)) 1 1 (by rfl) (by decide) (by omega) HNM.out).mono ?_
        rintro _ w4 ⟨rfl, wv9, h4⟩
        have hN28 := h4
        clear h4 hN27
        refine hK.out _ _ ?_ (fun hHeld => ?_)
        · exact ⟨ldS [_, _, _, _] hN28 rfl, ldS [_, _, _, _] hN28 rfl, ldS [_, _, _, _] hN28 rfl, ldS [_, _, _, _] hN28 rfl⟩
        clear hK K
        (try simp only [Act.put, List.setIfInBounds_toArray, List.set_cons_zero, List.set_cons_succ])
        refine wpAnyH_ready (rs := [11]) (by kernel_rfl) (by simp) ?_
        refine (AllReadyH.cons (o := ⟨some 51, _, _, _, _, _⟩) rfl (fun K hK => ?_) AllReadyH.nil)
        rw [if_pos (by rfl)]
        go_simp
        go_at_call 42
        refine (wraw_w (St.front (L1 := [_]) (St.front (L1 := [_]) hN28)) (HRD.out _ _ _ _ (St.front (L1 := [_]) (St.front (L1 := [_]) hN28)) (.tail _ (.tail _ (.head _)))) (by omega) (by omega)).mono ?_
        rintro _ w4 ⟨rfl, wv9, h4⟩
        have hN29 := h4
        clear h4 hN28
        refine hK.out _ _ ?_ (fun hHeld => ?_)
        · exact ⟨ldS [_, _, _, _] hN29 rfl, ldS [_, _, _, _] hN29 rfl, ldS [_, _, _, _] hN29 rfl, ldS [_, _, _, _] hN29 rfl⟩
        clear hK K
        (try simp only [Act.put, List.setIfInBounds_toArray, List.set_cons_zero, List.set_cons_succ])
        refine wpAnyH_ready (rs := [14]) (by kernel_rfl) (by simp) ?_
        refine (AllReadyH.cons (o := ⟨some 54, _, _, _, _, _⟩) rfl (fun K hK => ?_) AllReadyH.nil)
        rw [if_pos (by rfl)]
        go_simp
        go_at_call 40
        refine (wnum_k (St.front (L1 := [_]) (St.front (L1 := [_]) hN29)) (x.2.kind) 1 1 (by rfl) (by decide) (by omega) HBX.out.kind.r64).mono ?_
        rintro _ w4 ⟨rfl, wv9, h4⟩
        have hN30 := h4
        clear h4 hN29
        refine hK.out _ _ ?_ (fun hHeld => ?_)
        · exact ⟨ldS [_, _, _, _] hN30 rfl, ldS [_, _, _, _] hN30 rfl, ldS [_, _, _, _] hN30 rfl, ldS [_, _, _, _] hN30 rfl⟩
        clear hK K
        (try simp only [Act.put, List.setIfInBounds_toArray, List.set_cons_zero, List.set_cons_succ])
        refine wpAnyH_ready (rs := [17]) (by kernel_rfl) (by simp) ?_
        refine (AllReadyH.cons (o := ⟨some 57, _, _, _, _, _⟩) rfl (fun K hK => ?_) AllReadyH.nil)
        rw [if_pos (by rfl)]
        go_simp
        go_at_call 40
        refine (wnum_k (St.front (L1 := [_]) (St.front (L1 := [_]) hN30)) (x.2.size) 1 1 (by rfl) (by decide) (by omega) HBX.out.size.r64).mono ?_
        rintro _ w4 ⟨rfl, wv9, h4⟩
        have hN31 := h4
        clear h4 hN30
        refine hK.out _ _ ?_ (fun hHeld => ?_)
        · exact ⟨ldS [_, _, _, _] hN31 rfl, ldS [_, _, _, _] hN31 rfl, ldS [_, _, _, _] hN31 rfl, ldS [_, _, _, _] hN31 rfl⟩
        clear hK K
        (try simp only [Act.put, List.setIfInBounds_toArray, List.set_cons_zero, List.set_cons_succ])
        refine wpAnyH_ready (rs := [19]) (by kernel_rfl) (by simp) ?_
        refine (AllReadyH.cons (o := ⟨some 59, _, _, _, _, _⟩) rfl (fun K hK => ?_) AllReadyH.nil)
        rw [if_pos (by rfl)]
        go_simp
        go_at_call 42
        refine (wraw_w (St.front (L1 := [_]) (St.front (L1 := [_]) hN31)) (Rd.row (St.front (L1 := [_]) (St.front (L1 := [_]) hN31)) (.tail _ (.tail _ (.tail _ (.head _))))) (by omega) (by omega)).mono ?_
        rintro _ w4 ⟨rfl, wv9, h4⟩
        have hN32 := h4
        clear h4 hN31
        refine hK.out _ _ ?_ (fun hHeld => ?_)
        · exact ⟨ldS [_, _, _, _] hN32 rfl, ldS [_, _, _, _] hN32 rfl, ldS [_, _, _, _] hN32 rfl, ldS [_, _, _, _] hN32 rfl⟩
        clear hK K
        (try simp only [Act.put, List.setIfInBounds_toArray, List.set_cons_zero, List.set_cons_succ])
        refine wpAnyH_done (by kernel_rfl) ?_ _
        clear hHeld
        go_wp2_with (first | go_big_skip | go_big_guard | fail)
        have hZ := hN32.drew
        clear hN32
        refine wp_region_held_drew (S := (fun w' => (loadVarH 3 ⟨gx, 39, none⟩).run Try.prog w' = .ok (.int .i64 x.2.made) w' ∧ (loadVarH 3 ⟨gx, 40, none⟩).run Try.prog w' = .ok (.int .i64 x.2.own) w' ∧ (loadVarH 3 ⟨gx, 41, none⟩).run Try.prog w' = .ok (.int .i64 x.2.origin) w' ∧ (loadVarH 3 ⟨gx, 42, none⟩).run Try.prog w' = .ok (.int .i64 x.2.quota) w' ∧ (loadVarH 3 ⟨gx, 43, none⟩).run Try.prog w' = .ok (.int .i64 x.2.reserve) w')) (by kernel_rfl) (by exact ⟨ldS [_, _, _, _] hZ (cellsR_39 HLR.out), ldS [_, _, _, _] hZ (cellsR_40 HLR.out), ldS [_, _, _, _] hZ (cellsR_41 HLR.out), ldS [_, _, _, _] hZ (cellsR_42 HLR.out), ldS [_, _, _, _] hZ (cellsR_43 HLR.out)⟩) (fun hHeld => ?_)
        refine tk 0 60 ?_
        (try simp only [Act.put, List.setIfInBounds_toArray, List.set_cons_zero, List.set_cons_succ])
        refine tk 1 61 ?_
        (try simp only [Act.put, List.setIfInBounds_toArray, List.set_cons_zero, List.set_cons_succ])
        refine tk 4 64 ?_
        (try simp only [Act.put, List.setIfInBounds_toArray, List.set_cons_zero, List.set_cons_succ])
        refine tk 7 67 ?_
        (try simp only [Act.put, List.setIfInBounds_toArray, List.set_cons_zero, List.set_cons_succ])
        refine tk 10 70 ?_
        (try simp only [Act.put, List.setIfInBounds_toArray, List.set_cons_zero, List.set_cons_succ])
        refine tk 13 73 ?_
        (try simp only [Act.put, List.setIfInBounds_toArray, List.set_cons_zero, List.set_cons_succ])
        refine tk 2 62 ?_
        (try simp only [Act.put, List.setIfInBounds_toArray, List.set_cons_zero, List.set_cons_succ])
        refine tk 5 65 ?_
        (try simp only [Act.put, List.setIfInBounds_toArray, List.set_cons_zero, List.set_cons_succ])
        refine tk 8 68 ?_
        (try simp only [Act.put, List.setIfInBounds_toArray, List.set_cons_zero, List.set_cons_succ])
        refine tk 11 71 ?_
        (try simp only [Act.put, List.setIfInBounds_toArray, List.set_cons_zero, List.set_cons_succ])
        refine tk 14 74 ?_
        (try simp only [Act.put, List.setIfInBounds_toArray, List.set_cons_zero, List.set_cons_succ])
        refine wpAnyH_ready (rs := [3]) (by kernel_rfl) (by simp) ?_
        refine (AllReadyH.cons (o := ⟨some 63, _, _, _, _, _⟩) rfl (fun K hK => ?_) AllReadyH.nil)
        rw [if_pos (by rfl)]
        go_simp
        go_at_call 40
        refine (wnum_k (St.front (L1 := [_]) (St.front (L1 := [_]) hZ)) (x.2.made) 4 4 (by rfl) (by decide) (by omega) HBX.out.made.r64).mono ?_
        rintro _ w4 ⟨rfl, wv9, h4⟩
        have hN33 := h4
        clear h4 hZ
        refine hK.out _ _ ?_ (fun hHeld => ?_)
        · exact ⟨ldS [_, _, _, _] hN33 (cellsR_39 HLR.out), ldS [_, _, _, _] hN33 (cellsR_40 HLR.out), ldS [_, _, _, _] hN33 (cellsR_41 HLR.out), ldS [_, _, _, _] hN33 (cellsR_42 HLR.out), ldS [_, _, _, _] hN33 (cellsR_43 HLR.out)⟩
        clear hK K
        (try simp only [Act.put, List.setIfInBounds_toArray, List.set_cons_zero, List.set_cons_succ])
        refine wpAnyH_ready (rs := [6]) (by kernel_rfl) (by simp) ?_
        refine (AllReadyH.cons (o := ⟨some 66, _, _, _, _, _⟩) rfl (fun K hK => ?_) AllReadyH.nil)
        rw [if_pos (by rfl)]
        go_simp
        go_at_call 40
        refine (wnum_k (St.front (L1 := [_]) (St.front (L1 := [_]) hN33)) (x.2.own) 4 4 (by rfl) (by decide) (by omega) HBX.out.own.r64).mono ?_
        rintro _ w4 ⟨rfl, wv9, h4⟩
        have hN34 := h4
        clear h4 hN33
        refine hK.out _ _ ?_ (fun hHeld => ?_)
        · exact ⟨ldS [_, _, _, _] hN34 (cellsR_39 HLR.out), ldS [_, _, _, _] hN34 (cellsR_40 HLR.out), ldS [_, _, _, _] hN34 (cellsR_41 HLR.out), ldS [_, _, _, _] hN34 (cellsR_42 HLR.out), ldS [_, _, _, _] hN34 (cellsR_43 HLR.out)⟩
        clear hK K
        (try simp only [Act.put, List.setIfInBounds_toArray, List.set_cons_zero, List.set_cons_succ])
        refine wpAnyH_ready (rs := [9]) (by kernel_rfl) (by simp) ?_
        refine (AllReadyH.cons (o := ⟨some 69, _, _, _, _, _⟩) rfl (fun K hK => ?_) AllReadyH.nil)
        rw [if_pos (by rfl)]
        go_simp
        go_at_call 40
        refine (wnum_k (St.front (L1 := [_]) (St.front (L1 := [_]) hN34)) (x.2.origin) 4 4 (by rfl) (by decide) (by omega) HBX.out.origin.r64).mono ?_
        rintro _ w4 ⟨rfl, wv9, h4⟩
        have hN35 := h4
        clear h4 hN34
        refine hK.out _ _ ?_ (fun hHeld => ?_)
        · exact ⟨ldS [_, _, _, _] hN35 (cellsR_39 HLR.out), ldS [_, _, _, _] hN35 (cellsR_40 HLR.out), ldS [_, _, _, _] hN35 (cellsR_41 HLR.out), ldS [_, _, _, _] hN35 (cellsR_42 HLR.out), ldS [_, _, _, _] hN35 (cellsR_43 HLR.out)⟩
        clear hK K
        (try simp only [Act.put, List.setIfInBounds_toArray, List.set_cons_zero, List.set_cons_succ])
        refine wpAnyH_ready (rs := [12]) (by kernel_rfl) (by simp) ?_
        refine (AllReadyH.cons (o := ⟨some 72, _, _, _, _, _⟩) rfl (fun K hK => ?_) AllReadyH.nil)
        rw [if_pos (by rfl)]
        go_simp
        go_at_call 40
        refine (wnum_k (St.front (L1 := [_]) (St.front (L1 := [_]) hN35)) (x.2.quota) 1 1 (by rfl) (by decide) (by omega) HBX.out.quota.r64).mono ?_
        rintro _ w4 ⟨rfl, wv9, h4⟩
        have hN36 := h4
        clear h4 hN35
        refine hK.out _ _ ?_ (fun hHeld => ?_)
        · exact ⟨ldS [_, _, _, _] hN36 (cellsR_39 HLR.out), ldS [_, _, _, _] hN36 (cellsR_40 HLR.out), ldS [_, _, _, _] hN36 (cellsR_41 HLR.out), ldS [_, _, _, _] hN36 (cellsR_42 HLR.out), ldS [_, _, _, _] hN36 (cellsR_43 HLR.out)⟩
        clear hK K
        (try simp only [Act.put, List.setIfInBounds_toArray, List.set_cons_zero, List.set_cons_succ])
        refine wpAnyH_ready (rs := [15]) (by kernel_rfl) (by simp) ?_
        refine (AllReadyH.cons (o := ⟨some 75, _, _, _, _, _⟩) rfl (fun K hK => ?_) AllReadyH.nil)
        rw [if_pos (by rfl)]
        go_simp
        go_at_call 40
        refine (wnum_k (St.front (L1 := [_]) (St.front (L1 := [_]) hN36)) (x.2.reserve) 1 1 (by rfl) (by decide) (by omega) HBX.out.reserve.r64).mono ?_
        rintro _ w4 ⟨rfl, wv9, h4⟩
        have hN37 := h4
        clear h4 hN36
        refine hK.out _ _ ?_ (fun hHeld => ?_)
        · exact ⟨ldS [_, _, _, _] hN37 (cellsR_39 HLR.out), ldS [_, _, _, _] hN37 (cellsR_40 HLR.out), ldS [_, _, _, _] hN37 (cellsR_41 HLR.out), ldS [_, _, _, _] hN37 (cellsR_42 HLR.out), ldS [_, _, _, _] hN37 (cellsR_43 HLR.out)⟩
        clear hK K
        (try simp only [Act.put, List.setIfInBounds_toArray, List.set_cons_zero, List.set_cons_succ])
        refine wpAnyH_done (by kernel_rfl) ?_ _
        clear hHeld
        have h5 := St.sub (L' := [_, _, _]) hN37 (List.Sublist.cons_cons _ (List.Sublist.cons_cons _ (List.Sublist.cons _ (List.Sublist.cons _ (List.Sublist.cons _ (List.Sublist.refl _))))))
        clear hN37
        go_wp2_with (first | go_big_skip | go_big_guard | fail)
        go_roundw
        case rel =>
          refine ⟨j + 1, ?_, ?_, by omega, rfl, ?_, ?_⟩
          rotate_left 3
          · rw [flat_step RC.bytes (map_at HXJ.out), RC.bytes]
            simp only [List.append_assoc, List.append_nil] at h5 ⊢
            exact h5
          · omega
        case measure => simp [intOf]; omega
    · have e1 : decide ((j : Int) < (nr : Int)) = false := decide_eq_false (by omega)
      obtain rfl : j = nr := by omega
      have e9 : (xs.map (·.2)).take j = t.recs := by rw [HX.out, List.take_of_length_le (by rw [HLN.out]; omega)]
      rw [e9] at hst
      clear e9
      go_wp2_with (first | go_big_skip | go_big_guard | fail)
      have hX := hst.drew
      clear hst
      refine wp_region_held_drew (S := (fun w' => (loadVarH 3 ⟨g1, 2, none⟩).run Try.prog w' = .ok (.int .i64 t.kind) w' ∧ (loadVarH 3 ⟨g1, 3, none⟩).run Try.prog w' = .ok (.int .i64 t.dev) w' ∧ (loadVarH 3 ⟨g1, 4, none⟩).run Try.prog w' = .ok (.int .i64 t.at_) w' ∧ (loadVarH 3 ⟨g1, 5, none⟩).run Try.prog w' = .ok (.int .i64 t.txg) w' ∧ (loadVarH 28 ⟨g1, 6, none⟩).run Try.prog w' = .ok (.slice al nl cl) w')) (by kernel_rfl) (by exact ⟨ldS [_, _] hX rfl, ldS [_, _] hX rfl, ldS [_, _] hX rfl, ldS [_, _] hX rfl, ldS [_, _] hX rfl⟩) (fun hHeld => ?_)
      refine tk 0 77 ?_
      (try simp only [Act.put, List.setIfInBounds_toArray, List.set_cons_zero, List.set_cons_succ])
      refine tk 1 78 ?_
      (try simp only [Act.put, List.setIfInBounds_toArray, List.set_cons_zero, List.set_cons_succ])
      refine tk 5 82 ?_
      (try simp only [Act.put, List.setIfInBounds_toArray, List.set_cons_zero, List.set_cons_succ])
      refine tk 9 86 ?_
      (try simp only [Act.put, List.setIfInBounds_toArray, List.set_cons_zero, List.set_cons_succ])
      refine tk 13 90 ?_
      (try simp only [Act.put, List.setIfInBounds_toArray, List.set_cons_zero, List.set_cons_succ])
      refine tk 17 94 ?_
      (try simp only [Act.put, List.setIfInBounds_toArray, List.set_cons_zero, List.set_cons_succ])
      refine tk 2 79 ?_
      (try simp only [Act.put, List.setIfInBounds_toArray, List.set_cons_zero, List.set_cons_succ])
      refine tk 6 83 ?_
      (try simp only [Act.put, List.setIfInBounds_toArray, List.set_cons_zero, List.set_cons_succ])
      refine tk 10 87 ?_
      (try simp only [Act.put, List.setIfInBounds_toArray, List.set_cons_zero, List.set_cons_succ])
      refine tk 14 91 ?_
      (try simp only [Act.put, List.setIfInBounds_toArray, List.set_cons_zero, List.set_cons_succ])
      refine tk 18 95 ?_
      (try simp only [Act.put, List.setIfInBounds_toArray, List.set_cons_zero, List.set_cons_succ])
      refine tk 3 80 ?_
      (try simp only [Act.put, List.setIfInBounds_toArray, List.set_cons_zero, List.set_cons_succ])
      refine tk 7 84 ?_
      (try simp only [Act.put, List.setIfInBounds_toArray, List.set_cons_zero, List.set_cons_succ])
      refine tk 11 88 ?_
      (try simp only [Act.put, List.setIfInBounds_toArray, List.set_cons_zero, List.set_cons_succ])
      refine tk 15 92 ?_
      (try simp only [Act.put, List.setIfInBounds_toArray, List.set_cons_zero, List.set_cons_succ])
      refine tk 19 96 ?_
      (try simp only [Act.put, List.setIfInBounds_toArray, List.set_cons_zero, List.set_cons_succ])
      refine wpAnyH_ready (rs := [4]) (by kernel_rfl) (by simp) ?_
      refine (AllReadyH.cons (o := ⟨some 81, _, _, _, _, _⟩) rfl (fun K hK => ?_) AllReadyH.nil)
      rw [if_pos (by rfl)]
      go_simp
      go_at_call 40
      refine (wnum_k (St.front (L1 := [_]) (St.front (L1 := [_]) hX)) (t.kind) 1 1 (by rfl) (by decide) (by omega) HB.out.kind.r64).mono ?_
      rintro _ w4 ⟨rfl, wv9, h4⟩
      have hN38 := h4
      clear h4 hX
      refine hK.out _ _ ?_ (fun hHeld => ?_)
      · exact ⟨ldS [_, _] hN38 rfl, ldS [_, _] hN38 rfl, ldS [_, _] hN38 rfl, ldS [_, _] hN38 rfl, ldS [_, _] hN38 rfl⟩
      clear hK K
      (try simp only [Act.put, List.setIfInBounds_toArray, List.set_cons_zero, List.set_cons_succ])
      refine wpAnyH_ready (rs := [8]) (by kernel_rfl) (by simp) ?_
      refine (AllReadyH.cons (o := ⟨some 85, _, _, _, _, _⟩) rfl (fun K hK => ?_) AllReadyH.nil)
      rw [if_pos (by rfl)]
      go_simp
      go_at_call 40
      refine (wnum_k (St.front (L1 := [_]) (St.front (L1 := [_]) hN38)) (t.dev) 1 1 (by rfl) (by decide) (by omega) HB.out.dev.r64).mono ?_
      rintro _ w4 ⟨rfl, wv9, h4⟩
      have hN39 := h4
      clear h4 hN38
      refine hK.out _ _ ?_ (fun hHeld => ?_)
      · exact ⟨ldS [_, _] hN39 rfl, ldS [_, _] hN39 rfl, ldS [_, _] hN39 rfl, ldS [_, _] hN39 rfl, ldS [_, _] hN39 rfl⟩
      clear hK K
      (try simp only [Act.put, List.setIfInBounds_toArray, List.set_cons_zero, List.set_cons_succ])
      refine wpAnyH_ready (rs := [12]) (by kernel_rfl) (by simp) ?_
      refine (AllReadyH.cons (o := ⟨some 89, _, _, _, _, _⟩) rfl (fun K hK => ?_) AllReadyH.nil)
      rw [if_pos (by rfl)]
      go_simp
      go_at_call 40
      refine (wnum_k (St.front (L1 := [_]) (St.front (L1 := [_]) hN39)) (t.at_) 4 4 (by rfl) (by decide) (by omega) HB.out.at_.r64).mono ?_
      rintro _ w4 ⟨rfl, wv9, h4⟩
      have hN40 := h4
      clear h4 hN39
      refine hK.out _ _ ?_ (fun hHeld => ?_)
      · exact ⟨ldS [_, _] hN40 rfl, ldS [_, _] hN40 rfl, ldS [_, _] hN40 rfl, ldS [_, _] hN40 rfl, ldS [_, _] hN40 rfl⟩
      clear hK K
      (try simp only [Act.put, List.setIfInBounds_toArray, List.set_cons_zero, List.set_cons_succ])
      refine wpAnyH_ready (rs := [16]) (by kernel_rfl) (by simp) ?_
      refine (AllReadyH.cons (o := ⟨some 93, _, _, _, _, _⟩) rfl (fun K hK => ?_) AllReadyH.nil)
      rw [if_pos (by rfl)]
      go_simp
      go_at_call 40
      refine (wnum_k (St.front (L1 := [_]) (St.front (L1 := [_]) hN40)) (t.txg) 4 4 (by rfl) (by decide) (by omega) HB.out.txg.r64).mono ?_
      rintro _ w4 ⟨rfl, wv9, h4⟩
      have hN41 := h4
      clear h4 hN40
      refine hK.out _ _ ?_ (fun hHeld => ?_)
      · exact ⟨ldS [_, _] hN41 rfl, ldS [_, _] hN41 rfl, ldS [_, _] hN41 rfl, ldS [_, _] hN41 rfl, ldS [_, _] hN41 rfl⟩
      clear hK K
      (try simp only [Act.put, List.setIfInBounds_toArray, List.set_cons_zero, List.set_cons_succ])
      refine wpAnyH_ready (rs := [20]) (by kernel_rfl) (by simp) ?_
      refine (AllReadyH.cons (o := ⟨some 97, _, _, _, _, _⟩) rfl (fun K hK => ?_) AllReadyH.nil)
      rw [if_pos (by rfl)]
      go_simp
      go_at_call 40
      refine (wnum_k (St.front (L1 := [_]) (St.front (L1 := [_]) hN41)) ((nl : Int)) 1 1 (by rfl) (by decide) (by omega) ⟨by omega, by omega⟩).mono ?_
      rintro _ w4 ⟨rfl, wv9, h4⟩
      have hN42 := h4
      clear h4 hN41
      refine hK.out _ _ ?_ (fun hHeld => ?_)
      · exact ⟨ldS [_, _] hN42 rfl, ldS [_, _] hN42 rfl, ldS [_, _] hN42 rfl, ldS [_, _] hN42 rfl, ldS [_, _] hN42 rfl⟩
      clear hK K
      (try simp only [Act.put, List.setIfInBounds_toArray, List.set_cons_zero, List.set_cons_succ])
      refine wpAnyH_done (by kernel_rfl) ?_ _
      clear hHeld
      go_wp2_with (first | go_big_skip | go_big_guard | (refine wl_loadE rfl rfl rfl ?_; first | refine ⟨_, Loads.at [_, _] hN42 rfl, ?_⟩))
      go_loopw [101] (fun i wr => ∃ (k m : Nat) (wv : Value), k ≤ nl ∧ i = .int .i64 (k : Int) ∧ m ≤ 3250 + 4 * k ∧ St w [] wr (.blk gw 77 [wv] :: .rowP isB wv 5 1 m (bytesV ((numB t.next 4 ++ numB (t.recs.length : Int) 1 ++ t.recs.flatMap RC.bytes ++ numB t.kind 1 ++ numB t.dev 1 ++ numB t.at_ 4 ++ numB t.txg 4 ++ numB (t.lives.length : Int) 1) ++ (t.lives.take k).flatMap fun n => numB n 4)) :: [.blk g1 30 (tabC t (.slice ar j cr) (.slice al nl cl))])) (fun i _ => nl - (intOf i).toNat)
      case atStart => exact ⟨0, m + 1 + 1 + 4 + 4 + 1, wv9, Nat.zero_le _, rfl, by omega, by have hk : j = t.recs.length := HLN.out.symm; have hk2 : nl = t.lives.length := HN.out.symm; simpa [← hk, ← hk2] using hN42⟩
      case round =>
        clear hN42
        obtain ⟨k, m, wv, hk, rfl, hm, hst⟩ := hrel
        by_cases hltk : k < nl
        · have e2 : decide ((k : Int) < (nl : Int)) = true := decide_eq_true (by omega)
          have z1 : IntKind.i64.wrap ((k : Int) + 1) = (k : Int) + 1 := IntWalk.i64_in _ (by omega)
          obtain ⟨y, hy⟩ : ∃ y, t.lives[k]? = some y := ⟨_, List.getElem?_eq_getElem (by rw [HN.out]; exact hltk)⟩
          obtain ⟨lb, lo, rfl, hr⟩ := Rd.at HL.out hltk
          have HC := hid (hr k _ (numsV_get hy))
          have HY := hid hy
          have HBY := hid (HB.out.live y (List.mem_of_getElem? hy)).r64
          clear hr hy
          go_wp2_with (first | go_big_skip | go_big_guard | (refine wl_index rfl rfl rfl rfl hltk ?_) | (refine wl_loadE rfl rfl rfl ?_; first | refine ⟨_, Loads.old hst (by rw [Nat.mul_one]; exact HC.out), ?_⟩) | (go_at_call 40; refine (wnum_k hst y 4 4 (by rfl) (by decide) (by omega) HBY.out).mono ?_; rintro _ w4 ⟨rfl, wv9, h4⟩; have hst2 := h4; clear h4 hst))
          go_roundw
          case rel =>
            refine ⟨k + 1, ?_, ?_, by omega, rfl, ?_, ?_⟩
            rotate_left 3
            · rw [flat_step _ HY.out, ← List.append_assoc]
              exact hst2
            · omega
          case measure => simp [intOf]; omega
        · have e2 : decide ((k : Int) < (nl : Int)) = false := decide_eq_false (by omega)
          obtain rfl : k = nl := by omega
          have e9 : t.lives.take k = t.lives := by rw [List.take_of_length_le (by rw [HN.out]; omega)]
          rw [e9] at hst
          clear e9
          go_wp2_with (first | go_big_skip | go_big_guard | (refine wl_loadE rfl rfl rfl ?_; first | refine ⟨_, Loads.at [] hst rfl, ?_⟩))
          go_ret2
          refine ⟨wv, m, rfl, by omega, ?_⟩
          rw [HT.out]
          exact St.sub hst (.cons _ (.cons_cons _ (.cons _ .slnil)))
end Go.Proofs.Ytkpkaoiafppimaa
namespace Go.Proofs.Ytkpkaoiafppimaa
set_option linter.unusedVariables false
set_option linter.unusedSimpArgs false
open Go.RowKit Hp
attribute [local irreducible] Go.Calls
set_option maxRecDepth 100000
set_option maxHeartbeats 4000000
attribute [local go_sem ↓] heldInt heldRecs heldStr
theorem any_step {p : RC → Bool} {xs : List (Value × RC)} {j : Nat} {y : Value × RC} (h : xs[j]? = some y) : ((xs.take (j + 1)).map (·.2)).any p = (((xs.take j).map (·.2)).any p || p y.2) := by
  rw [List.take_add_one, h, List.map_append, List.any_append]
  simp
theorem kin_any_r (t : TC) (lv : Value) (ar : Option Addr) (nr cr : Nat) (xs : List (Value × RC)) (w : World) (hR : RecsIn w (.slice ar nr cr) nr xs) (hb : nr ≤ 1000000) (x : Value × RC) (hin : RC.In w x) :
    Calls Try.prog 84 #[.agg (tabC t (.slice ar nr cr) lv).toArray, .agg (cellsR x).toArray] w fun e w' => e = .returned (.bool (kinB (xs.map (·.2)) x.2)) ∧ St w [] w' [] := by
  have hst0 := St.refl w
  have hcr : nr ≤ cr ∧ cr ≤ maxLen := by
    obtain ⟨_, ao', c0, he, hn, hcm, _⟩ := hR.rd
    cases he
    exact ⟨hn, hcm⟩
  have HR := hid hR
  have HIN := hid hin
  have HLL := hid hin.L
  clear hR hin
  obtain ⟨RR, hRR⟩ : ∃ RR, RR = kinB (xs.map (·.2)) x.2 := ⟨_, rfl⟩
  rw [← hRR]
  have HV := hid hRR
  clear hRR
  obtain ⟨hc1, hc2⟩ := hcr
  unfold maxLen at hc2
  cases d5 : (x.2.kind == 2)
  · have hv : RR = ((x.2.origin == 0) || (xs.map (·.2)).any fun y => (y.id == x.2.origin) && (y.kind == 2)) := by rw [HV.out]; unfold kinB; rw [d5]; rfl
    have HW := hid hv
    clear hv
    go_enter Try.func84, Try.ntmps84
    go_wp2_with (first | go_big_skip | go_big_guard | (refine wl_boxA hst0 rfl rfl rfl ?_; intro g1 w1 hst1; clear hst0) | (refine wl_boxA hst1 rfl rfl rfl ?_; intro gx w2 hst; clear hst1) | (refine wl_loadE rfl rfl rfl ?_; first | refine ⟨_, Loads.atA (tabC t (.slice ar nr cr) lv) [_] hst rfl rfl, ?_⟩ | refine ⟨_, Loads.at [] hst rfl, ?_⟩ | refine ⟨_, Loads.at [] hst (cellsR_41 HLL.out), ?_⟩ | refine ⟨_, Loads.at [_] hst rfl, ?_⟩) | (go_at_call 101; refine (refSplit_any x.2.name _ HIN.out.2).mono ?_; rintro _ w9 ⟨rfl, h4⟩; replace hst := St.call0 hst h4; clear h4) | (go_at_call 25; refine (refFind_any t lv (splitL x.2.name).1 _ nr cr xs _ (HR.out.old hst.nil) hb).mono ?_; rw [HF.out]; rintro _ w9 ⟨rfl, h4⟩; replace hst := St.call0 hst h4; clear h4))
    go_loopw [10, 11] (fun q i wr => ∃ j : Nat, j ≤ nr ∧ i = .int .i64 (j : Int) ∧ q = .bool ((x.2.origin == 0) || ((xs.take j).map (·.2)).any fun y => (y.id == x.2.origin) && (y.kind == 2)) ∧ St w [] wr [.blk gx 47 (cellsR x), .blk g1 30 (tabC t (.slice ar nr cr) lv)]) (fun _ i _ => nr - (intOf i).toNat)
    case atStart => exact ⟨0, Nat.zero_le _, rfl, by simp, hst⟩
    case round =>
      clear hst
      obtain ⟨j, hj, rfl, rfl, hst⟩ := hrel
      by_cases hlt : j < nr
      · have e1 : decide ((j : Int) < (nr : Int)) = true := decide_eq_true (by omega)
        have z1 : IntKind.i64.wrap ((j : Int) + 1) = (j : Int) + 1 := IntWalk.i64_in _ (by omega)
        obtain ⟨y, lb, lo, hyj, rfl, hiny, hr⟩ := RecsIn.at HR.out hlt
        have HYJ := hid hyj
        have HYI := hid (show w.cell? ⟨lb, lo + j * 44, none⟩ = some (.int .i64 y.2.id) from hr 0 _ rfl)
        have HYK := hid (show w.cell? ⟨lb, lo + j * 44 + 2, none⟩ = some (.int .i64 y.2.kind) from hr 2 _ rfl)
        clear hyj hiny hr
        obtain ⟨a, ha⟩ : ∃ a, a = ((x.2.origin == 0) || ((xs.take j).map (·.2)).any fun y => (y.id == x.2.origin) && (y.kind == 2)) := ⟨_, rfl⟩
        rw [← ha]
        have HAC := hid ha
        clear ha
        cases a
        · cases c1 : (y.2.id == x.2.origin)
          · go_wp2_with (first | go_big_skip | go_big_guard | (refine wl_loadE rfl rfl rfl ?_; first | refine ⟨_, Loads.atA (tabC t (.slice ar nr cr) lv) [_] hst rfl rfl, ?_⟩ | refine ⟨_, Loads.at [] hst rfl, ?_⟩ | refine ⟨_, Loads.at [] hst (cellsR_41 HLL.out), ?_⟩ | refine ⟨_, Loads.at [_] hst rfl, ?_⟩))
            have hX := hst.drew
            clear hst
            refine wp_region_held_drew (S := (fun w' => (loadVarH 25 ⟨g1, 1, none⟩).run Try.prog w' = .ok (.slice (some ⟨lb, lo, none⟩) nr cr) w' ∧ (loadVarH 3 ⟨gx, 41, none⟩).run Try.prog w' = .ok (.int .i64 x.2.origin) w' ∧ (loadVarH 3 ⟨lb, lo + j * 44, none⟩).run Try.prog w' = .ok (.int .i64 y.2.id) w' ∧ (loadVarH 3 ⟨lb, lo + j * 44 + 2, none⟩).run Try.prog w' = .ok (.int .i64 y.2.kind) w')) (by kernel_rfl) (by exact ⟨ldS [_] hX rfl, ldS [] hX (cellsR_41 HLL.out), ldO hX (HYI.out), ldO hX (HYK.out)⟩) (fun hHeld => ?_)
            refine tk 0 50 ?_
            (try simp only [Act.put, List.setIfInBounds_toArray, List.set_cons_zero, List.set_cons_succ])
            refine tk 1 51 ?_
            (try simp only [Act.put, List.setIfInBounds_toArray, List.set_cons_zero, List.set_cons_succ])
            refine tk 2 52 ?_
            (try simp only [Act.put, List.setIfInBounds_toArray, List.set_cons_zero, List.set_cons_succ])
            refine tk 4 54 ?_
            (try simp only [Act.put, List.setIfInBounds_toArray, List.set_cons_zero, List.set_cons_succ])
            refine tk 8 58 ?_
            (try simp only [Act.put, List.setIfInBounds_toArray, List.set_cons_zero, List.set_cons_succ])
            refine tk 3 53 ?_
            (try simp only [Act.put, List.setIfInBounds_toArray, List.set_cons_zero, List.set_cons_succ])
            refine tk 9 59 ?_
            (try simp only [Act.put, List.setIfInBounds_toArray, List.set_cons_zero, List.set_cons_succ])
            refine tk 5 55 ?_
            (try simp only [Act.put, List.setIfInBounds_toArray, List.set_cons_zero, List.set_cons_succ])
            refine tk 6 56 ?_
            (try simp only [Act.put, List.setIfInBounds_toArray, List.set_cons_zero, List.set_cons_succ])
            refine tk 7 57 ?_
            (try simp only [Act.put, List.setIfInBounds_toArray, List.set_cons_zero, List.set_cons_succ])
            refine tk 10 60 ?_
            (try simp only [Act.put, List.setIfInBounds_toArray, List.set_cons_zero, List.set_cons_succ])
            refine tk 11 61 ?_
            (try simp only [Act.put, List.setIfInBounds_toArray, List.set_cons_zero, List.set_cons_succ])
            refine wpAnyH_take (i := 12) (oi := ⟨some 62, _, _, _, _, _⟩) (v := undef) rfl (by kernel_rfl) (by kernel_rfl) (by kernel_rfl) (fun _ _ _ h => h) (Or.inr ⟨by rfl, rfl⟩) (by assumption) ?_
            (try simp only [Act.put, List.setIfInBounds_toArray, List.set_cons_zero, List.set_cons_succ])
            refine wpAnyH_take (i := 14) (oi := ⟨some 64, _, _, _, _, _⟩) (v := undef) rfl (by kernel_rfl) (by kernel_rfl) (by kernel_rfl) (fun _ _ _ h => h) (Or.inr ⟨by rfl, rfl⟩) (by assumption) ?_
            (try simp only [Act.put, List.setIfInBounds_toArray, List.set_cons_zero, List.set_cons_succ])
            refine wpAnyH_take (i := 13) (oi := ⟨some 63, _, _, _, _, _⟩) (v := undef) rfl (by kernel_rfl) (by kernel_rfl) (by kernel_rfl) (fun _ _ _ h => h) (Or.inr ⟨by rfl, rfl⟩) (by assumption) ?_
            (try simp only [Act.put, List.setIfInBounds_toArray, List.set_cons_zero, List.set_cons_succ])
            refine wpAnyH_take (i := 15) (oi := ⟨some 65, _, _, _, _, _⟩) (v := undef) rfl (by kernel_rfl) (by kernel_rfl) (by kernel_rfl) (fun _ _ _ h => h) (Or.inr ⟨by rfl, rfl⟩) (by assumption) ?_
            (try simp only [Act.put, List.setIfInBounds_toArray, List.set_cons_zero, List.set_cons_succ])
            refine wpAnyH_take (i := 16) (oi := ⟨some 66, _, _, _, _, _⟩) (v := undef) rfl (by kernel_rfl) (by kernel_rfl) (by kernel_rfl) (fun _ _ _ h => h) (Or.inr ⟨by rfl, rfl⟩) (by assumption) ?_
            (try simp only [Act.put, List.setIfInBounds_toArray, List.set_cons_zero, List.set_cons_succ])
            refine wpAnyH_take (i := 17) (oi := ⟨some 67, _, _, _, _, _⟩) (v := undef) rfl (by kernel_rfl) (by kernel_rfl) (by kernel_rfl) (fun _ _ _ h => h) (Or.inr ⟨by rfl, rfl⟩) (by assumption) ?_
            (try simp only [Act.put, List.setIfInBounds_toArray, List.set_cons_zero, List.set_cons_succ])
            refine wpAnyH_take (i := 18) (oi := ⟨some 68, _, _, _, _, _⟩) (v := undef) rfl (by kernel_rfl) (by kernel_rfl) (by kernel_rfl) (fun _ _ _ h => h) (Or.inr ⟨by rfl, rfl⟩) (by assumption) ?_
            (try simp only [Act.put, List.setIfInBounds_toArray, List.set_cons_zero, List.set_cons_succ])
            refine tk 19 69 ?_
            (try simp only [Act.put, List.setIfInBounds_toArray, List.set_cons_zero, List.set_cons_succ])
            refine tk 20 70 ?_
            (try simp only [Act.put, List.setIfInBounds_toArray, List.set_cons_zero, List.set_cons_succ])
            refine tk 21 10 ?_
            (try simp only [Act.put, List.setIfInBounds_toArray, List.set_cons_zero, List.set_cons_succ])
            refine wpAnyH_done (by kernel_rfl) ?_ _
            clear hHeld
            go_wp2_with (first | go_big_skip | go_big_guard | fail)
            go_roundw
            case rel => exact ⟨j + 1, by omega, rfl, by rw [any_step HYJ.out, ← Bool.or_assoc, ← HAC.out]; simp [c1], hX⟩
            case measure => simp [intOf]; omega
          · go_wp2_with (first | go_big_skip | go_big_guard | (refine wl_loadE rfl rfl rfl ?_; first | refine ⟨_, Loads.atA (tabC t (.slice ar nr cr) lv) [_] hst rfl rfl, ?_⟩ | refine ⟨_, Loads.at [] hst rfl, ?_⟩ | refine ⟨_, Loads.at [] hst (cellsR_41 HLL.out), ?_⟩ | refine ⟨_, Loads.at [_] hst rfl, ?_⟩))
            have hX := hst.drew
            clear hst
            refine wp_region_held_drew (S := (fun w' => (loadVarH 25 ⟨g1, 1, none⟩).run Try.prog w' = .ok (.slice (some ⟨lb, lo, none⟩) nr cr) w' ∧ (loadVarH 3 ⟨gx, 41, none⟩).run Try.prog w' = .ok (.int .i64 x.2.origin) w' ∧ (loadVarH 3 ⟨lb, lo + j * 44, none⟩).run Try.prog w' = .ok (.int .i64 y.2.id) w' ∧ (loadVarH 3 ⟨lb, lo + j * 44 + 2, none⟩).run Try.prog w' = .ok (.int .i64 y.2.kind) w')) (by kernel_rfl) (by exact ⟨ldS [_] hX rfl, ldS [] hX (cellsR_41 HLL.out), ldO hX (HYI.out), ldO hX (HYK.out)⟩) (fun hHeld => ?_)
            refine tk 0 50 ?_
            (try simp only [Act.put, List.setIfInBounds_toArray, List.set_cons_zero, List.set_cons_succ])
            refine tk 1 51 ?_
            (try simp only [Act.put, List.setIfInBounds_toArray, List.set_cons_zero, List.set_cons_succ])
            refine tk 2 52 ?_
            (try simp only [Act.put, List.setIfInBounds_toArray, List.set_cons_zero, List.set_cons_succ])
            refine tk 4 54 ?_
            (try simp only [Act.put, List.setIfInBounds_toArray, List.set_cons_zero, List.set_cons_succ])
            refine tk 8 58 ?_
            (try simp only [Act.put, List.setIfInBounds_toArray, List.set_cons_zero, List.set_cons_succ])
            refine tk 3 53 ?_
            (try simp only [Act.put, List.setIfInBounds_toArray, List.set_cons_zero, List.set_cons_succ])
            refine tk 9 59 ?_
            (try simp only [Act.put, List.setIfInBounds_toArray, List.set_cons_zero, List.set_cons_succ])
            refine tk 5 55 ?_
            (try simp only [Act.put, List.setIfInBounds_toArray, List.set_cons_zero, List.set_cons_succ])
            refine tk 6 56 ?_
            (try simp only [Act.put, List.setIfInBounds_toArray, List.set_cons_zero, List.set_cons_succ])
            refine tk 7 57 ?_
            (try simp only [Act.put, List.setIfInBounds_toArray, List.set_cons_zero, List.set_cons_succ])
            refine tk 10 60 ?_
            (try simp only [Act.put, List.setIfInBounds_toArray, List.set_cons_zero, List.set_cons_succ])
            refine tk 11 61 ?_
            (try simp only [Act.put, List.setIfInBounds_toArray, List.set_cons_zero, List.set_cons_succ])
            refine tk 12 62 ?_
            (try simp only [Act.put, List.setIfInBounds_toArray, List.set_cons_zero, List.set_cons_succ])
            refine tk 14 64 ?_
            (try simp only [Act.put, List.setIfInBounds_toArray, List.set_cons_zero, List.set_cons_succ])
            refine tk 13 63 ?_
            (try simp only [Act.put, List.setIfInBounds_toArray, List.set_cons_zero, List.set_cons_succ])
            refine tk 15 65 ?_
            (try simp only [Act.put, List.setIfInBounds_toArray, List.set_cons_zero, List.set_cons_succ])
            refine tk 16 66 ?_
            (try simp only [Act.put, List.setIfInBounds_toArray, List.set_cons_zero, List.set_cons_succ])
            refine tk 17 67 ?_
            (try simp only [Act.put, List.setIfInBounds_toArray, List.set_cons_zero, List.set_cons_succ])
            refine tk 18 68 ?_
            (try simp only [Act.put, List.setIfInBounds_toArray, List.set_cons_zero, List.set_cons_succ])
            refine tk 19 69 ?_
            (try simp only [Act.put, List.setIfInBounds_toArray, List.set_cons_zero, List.set_cons_succ])
            refine tk 20 70 ?_
            (try simp only [Act.put, List.setIfInBounds_toArray, List.set_cons_zero, List.set_cons_succ])
            refine tk 21 10 ?_
            (try simp only [Act.put, List.setIfInBounds_toArray, List.set_cons_zero, List.set_cons_succ])
            refine wpAnyH_done (by kernel_rfl) ?_ _
            clear hHeld
            go_wp2_with (first | go_big_skip | go_big_guard | fail)
            go_roundw
            case rel => exact ⟨j + 1, by omega, rfl, by rw [any_step HYJ.out, ← Bool.or_assoc, ← HAC.out]; simp [c1], hX⟩
            case measure => simp [intOf]; omega
        · go_wp2_with (first | go_big_skip | go_big_guard | (refine wl_loadE rfl rfl rfl ?_; first | refine ⟨_, Loads.atA (tabC t (.slice ar nr cr) lv) [_] hst rfl rfl, ?_⟩ | refine ⟨_, Loads.at [] hst rfl, ?_⟩ | refine ⟨_, Loads.at [] hst (cellsR_41 HLL.out), ?_⟩ | refine ⟨_, Loads.at [_] hst rfl, ?_⟩))
          have hX := hst.drew
          clear hst
          refine wp_region_held_drew (S := (fun w' => (loadVarH 25 ⟨g1, 1, none⟩).run Try.prog w' = .ok (.slice (some ⟨lb, lo, none⟩) nr cr) w' ∧ (loadVarH 3 ⟨gx, 41, none⟩).run Try.prog w' = .ok (.int .i64 x.2.origin) w' ∧ (loadVarH 3 ⟨lb, lo + j * 44, none⟩).run Try.prog w' = .ok (.int .i64 y.2.id) w' ∧ (loadVarH 3 ⟨lb, lo + j * 44 + 2, none⟩).run Try.prog w' = .ok (.int .i64 y.2.kind) w')) (by kernel_rfl) (by exact ⟨ldS [_] hX rfl, ldS [] hX (cellsR_41 HLL.out), ldO hX (HYI.out), ldO hX (HYK.out)⟩) (fun hHeld => ?_)
          refine tk 0 50 ?_
          (try simp only [Act.put, List.setIfInBounds_toArray, List.set_cons_zero, List.set_cons_succ])
          refine tk 1 51 ?_
          (try simp only [Act.put, List.setIfInBounds_toArray, List.set_cons_zero, List.set_cons_succ])
          refine wpAnyH_take (i := 2) (oi := ⟨some 52, _, _, _, _, _⟩) (v := undef) rfl (by kernel_rfl) (by kernel_rfl) (by kernel_rfl) (fun _ _ _ h => h) (Or.inr ⟨by rfl, rfl⟩) (by assumption) ?_
          (try simp only [Act.put, List.setIfInBounds_toArray, List.set_cons_zero, List.set_cons_succ])
          refine wpAnyH_take (i := 4) (oi := ⟨some 54, _, _, _, _, _⟩) (v := undef) rfl (by kernel_rfl) (by kernel_rfl) (by kernel_rfl) (fun _ _ _ h => h) (Or.inr ⟨by rfl, rfl⟩) (by assumption) ?_
          (try simp only [Act.put, List.setIfInBounds_toArray, List.set_cons_zero, List.set_cons_succ])
          refine wpAnyH_take (i := 8) (oi := ⟨some 58, _, _, _, _, _⟩) (v := undef) rfl (by kernel_rfl) (by kernel_rfl) (by kernel_rfl) (fun _ _ _ h => h) (Or.inr ⟨by rfl, rfl⟩) (by assumption) ?_
          (try simp only [Act.put, List.setIfInBounds_toArray, List.set_cons_zero, List.set_cons_succ])
          refine wpAnyH_take (i := 3) (oi := ⟨some 53, _, _, _, _, _⟩) (v := undef) rfl (by kernel_rfl) (by kernel_rfl) (by kernel_rfl) (fun _ _ _ h => h) (Or.inr ⟨by rfl, rfl⟩) (by assumption) ?_
          (try simp only [Act.put, List.setIfInBounds_toArray, List.set_cons_zero, List.set_cons_succ])
          refine wpAnyH_take (i := 9) (oi := ⟨some 59, _, _, _, _, _⟩) (v := undef) rfl (by kernel_rfl) (by kernel_rfl) (by kernel_rfl) (fun _ _ _ h => h) (Or.inr ⟨by rfl, rfl⟩) (by assumption) ?_
          (try simp only [Act.put, List.setIfInBounds_toArray, List.set_cons_zero, List.set_cons_succ])
          refine wpAnyH_take (i := 5) (oi := ⟨some 55, _, _, _, _, _⟩) (v := undef) rfl (by kernel_rfl) (by kernel_rfl) (by kernel_rfl) (fun _ _ _ h => h) (Or.inr ⟨by rfl, rfl⟩) (by assumption) ?_
          (try simp only [Act.put, List.setIfInBounds_toArray, List.set_cons_zero, List.set_cons_succ])
          refine wpAnyH_take (i := 6) (oi := ⟨some 56, _, _, _, _, _⟩) (v := undef) rfl (by kernel_rfl) (by kernel_rfl) (by kernel_rfl) (fun _ _ _ h => h) (Or.inr ⟨by rfl, rfl⟩) (by assumption) ?_
          (try simp only [Act.put, List.setIfInBounds_toArray, List.set_cons_zero, List.set_cons_succ])
          refine wpAnyH_take (i := 7) (oi := ⟨some 57, _, _, _, _, _⟩) (v := undef) rfl (by kernel_rfl) (by kernel_rfl) (by kernel_rfl) (fun _ _ _ h => h) (Or.inr ⟨by rfl, rfl⟩) (by assumption) ?_
          (try simp only [Act.put, List.setIfInBounds_toArray, List.set_cons_zero, List.set_cons_succ])
          refine wpAnyH_take (i := 10) (oi := ⟨some 60, _, _, _, _, _⟩) (v := undef) rfl (by kernel_rfl) (by kernel_rfl) (by kernel_rfl) (fun _ _ _ h => h) (Or.inr ⟨by rfl, rfl⟩) (by assumption) ?_
          (try simp only [Act.put, List.setIfInBounds_toArray, List.set_cons_zero, List.set_cons_succ])
          refine wpAnyH_take (i := 11) (oi := ⟨some 61, _, _, _, _, _⟩) (v := undef) rfl (by kernel_rfl) (by kernel_rfl) (by kernel_rfl) (fun _ _ _ h => h) (Or.inr ⟨by rfl, rfl⟩) (by assumption) ?_
          (try simp only [Act.put, List.setIfInBounds_toArray, List.set_cons_zero, List.set_cons_succ])
          refine wpAnyH_take (i := 12) (oi := ⟨some 62, _, _, _, _, _⟩) (v := undef) rfl (by kernel_rfl) (by kernel_rfl) (by kernel_rfl) (fun _ _ _ h => h) (Or.inr ⟨by rfl, rfl⟩) (by assumption) ?_
          (try simp only [Act.put, List.setIfInBounds_toArray, List.set_cons_zero, List.set_cons_succ])
          refine wpAnyH_take (i := 14) (oi := ⟨some 64, _, _, _, _, _⟩) (v := undef) rfl (by kernel_rfl) (by kernel_rfl) (by kernel_rfl) (fun _ _ _ h => h) (Or.inr ⟨by rfl, rfl⟩) (by assumption) ?_
          (try simp only [Act.put, List.setIfInBounds_toArray, List.set_cons_zero, List.set_cons_succ])
          refine wpAnyH_take (i := 13) (oi := ⟨some 63, _, _, _, _, _⟩) (v := undef) rfl (by kernel_rfl) (by kernel_rfl) (by kernel_rfl) (fun _ _ _ h => h) (Or.inr ⟨by rfl, rfl⟩) (by assumption) ?_
          (try simp only [Act.put, List.setIfInBounds_toArray, List.set_cons_zero, List.set_cons_succ])
          refine wpAnyH_take (i := 15) (oi := ⟨some 65, _, _, _, _, _⟩) (v := undef) rfl (by kernel_rfl) (by kernel_rfl) (by kernel_rfl) (fun _ _ _ h => h) (Or.inr ⟨by rfl, rfl⟩) (by assumption) ?_
          (try simp only [Act.put, List.setIfInBounds_toArray, List.set_cons_zero, List.set_cons_succ])
          refine wpAnyH_take (i := 16) (oi := ⟨some 66, _, _, _, _, _⟩) (v := undef) rfl (by kernel_rfl) (by kernel_rfl) (by kernel_rfl) (fun _ _ _ h => h) (Or.inr ⟨by rfl, rfl⟩) (by assumption) ?_
          (try simp only [Act.put, List.setIfInBounds_toArray, List.set_cons_zero, List.set_cons_succ])
          refine wpAnyH_take (i := 17) (oi := ⟨some 67, _, _, _, _, _⟩) (v := undef) rfl (by kernel_rfl) (by kernel_rfl) (by kernel_rfl) (fun _ _ _ h => h) (Or.inr ⟨by rfl, rfl⟩) (by assumption) ?_
          (try simp only [Act.put, List.setIfInBounds_toArray, List.set_cons_zero, List.set_cons_succ])
          refine wpAnyH_take (i := 18) (oi := ⟨some 68, _, _, _, _, _⟩) (v := undef) rfl (by kernel_rfl) (by kernel_rfl) (by kernel_rfl) (fun _ _ _ h => h) (Or.inr ⟨by rfl, rfl⟩) (by assumption) ?_
          (try simp only [Act.put, List.setIfInBounds_toArray, List.set_cons_zero, List.set_cons_succ])
          refine wpAnyH_take (i := 19) (oi := ⟨some 69, _, _, _, _, _⟩) (v := undef) rfl (by kernel_rfl) (by kernel_rfl) (by kernel_rfl) (fun _ _ _ h => h) (Or.inr ⟨by rfl, rfl⟩) (by assumption) ?_
          (try simp only [Act.put, List.setIfInBounds_toArray, List.set_cons_zero, List.set_cons_succ])
          refine tk 20 70 ?_
          (try simp only [Act.put, List.setIfInBounds_toArray, List.set_cons_zero, List.set_cons_succ])
          refine tk 21 10 ?_
          (try simp only [Act.put, List.setIfInBounds_toArray, List.set_cons_zero, List.set_cons_succ])
          refine wpAnyH_done (by kernel_rfl) ?_ _
          clear hHeld
          go_wp2_with (first | go_big_skip | go_big_guard | fail)
          go_roundw
          case rel => exact ⟨j + 1, by omega, rfl, by rw [any_step HYJ.out, ← Bool.or_assoc, ← HAC.out]; rfl, hX⟩
          case measure => simp [intOf]; omega
      · have e1 : decide ((j : Int) < (nr : Int)) = false := decide_eq_false (by omega)
        have hv : RR = ((x.2.origin == 0) || ((xs.take j).map (·.2)).any fun y => (y.id == x.2.origin) && (y.kind == 2)) := by rw [HW.out, List.take_of_length_le (by have := HR.out.len; omega)]
        rw [← hv]
        clear hv
        go_wp2_with (first | go_big_skip | go_big_guard | (refine wl_loadE rfl rfl rfl ?_; first | refine ⟨_, Loads.atA (tabC t (.slice ar nr cr) lv) [_] hst rfl rfl, ?_⟩ | refine ⟨_, Loads.at [] hst rfl, ?_⟩ | refine ⟨_, Loads.at [] hst (cellsR_41 HLL.out), ?_⟩ | refine ⟨_, Loads.at [_] hst rfl, ?_⟩))
        go_ret
        exact ⟨rfl, hst.nil⟩
  · have hv : RR = volB (xs.map (·.2)) x.2 := by rw [HV.out]; unfold kinB; rw [d5]; rfl
    obtain ⟨⟨z, is⟩, hf⟩ : ∃ p, findP (splitL x.2.name).1 (xs.map (·.2)) = p := ⟨_, rfl⟩
    have HF := hid hf
    cases is
    · have hv2 := hv.trans (volB_no hf)
      rw [hv2]
      clear hv hv2 hf
      go_enter Try.func84, Try.ntmps84
      go_wp2_with (first | go_big_skip | go_big_guard | (refine wl_boxA hst0 rfl rfl rfl ?_; intro g1 w1 hst1; clear hst0) | (refine wl_boxA hst1 rfl rfl rfl ?_; intro gx w2 hst; clear hst1) | (refine wl_loadE rfl rfl rfl ?_; first | refine ⟨_, Loads.atA (tabC t (.slice ar nr cr) lv) [_] hst rfl rfl, ?_⟩ | refine ⟨_, Loads.at [] hst rfl, ?_⟩ | refine ⟨_, Loads.at [] hst (cellsR_41 HLL.out), ?_⟩ | refine ⟨_, Loads.at [_] hst rfl, ?_⟩) | (go_at_call 101; refine (refSplit_any x.2.name _ HIN.out.2).mono ?_; rintro _ w9 ⟨rfl, h4⟩; replace hst := St.call0 hst h4; clear h4) | (go_at_call 25; refine (refFind_any t lv (splitL x.2.name).1 _ nr cr xs _ (HR.out.old hst.nil) hb).mono ?_; rw [HF.out]; rintro _ w9 ⟨rfl, h4⟩; replace hst := St.call0 hst h4; clear h4))
      have hD := hst.drew
      clear hst
      refine wp_region_held_drew (S := (fun w' => (loadVarH 25 ⟨g1, 1, none⟩).run Try.prog w' = .ok (.slice ar nr cr) w' ∧ (loadVarH 3 ⟨gx, 40, none⟩).run Try.prog w' = .ok (.int .i64 x.2.own) w')) (by kernel_rfl) (by exact ⟨ldS [_] hD rfl, ldS [] hD (cellsR_40 HLL.out)⟩) (fun hHeld => ?_)
      refine tk 0 28 ?_
      (try simp only [Act.put, List.setIfInBounds_toArray, List.set_cons_zero, List.set_cons_succ])
      refine tk 1 29 ?_
      (try simp only [Act.put, List.setIfInBounds_toArray, List.set_cons_zero, List.set_cons_succ])
      refine wpAnyH_take (i := 2) (oi := ⟨some 30, _, _, _, _, _⟩) (v := undef) rfl (by kernel_rfl) (by kernel_rfl) (by kernel_rfl) (fun _ _ _ h => h) (Or.inr ⟨by rfl, rfl⟩) (by assumption) ?_
      (try simp only [Act.put, List.setIfInBounds_toArray, List.set_cons_zero, List.set_cons_succ])
      refine wpAnyH_take (i := 4) (oi := ⟨some 32, _, _, _, _, _⟩) (v := undef) rfl (by kernel_rfl) (by kernel_rfl) (by kernel_rfl) (fun _ _ _ h => h) (Or.inr ⟨by rfl, rfl⟩) (by assumption) ?_
      (try simp only [Act.put, List.setIfInBounds_toArray, List.set_cons_zero, List.set_cons_succ])
      refine wpAnyH_take (i := 8) (oi := ⟨some 36, _, _, _, _, _⟩) (v := undef) rfl (by kernel_rfl) (by kernel_rfl) (by kernel_rfl) (fun _ _ _ h => h) (Or.inr ⟨by rfl, rfl⟩) (by assumption) ?_
      (try simp only [Act.put, List.setIfInBounds_toArray, List.set_cons_zero, List.set_cons_succ])
      refine wpAnyH_take (i := 3) (oi := ⟨some 31, _, _, _, _, _⟩) (v := undef) rfl (by kernel_rfl) (by kernel_rfl) (by kernel_rfl) (fun _ _ _ h => h) (Or.inr ⟨by rfl, rfl⟩) (by assumption) ?_
      (try simp only [Act.put, List.setIfInBounds_toArray, List.set_cons_zero, List.set_cons_succ])
      refine wpAnyH_take (i := 9) (oi := ⟨some 37, _, _, _, _, _⟩) (v := undef) rfl (by kernel_rfl) (by kernel_rfl) (by kernel_rfl) (fun _ _ _ h => h) (Or.inr ⟨by rfl, rfl⟩) (by assumption) ?_
      (try simp only [Act.put, List.setIfInBounds_toArray, List.set_cons_zero, List.set_cons_succ])
      refine wpAnyH_take (i := 5) (oi := ⟨some 33, _, _, _, _, _⟩) (v := undef) rfl (by kernel_rfl) (by kernel_rfl) (by kernel_rfl) (fun _ _ _ h => h) (Or.inr ⟨by rfl, rfl⟩) (by assumption) ?_
      (try simp only [Act.put, List.setIfInBounds_toArray, List.set_cons_zero, List.set_cons_succ])
      refine wpAnyH_take (i := 6) (oi := ⟨some 34, _, _, _, _, _⟩) (v := undef) rfl (by kernel_rfl) (by kernel_rfl) (by kernel_rfl) (fun _ _ _ h => h) (Or.inr ⟨by rfl, rfl⟩) (by assumption) ?_
      (try simp only [Act.put, List.setIfInBounds_toArray, List.set_cons_zero, List.set_cons_succ])
      refine wpAnyH_take (i := 7) (oi := ⟨some 35, _, _, _, _, _⟩) (v := undef) rfl (by kernel_rfl) (by kernel_rfl) (by kernel_rfl) (fun _ _ _ h => h) (Or.inr ⟨by rfl, rfl⟩) (by assumption) ?_
      (try simp only [Act.put, List.setIfInBounds_toArray, List.set_cons_zero, List.set_cons_succ])
      refine wpAnyH_take (i := 10) (oi := ⟨some 38, _, _, _, _, _⟩) (v := undef) rfl (by kernel_rfl) (by kernel_rfl) (by kernel_rfl) (fun _ _ _ h => h) (Or.inr ⟨by rfl, rfl⟩) (by assumption) ?_
      (try simp only [Act.put, List.setIfInBounds_toArray, List.set_cons_zero, List.set_cons_succ])
      refine tk 11 39 ?_
      (try simp only [Act.put, List.setIfInBounds_toArray, List.set_cons_zero, List.set_cons_succ])
      refine tk 12 4 ?_
      (try simp only [Act.put, List.setIfInBounds_toArray, List.set_cons_zero, List.set_cons_succ])
      refine wpAnyH_done (by kernel_rfl) ?_ _
      clear hHeld
      go_wp2_with (first | go_big_skip | go_big_guard | fail)
      go_ret
      exact ⟨rfl, hD.nil⟩
    · obtain ⟨j, y, rfl, hy, hfn⟩ := findP_yes hf
      have hv2 := hv.trans (volB_yes hfn hy)
      rw [hv2]
      have hjlt : j < nr := by rw [← HR.out.len]; exact (List.getElem?_eq_some_iff.1 hy).1
      obtain ⟨y', lb, lo, hy', rfl, hiny, hry⟩ := RecsIn.at HR.out hjlt
      obtain rfl : y = y' := Option.some.inj (hy.symm.trans hy')
      have HY := hid (show w.cell? ⟨lb, lo + j * 44, none⟩ = some (.int .i64 y.2.id) from hry 0 _ rfl)
      clear hv hv2 hf hy hfn hy' hiny hry
      go_enter Try.func84, Try.ntmps84
      go_wp2_with (first | go_big_skip | go_big_guard | (refine wl_boxA hst0 rfl rfl rfl ?_; intro g1 w1 hst1; clear hst0) | (refine wl_boxA hst1 rfl rfl rfl ?_; intro gx w2 hst; clear hst1) | (refine wl_loadE rfl rfl rfl ?_; first | refine ⟨_, Loads.atA (tabC t (.slice (some ⟨lb, lo, none⟩) nr cr) lv) [_] hst rfl rfl, ?_⟩ | refine ⟨_, Loads.at [] hst rfl, ?_⟩ | refine ⟨_, Loads.at [] hst (cellsR_41 HLL.out), ?_⟩ | refine ⟨_, Loads.at [_] hst rfl, ?_⟩) | (go_at_call 101; refine (refSplit_any x.2.name _ HIN.out.2).mono ?_; rintro _ w9 ⟨rfl, h4⟩; replace hst := St.call0 hst h4; clear h4) | (go_at_call 25; refine (refFind_any t lv (splitL x.2.name).1 _ nr cr xs _ (HR.out.old hst.nil) hb).mono ?_; rw [HF.out]; rintro _ w9 ⟨rfl, h4⟩; replace hst := St.call0 hst h4; clear h4))
      have hD := hst.drew
      clear hst
      refine wp_region_held_drew (S := (fun w' => (loadVarH 25 ⟨g1, 1, none⟩).run Try.prog w' = .ok (.slice (some ⟨lb, lo, none⟩) nr cr) w' ∧ (loadVarH 3 ⟨gx, 40, none⟩).run Try.prog w' = .ok (.int .i64 x.2.own) w' ∧ (loadVarH 3 ⟨lb, lo + j * 44, none⟩).run Try.prog w' = .ok (.int .i64 y.2.id) w')) (by kernel_rfl) (by exact ⟨ldS [_] hD rfl, ldS [] hD (cellsR_40 HLL.out), ldO hD (HY.out)⟩) (fun hHeld => ?_)
      refine tk 0 28 ?_
      (try simp only [Act.put, List.setIfInBounds_toArray, List.set_cons_zero, List.set_cons_succ])
      refine tk 1 29 ?_
      (try simp only [Act.put, List.setIfInBounds_toArray, List.set_cons_zero, List.set_cons_succ])
      refine tk 2 30 ?_
      (try simp only [Act.put, List.setIfInBounds_toArray, List.set_cons_zero, List.set_cons_succ])
      refine tk 4 32 ?_
      (try simp only [Act.put, List.setIfInBounds_toArray, List.set_cons_zero, List.set_cons_succ])
      refine tk 8 36 ?_
      (try simp only [Act.put, List.setIfInBounds_toArray, List.set_cons_zero, List.set_cons_succ])
      refine tk 3 31 ?_
      (try simp only [Act.put, List.setIfInBounds_toArray, List.set_cons_zero, List.set_cons_succ])
      refine tk 9 37 ?_
      (try simp only [Act.put, List.setIfInBounds_toArray, List.set_cons_zero, List.set_cons_succ])
      refine tk 5 33 ?_
      (try simp only [Act.put, List.setIfInBounds_toArray, List.set_cons_zero, List.set_cons_succ])
      refine tk 6 34 ?_
      (try simp only [Act.put, List.setIfInBounds_toArray, List.set_cons_zero, List.set_cons_succ])
      refine tk 7 35 ?_
      (try simp only [Act.put, List.setIfInBounds_toArray, List.set_cons_zero, List.set_cons_succ])
      refine tk 10 38 ?_
      (try simp only [Act.put, List.setIfInBounds_toArray, List.set_cons_zero, List.set_cons_succ])
      refine tk 11 39 ?_
      (try simp only [Act.put, List.setIfInBounds_toArray, List.set_cons_zero, List.set_cons_succ])
      refine tk 12 4 ?_
      (try simp only [Act.put, List.setIfInBounds_toArray, List.set_cons_zero, List.set_cons_succ])
      refine wpAnyH_done (by kernel_rfl) ?_ _
      clear hHeld
      go_wp2_with (first | go_big_skip | go_big_guard | fail)
      go_ret
      exact ⟨rfl, hD.nil⟩
end Go.Proofs.Ytkpkaoiafppimaa
namespace Go.Proofs.Ytkpkaoiafppimaa
set_option linter.unusedVariables false
set_option linter.unusedSimpArgs false
open Go.RowKit Hp
attribute [local irreducible] Go.Calls Go.wpList Hp.gvV Hp.gB Hp.gA Hp.bOr Hp.bAnd Hp.bNot inB rootB partB snapB
set_option maxRecDepth 100000
set_option maxHeartbeats 4000000
theorem rootB_ref (p : PV) : rootB p = (p.ok && (p.hole || (p.v == 3))) := by
  unfold rootB
  cases hh : p.hole
  · simp
  · rw [PV.hole_ok hh]; rfl
theorem may_any_r (x : Value × RC) (w : World) (hx : RC.In w x) : Calls Try.prog 82 #[.agg (cellsR x).toArray] w fun e w' => e = .returned (.bool x.2.aloneB) ∧ St w [] w' [] := by
  have hst0 := St.refl w
  have HX := hid hx
  have HL := hid hx.L
  have H35 := hid (PV.len (p := x.2.pv x.1) hx.L)
  clear hx
  obtain ⟨k, hk⟩ : ∃ k, k = (x.2.pv x.1).ok := ⟨_, rfl⟩
  have HK := hid hk
  clear hk
  cases k
  all_goals
    go_enter Try.func82, Try.ntmps82
    go_wp2_with (first | go_big_skip | (refine wl_boxA hst0 rfl rfl rfl ?_; intro g4 w1 hst; clear hst0) | (show wpList _ _ _ (Oper.mk _ (.fieldAddr 45 _ 2) _ _ _ (some _) :: _) _ _; refine wl_gfld (d := 2) rfl (by first | exact wanted_b rfl rfl | exact wanted_g rfl rfl) (by first | exact (fun hg => gvV_on hg) | exact (fun hg => gvV_gA hg) | exact (fun _ => rfl)) (by kernel_rfl) ?_; (try simp only [Act.put, List.setIfInBounds_toArray, List.set_cons_zero, List.set_cons_succ])) | (show wpList _ _ _ (Oper.mk _ (.fieldAddr 47 _ _) _ _ _ (some _) :: _) _ _; refine wl_gfldR rfl (by first | exact wanted_b rfl rfl | exact wanted_g rfl rfl) (by first | exact (fun hg => gvV_on hg) | exact (fun hg => gvV_gA hg) | exact (fun _ => rfl)) rfl ?_; (try simp only [Act.put, List.setIfInBounds_toArray, List.set_cons_zero, List.set_cons_succ])) | (show wpList _ _ _ (Oper.mk _ (.fieldAddr 45 _ 1) _ _ _ (some _) :: _) _ _; refine wl_gfld (d := 1) rfl (by first | exact wanted_b rfl rfl | exact wanted_g rfl rfl) (by first | exact (fun hg => gvV_on hg) | exact (fun hg => gvV_gA hg) | exact (fun _ => rfl)) (by kernel_rfl) ?_; (try simp only [Act.put, List.setIfInBounds_toArray, List.set_cons_zero, List.set_cons_succ])) | (show wpList _ _ _ (Oper.mk _ (.load _ _) _ _ _ (some _) :: _) _ _; refine wl_gloadE rfl (by first | exact wanted_b rfl rfl | exact wanted_g rfl rfl) (by first | exact (fun hg => gvV_on hg) | exact (fun hg => gvV_gA hg) | exact (fun _ => rfl)) ?_; (first | refine ⟨_, Loads.atA ((x.2.pv x.1).cells) [] hst H35.out (cellsR_root HL.out), ?_⟩ | refine ⟨_, Loads.at [] hst (cellsR_39 HL.out), ?_⟩ | refine ⟨_, Loads.at [] hst (cellsR_40 HL.out), ?_⟩ | refine ⟨_, Loads.at [] hst (cellsR_41 HL.out), ?_⟩ | refine ⟨_, Loads.at [] hst (cellsR_42 HL.out), ?_⟩ | refine ⟨_, Loads.at [] hst (cellsR_43 HL.out), ?_⟩ | refine ⟨_, Loads.at [] hst rfl, ?_⟩); (try simp only [Act.put, List.setIfInBounds_toArray, List.set_cons_zero, List.set_cons_succ]); (repeat ((first | (show wpList _ _ _ (Oper.mk _ (.move _) _ _ _ none :: _) _ _; refine wl_mv rfl rfl rfl ?_) | (show wpList _ _ _ (Oper.mk _ (.pick _ _ _) _ _ _ none :: _) _ _; (first | (refine wl_pickOr rfl rfl rfl rfl rfl ?_; intro q hq) | (refine wl_pickAnd rfl rfl rfl rfl rfl ?_; intro q hq))) | (show wpList _ _ _ (Oper.mk _ (.pick _ _ _) _ _ _ (some _) :: _) _ _; (first | (refine wl_gpickOr rfl (by first | exact wanted_b rfl rfl | exact wanted_g rfl rfl) rfl rfl rfl ?_; intro q hq) | (refine wl_gpickAnd rfl (by first | exact wanted_b rfl rfl | exact wanted_g rfl rfl) rfl rfl rfl ?_; intro q hq))) | (show wpList _ _ _ (Oper.mk _ (.move _) _ _ _ (some _) :: _) _ _; refine wl_gmove rfl (by first | exact wanted_b rfl rfl | exact wanted_g rfl rfl) (by first | exact (fun hg => gvV_on hg) | exact (fun hg => gvV_gA hg) | exact (fun _ => rfl)) ?_)); (try simp only [Act.put, List.setIfInBounds_toArray, List.set_cons_zero, List.set_cons_succ])))) | (show wpList _ _ _ (Oper.mk _ (.binOp _ 3 _ _ _) _ _ _ (some _) :: _) _ _; refine wl_gcmp rfl (by first | exact wanted_b rfl rfl | exact wanted_g rfl rfl) (by first | exact (fun hg => gvV_on hg) | exact (fun hg => gvV_gA hg) | exact (fun _ => rfl)) (by first | exact (fun hg => gvV_on hg) | exact (fun hg => gvV_gA hg) | exact (fun _ => rfl)) rfl ?_; (try simp only [Act.put, List.setIfInBounds_toArray, List.set_cons_zero, List.set_cons_succ]); (repeat ((first | (show wpList _ _ _ (Oper.mk _ (.move _) _ _ _ none :: _) _ _; refine wl_mv rfl rfl rfl ?_) | (show wpList _ _ _ (Oper.mk _ (.pick _ _ _) _ _ _ none :: _) _ _; (first | (refine wl_pickOr rfl rfl rfl rfl rfl ?_; intro q hq) | (refine wl_pickAnd rfl rfl rfl rfl rfl ?_; intro q hq))) | (show wpList _ _ _ (Oper.mk _ (.pick _ _ _) _ _ _ (some _) :: _) _ _; (first | (refine wl_gpickOr rfl (by first | exact wanted_b rfl rfl | exact wanted_g rfl rfl) rfl rfl rfl ?_; intro q hq) | (refine wl_gpickAnd rfl (by first | exact wanted_b rfl rfl | exact wanted_g rfl rfl) rfl rfl rfl ?_; intro q hq))) | (show wpList _ _ _ (Oper.mk _ (.move _) _ _ _ (some _) :: _) _ _; refine wl_gmove rfl (by first | exact wanted_b rfl rfl | exact wanted_g rfl rfl) (by first | exact (fun hg => gvV_on hg) | exact (fun hg => gvV_gA hg) | exact (fun _ => rfl)) ?_)); (try simp only [Act.put, List.setIfInBounds_toArray, List.set_cons_zero, List.set_cons_succ])))) | (show wpList _ _ _ (Oper.mk _ (.unOp .not _ _) _ _ _ (some _) :: _) _ _; refine wl_gnot rfl (by first | exact wanted_b rfl rfl | exact wanted_g rfl rfl) (by first | exact (fun hg => gvV_on hg) | exact (fun hg => gvV_gA hg) | exact (fun _ => rfl)) ?_; (try simp only [Act.put, List.setIfInBounds_toArray, List.set_cons_zero, List.set_cons_succ]); (repeat ((first | (show wpList _ _ _ (Oper.mk _ (.move _) _ _ _ none :: _) _ _; refine wl_mv rfl rfl rfl ?_) | (show wpList _ _ _ (Oper.mk _ (.pick _ _ _) _ _ _ none :: _) _ _; (first | (refine wl_pickOr rfl rfl rfl rfl rfl ?_; intro q hq) | (refine wl_pickAnd rfl rfl rfl rfl rfl ?_; intro q hq))) | (show wpList _ _ _ (Oper.mk _ (.pick _ _ _) _ _ _ (some _) :: _) _ _; (first | (refine wl_gpickOr rfl (by first | exact wanted_b rfl rfl | exact wanted_g rfl rfl) rfl rfl rfl ?_; intro q hq) | (refine wl_gpickAnd rfl (by first | exact wanted_b rfl rfl | exact wanted_g rfl rfl) rfl rfl rfl ?_; intro q hq))) | (show wpList _ _ _ (Oper.mk _ (.move _) _ _ _ (some _) :: _) _ _; refine wl_gmove rfl (by first | exact wanted_b rfl rfl | exact wanted_g rfl rfl) (by first | exact (fun hg => gvV_on hg) | exact (fun hg => gvV_gA hg) | exact (fun _ => rfl)) ?_)); (try simp only [Act.put, List.setIfInBounds_toArray, List.set_cons_zero, List.set_cons_succ])))) | (refine wl_loadE rfl rfl rfl ?_; first | refine ⟨_, Loads.atA ((x.2.pv x.1).cells) [] hst H35.out (cellsR_root HL.out), ?_⟩ | refine ⟨_, Loads.at [] hst (cellsR_39 HL.out), ?_⟩ | refine ⟨_, Loads.at [] hst (cellsR_40 HL.out), ?_⟩ | refine ⟨_, Loads.at [] hst (cellsR_41 HL.out), ?_⟩ | refine ⟨_, Loads.at [] hst (cellsR_42 HL.out), ?_⟩ | refine ⟨_, Loads.at [] hst (cellsR_43 HL.out), ?_⟩ | refine ⟨_, Loads.at [] hst rfl, ?_⟩) | (show wpList _ _ _ (Oper.mk _ (.call (Call.mk (.value (.func 55)) _ _)) _ _ _ (some _) :: _) _ _; refine wl_gcall (v := .bool (inB x.2.size 1 64)) hst (by first | exact wanted_b rfl rfl | exact wanted_g rfl rfl) ?_ ?_; (intro hg K hK; have Hg := hid hg; clear hg; go_simp; go_at_call 55; (try (conv => (arg 3; simp only [gvV_on Hg.out]))); refine (refWithin_any x.2.size 1 64 _).mono ?_; rintro _ w9 ⟨rfl, h4⟩; have hk := hK _ (St.call0 hst h4); simp only [Act.put, List.setIfInBounds_toArray, List.set_cons_zero, List.set_cons_succ] at hk; dsimp only; exact hk); (intro w5 hst5; replace hst := hst5; clear hst5; (try simp only [Act.put, List.setIfInBounds_toArray, List.set_cons_zero, List.set_cons_succ]); (repeat ((first | (show wpList _ _ _ (Oper.mk _ (.move _) _ _ _ none :: _) _ _; refine wl_mv rfl rfl rfl ?_) | (show wpList _ _ _ (Oper.mk _ (.pick _ _ _) _ _ _ none :: _) _ _; (first | (refine wl_pickOr rfl rfl rfl rfl rfl ?_; intro q hq) | (refine wl_pickAnd rfl rfl rfl rfl rfl ?_; intro q hq))) | (show wpList _ _ _ (Oper.mk _ (.pick _ _ _) _ _ _ (some _) :: _) _ _; (first | (refine wl_gpickOr rfl (by first | exact wanted_b rfl rfl | exact wanted_g rfl rfl) rfl rfl rfl ?_; intro q hq) | (refine wl_gpickAnd rfl (by first | exact wanted_b rfl rfl | exact wanted_g rfl rfl) rfl rfl rfl ?_; intro q hq))) | (show wpList _ _ _ (Oper.mk _ (.move _) _ _ _ (some _) :: _) _ _; refine wl_gmove rfl (by first | exact wanted_b rfl rfl | exact wanted_g rfl rfl) (by first | exact (fun hg => gvV_on hg) | exact (fun hg => gvV_gA hg) | exact (fun _ => rfl)) ?_)); (try simp only [Act.put, List.setIfInBounds_toArray, List.set_cons_zero, List.set_cons_succ]))))) | (show wpList _ _ _ (Oper.mk _ (.call (Call.mk (.value (.func 55)) _ _)) _ _ _ (some _) :: _) _ _; refine wl_gcall (v := .bool (inB x.2.made 1 2147483648)) hst (by first | exact wanted_b rfl rfl | exact wanted_g rfl rfl) ?_ ?_; (intro hg K hK; have Hg := hid hg; clear hg; go_simp; go_at_call 55; (try (conv => (arg 3; simp only [gvV_on Hg.out]))); refine (refWithin_any x.2.made 1 2147483648 _).mono ?_; rintro _ w9 ⟨rfl, h4⟩; have hk := hK _ (St.call0 hst h4); simp only [Act.put, List.setIfInBounds_toArray, List.set_cons_zero, List.set_cons_succ] at hk; dsimp only; exact hk); (intro w5 hst5; replace hst := hst5; clear hst5; (try simp only [Act.put, List.setIfInBounds_toArray, List.set_cons_zero, List.set_cons_succ]); (repeat ((first | (show wpList _ _ _ (Oper.mk _ (.move _) _ _ _ none :: _) _ _; refine wl_mv rfl rfl rfl ?_) | (show wpList _ _ _ (Oper.mk _ (.pick _ _ _) _ _ _ none :: _) _ _; (first | (refine wl_pickOr rfl rfl rfl rfl rfl ?_; intro q hq) | (refine wl_pickAnd rfl rfl rfl rfl rfl ?_; intro q hq))) | (show wpList _ _ _ (Oper.mk _ (.pick _ _ _) _ _ _ (some _) :: _) _ _; (first | (refine wl_gpickOr rfl (by first | exact wanted_b rfl rfl | exact wanted_g rfl rfl) rfl rfl rfl ?_; intro q hq) | (refine wl_gpickAnd rfl (by first | exact wanted_b rfl rfl | exact wanted_g rfl rfl) rfl rfl rfl ?_; intro q hq))) | (show wpList _ _ _ (Oper.mk _ (.move _) _ _ _ (some _) :: _) _ _; refine wl_gmove rfl (by first | exact wanted_b rfl rfl | exact wanted_g rfl rfl) (by first | exact (fun hg => gvV_on hg) | exact (fun hg => gvV_gA hg) | exact (fun _ => rfl)) ?_)); (try simp only [Act.put, List.setIfInBounds_toArray, List.set_cons_zero, List.set_cons_succ]))))) | (show wpList _ _ _ (Oper.mk _ (.call (Call.mk (.value (.func 55)) _ _)) _ _ _ (some _) :: _) _ _; refine wl_gcall (v := .bool (inB x.2.origin 0 2147483647)) hst (by first | exact wanted_b rfl rfl | exact wanted_g rfl rfl) ?_ ?_; (intro hg K hK; have Hg := hid hg; clear hg; go_simp; go_at_call 55; (try (conv => (arg 3; simp only [gvV_on Hg.out]))); refine (refWithin_any x.2.origin 0 2147483647 _).mono ?_; rintro _ w9 ⟨rfl, h4⟩; have hk := hK _ (St.call0 hst h4); simp only [Act.put, List.setIfInBounds_toArray, List.set_cons_zero, List.set_cons_succ] at hk; dsimp only; exact hk); (intro w5 hst5; replace hst := hst5; clear hst5; (try simp only [Act.put, List.setIfInBounds_toArray, List.set_cons_zero, List.set_cons_succ]); (repeat ((first | (show wpList _ _ _ (Oper.mk _ (.move _) _ _ _ none :: _) _ _; refine wl_mv rfl rfl rfl ?_) | (show wpList _ _ _ (Oper.mk _ (.pick _ _ _) _ _ _ none :: _) _ _; (first | (refine wl_pickOr rfl rfl rfl rfl rfl ?_; intro q hq) | (refine wl_pickAnd rfl rfl rfl rfl rfl ?_; intro q hq))) | (show wpList _ _ _ (Oper.mk _ (.pick _ _ _) _ _ _ (some _) :: _) _ _; (first | (refine wl_gpickOr rfl (by first | exact wanted_b rfl rfl | exact wanted_g rfl rfl) rfl rfl rfl ?_; intro q hq) | (refine wl_gpickAnd rfl (by first | exact wanted_b rfl rfl | exact wanted_g rfl rfl) rfl rfl rfl ?_; intro q hq))) | (show wpList _ _ _ (Oper.mk _ (.move _) _ _ _ (some _) :: _) _ _; refine wl_gmove rfl (by first | exact wanted_b rfl rfl | exact wanted_g rfl rfl) (by first | exact (fun hg => gvV_on hg) | exact (fun hg => gvV_gA hg) | exact (fun _ => rfl)) ?_)); (try simp only [Act.put, List.setIfInBounds_toArray, List.set_cons_zero, List.set_cons_succ]))))) | (show wpList _ _ _ (Oper.mk _ (.call (Call.mk (.value (.func 55)) _ _)) _ _ _ (some _) :: _) _ _; refine wl_gcall (v := .bool (inB x.2.quota 0 64)) hst (by first | exact wanted_b rfl rfl | exact wanted_g rfl rfl) ?_ ?_; (intro hg K hK; have Hg := hid hg; clear hg; go_simp; go_at_call 55; (try (conv => (arg 3; simp only [gvV_on Hg.out]))); refine (refWithin_any x.2.quota 0 64 _).mono ?_; rintro _ w9 ⟨rfl, h4⟩; have hk := hK _ (St.call0 hst h4); simp only [Act.put, List.setIfInBounds_toArray, List.set_cons_zero, List.set_cons_succ] at hk; dsimp only; exact hk); (intro w5 hst5; replace hst := hst5; clear hst5; (try simp only [Act.put, List.setIfInBounds_toArray, List.set_cons_zero, List.set_cons_succ]); (repeat ((first | (show wpList _ _ _ (Oper.mk _ (.move _) _ _ _ none :: _) _ _; refine wl_mv rfl rfl rfl ?_) | (show wpList _ _ _ (Oper.mk _ (.pick _ _ _) _ _ _ none :: _) _ _; (first | (refine wl_pickOr rfl rfl rfl rfl rfl ?_; intro q hq) | (refine wl_pickAnd rfl rfl rfl rfl rfl ?_; intro q hq))) | (show wpList _ _ _ (Oper.mk _ (.pick _ _ _) _ _ _ (some _) :: _) _ _; (first | (refine wl_gpickOr rfl (by first | exact wanted_b rfl rfl | exact wanted_g rfl rfl) rfl rfl rfl ?_; intro q hq) | (refine wl_gpickAnd rfl (by first | exact wanted_b rfl rfl | exact wanted_g rfl rfl) rfl rfl rfl ?_; intro q hq))) | (show wpList _ _ _ (Oper.mk _ (.move _) _ _ _ (some _) :: _) _ _; refine wl_gmove rfl (by first | exact wanted_b rfl rfl | exact wanted_g rfl rfl) (by first | exact (fun hg => gvV_on hg) | exact (fun hg => gvV_gA hg) | exact (fun _ => rfl)) ?_)); (try simp only [Act.put, List.setIfInBounds_toArray, List.set_cons_zero, List.set_cons_succ]))))) | (show wpList _ _ _ (Oper.mk _ (.call (Call.mk (.value (.func 55)) _ _)) _ _ _ (some _) :: _) _ _; refine wl_gcall (v := .bool (inB x.2.reserve 0 64)) hst (by first | exact wanted_b rfl rfl | exact wanted_g rfl rfl) ?_ ?_; (intro hg K hK; have Hg := hid hg; clear hg; go_simp; go_at_call 55; (try (conv => (arg 3; simp only [gvV_on Hg.out]))); refine (refWithin_any x.2.reserve 0 64 _).mono ?_; rintro _ w9 ⟨rfl, h4⟩; have hk := hK _ (St.call0 hst h4); simp only [Act.put, List.setIfInBounds_toArray, List.set_cons_zero, List.set_cons_succ] at hk; dsimp only; exact hk); (intro w5 hst5; replace hst := hst5; clear hst5; (try simp only [Act.put, List.setIfInBounds_toArray, List.set_cons_zero, List.set_cons_succ]); (repeat ((first | (show wpList _ _ _ (Oper.mk _ (.move _) _ _ _ none :: _) _ _; refine wl_mv rfl rfl rfl ?_) | (show wpList _ _ _ (Oper.mk _ (.pick _ _ _) _ _ _ none :: _) _ _; (first | (refine wl_pickOr rfl rfl rfl rfl rfl ?_; intro q hq) | (refine wl_pickAnd rfl rfl rfl rfl rfl ?_; intro q hq))) | (show wpList _ _ _ (Oper.mk _ (.pick _ _ _) _ _ _ (some _) :: _) _ _; (first | (refine wl_gpickOr rfl (by first | exact wanted_b rfl rfl | exact wanted_g rfl rfl) rfl rfl rfl ?_; intro q hq) | (refine wl_gpickAnd rfl (by first | exact wanted_b rfl rfl | exact wanted_g rfl rfl) rfl rfl rfl ?_; intro q hq))) | (show wpList _ _ _ (Oper.mk _ (.move _) _ _ _ (some _) :: _) _ _; refine wl_gmove rfl (by first | exact wanted_b rfl rfl | exact wanted_g rfl rfl) (by first | exact (fun hg => gvV_on hg) | exact (fun hg => gvV_gA hg) | exact (fun _ => rfl)) ?_)); (try simp only [Act.put, List.setIfInBounds_toArray, List.set_cons_zero, List.set_cons_succ]))))) | (show wpList _ _ _ (Oper.mk _ (.call (Call.mk (.value (.func 55)) _ _)) _ _ _ (some _) :: _) _ _; refine wl_gcall (v := .bool (inB x.2.own 1 2147483647)) hst (by first | exact wanted_b rfl rfl | exact wanted_g rfl rfl) ?_ ?_; (intro hg K hK; have Hg := hid hg; clear hg; go_simp; go_at_call 55; (try (conv => (arg 3; simp only [gvV_on Hg.out]))); refine (refWithin_any x.2.own 1 2147483647 _).mono ?_; rintro _ w9 ⟨rfl, h4⟩; have hk := hK _ (St.call0 hst h4); simp only [Act.put, List.setIfInBounds_toArray, List.set_cons_zero, List.set_cons_succ] at hk; dsimp only; exact hk); (intro w5 hst5; replace hst := hst5; clear hst5; (try simp only [Act.put, List.setIfInBounds_toArray, List.set_cons_zero, List.set_cons_succ]); (repeat ((first | (show wpList _ _ _ (Oper.mk _ (.move _) _ _ _ none :: _) _ _; refine wl_mv rfl rfl rfl ?_) | (show wpList _ _ _ (Oper.mk _ (.pick _ _ _) _ _ _ none :: _) _ _; (first | (refine wl_pickOr rfl rfl rfl rfl rfl ?_; intro q hq) | (refine wl_pickAnd rfl rfl rfl rfl rfl ?_; intro q hq))) | (show wpList _ _ _ (Oper.mk _ (.pick _ _ _) _ _ _ (some _) :: _) _ _; (first | (refine wl_gpickOr rfl (by first | exact wanted_b rfl rfl | exact wanted_g rfl rfl) rfl rfl rfl ?_; intro q hq) | (refine wl_gpickAnd rfl (by first | exact wanted_b rfl rfl | exact wanted_g rfl rfl) rfl rfl rfl ?_; intro q hq))) | (show wpList _ _ _ (Oper.mk _ (.move _) _ _ _ (some _) :: _) _ _; refine wl_gmove rfl (by first | exact wanted_b rfl rfl | exact wanted_g rfl rfl) (by first | exact (fun hg => gvV_on hg) | exact (fun hg => gvV_gA hg) | exact (fun _ => rfl)) ?_)); (try simp only [Act.put, List.setIfInBounds_toArray, List.set_cons_zero, List.set_cons_succ]))))) | (go_at_call 81; refine (refCheck_pv (x.2.pv x.1) _ (PV.In.old hst HX.out.1)).mono ?_; rw [← HK.out]; rintro _ w9 ⟨rfl, h4⟩; replace hst := St.call0 hst h4; clear h4; (try simp only [Act.put, List.setIfInBounds_toArray, List.set_cons_zero, List.set_cons_succ]); (repeat ((first | (show wpList _ _ _ (Oper.mk _ (.move _) _ _ _ none :: _) _ _; refine wl_mv rfl rfl rfl ?_) | (show wpList _ _ _ (Oper.mk _ (.pick _ _ _) _ _ _ none :: _) _ _; (first | (refine wl_pickOr rfl rfl rfl rfl rfl ?_; intro q hq) | (refine wl_pickAnd rfl rfl rfl rfl rfl ?_; intro q hq))) | (show wpList _ _ _ (Oper.mk _ (.pick _ _ _) _ _ _ (some _) :: _) _ _; (first | (refine wl_gpickOr rfl (by first | exact wanted_b rfl rfl | exact wanted_g rfl rfl) rfl rfl rfl ?_; intro q hq) | (refine wl_gpickAnd rfl (by first | exact wanted_b rfl rfl | exact wanted_g rfl rfl) rfl rfl rfl ?_; intro q hq))) | (show wpList _ _ _ (Oper.mk _ (.move _) _ _ _ (some _) :: _) _ _; refine wl_gmove rfl (by first | exact wanted_b rfl rfl | exact wanted_g rfl rfl) (by first | exact (fun hg => gvV_on hg) | exact (fun hg => gvV_gA hg) | exact (fun _ => rfl)) ?_)); (try simp only [Act.put, List.setIfInBounds_toArray, List.set_cons_zero, List.set_cons_succ])))) | (show wpList _ _ _ (Oper.mk _ (.call (Call.mk (.value (.func 96)) _ _)) _ _ _ (some _) :: _) _ _; refine wl_gcall (v := .bool (x.2.pv x.1).hole) hst (by first | exact wanted_b rfl rfl | exact wanted_g rfl rfl) ?_ ?_; (intro hg K hK; have Hg := hid hg; clear hg; go_simp; go_at_call 96; (try (conv => (arg 3; simp only [gvV_on Hg.out]))); refine (refHole_pv (x.2.pv x.1) _ (PV.In.old hst HX.out.1)).mono ?_; rintro _ w9 ⟨rfl, h4⟩; have hk := hK _ (St.call0 hst h4); simp only [Act.put, List.setIfInBounds_toArray, List.set_cons_zero, List.set_cons_succ] at hk; dsimp only; exact hk); (intro w5 hst5; replace hst := hst5; clear hst5; (try simp only [Act.put, List.setIfInBounds_toArray, List.set_cons_zero, List.set_cons_succ]); (repeat ((first | (show wpList _ _ _ (Oper.mk _ (.move _) _ _ _ none :: _) _ _; refine wl_mv rfl rfl rfl ?_) | (show wpList _ _ _ (Oper.mk _ (.pick _ _ _) _ _ _ none :: _) _ _; (first | (refine wl_pickOr rfl rfl rfl rfl rfl ?_; intro q hq) | (refine wl_pickAnd rfl rfl rfl rfl rfl ?_; intro q hq))) | (show wpList _ _ _ (Oper.mk _ (.pick _ _ _) _ _ _ (some _) :: _) _ _; (first | (refine wl_gpickOr rfl (by first | exact wanted_b rfl rfl | exact wanted_g rfl rfl) rfl rfl rfl ?_; intro q hq) | (refine wl_gpickAnd rfl (by first | exact wanted_b rfl rfl | exact wanted_g rfl rfl) rfl rfl rfl ?_; intro q hq))) | (show wpList _ _ _ (Oper.mk _ (.move _) _ _ _ (some _) :: _) _ _; refine wl_gmove rfl (by first | exact wanted_b rfl rfl | exact wanted_g rfl rfl) (by first | exact (fun hg => gvV_on hg) | exact (fun hg => gvV_gA hg) | exact (fun _ => rfl)) ?_)); (try simp only [Act.put, List.setIfInBounds_toArray, List.set_cons_zero, List.set_cons_succ]))))) | (go_at_call 96; refine (refHole_pv (x.2.pv x.1) _ (PV.In.old hst HX.out.1)).mono ?_; rintro _ w9 ⟨rfl, h4⟩; replace hst := St.call0 hst h4; clear h4; (try simp only [Act.put, List.setIfInBounds_toArray, List.set_cons_zero, List.set_cons_succ]); (repeat ((first | (show wpList _ _ _ (Oper.mk _ (.move _) _ _ _ none :: _) _ _; refine wl_mv rfl rfl rfl ?_) | (show wpList _ _ _ (Oper.mk _ (.pick _ _ _) _ _ _ none :: _) _ _; (first | (refine wl_pickOr rfl rfl rfl rfl rfl ?_; intro q hq) | (refine wl_pickAnd rfl rfl rfl rfl rfl ?_; intro q hq))) | (show wpList _ _ _ (Oper.mk _ (.pick _ _ _) _ _ _ (some _) :: _) _ _; (first | (refine wl_gpickOr rfl (by first | exact wanted_b rfl rfl | exact wanted_g rfl rfl) rfl rfl rfl ?_; intro q hq) | (refine wl_gpickAnd rfl (by first | exact wanted_b rfl rfl | exact wanted_g rfl rfl) rfl rfl rfl ?_; intro q hq))) | (show wpList _ _ _ (Oper.mk _ (.move _) _ _ _ (some _) :: _) _ _; refine wl_gmove rfl (by first | exact wanted_b rfl rfl | exact wanted_g rfl rfl) (by first | exact (fun hg => gvV_on hg) | exact (fun hg => gvV_gA hg) | exact (fun _ => rfl)) ?_)); (try simp only [Act.put, List.setIfInBounds_toArray, List.set_cons_zero, List.set_cons_succ])))) | (go_at_call 55; refine (refWithin_any x.2.id _ _ _).mono ?_; rintro _ w9 ⟨rfl, h4⟩; replace hst := St.call0 hst h4; clear h4; (try simp only [Act.put, List.setIfInBounds_toArray, List.set_cons_zero, List.set_cons_succ]); (repeat ((first | (show wpList _ _ _ (Oper.mk _ (.move _) _ _ _ none :: _) _ _; refine wl_mv rfl rfl rfl ?_) | (show wpList _ _ _ (Oper.mk _ (.pick _ _ _) _ _ _ none :: _) _ _; (first | (refine wl_pickOr rfl rfl rfl rfl rfl ?_; intro q hq) | (refine wl_pickAnd rfl rfl rfl rfl rfl ?_; intro q hq))) | (show wpList _ _ _ (Oper.mk _ (.pick _ _ _) _ _ _ (some _) :: _) _ _; (first | (refine wl_gpickOr rfl (by first | exact wanted_b rfl rfl | exact wanted_g rfl rfl) rfl rfl rfl ?_; intro q hq) | (refine wl_gpickAnd rfl (by first | exact wanted_b rfl rfl | exact wanted_g rfl rfl) rfl rfl rfl ?_; intro q hq))) | (show wpList _ _ _ (Oper.mk _ (.move _) _ _ _ (some _) :: _) _ _; refine wl_gmove rfl (by first | exact wanted_b rfl rfl | exact wanted_g rfl rfl) (by first | exact (fun hg => gvV_on hg) | exact (fun hg => gvV_gA hg) | exact (fun _ => rfl)) ?_)); (try simp only [Act.put, List.setIfInBounds_toArray, List.set_cons_zero, List.set_cons_succ])))) | (go_at_call 98; refine (refVolume_any x.2.name _ HX.out.2).mono ?_; rintro _ w9 ⟨rfl, h4⟩; replace hst := St.call0 hst h4; clear h4; (try simp only [Act.put, List.setIfInBounds_toArray, List.set_cons_zero, List.set_cons_succ]); (repeat ((first | (show wpList _ _ _ (Oper.mk _ (.move _) _ _ _ none :: _) _ _; refine wl_mv rfl rfl rfl ?_) | (show wpList _ _ _ (Oper.mk _ (.pick _ _ _) _ _ _ none :: _) _ _; (first | (refine wl_pickOr rfl rfl rfl rfl rfl ?_; intro q hq) | (refine wl_pickAnd rfl rfl rfl rfl rfl ?_; intro q hq))) | (show wpList _ _ _ (Oper.mk _ (.pick _ _ _) _ _ _ (some _) :: _) _ _; (first | (refine wl_gpickOr rfl (by first | exact wanted_b rfl rfl | exact wanted_g rfl rfl) rfl rfl rfl ?_; intro q hq) | (refine wl_gpickAnd rfl (by first | exact wanted_b rfl rfl | exact wanted_g rfl rfl) rfl rfl rfl ?_; intro q hq))) | (show wpList _ _ _ (Oper.mk _ (.move _) _ _ _ (some _) :: _) _ _; refine wl_gmove rfl (by first | exact wanted_b rfl rfl | exact wanted_g rfl rfl) (by first | exact (fun hg => gvV_on hg) | exact (fun hg => gvV_gA hg) | exact (fun _ => rfl)) ?_)); (try simp only [Act.put, List.setIfInBounds_toArray, List.set_cons_zero, List.set_cons_succ])))) | (go_at_call 99; refine (refSnap_any x.2.name _ HX.out.2).mono ?_; rintro _ w9 ⟨rfl, h4⟩; replace hst := St.call0 hst h4; clear h4; (try simp only [Act.put, List.setIfInBounds_toArray, List.set_cons_zero, List.set_cons_succ]); (repeat ((first | (show wpList _ _ _ (Oper.mk _ (.move _) _ _ _ none :: _) _ _; refine wl_mv rfl rfl rfl ?_) | (show wpList _ _ _ (Oper.mk _ (.pick _ _ _) _ _ _ none :: _) _ _; (first | (refine wl_pickOr rfl rfl rfl rfl rfl ?_; intro q hq) | (refine wl_pickAnd rfl rfl rfl rfl rfl ?_; intro q hq))) | (show wpList _ _ _ (Oper.mk _ (.pick _ _ _) _ _ _ (some _) :: _) _ _; (first | (refine wl_gpickOr rfl (by first | exact wanted_b rfl rfl | exact wanted_g rfl rfl) rfl rfl rfl ?_; intro q hq) | (refine wl_gpickAnd rfl (by first | exact wanted_b rfl rfl | exact wanted_g rfl rfl) rfl rfl rfl ?_; intro q hq))) | (show wpList _ _ _ (Oper.mk _ (.move _) _ _ _ (some _) :: _) _ _; refine wl_gmove rfl (by first | exact wanted_b rfl rfl | exact wanted_g rfl rfl) (by first | exact (fun hg => gvV_on hg) | exact (fun hg => gvV_gA hg) | exact (fun _ => rfl)) ?_)); (try simp only [Act.put, List.setIfInBounds_toArray, List.set_cons_zero, List.set_cons_succ])))))
    all_goals go_ret
    all_goals refine ⟨congrArg (fun z => Ending.returned (Value.bool z)) (?_ : (_ : Bool) = x.2.aloneB), hst.nil⟩
    all_goals
      have e := alone_eq x
      have e2 : (x.2.pv x.1).v = x.2.v := rfl
      have hk := HK.out
      clear HX HL H35 hst HK
      rw [e, RC.kindB, rootB_ref, e2, ← hk]
      simp only [hid_iff, bNot_eq, e2] at *
      clear e e2 hk
      (simp_all only [← Bool.not_and, ← Bool.not_or, bne, Bool.not_eq_true', Bool.not_eq_false', Bool.false_or, Bool.true_or, Bool.or_false, Bool.or_true, Bool.not_true, Bool.not_false, Bool.and_true, Bool.and_false, Bool.true_and, Bool.false_and, if_true, if_false, Bool.false_eq_true]) <;> rfl
end Go.Proofs.Ytkpkaoiafppimaa
namespace Go.Proofs.Ytkpkaoiafppimaa
set_option linter.unusedVariables false
set_option linter.unusedSimpArgs false
open Go.RowKit Hp
attribute [local irreducible] Go.Calls
set_option maxRecDepth 100000
set_option maxHeartbeats 4000000
attribute [local go_sem ↓] heldInt heldRecs heldStr heldRec
def bothB (next : Int) (l : List RC) (i : Nat) (r : RC) : Bool := eachB l i r && relB next l i r
theorem both_all (next : Int) (l : List RC) : allAt (bothB next l) l = (allAt (eachB l) l && allAt (relB next l) l) := by
  rw [Bool.eq_iff_iff, Bool.and_eq_true]
  constructor
  · intro h
    exact ⟨allAt_all fun i r hi => (Bool.and_eq_true_iff.1 (allAt_at h hi)).1, allAt_all fun i r hi => (Bool.and_eq_true_iff.1 (allAt_at h hi)).2⟩
  · rintro ⟨h1, h2⟩
    exact allAt_all fun i r hi => by unfold bothB; rw [allAt_at h1 hi, allAt_at h2 hi]; rfl
theorem records_any_r (t : TC) (lv : Value) (ar : Option Addr) (nr cr : Nat) (xs : List (Value × RC)) (w : World) (hR : RecsIn w (.slice ar nr cr) nr xs) (hb : nr ≤ 1000000) :
    Calls Try.prog 56 #[.agg (tabC t (.slice ar nr cr) lv).toArray] w fun e w' => e = .returned (.bool (allAt (bothB t.next (xs.map (·.2))) (xs.map (·.2)))) ∧ St w [] w' [] := by
  have hst0 := St.refl w
  have hcr : nr ≤ cr ∧ cr ≤ maxLen := by
    obtain ⟨_, ao', c0, he, hn, hcm, _⟩ := hR.rd
    cases he
    exact ⟨hn, hcm⟩
  have HR := hid hR
  clear hR
  obtain ⟨hc1, hc2⟩ := hcr
  unfold maxLen at hc2
  obtain ⟨E, hE⟩ : ∃ E, E = allAt (bothB t.next (xs.map (·.2))) (xs.map (·.2)) := ⟨_, rfl⟩
  rw [← hE]
  have HE := hid hE
  clear hE
  go_enter Try.func56, Try.ntmps56
  go_wp2_with (first | go_big_skip | go_big_guard | (refine wl_boxA hst0 rfl rfl rfl ?_; intro g1 w1 hst; clear hst0))
  go_loopw [3] (fun i wr => ∃ j : Nat, j ≤ nr ∧ i = .int .i64 (j : Int) ∧ St w [] wr [.blk g1 30 (tabC t (.slice ar nr cr) lv)] ∧ Hid (∀ i y, i < j → xs[i]? = some y → bothB t.next (xs.map (·.2)) i y.2 = true)) (fun i _ => nr - (intOf i).toNat)
  case atStart => exact ⟨0, Nat.zero_le _, rfl, hst, hid (fun i y hi _ => by omega)⟩
  case round =>
    clear hst
    obtain ⟨j, hj, rfl, hst, HP⟩ := hrel
    by_cases hlt : j < nr
    · have e1 : decide ((j : Int) < (nr : Int)) = true := decide_eq_true (by omega)
      have z1 : IntKind.i64.wrap ((j : Int) + 1) = (j : Int) + 1 := IntWalk.i64_in _ (by omega)
      obtain ⟨x, lb, lo, hxj, rfl, hin, hr⟩ := RecsIn.at HR.out hlt
      have HXJ := hid hxj
      have HIN := hid hin
      have HL := hid (cellsR_len hin.L)
      have HWR := hid hr
      clear hxj hin hr
      obtain ⟨q, hq⟩ : ∃ q, q = x.2.aloneB := ⟨_, rfl⟩
      have HQ := hid hq
      clear hq
      cases q
      · go_wp2_with (first | go_big_skip | go_big_guard | (refine wl_loadE rfl rfl rfl ?_; first | refine ⟨_, Loads.at [] hst rfl, ?_⟩) | (refine wl_index rfl rfl rfl rfl hlt ?_) | (refine wl_loadE rfl rfl rfl ?_; first | refine ⟨_, Loads.oldA (cs := cellsR x) hst HL.out HWR.out, ?_⟩) | (refine wl_alloc hst rfl rfl ?_; intro gx w2 hst2; clear hst) | (refine wl_storeA [] hst2 rfl rfl rfl rfl (by exact HL.out) (cellsR_ones HIN.out) rfl ?_; intro w3 hst3; clear hst2))
        have hX := hst3.drew
        clear hst3
        refine wp_region_held_drew (S := (fun w' => (loadVarH 47 ⟨gx, 0, none⟩).run Try.prog w' = .ok (.agg (List.toArray (cellsR x))) w' ∧ (loadVarH 3 ⟨gx, 0, none⟩).run Try.prog w' = .ok (.int .i64 x.2.id) w' ∧ (loadVarH 3 ⟨g1, 0, none⟩).run Try.prog w' = .ok (.int .i64 t.next) w')) (by kernel_rfl) (by exact ⟨ldA (cellsR x) [] hX (HL.out) (by simp), ldS [] hX rfl, ldS [_] hX rfl⟩) (fun hHeld => ?_)
        refine tk 0 18 ?_
        (try simp only [Act.put, List.setIfInBounds_toArray, List.set_cons_zero, List.set_cons_succ])
        refine wpAnyH_ready (rs := [1]) (by kernel_rfl) (by simp) ?_
        refine (AllReadyH.cons (o := ⟨some 19, _, _, _, _, _⟩) rfl (fun K hK => ?_) AllReadyH.nil)
        rw [if_pos (by rfl)]
        go_simp
        go_at_call 82
        refine (may_any_r x _ (RC.In.old hX HIN.out)).mono ?_
        rw [← HQ.out]
        rintro _ w4 ⟨rfl, h4⟩
        have hA1 := St.call0 hX h4
        clear h4
        refine hK.out _ _ ?_ (fun hHeld => ?_)
        · exact ⟨ldA (cellsR x) [] hA1 (HL.out) (by simp), ldS [] hA1 rfl, ldS [_] hA1 rfl⟩
        clear hK K
        (try simp only [Act.put, List.setIfInBounds_toArray, List.set_cons_zero, List.set_cons_succ])
        refine tk 2 20 ?_
        (try simp only [Act.put, List.setIfInBounds_toArray, List.set_cons_zero, List.set_cons_succ])
        refine tk 3 21 ?_
        (try simp only [Act.put, List.setIfInBounds_toArray, List.set_cons_zero, List.set_cons_succ])
        refine wpAnyH_take (i := 4) (oi := ⟨some 22, _, _, _, _, _⟩) (v := undef) rfl (by kernel_rfl) (by kernel_rfl) (by kernel_rfl) (fun _ _ _ h => h) (Or.inr ⟨by rfl, rfl⟩) (by assumption) ?_
        (try simp only [Act.put, List.setIfInBounds_toArray, List.set_cons_zero, List.set_cons_succ])
        refine wpAnyH_take (i := 6) (oi := ⟨some 24, _, _, _, _, _⟩) (v := undef) rfl (by kernel_rfl) (by kernel_rfl) (by kernel_rfl) (fun _ _ _ h => h) (Or.inr ⟨by rfl, rfl⟩) (by assumption) ?_
        (try simp only [Act.put, List.setIfInBounds_toArray, List.set_cons_zero, List.set_cons_succ])
        refine wpAnyH_take (i := 5) (oi := ⟨some 23, _, _, _, _, _⟩) (v := undef) rfl (by kernel_rfl) (by kernel_rfl) (by kernel_rfl) (fun _ _ _ h => h) (Or.inr ⟨by rfl, rfl⟩) (by assumption) ?_
        (try simp only [Act.put, List.setIfInBounds_toArray, List.set_cons_zero, List.set_cons_succ])
        refine wpAnyH_take (i := 7) (oi := ⟨some 25, _, _, _, _, _⟩) (v := undef) rfl (by kernel_rfl) (by kernel_rfl) (by kernel_rfl) (fun _ _ _ h => h) (Or.inr ⟨by rfl, rfl⟩) (by assumption) ?_
        (try simp only [Act.put, List.setIfInBounds_toArray, List.set_cons_zero, List.set_cons_succ])
        refine wpAnyH_take (i := 8) (oi := ⟨some 26, _, _, _, _, _⟩) (v := undef) rfl (by kernel_rfl) (by kernel_rfl) (by kernel_rfl) (fun _ _ _ h => h) (Or.inr ⟨by rfl, rfl⟩) (by assumption) ?_
        (try simp only [Act.put, List.setIfInBounds_toArray, List.set_cons_zero, List.set_cons_succ])
        refine tk 9 27 ?_
        (try simp only [Act.put, List.setIfInBounds_toArray, List.set_cons_zero, List.set_cons_succ])
        refine tk 10 28 ?_
        (try simp only [Act.put, List.setIfInBounds_toArray, List.set_cons_zero, List.set_cons_succ])
        refine wpAnyH_take (i := 11) (oi := ⟨some 29, _, _, _, _, _⟩) (v := undef) rfl (by kernel_rfl) (by kernel_rfl) (by kernel_rfl) (fun _ _ _ h => h) (Or.inr ⟨by rfl, rfl⟩) (by assumption) ?_
        (try simp only [Act.put, List.setIfInBounds_toArray, List.set_cons_zero, List.set_cons_succ])
        refine wpAnyH_take (i := 12) (oi := ⟨some 30, _, _, _, _, _⟩) (v := undef) rfl (by kernel_rfl) (by kernel_rfl) (by kernel_rfl) (fun _ _ _ h => h) (Or.inr ⟨by rfl, rfl⟩) (by assumption) ?_
        (try simp only [Act.put, List.setIfInBounds_toArray, List.set_cons_zero, List.set_cons_succ])
        refine wpAnyH_take (i := 13) (oi := ⟨some 31, _, _, _, _, _⟩) (v := undef) rfl (by kernel_rfl) (by kernel_rfl) (by kernel_rfl) (fun _ _ _ h => h) (Or.inr ⟨by rfl, rfl⟩) (by assumption) ?_
        (try simp only [Act.put, List.setIfInBounds_toArray, List.set_cons_zero, List.set_cons_succ])
        refine wpAnyH_take (i := 14) (oi := ⟨some 32, _, _, _, _, _⟩) (v := undef) rfl (by kernel_rfl) (by kernel_rfl) (by kernel_rfl) (fun _ _ _ h => h) (Or.inr ⟨by rfl, rfl⟩) (by assumption) ?_
        (try simp only [Act.put, List.setIfInBounds_toArray, List.set_cons_zero, List.set_cons_succ])
        refine wpAnyH_take (i := 16) (oi := ⟨some 34, _, _, _, _, _⟩) (v := undef) rfl (by kernel_rfl) (by kernel_rfl) (by kernel_rfl) (fun _ _ _ h => h) (Or.inr ⟨by rfl, rfl⟩) (by assumption) ?_
        (try simp only [Act.put, List.setIfInBounds_toArray, List.set_cons_zero, List.set_cons_succ])
        refine wpAnyH_take (i := 21) (oi := ⟨some 39, _, _, _, _, _⟩) (v := undef) rfl (by kernel_rfl) (by kernel_rfl) (by kernel_rfl) (fun _ _ _ h => h) (Or.inr ⟨by rfl, rfl⟩) (by assumption) ?_
        (try simp only [Act.put, List.setIfInBounds_toArray, List.set_cons_zero, List.set_cons_succ])
        refine wpAnyH_take (i := 15) (oi := ⟨some 33, _, _, _, _, _⟩) (v := undef) rfl (by kernel_rfl) (by kernel_rfl) (by kernel_rfl) (fun _ _ _ h => h) (Or.inr ⟨by rfl, rfl⟩) (by assumption) ?_
        (try simp only [Act.put, List.setIfInBounds_toArray, List.set_cons_zero, List.set_cons_succ])
        refine wpAnyH_take (i := 17) (oi := ⟨some 35, _, _, _, _, _⟩) (v := undef) rfl (by kernel_rfl) (by kernel_rfl) (by kernel_rfl) (fun _ _ _ h => h) (Or.inr ⟨by rfl, rfl⟩) (by assumption) ?_
        (try simp only [Act.put, List.setIfInBounds_toArray, List.set_cons_zero, List.set_cons_succ])
        refine wpAnyH_take (i := 22) (oi := ⟨some 40, _, _, _, _, _⟩) (v := undef) rfl (by kernel_rfl) (by kernel_rfl) (by kernel_rfl) (fun _ _ _ h => h) (Or.inr ⟨by rfl, rfl⟩) (by assumption) ?_
        (try simp only [Act.put, List.setIfInBounds_toArray, List.set_cons_zero, List.set_cons_succ])
        refine wpAnyH_take (i := 18) (oi := ⟨some 36, _, _, _, _, _⟩) (v := undef) rfl (by kernel_rfl) (by kernel_rfl) (by kernel_rfl) (fun _ _ _ h => h) (Or.inr ⟨by rfl, rfl⟩) (by assumption) ?_
        (try simp only [Act.put, List.setIfInBounds_toArray, List.set_cons_zero, List.set_cons_succ])
        refine wpAnyH_take (i := 19) (oi := ⟨some 37, _, _, _, _, _⟩) (v := undef) rfl (by kernel_rfl) (by kernel_rfl) (by kernel_rfl) (fun _ _ _ h => h) (Or.inr ⟨by rfl, rfl⟩) (by assumption) ?_
        (try simp only [Act.put, List.setIfInBounds_toArray, List.set_cons_zero, List.set_cons_succ])
        refine wpAnyH_take (i := 20) (oi := ⟨some 38, _, _, _, _, _⟩) (v := undef) rfl (by kernel_rfl) (by kernel_rfl) (by kernel_rfl) (fun _ _ _ h => h) (Or.inr ⟨by rfl, rfl⟩) (by assumption) ?_
        (try simp only [Act.put, List.setIfInBounds_toArray, List.set_cons_zero, List.set_cons_succ])
        refine wpAnyH_ready (rs := [23]) (by kernel_rfl) (by simp) ?_
        refine (AllReadyH.cons (o := ⟨some 41, _, _, _, _, _⟩) rfl (fun K hK => ?_) AllReadyH.nil)
        rw [if_neg (by rw [show Region.wanted _ _ = false from rfl]; exact Bool.false_ne_true)]
        refine hK.out _ _ ?_ (fun hHeld => ?_)
        · exact ⟨ldA (cellsR x) [] hA1 (HL.out) (by simp), ldS [] hA1 rfl, ldS [_] hA1 rfl⟩
        clear hK K
        (try simp only [Act.put, List.setIfInBounds_toArray, List.set_cons_zero, List.set_cons_succ])
        refine wpAnyH_take (i := 24) (oi := ⟨some 42, _, _, _, _, _⟩) (v := undef) rfl (by kernel_rfl) (by kernel_rfl) (by kernel_rfl) (fun _ _ _ h => h) (Or.inr ⟨by rfl, rfl⟩) (by assumption) ?_
        (try simp only [Act.put, List.setIfInBounds_toArray, List.set_cons_zero, List.set_cons_succ])
        refine wpAnyH_take (i := 25) (oi := ⟨some 43, _, _, _, _, _⟩) (v := undef) rfl (by kernel_rfl) (by kernel_rfl) (by kernel_rfl) (fun _ _ _ h => h) (Or.inr ⟨by rfl, rfl⟩) (by assumption) ?_
        (try simp only [Act.put, List.setIfInBounds_toArray, List.set_cons_zero, List.set_cons_succ])
        refine tk 26 44 ?_
        (try simp only [Act.put, List.setIfInBounds_toArray, List.set_cons_zero, List.set_cons_succ])
        refine wpAnyH_done (by kernel_rfl) ?_ _
        clear hHeld
        have hv : E = false := by rw [HE.out]; exact allAt_no (map_at HXJ.out) (by unfold bothB eachB relB; rw [← HQ.out]; rfl)
        have HV := hid hv
        clear hv
        go_wp2_with (first | go_big_skip | go_big_guard | fail)
        go_ret
        exact ⟨by have h := HV.out; subst h; rfl, hA1.nil⟩
      · by_cases k2 : x.2.id < t.next
        · have d3 : decide (x.2.id ≥ t.next) = false := decide_eq_false (by omega)
          have d4 : decide (t.next ≤ x.2.id) = false := d3
          have HLT := hid (decide_eq_true k2)
          clear k2
          by_cases k3 : j = 0
          · have z7 : decide (0 < j) = false := decide_eq_false (by omega)
            have z4 : decide ((0 : Int) < (j : Int)) = false := decide_eq_false (by omega)
            have z5 : decide ((j : Int) > 0) = false := z4
            have HJ := hid k3
            clear k3
            go_wp2_with (first | go_big_skip | go_big_guard | (refine wl_loadE rfl rfl rfl ?_; first | refine ⟨_, Loads.at [] hst rfl, ?_⟩) | (refine wl_index rfl rfl rfl rfl hlt ?_) | (refine wl_loadE rfl rfl rfl ?_; first | refine ⟨_, Loads.oldA (cs := cellsR x) hst HL.out HWR.out, ?_⟩) | (refine wl_alloc hst rfl rfl ?_; intro gx w2 hst2; clear hst) | (refine wl_storeA [] hst2 rfl rfl rfl rfl (by exact HL.out) (cellsR_ones HIN.out) rfl ?_; intro w3 hst3; clear hst2))
            have hX := hst3.drew
            clear hst3
            refine wp_region_held_drew (S := (fun w' => (loadVarH 47 ⟨gx, 0, none⟩).run Try.prog w' = .ok (.agg (List.toArray (cellsR x))) w' ∧ (loadVarH 3 ⟨gx, 0, none⟩).run Try.prog w' = .ok (.int .i64 x.2.id) w' ∧ (loadVarH 3 ⟨g1, 0, none⟩).run Try.prog w' = .ok (.int .i64 t.next) w')) (by kernel_rfl) (by exact ⟨ldA (cellsR x) [] hX (HL.out) (by simp), ldS [] hX rfl, ldS [_] hX rfl⟩) (fun hHeld => ?_)
            refine tk 0 18 ?_
            (try simp only [Act.put, List.setIfInBounds_toArray, List.set_cons_zero, List.set_cons_succ])
            refine wpAnyH_ready (rs := [1]) (by kernel_rfl) (by simp) ?_
            refine (AllReadyH.cons (o := ⟨some 19, _, _, _, _, _⟩) rfl (fun K hK => ?_) AllReadyH.nil)
            rw [if_pos (by rfl)]
            go_simp
            go_at_call 82
            refine (may_any_r x _ (RC.In.old hX HIN.out)).mono ?_
            rw [← HQ.out]
            rintro _ w4 ⟨rfl, h4⟩
            have hA1 := St.call0 hX h4
            clear h4
            refine hK.out _ _ ?_ (fun hHeld => ?_)
            · exact ⟨ldA (cellsR x) [] hA1 (HL.out) (by simp), ldS [] hA1 rfl, ldS [_] hA1 rfl⟩
            clear hK K
            (try simp only [Act.put, List.setIfInBounds_toArray, List.set_cons_zero, List.set_cons_succ])
            refine tk 2 20 ?_
            (try simp only [Act.put, List.setIfInBounds_toArray, List.set_cons_zero, List.set_cons_succ])
            refine tk 3 21 ?_
            (try simp only [Act.put, List.setIfInBounds_toArray, List.set_cons_zero, List.set_cons_succ])
            refine tk 4 22 ?_
            (try simp only [Act.put, List.setIfInBounds_toArray, List.set_cons_zero, List.set_cons_succ])
            refine tk 6 24 ?_
            (try simp only [Act.put, List.setIfInBounds_toArray, List.set_cons_zero, List.set_cons_succ])
            refine tk 5 23 ?_
            (try simp only [Act.put, List.setIfInBounds_toArray, List.set_cons_zero, List.set_cons_succ])
            refine tk 7 25 ?_
            (try simp only [Act.put, List.setIfInBounds_toArray, List.set_cons_zero, List.set_cons_succ])
            refine tk 8 26 ?_
            (try simp only [Act.put, List.setIfInBounds_toArray, List.set_cons_zero, List.set_cons_succ])
            refine tk 9 27 ?_
            (try simp only [Act.put, List.setIfInBounds_toArray, List.set_cons_zero, List.set_cons_succ])
            refine tk 10 28 ?_
            (try simp only [Act.put, List.setIfInBounds_toArray, List.set_cons_zero, List.set_cons_succ])
            refine tk 11 29 ?_
            (try simp only [Act.put, List.setIfInBounds_toArray, List.set_cons_zero, List.set_cons_succ])
            refine tk 12 30 ?_
            (try simp only [Act.put, List.setIfInBounds_toArray, List.set_cons_zero, List.set_cons_succ])
            refine tk 13 31 ?_
            (try simp only [Act.put, List.setIfInBounds_toArray, List.set_cons_zero, List.set_cons_succ])
            refine wpAnyH_take (i := 14) (oi := ⟨some 32, _, _, _, _, _⟩) (v := undef) rfl (by kernel_rfl) (by kernel_rfl) (by kernel_rfl) (fun _ _ _ h => h) (Or.inr ⟨by rfl, rfl⟩) (by assumption) ?_
            (try simp only [Act.put, List.setIfInBounds_toArray, List.set_cons_zero, List.set_cons_succ])
            refine wpAnyH_take (i := 16) (oi := ⟨some 34, _, _, _, _, _⟩) (v := undef) rfl (by kernel_rfl) (by kernel_rfl) (by kernel_rfl) (fun _ _ _ h => h) (Or.inr ⟨by rfl, rfl⟩) (by assumption) ?_
            (try simp only [Act.put, List.setIfInBounds_toArray, List.set_cons_zero, List.set_cons_succ])
            refine wpAnyH_take (i := 21) (oi := ⟨some 39, _, _, _, _, _⟩) (v := undef) rfl (by kernel_rfl) (by kernel_rfl) (by kernel_rfl) (fun _ _ _ h => h) (Or.inr ⟨by rfl, rfl⟩) (by assumption) ?_
            (try simp only [Act.put, List.setIfInBounds_toArray, List.set_cons_zero, List.set_cons_succ])
            refine wpAnyH_take (i := 15) (oi := ⟨some 33, _, _, _, _, _⟩) (v := undef) rfl (by kernel_rfl) (by kernel_rfl) (by kernel_rfl) (fun _ _ _ h => h) (Or.inr ⟨by rfl, rfl⟩) (by assumption) ?_
            (try simp only [Act.put, List.setIfInBounds_toArray, List.set_cons_zero, List.set_cons_succ])
            refine wpAnyH_take (i := 17) (oi := ⟨some 35, _, _, _, _, _⟩) (v := undef) rfl (by kernel_rfl) (by kernel_rfl) (by kernel_rfl) (fun _ _ _ h => h) (Or.inr ⟨by rfl, rfl⟩) (by assumption) ?_
            (try simp only [Act.put, List.setIfInBounds_toArray, List.set_cons_zero, List.set_cons_succ])
            refine wpAnyH_take (i := 22) (oi := ⟨some 40, _, _, _, _, _⟩) (v := undef) rfl (by kernel_rfl) (by kernel_rfl) (by kernel_rfl) (fun _ _ _ h => h) (Or.inr ⟨by rfl, rfl⟩) (by assumption) ?_
            (try simp only [Act.put, List.setIfInBounds_toArray, List.set_cons_zero, List.set_cons_succ])
            refine wpAnyH_take (i := 18) (oi := ⟨some 36, _, _, _, _, _⟩) (v := undef) rfl (by kernel_rfl) (by kernel_rfl) (by kernel_rfl) (fun _ _ _ h => h) (Or.inr ⟨by rfl, rfl⟩) (by assumption) ?_
            (try simp only [Act.put, List.setIfInBounds_toArray, List.set_cons_zero, List.set_cons_succ])
            refine wpAnyH_take (i := 19) (oi := ⟨some 37, _, _, _, _, _⟩) (v := undef) rfl (by kernel_rfl) (by kernel_rfl) (by kernel_rfl) (fun _ _ _ h => h) (Or.inr ⟨by rfl, rfl⟩) (by assumption) ?_
            (try simp only [Act.put, List.setIfInBounds_toArray, List.set_cons_zero, List.set_cons_succ])
            refine wpAnyH_take (i := 20) (oi := ⟨some 38, _, _, _, _, _⟩) (v := undef) rfl (by kernel_rfl) (by kernel_rfl) (by kernel_rfl) (fun _ _ _ h => h) (Or.inr ⟨by rfl, rfl⟩) (by assumption) ?_
            (try simp only [Act.put, List.setIfInBounds_toArray, List.set_cons_zero, List.set_cons_succ])
            refine wpAnyH_ready (rs := [23]) (by kernel_rfl) (by simp) ?_
            refine (AllReadyH.cons (o := ⟨some 41, _, _, _, _, _⟩) rfl (fun K hK => ?_) AllReadyH.nil)
            rw [if_neg (by rw [show Region.wanted _ _ = false from rfl]; exact Bool.false_ne_true)]
            refine hK.out _ _ ?_ (fun hHeld => ?_)
            · exact ⟨ldA (cellsR x) [] hA1 (HL.out) (by simp), ldS [] hA1 rfl, ldS [_] hA1 rfl⟩
            clear hK K
            (try simp only [Act.put, List.setIfInBounds_toArray, List.set_cons_zero, List.set_cons_succ])
            refine wpAnyH_take (i := 24) (oi := ⟨some 42, _, _, _, _, _⟩) (v := undef) rfl (by kernel_rfl) (by kernel_rfl) (by kernel_rfl) (fun _ _ _ h => h) (Or.inr ⟨by rfl, rfl⟩) (by assumption) ?_
            (try simp only [Act.put, List.setIfInBounds_toArray, List.set_cons_zero, List.set_cons_succ])
            refine tk 25 43 ?_
            (try simp only [Act.put, List.setIfInBounds_toArray, List.set_cons_zero, List.set_cons_succ])
            refine tk 26 44 ?_
            (try simp only [Act.put, List.setIfInBounds_toArray, List.set_cons_zero, List.set_cons_succ])
            refine wpAnyH_done (by kernel_rfl) ?_ _
            clear hHeld
            go_wp2_with (first | go_big_skip | go_big_guard | fail)
            go_loopw [5] (fun i wr => ∃ m : Nat, m ≤ j ∧ i = .int .i64 (m : Int) ∧ St w [] wr [.blk gx 47 (cellsR x), .blk g1 30 (tabC t (.slice (some ⟨lb, lo, none⟩) nr cr) lv)] ∧ Hid (((xs.take m).map (·.2)).any (fun y => y.id == x.2.id) = false)) (fun i _ => j - (intOf i).toNat)
            case atStart => exact ⟨0, Nat.zero_le _, rfl, hA1, hid rfl⟩
            case round =>
              clear hA1
              obtain ⟨m, hm, rfl, hsm, HM⟩ := hrel
              by_cases hmj : m < j
              · have f1 : decide ((m : Int) < (j : Int)) = true := decide_eq_true (by omega)
                have y1 : IntKind.i64.wrap ((m : Int) + 1) = (m : Int) + 1 := IntWalk.i64_in _ (by omega)
                have hltm : m < nr := by omega
                obtain ⟨z, b', o', hz', he, hinz, hrz⟩ := RecsIn.at HR.out hltm
                cases he
                have HZ := hid hz'
                have HZI := hid (show w.cell? ⟨lb, lo + m * 44, none⟩ = some (.int .i64 z.2.id) from hrz 0 _ rfl)
                clear hz' hinz hrz
                cases c1 : (z.2.id == x.2.id)
                · go_wp2_with (first | go_big_skip | go_big_guard | fail)
                  have hY := hsm.drew
                  clear hsm
                  refine wp_region_held_drew (S := (fun w' => (loadVarH 25 ⟨g1, 1, none⟩).run Try.prog w' = .ok (.slice (some ⟨lb, lo, none⟩) nr cr) w' ∧ (loadVarH 3 ⟨gx, 0, none⟩).run Try.prog w' = .ok (.int .i64 x.2.id) w' ∧ (loadVarH 3 ⟨lb, lo + m * 44, none⟩).run Try.prog w' = .ok (.int .i64 z.2.id) w')) (by kernel_rfl) (by exact ⟨ldS [_] hY rfl, ldS [] hY rfl, ldO hY (HZI.out)⟩) (fun hHeld => ?_)
                  refine tk 0 50 ?_
                  (try simp only [Act.put, List.setIfInBounds_toArray, List.set_cons_zero, List.set_cons_succ])
                  refine tk 2 52 ?_
                  (try simp only [Act.put, List.setIfInBounds_toArray, List.set_cons_zero, List.set_cons_succ])
                  refine tk 6 56 ?_
                  (try simp only [Act.put, List.setIfInBounds_toArray, List.set_cons_zero, List.set_cons_succ])
                  refine tk 1 51 ?_
                  (try simp only [Act.put, List.setIfInBounds_toArray, List.set_cons_zero, List.set_cons_succ])
                  refine tk 7 57 ?_
                  (try simp only [Act.put, List.setIfInBounds_toArray, List.set_cons_zero, List.set_cons_succ])
                  refine tk 3 53 ?_
                  (try simp only [Act.put, List.setIfInBounds_toArray, List.set_cons_zero, List.set_cons_succ])
                  refine tk 4 54 ?_
                  (try simp only [Act.put, List.setIfInBounds_toArray, List.set_cons_zero, List.set_cons_succ])
                  refine tk 5 55 ?_
                  (try simp only [Act.put, List.setIfInBounds_toArray, List.set_cons_zero, List.set_cons_succ])
                  refine tk 8 58 ?_
                  (try simp only [Act.put, List.setIfInBounds_toArray, List.set_cons_zero, List.set_cons_succ])
                  refine wpAnyH_done (by kernel_rfl) ?_ _
                  clear hHeld
                  go_wp2_with (first | go_big_skip | go_big_guard | fail)
                  go_roundw
                  case rel => exact ⟨m + 1, by omega, rfl, hY, hid (by rw [any_step HZ.out, HM.out, c1]; rfl)⟩
                  case measure => simp [intOf]; omega
                · go_wp2_with (first | go_big_skip | go_big_guard | fail)
                  have hY := hsm.drew
                  clear hsm
                  refine wp_region_held_drew (S := (fun w' => (loadVarH 25 ⟨g1, 1, none⟩).run Try.prog w' = .ok (.slice (some ⟨lb, lo, none⟩) nr cr) w' ∧ (loadVarH 3 ⟨gx, 0, none⟩).run Try.prog w' = .ok (.int .i64 x.2.id) w' ∧ (loadVarH 3 ⟨lb, lo + m * 44, none⟩).run Try.prog w' = .ok (.int .i64 z.2.id) w')) (by kernel_rfl) (by exact ⟨ldS [_] hY rfl, ldS [] hY rfl, ldO hY (HZI.out)⟩) (fun hHeld => ?_)
                  refine tk 0 50 ?_
                  (try simp only [Act.put, List.setIfInBounds_toArray, List.set_cons_zero, List.set_cons_succ])
                  refine tk 2 52 ?_
                  (try simp only [Act.put, List.setIfInBounds_toArray, List.set_cons_zero, List.set_cons_succ])
                  refine tk 6 56 ?_
                  (try simp only [Act.put, List.setIfInBounds_toArray, List.set_cons_zero, List.set_cons_succ])
                  refine tk 1 51 ?_
                  (try simp only [Act.put, List.setIfInBounds_toArray, List.set_cons_zero, List.set_cons_succ])
                  refine tk 7 57 ?_
                  (try simp only [Act.put, List.setIfInBounds_toArray, List.set_cons_zero, List.set_cons_succ])
                  refine tk 3 53 ?_
                  (try simp only [Act.put, List.setIfInBounds_toArray, List.set_cons_zero, List.set_cons_succ])
                  refine tk 4 54 ?_
                  (try simp only [Act.put, List.setIfInBounds_toArray, List.set_cons_zero, List.set_cons_succ])
                  refine tk 5 55 ?_
                  (try simp only [Act.put, List.setIfInBounds_toArray, List.set_cons_zero, List.set_cons_succ])
                  refine tk 8 58 ?_
                  (try simp only [Act.put, List.setIfInBounds_toArray, List.set_cons_zero, List.set_cons_succ])
                  refine wpAnyH_done (by kernel_rfl) ?_ _
                  clear hHeld
                  have hv : E = false := by rw [HE.out]; exact allAt_no (map_at HXJ.out) (by unfold bothB eachB relB; rw [List.any_eq_true.2 ⟨z.2, by rw [← List.map_take]; exact List.mem_map_of_mem (List.mem_take_iff_getElem.2 ⟨m, by have := HR.out.len; omega, (List.getElem?_eq_some_iff.1 HZ.out).2⟩), c1⟩]; simp)
                  have HV := hid hv
                  clear hv
                  go_wp2_with (first | go_big_skip | go_big_guard | fail)
                  go_ret
                  exact ⟨by have h := HV.out; subst h; rfl, hY.nil⟩
              · have f1 : decide ((m : Int) < (j : Int)) = false := decide_eq_false (by omega)
                obtain rfl : m = j := by omega
                obtain ⟨c, hc⟩ : ∃ c, c = kinB (xs.map (·.2)) x.2 := ⟨_, rfl⟩
                have HK := hid hc
                have HRE := hid (show relB t.next (xs.map (·.2)) m x.2 = c by unfold relB; rw [← List.map_take, HM.out, HLT.out, hc]; rfl)
                clear hc
                cases c
                · have hv : E = false := by rw [HE.out]; exact allAt_no (map_at HXJ.out) (by unfold bothB; rw [HRE.out, Bool.and_false])
                  have HV := hid hv
                  clear hv
                  go_wp2_with (first | go_big_skip | go_big_guard | (refine wl_loadE rfl rfl rfl ?_; first | refine ⟨_, Loads.atA (tabC t (.slice (some ⟨lb, lo, none⟩) nr cr) lv) [_] hsm rfl rfl, ?_⟩ | refine ⟨_, Loads.atA (cellsR x) [] hsm HL.out (by simp), ?_⟩) | (go_at_call 84; refine (kin_any_r t lv (some ⟨lb, lo, none⟩) nr cr xs _ (HR.out.old hsm) hb x (RC.In.old hsm HIN.out)).mono ?_; rw [← HK.out]; rintro _ w9 ⟨rfl, h4⟩; replace hsm := St.call0 hsm h4; clear h4))
                  go_ret
                  exact ⟨by have h := HV.out; subst h; rfl, hsm.nil⟩
                · go_wp2_with (first | go_big_skip | go_big_guard | (refine wl_loadE rfl rfl rfl ?_; first | refine ⟨_, Loads.atA (tabC t (.slice (some ⟨lb, lo, none⟩) nr cr) lv) [_] hsm rfl rfl, ?_⟩ | refine ⟨_, Loads.atA (cellsR x) [] hsm HL.out (by simp), ?_⟩) | (go_at_call 84; refine (kin_any_r t lv (some ⟨lb, lo, none⟩) nr cr xs _ (HR.out.old hsm) hb x (RC.In.old hsm HIN.out)).mono ?_; rw [← HK.out]; rintro _ w9 ⟨rfl, h4⟩; replace hsm := St.call0 hsm h4; clear h4))
                  go_roundw
                  case rel => exact ⟨m + 1, by omega, rfl, St.drop (L1 := []) hsm, hid (all_steps HP.out HXJ.out (by unfold bothB eachB; rw [HRE.out, ← HQ.out, (show lessAt (xs.map (·.2)) m x.2 = true by rw [HJ.out]; rfl)]; rfl))⟩
                  case measure => simp [intOf]; omega
          · obtain ⟨k, hk⟩ : ∃ k, j = k + 1 := ⟨j - 1, by omega⟩
            obtain ⟨y, b', o', hy', he, hiny, hry⟩ := RecsIn.at HR.out (k := k) (by omega)
            cases he
            have HYK := hid hy'
            have HINY := hid hiny
            have HY := hid (show w.cell? ⟨lb, lo + k * 44 + 1, none⟩ = some (.string ⟨y.2.name.toArray⟩) from hry 1 _ rfl)
            clear hy' hiny hry
            have z2 : IntKind.i64.wrap ((j : Int) - 1) = (k : Int) := by rw [IntWalk.i64_in _ (by omega)]; omega
            have z6 : IntKind.i64.wrap (k : Int) = (k : Int) := IntWalk.i64_in _ (by omega)
            have z7 : decide (0 < j) = true := decide_eq_true (by omega)
            have z4 : decide ((0 : Int) < (j : Int)) = true := decide_eq_true (by omega)
            have z5 : decide ((j : Int) > 0) = true := z4
            have hltk : k < nr := by omega
            obtain ⟨r, hr⟩ : ∃ r, r = lessL y.2.name x.2.name := ⟨_, rfl⟩
            have HLE := hid hr
            have HLA := hid (show lessAt (xs.map (·.2)) j x.2 = lessL y.2.name x.2.name by rw [hk]; exact less_at HYK.out)
            clear hr hk k3
            cases r
            · go_wp2_with (first | go_big_skip | go_big_guard | (refine wl_loadE rfl rfl rfl ?_; first | refine ⟨_, Loads.at [] hst rfl, ?_⟩) | (refine wl_index rfl rfl rfl rfl hlt ?_) | (refine wl_loadE rfl rfl rfl ?_; first | refine ⟨_, Loads.oldA (cs := cellsR x) hst HL.out HWR.out, ?_⟩) | (refine wl_alloc hst rfl rfl ?_; intro gx w2 hst2; clear hst) | (refine wl_storeA [] hst2 rfl rfl rfl rfl (by exact HL.out) (cellsR_ones HIN.out) rfl ?_; intro w3 hst3; clear hst2))
              have hX := hst3.drew
              clear hst3
              refine wp_region_held_drew (S := (fun w' => (loadVarH 47 ⟨gx, 0, none⟩).run Try.prog w' = .ok (.agg (List.toArray (cellsR x))) w' ∧ (loadVarH 3 ⟨gx, 0, none⟩).run Try.prog w' = .ok (.int .i64 x.2.id) w' ∧ (loadVarH 3 ⟨g1, 0, none⟩).run Try.prog w' = .ok (.int .i64 t.next) w' ∧ (loadVarH 25 ⟨g1, 1, none⟩).run Try.prog w' = .ok (.slice (some ⟨lb, lo, none⟩) nr cr) w' ∧ (loadVarH 9 ⟨gx, 1, none⟩).run Try.prog w' = .ok (.string ⟨x.2.name.toArray⟩) w' ∧ (loadVarH 9 ⟨lb, lo + k * 44 + 1, none⟩).run Try.prog w' = .ok (.string ⟨y.2.name.toArray⟩) w')) (by kernel_rfl) (by exact ⟨ldA (cellsR x) [] hX (HL.out) (by simp), ldS [] hX rfl, ldS [_] hX rfl, ldS [_] hX rfl, ldS [] hX rfl, ldO hX (HY.out)⟩) (fun hHeld => ?_)
              refine tk 0 18 ?_
              (try simp only [Act.put, List.setIfInBounds_toArray, List.set_cons_zero, List.set_cons_succ])
              refine wpAnyH_ready (rs := [1]) (by kernel_rfl) (by simp) ?_
              refine (AllReadyH.cons (o := ⟨some 19, _, _, _, _, _⟩) rfl (fun K hK => ?_) AllReadyH.nil)
              rw [if_pos (by rfl)]
              go_simp
              go_at_call 82
              refine (may_any_r x _ (RC.In.old hX HIN.out)).mono ?_
              rw [← HQ.out]
              rintro _ w4 ⟨rfl, h4⟩
              have hA1 := St.call0 hX h4
              clear h4
              refine hK.out _ _ ?_ (fun hHeld => ?_)
              · exact ⟨ldA (cellsR x) [] hA1 (HL.out) (by simp), ldS [] hA1 rfl, ldS [_] hA1 rfl, ldS [_] hA1 rfl, ldS [] hA1 rfl, ldO hA1 (HY.out)⟩
              clear hK K
              (try simp only [Act.put, List.setIfInBounds_toArray, List.set_cons_zero, List.set_cons_succ])
              refine tk 2 20 ?_
              (try simp only [Act.put, List.setIfInBounds_toArray, List.set_cons_zero, List.set_cons_succ])
              refine tk 3 21 ?_
              (try simp only [Act.put, List.setIfInBounds_toArray, List.set_cons_zero, List.set_cons_succ])
              refine tk 4 22 ?_
              (try simp only [Act.put, List.setIfInBounds_toArray, List.set_cons_zero, List.set_cons_succ])
              refine tk 6 24 ?_
              (try simp only [Act.put, List.setIfInBounds_toArray, List.set_cons_zero, List.set_cons_succ])
              refine tk 5 23 ?_
              (try simp only [Act.put, List.setIfInBounds_toArray, List.set_cons_zero, List.set_cons_succ])
              refine tk 7 25 ?_
              (try simp only [Act.put, List.setIfInBounds_toArray, List.set_cons_zero, List.set_cons_succ])
              refine tk 8 26 ?_
              (try simp only [Act.put, List.setIfInBounds_toArray, List.set_cons_zero, List.set_cons_succ])
              refine tk 9 27 ?_
              (try simp only [Act.put, List.setIfInBounds_toArray, List.set_cons_zero, List.set_cons_succ])
              refine tk 10 28 ?_
              (try simp only [Act.put, List.setIfInBounds_toArray, List.set_cons_zero, List.set_cons_succ])
              refine tk 11 29 ?_
              (try simp only [Act.put, List.setIfInBounds_toArray, List.set_cons_zero, List.set_cons_succ])
              refine tk 12 30 ?_
              (try simp only [Act.put, List.setIfInBounds_toArray, List.set_cons_zero, List.set_cons_succ])
              refine tk 13 31 ?_
              (try simp only [Act.put, List.setIfInBounds_toArray, List.set_cons_zero, List.set_cons_succ])
              refine tk 14 32 ?_
              (try simp only [Act.put, List.setIfInBounds_toArray, List.set_cons_zero, List.set_cons_succ])
              refine tk 16 34 ?_
              (try simp only [Act.put, List.setIfInBounds_toArray, List.set_cons_zero, List.set_cons_succ])
              refine tk 21 39 ?_
              (try simp only [Act.put, List.setIfInBounds_toArray, List.set_cons_zero, List.set_cons_succ])
              refine tk 15 33 ?_
              (try simp only [Act.put, List.setIfInBounds_toArray, List.set_cons_zero, List.set_cons_succ])
              refine tk 17 35 ?_
              (try simp only [Act.put, List.setIfInBounds_toArray, List.set_cons_zero, List.set_cons_succ])
              refine tk 22 40 ?_
              (try simp only [Act.put, List.setIfInBounds_toArray, List.set_cons_zero, List.set_cons_succ])
              refine tk 18 36 ?_
              (try simp only [Act.put, List.setIfInBounds_toArray, List.set_cons_zero, List.set_cons_succ])
              refine tk 19 37 ?_
              (try simp only [Act.put, List.setIfInBounds_toArray, List.set_cons_zero, List.set_cons_succ])
              refine tk 20 38 ?_
              (try simp only [Act.put, List.setIfInBounds_toArray, List.set_cons_zero, List.set_cons_succ])
              refine wpAnyH_ready (rs := [23]) (by kernel_rfl) (by simp) ?_
              refine (AllReadyH.cons (o := ⟨some 41, _, _, _, _, _⟩) rfl (fun K hK => ?_) AllReadyH.nil)
              rw [if_pos (by rfl)]
              go_simp
              go_at_call 83
              refine (refLess_any y.2.name x.2.name _ HINY.out.2 HIN.out.2).mono ?_
              rw [← HLE.out]
              rintro _ w5 ⟨rfl, h4⟩
              have hA2 := St.call0 hA1 h4
              clear h4
              refine hK.out _ _ ?_ (fun hHeld => ?_)
              · exact ⟨ldA (cellsR x) [] hA2 (HL.out) (by simp), ldS [] hA2 rfl, ldS [_] hA2 rfl, ldS [_] hA2 rfl, ldS [] hA2 rfl, ldO hA2 (HY.out)⟩
              clear hK K
              (try simp only [Act.put, List.setIfInBounds_toArray, List.set_cons_zero, List.set_cons_succ])
              refine tk 24 42 ?_
              (try simp only [Act.put, List.setIfInBounds_toArray, List.set_cons_zero, List.set_cons_succ])
              refine tk 25 43 ?_
              (try simp only [Act.put, List.setIfInBounds_toArray, List.set_cons_zero, List.set_cons_succ])
              refine tk 26 44 ?_
              (try simp only [Act.put, List.setIfInBounds_toArray, List.set_cons_zero, List.set_cons_succ])
              refine wpAnyH_done (by kernel_rfl) ?_ _
              clear hHeld
              have hv : E = false := by rw [HE.out]; exact allAt_no (map_at HXJ.out) (by unfold bothB eachB relB; rw [HLA.out, ← HLE.out]; simp)
              have HV := hid hv
              clear hv
              go_wp2_with (first | go_big_skip | go_big_guard | fail)
              go_ret
              exact ⟨by have h := HV.out; subst h; rfl, hA2.nil⟩
            · go_wp2_with (first | go_big_skip | go_big_guard | (refine wl_loadE rfl rfl rfl ?_; first | refine ⟨_, Loads.at [] hst rfl, ?_⟩) | (refine wl_index rfl rfl rfl rfl hlt ?_) | (refine wl_loadE rfl rfl rfl ?_; first | refine ⟨_, Loads.oldA (cs := cellsR x) hst HL.out HWR.out, ?_⟩) | (refine wl_alloc hst rfl rfl ?_; intro gx w2 hst2; clear hst) | (refine wl_storeA [] hst2 rfl rfl rfl rfl (by exact HL.out) (cellsR_ones HIN.out) rfl ?_; intro w3 hst3; clear hst2))
              have hX := hst3.drew
              clear hst3
              refine wp_region_held_drew (S := (fun w' => (loadVarH 47 ⟨gx, 0, none⟩).run Try.prog w' = .ok (.agg (List.toArray (cellsR x))) w' ∧ (loadVarH 3 ⟨gx, 0, none⟩).run Try.prog w' = .ok (.int .i64 x.2.id) w' ∧ (loadVarH 3 ⟨g1, 0, none⟩).run Try.prog w' = .ok (.int .i64 t.next) w' ∧ (loadVarH 25 ⟨g1, 1, none⟩).run Try.prog w' = .ok (.slice (some ⟨lb, lo, none⟩) nr cr) w' ∧ (loadVarH 9 ⟨gx, 1, none⟩).run Try.prog w' = .ok (.string ⟨x.2.name.toArray⟩) w' ∧ (loadVarH 9 ⟨lb, lo + k * 44 + 1, none⟩).run Try.prog w' = .ok (.string ⟨y.2.name.toArray⟩) w')) (by kernel_rfl) (by exact ⟨ldA (cellsR x) [] hX (HL.out) (by simp), ldS [] hX rfl, ldS [_] hX rfl, ldS [_] hX rfl, ldS [] hX rfl, ldO hX (HY.out)⟩) (fun hHeld => ?_)
              refine tk 0 18 ?_
              (try simp only [Act.put, List.setIfInBounds_toArray, List.set_cons_zero, List.set_cons_succ])
              refine wpAnyH_ready (rs := [1]) (by kernel_rfl) (by simp) ?_
              refine (AllReadyH.cons (o := ⟨some 19, _, _, _, _, _⟩) rfl (fun K hK => ?_) AllReadyH.nil)
              rw [if_pos (by rfl)]
              go_simp
              go_at_call 82
              refine (may_any_r x _ (RC.In.old hX HIN.out)).mono ?_
              rw [← HQ.out]
              rintro _ w4 ⟨rfl, h4⟩
              have hA1 := St.call0 hX h4
              clear h4
              refine hK.out _ _ ?_ (fun hHeld => ?_)
              · exact ⟨ldA (cellsR x) [] hA1 (HL.out) (by simp), ldS [] hA1 rfl, ldS [_] hA1 rfl, ldS [_] hA1 rfl, ldS [] hA1 rfl, ldO hA1 (HY.out)⟩
              clear hK K
              (try simp only [Act.put, List.setIfInBounds_toArray, List.set_cons_zero, List.set_cons_succ])
              refine tk 2 20 ?_
              (try simp only [Act.put, List.setIfInBounds_toArray, List.set_cons_zero, List.set_cons_succ])
              refine tk 3 21 ?_
              (try simp only [Act.put, List.setIfInBounds_toArray, List.set_cons_zero, List.set_cons_succ])
              refine tk 4 22 ?_
              (try simp only [Act.put, List.setIfInBounds_toArray, List.set_cons_zero, List.set_cons_succ])
              refine tk 6 24 ?_
              (try simp only [Act.put, List.setIfInBounds_toArray, List.set_cons_zero, List.set_cons_succ])
              refine tk 5 23 ?_
              (try simp only [Act.put, List.setIfInBounds_toArray, List.set_cons_zero, List.set_cons_succ])
              refine tk 7 25 ?_
              (try simp only [Act.put, List.setIfInBounds_toArray, List.set_cons_zero, List.set_cons_succ])
              refine tk 8 26 ?_
              (try simp only [Act.put, List.setIfInBounds_toArray, List.set_cons_zero, List.set_cons_succ])
              refine tk 9 27 ?_
              (try simp only [Act.put, List.setIfInBounds_toArray, List.set_cons_zero, List.set_cons_succ])
              refine tk 10 28 ?_
              (try simp only [Act.put, List.setIfInBounds_toArray, List.set_cons_zero, List.set_cons_succ])
              refine tk 11 29 ?_
              (try simp only [Act.put, List.setIfInBounds_toArray, List.set_cons_zero, List.set_cons_succ])
              refine tk 12 30 ?_
              (try simp only [Act.put, List.setIfInBounds_toArray, List.set_cons_zero, List.set_cons_succ])
              refine tk 13 31 ?_
              (try simp only [Act.put, List.setIfInBounds_toArray, List.set_cons_zero, List.set_cons_succ])
              refine tk 14 32 ?_
              (try simp only [Act.put, List.setIfInBounds_toArray, List.set_cons_zero, List.set_cons_succ])
              refine tk 16 34 ?_
              (try simp only [Act.put, List.setIfInBounds_toArray, List.set_cons_zero, List.set_cons_succ])
              refine tk 21 39 ?_
              (try simp only [Act.put, List.setIfInBounds_toArray, List.set_cons_zero, List.set_cons_succ])
              refine tk 15 33 ?_
              (try simp only [Act.put, List.setIfInBounds_toArray, List.set_cons_zero, List.set_cons_succ])
              refine tk 17 35 ?_
              (try simp only [Act.put, List.setIfInBounds_toArray, List.set_cons_zero, List.set_cons_succ])
              refine tk 22 40 ?_
              (try simp only [Act.put, List.setIfInBounds_toArray, List.set_cons_zero, List.set_cons_succ])
              refine tk 18 36 ?_
              (try simp only [Act.put, List.setIfInBounds_toArray, List.set_cons_zero, List.set_cons_succ])
              refine tk 19 37 ?_
              (try simp only [Act.put, List.setIfInBounds_toArray, List.set_cons_zero, List.set_cons_succ])
              refine tk 20 38 ?_
              (try simp only [Act.put, List.setIfInBounds_toArray, List.set_cons_zero, List.set_cons_succ])
              refine wpAnyH_ready (rs := [23]) (by kernel_rfl) (by simp) ?_
              refine (AllReadyH.cons (o := ⟨some 41, _, _, _, _, _⟩) rfl (fun K hK => ?_) AllReadyH.nil)
              rw [if_pos (by rfl)]
              go_simp
              go_at_call 83
              refine (refLess_any y.2.name x.2.name _ HINY.out.2 HIN.out.2).mono ?_
              rw [← HLE.out]
              rintro _ w5 ⟨rfl, h4⟩
              have hA2 := St.call0 hA1 h4
              clear h4
              refine hK.out _ _ ?_ (fun hHeld => ?_)
              · exact ⟨ldA (cellsR x) [] hA2 (HL.out) (by simp), ldS [] hA2 rfl, ldS [_] hA2 rfl, ldS [_] hA2 rfl, ldS [] hA2 rfl, ldO hA2 (HY.out)⟩
              clear hK K
              (try simp only [Act.put, List.setIfInBounds_toArray, List.set_cons_zero, List.set_cons_succ])
              refine tk 24 42 ?_
              (try simp only [Act.put, List.setIfInBounds_toArray, List.set_cons_zero, List.set_cons_succ])
              refine tk 25 43 ?_
              (try simp only [Act.put, List.setIfInBounds_toArray, List.set_cons_zero, List.set_cons_succ])
              refine tk 26 44 ?_
              (try simp only [Act.put, List.setIfInBounds_toArray, List.set_cons_zero, List.set_cons_succ])
              refine wpAnyH_done (by kernel_rfl) ?_ _
              clear hHeld
              go_wp2_with (first | go_big_skip | go_big_guard | fail)
              go_loopw [5] (fun i wr => ∃ m : Nat, m ≤ j ∧ i = .int .i64 (m : Int) ∧ St w [] wr [.blk gx 47 (cellsR x), .blk g1 30 (tabC t (.slice (some ⟨lb, lo, none⟩) nr cr) lv)] ∧ Hid (((xs.take m).map (·.2)).any (fun y => y.id == x.2.id) = false)) (fun i _ => j - (intOf i).toNat)
              case atStart => exact ⟨0, Nat.zero_le _, rfl, hA2, hid rfl⟩
              case round =>
                clear hA2
                obtain ⟨m, hm, rfl, hsm, HM⟩ := hrel
                by_cases hmj : m < j
                · have f1 : decide ((m : Int) < (j : Int)) = true := decide_eq_true (by omega)
                  have y1 : IntKind.i64.wrap ((m : Int) + 1) = (m : Int) + 1 := IntWalk.i64_in _ (by omega)
                  have hltm : m < nr := by omega
                  obtain ⟨z, b', o', hz', he, hinz, hrz⟩ := RecsIn.at HR.out hltm
                  cases he
                  have HZ := hid hz'
                  have HZI := hid (show w.cell? ⟨lb, lo + m * 44, none⟩ = some (.int .i64 z.2.id) from hrz 0 _ rfl)
                  clear hz' hinz hrz
                  cases c1 : (z.2.id == x.2.id)
                  · go_wp2_with (first | go_big_skip | go_big_guard | fail)
                    have hY := hsm.drew
                    clear hsm
                    refine wp_region_held_drew (S := (fun w' => (loadVarH 25 ⟨g1, 1, none⟩).run Try.prog w' = .ok (.slice (some ⟨lb, lo, none⟩) nr cr) w' ∧ (loadVarH 3 ⟨gx, 0, none⟩).run Try.prog w' = .ok (.int .i64 x.2.id) w' ∧ (loadVarH 3 ⟨lb, lo + m * 44, none⟩).run Try.prog w' = .ok (.int .i64 z.2.id) w')) (by kernel_rfl) (by exact ⟨ldS [_] hY rfl, ldS [] hY rfl, ldO hY (HZI.out)⟩) (fun hHeld => ?_)
                    refine tk 0 50 ?_
                    (try simp only [Act.put, List.setIfInBounds_toArray, List.set_cons_zero, List.set_cons_succ])
                    refine tk 2 52 ?_
                    (try simp only [Act.put, List.setIfInBounds_toArray, List.set_cons_zero, List.set_cons_succ])
                    refine tk 6 56 ?_
                    (try simp only [Act.put, List.setIfInBounds_toArray, List.set_cons_zero, List.set_cons_succ])
                    refine tk 1 51 ?_
                    (try simp only [Act.put, List.setIfInBounds_toArray, List.set_cons_zero, List.set_cons_succ])
                    refine tk 7 57 ?_
                    (try simp only [Act.put, List.setIfInBounds_toArray, List.set_cons_zero, List.set_cons_succ])
                    refine tk 3 53 ?_
                    (try simp only [Act.put, List.setIfInBounds_toArray, List.set_cons_zero, List.set_cons_succ])
                    refine tk 4 54 ?_
                    (try simp only [Act.put, List.setIfInBounds_toArray, List.set_cons_zero, List.set_cons_succ])
                    refine tk 5 55 ?_
                    (try simp only [Act.put, List.setIfInBounds_toArray, List.set_cons_zero, List.set_cons_succ])
                    refine tk 8 58 ?_
                    (try simp only [Act.put, List.setIfInBounds_toArray, List.set_cons_zero, List.set_cons_succ])
                    refine wpAnyH_done (by kernel_rfl) ?_ _
                    clear hHeld
                    go_wp2_with (first | go_big_skip | go_big_guard | fail)
                    go_roundw
                    case rel => exact ⟨m + 1, by omega, rfl, hY, hid (by rw [any_step HZ.out, HM.out, c1]; rfl)⟩
                    case measure => simp [intOf]; omega
                  · go_wp2_with (first | go_big_skip | go_big_guard | fail)
                    have hY := hsm.drew
                    clear hsm
                    refine wp_region_held_drew (S := (fun w' => (loadVarH 25 ⟨g1, 1, none⟩).run Try.prog w' = .ok (.slice (some ⟨lb, lo, none⟩) nr cr) w' ∧ (loadVarH 3 ⟨gx, 0, none⟩).run Try.prog w' = .ok (.int .i64 x.2.id) w' ∧ (loadVarH 3 ⟨lb, lo + m * 44, none⟩).run Try.prog w' = .ok (.int .i64 z.2.id) w')) (by kernel_rfl) (by exact ⟨ldS [_] hY rfl, ldS [] hY rfl, ldO hY (HZI.out)⟩) (fun hHeld => ?_)
                    refine tk 0 50 ?_
                    (try simp only [Act.put, List.setIfInBounds_toArray, List.set_cons_zero, List.set_cons_succ])
                    refine tk 2 52 ?_
                    (try simp only [Act.put, List.setIfInBounds_toArray, List.set_cons_zero, List.set_cons_succ])
                    refine tk 6 56 ?_
                    (try simp only [Act.put, List.setIfInBounds_toArray, List.set_cons_zero, List.set_cons_succ])
                    refine tk 1 51 ?_
                    (try simp only [Act.put, List.setIfInBounds_toArray, List.set_cons_zero, List.set_cons_succ])
                    refine tk 7 57 ?_
                    (try simp only [Act.put, List.setIfInBounds_toArray, List.set_cons_zero, List.set_cons_succ])
                    refine tk 3 53 ?_
                    (try simp only [Act.put, List.setIfInBounds_toArray, List.set_cons_zero, List.set_cons_succ])
                    refine tk 4 54 ?_
                    (try simp only [Act.put, List.setIfInBounds_toArray, List.set_cons_zero, List.set_cons_succ])
                    refine tk 5 55 ?_
                    (try simp only [Act.put, List.setIfInBounds_toArray, List.set_cons_zero, List.set_cons_succ])
                    refine tk 8 58 ?_
                    (try simp only [Act.put, List.setIfInBounds_toArray, List.set_cons_zero, List.set_cons_succ])
                    refine wpAnyH_done (by kernel_rfl) ?_ _
                    clear hHeld
                    have hv : E = false := by rw [HE.out]; exact allAt_no (map_at HXJ.out) (by unfold bothB eachB relB; rw [List.any_eq_true.2 ⟨z.2, by rw [← List.map_take]; exact List.mem_map_of_mem (List.mem_take_iff_getElem.2 ⟨m, by have := HR.out.len; omega, (List.getElem?_eq_some_iff.1 HZ.out).2⟩), c1⟩]; simp)
                    have HV := hid hv
                    clear hv
                    go_wp2_with (first | go_big_skip | go_big_guard | fail)
                    go_ret
                    exact ⟨by have h := HV.out; subst h; rfl, hY.nil⟩
                · have f1 : decide ((m : Int) < (j : Int)) = false := decide_eq_false (by omega)
                  obtain rfl : m = j := by omega
                  obtain ⟨c, hc⟩ : ∃ c, c = kinB (xs.map (·.2)) x.2 := ⟨_, rfl⟩
                  have HK := hid hc
                  have HRE := hid (show relB t.next (xs.map (·.2)) m x.2 = c by unfold relB; rw [← List.map_take, HM.out, HLT.out, hc]; rfl)
                  clear hc
                  cases c
                  · have hv : E = false := by rw [HE.out]; exact allAt_no (map_at HXJ.out) (by unfold bothB; rw [HRE.out, Bool.and_false])
                    have HV := hid hv
                    clear hv
                    go_wp2_with (first | go_big_skip | go_big_guard | (refine wl_loadE rfl rfl rfl ?_; first | refine ⟨_, Loads.atA (tabC t (.slice (some ⟨lb, lo, none⟩) nr cr) lv) [_] hsm rfl rfl, ?_⟩ | refine ⟨_, Loads.atA (cellsR x) [] hsm HL.out (by simp), ?_⟩) | (go_at_call 84; refine (kin_any_r t lv (some ⟨lb, lo, none⟩) nr cr xs _ (HR.out.old hsm) hb x (RC.In.old hsm HIN.out)).mono ?_; rw [← HK.out]; rintro _ w9 ⟨rfl, h4⟩; replace hsm := St.call0 hsm h4; clear h4))
                    go_ret
                    exact ⟨by have h := HV.out; subst h; rfl, hsm.nil⟩
                  · go_wp2_with (first | go_big_skip | go_big_guard | (refine wl_loadE rfl rfl rfl ?_; first | refine ⟨_, Loads.atA (tabC t (.slice (some ⟨lb, lo, none⟩) nr cr) lv) [_] hsm rfl rfl, ?_⟩ | refine ⟨_, Loads.atA (cellsR x) [] hsm HL.out (by simp), ?_⟩) | (go_at_call 84; refine (kin_any_r t lv (some ⟨lb, lo, none⟩) nr cr xs _ (HR.out.old hsm) hb x (RC.In.old hsm HIN.out)).mono ?_; rw [← HK.out]; rintro _ w9 ⟨rfl, h4⟩; replace hsm := St.call0 hsm h4; clear h4))
                    go_roundw
                    case rel => exact ⟨m + 1, by omega, rfl, St.drop (L1 := []) hsm, hid (all_steps HP.out HXJ.out (by unfold bothB eachB; rw [HRE.out, ← HQ.out, HLA.out, ← HLE.out]; rfl))⟩
                    case measure => simp [intOf]; omega
        · have d3 : decide (x.2.id ≥ t.next) = true := decide_eq_true (by omega)
          have d4 : decide (t.next ≤ x.2.id) = true := d3
          have HNL := hid (decide_eq_false k2)
          clear k2
          go_wp2_with (first | go_big_skip | go_big_guard | (refine wl_loadE rfl rfl rfl ?_; first | refine ⟨_, Loads.at [] hst rfl, ?_⟩) | (refine wl_index rfl rfl rfl rfl hlt ?_) | (refine wl_loadE rfl rfl rfl ?_; first | refine ⟨_, Loads.oldA (cs := cellsR x) hst HL.out HWR.out, ?_⟩) | (refine wl_alloc hst rfl rfl ?_; intro gx w2 hst2; clear hst) | (refine wl_storeA [] hst2 rfl rfl rfl rfl (by exact HL.out) (cellsR_ones HIN.out) rfl ?_; intro w3 hst3; clear hst2))
          have hX := hst3.drew
          clear hst3
          refine wp_region_held_drew (S := (fun w' => (loadVarH 47 ⟨gx, 0, none⟩).run Try.prog w' = .ok (.agg (List.toArray (cellsR x))) w' ∧ (loadVarH 3 ⟨gx, 0, none⟩).run Try.prog w' = .ok (.int .i64 x.2.id) w' ∧ (loadVarH 3 ⟨g1, 0, none⟩).run Try.prog w' = .ok (.int .i64 t.next) w')) (by kernel_rfl) (by exact ⟨ldA (cellsR x) [] hX (HL.out) (by simp), ldS [] hX rfl, ldS [_] hX rfl⟩) (fun hHeld => ?_)
          refine tk 0 18 ?_
          (try simp only [Act.put, List.setIfInBounds_toArray, List.set_cons_zero, List.set_cons_succ])
          refine wpAnyH_ready (rs := [1]) (by kernel_rfl) (by simp) ?_
          refine (AllReadyH.cons (o := ⟨some 19, _, _, _, _, _⟩) rfl (fun K hK => ?_) AllReadyH.nil)
          rw [if_pos (by rfl)]
          go_simp
          go_at_call 82
          refine (may_any_r x _ (RC.In.old hX HIN.out)).mono ?_
          rw [← HQ.out]
          rintro _ w4 ⟨rfl, h4⟩
          have hA1 := St.call0 hX h4
          clear h4
          refine hK.out _ _ ?_ (fun hHeld => ?_)
          · exact ⟨ldA (cellsR x) [] hA1 (HL.out) (by simp), ldS [] hA1 rfl, ldS [_] hA1 rfl⟩
          clear hK K
          (try simp only [Act.put, List.setIfInBounds_toArray, List.set_cons_zero, List.set_cons_succ])
          refine tk 2 20 ?_
          (try simp only [Act.put, List.setIfInBounds_toArray, List.set_cons_zero, List.set_cons_succ])
          refine tk 3 21 ?_
          (try simp only [Act.put, List.setIfInBounds_toArray, List.set_cons_zero, List.set_cons_succ])
          refine tk 4 22 ?_
          (try simp only [Act.put, List.setIfInBounds_toArray, List.set_cons_zero, List.set_cons_succ])
          refine tk 6 24 ?_
          (try simp only [Act.put, List.setIfInBounds_toArray, List.set_cons_zero, List.set_cons_succ])
          refine tk 5 23 ?_
          (try simp only [Act.put, List.setIfInBounds_toArray, List.set_cons_zero, List.set_cons_succ])
          refine tk 7 25 ?_
          (try simp only [Act.put, List.setIfInBounds_toArray, List.set_cons_zero, List.set_cons_succ])
          refine tk 8 26 ?_
          (try simp only [Act.put, List.setIfInBounds_toArray, List.set_cons_zero, List.set_cons_succ])
          refine tk 9 27 ?_
          (try simp only [Act.put, List.setIfInBounds_toArray, List.set_cons_zero, List.set_cons_succ])
          refine tk 10 28 ?_
          (try simp only [Act.put, List.setIfInBounds_toArray, List.set_cons_zero, List.set_cons_succ])
          refine wpAnyH_take (i := 11) (oi := ⟨some 29, _, _, _, _, _⟩) (v := undef) rfl (by kernel_rfl) (by kernel_rfl) (by kernel_rfl) (fun _ _ _ h => h) (Or.inr ⟨by rfl, rfl⟩) (by assumption) ?_
          (try simp only [Act.put, List.setIfInBounds_toArray, List.set_cons_zero, List.set_cons_succ])
          refine wpAnyH_take (i := 12) (oi := ⟨some 30, _, _, _, _, _⟩) (v := undef) rfl (by kernel_rfl) (by kernel_rfl) (by kernel_rfl) (fun _ _ _ h => h) (Or.inr ⟨by rfl, rfl⟩) (by assumption) ?_
          (try simp only [Act.put, List.setIfInBounds_toArray, List.set_cons_zero, List.set_cons_succ])
          refine wpAnyH_take (i := 13) (oi := ⟨some 31, _, _, _, _, _⟩) (v := undef) rfl (by kernel_rfl) (by kernel_rfl) (by kernel_rfl) (fun _ _ _ h => h) (Or.inr ⟨by rfl, rfl⟩) (by assumption) ?_
          (try simp only [Act.put, List.setIfInBounds_toArray, List.set_cons_zero, List.set_cons_succ])
          refine wpAnyH_take (i := 14) (oi := ⟨some 32, _, _, _, _, _⟩) (v := undef) rfl (by kernel_rfl) (by kernel_rfl) (by kernel_rfl) (fun _ _ _ h => h) (Or.inr ⟨by rfl, rfl⟩) (by assumption) ?_
          (try simp only [Act.put, List.setIfInBounds_toArray, List.set_cons_zero, List.set_cons_succ])
          refine wpAnyH_take (i := 16) (oi := ⟨some 34, _, _, _, _, _⟩) (v := undef) rfl (by kernel_rfl) (by kernel_rfl) (by kernel_rfl) (fun _ _ _ h => h) (Or.inr ⟨by rfl, rfl⟩) (by assumption) ?_
          (try simp only [Act.put, List.setIfInBounds_toArray, List.set_cons_zero, List.set_cons_succ])
          refine wpAnyH_take (i := 21) (oi := ⟨some 39, _, _, _, _, _⟩) (v := undef) rfl (by kernel_rfl) (by kernel_rfl) (by kernel_rfl) (fun _ _ _ h => h) (Or.inr ⟨by rfl, rfl⟩) (by assumption) ?_
          (try simp only [Act.put, List.setIfInBounds_toArray, List.set_cons_zero, List.set_cons_succ])
          refine wpAnyH_take (i := 15) (oi := ⟨some 33, _, _, _, _, _⟩) (v := undef) rfl (by kernel_rfl) (by kernel_rfl) (by kernel_rfl) (fun _ _ _ h => h) (Or.inr ⟨by rfl, rfl⟩) (by assumption) ?_
          (try simp only [Act.put, List.setIfInBounds_toArray, List.set_cons_zero, List.set_cons_succ])
          refine wpAnyH_take (i := 17) (oi := ⟨some 35, _, _, _, _, _⟩) (v := undef) rfl (by kernel_rfl) (by kernel_rfl) (by kernel_rfl) (fun _ _ _ h => h) (Or.inr ⟨by rfl, rfl⟩) (by assumption) ?_
          (try simp only [Act.put, List.setIfInBounds_toArray, List.set_cons_zero, List.set_cons_succ])
          refine wpAnyH_take (i := 22) (oi := ⟨some 40, _, _, _, _, _⟩) (v := undef) rfl (by kernel_rfl) (by kernel_rfl) (by kernel_rfl) (fun _ _ _ h => h) (Or.inr ⟨by rfl, rfl⟩) (by assumption) ?_
          (try simp only [Act.put, List.setIfInBounds_toArray, List.set_cons_zero, List.set_cons_succ])
          refine wpAnyH_take (i := 18) (oi := ⟨some 36, _, _, _, _, _⟩) (v := undef) rfl (by kernel_rfl) (by kernel_rfl) (by kernel_rfl) (fun _ _ _ h => h) (Or.inr ⟨by rfl, rfl⟩) (by assumption) ?_
          (try simp only [Act.put, List.setIfInBounds_toArray, List.set_cons_zero, List.set_cons_succ])
          refine wpAnyH_take (i := 19) (oi := ⟨some 37, _, _, _, _, _⟩) (v := undef) rfl (by kernel_rfl) (by kernel_rfl) (by kernel_rfl) (fun _ _ _ h => h) (Or.inr ⟨by rfl, rfl⟩) (by assumption) ?_
          (try simp only [Act.put, List.setIfInBounds_toArray, List.set_cons_zero, List.set_cons_succ])
          refine wpAnyH_take (i := 20) (oi := ⟨some 38, _, _, _, _, _⟩) (v := undef) rfl (by kernel_rfl) (by kernel_rfl) (by kernel_rfl) (fun _ _ _ h => h) (Or.inr ⟨by rfl, rfl⟩) (by assumption) ?_
          (try simp only [Act.put, List.setIfInBounds_toArray, List.set_cons_zero, List.set_cons_succ])
          refine wpAnyH_ready (rs := [23]) (by kernel_rfl) (by simp) ?_
          refine (AllReadyH.cons (o := ⟨some 41, _, _, _, _, _⟩) rfl (fun K hK => ?_) AllReadyH.nil)
          rw [if_neg (by rw [show Region.wanted _ _ = false from rfl]; exact Bool.false_ne_true)]
          refine hK.out _ _ ?_ (fun hHeld => ?_)
          · exact ⟨ldA (cellsR x) [] hA1 (HL.out) (by simp), ldS [] hA1 rfl, ldS [_] hA1 rfl⟩
          clear hK K
          (try simp only [Act.put, List.setIfInBounds_toArray, List.set_cons_zero, List.set_cons_succ])
          refine wpAnyH_take (i := 24) (oi := ⟨some 42, _, _, _, _, _⟩) (v := undef) rfl (by kernel_rfl) (by kernel_rfl) (by kernel_rfl) (fun _ _ _ h => h) (Or.inr ⟨by rfl, rfl⟩) (by assumption) ?_
          (try simp only [Act.put, List.setIfInBounds_toArray, List.set_cons_zero, List.set_cons_succ])
          refine wpAnyH_take (i := 25) (oi := ⟨some 43, _, _, _, _, _⟩) (v := undef) rfl (by kernel_rfl) (by kernel_rfl) (by kernel_rfl) (fun _ _ _ h => h) (Or.inr ⟨by rfl, rfl⟩) (by assumption) ?_
          (try simp only [Act.put, List.setIfInBounds_toArray, List.set_cons_zero, List.set_cons_succ])
          refine tk 26 44 ?_
          (try simp only [Act.put, List.setIfInBounds_toArray, List.set_cons_zero, List.set_cons_succ])
          refine wpAnyH_done (by kernel_rfl) ?_ _
          clear hHeld
          have hv : E = false := by rw [HE.out]; exact allAt_no (map_at HXJ.out) (by unfold bothB eachB relB; rw [HNL.out]; simp)
          have HV := hid hv
          clear hv
          go_wp2_with (first | go_big_skip | go_big_guard | fail)
          go_ret
          exact ⟨by have h := HV.out; subst h; rfl, hA1.nil⟩
    · have e1 : decide ((j : Int) < (nr : Int)) = false := decide_eq_false (by omega)
      have hv : E = true := by rw [HE.out]; exact all_end (fun i y hi hy => HP.out i y (by have := HR.out.len; omega) hy)
      have HV := hid hv
      clear hv
      go_wp2_with (first | go_big_skip | go_big_guard | (refine wl_loadE rfl rfl rfl ?_; first | refine ⟨_, Loads.at [] hst rfl, ?_⟩))
      go_ret
      exact ⟨by have h := HV.out; subst h; rfl, hst.nil⟩
end Go.Proofs.Ytkpkaoiafppimaa
