import Derived.Test.YtmdfbdfijnmhkaaGreatJMirrorTellsb
import Derived.Test.YtmdfbdfijnmhkaaGreatNode
import Derived.Test.YtmdfbdfijnmhkaaGreatProg
import Derived.Test.YtmdfbdfijnmhkaaGreatSepX
import Derived.Test.YtmdfbdfijnmhkaaGreatPtr
import Derived.Test.YtmdfbdfijnmhkaaGreatSepY
import Derived.Deep.RegionHeld3
import Derived.Test.YtmdfbdfijnmhkaaGreatSepR
import Derived.Test.YtmdfbdfijnmhkaaGreatSepO
import Derived.Test.YtmdfbdfijnmhkaaGreatRegL
import Derived.RangeFuncNested
import Derived.RangeFuncBound
import Derived.RangeFuncCalls
import Derived.RangeFuncLeaves
import Derived.Shelf.Abstract
import Derived.Shelf.RegionOpen
import Derived.OwnWalkIn
import Derived.TacticsInMore
import Derived.LoopNIn
import Derived.LoopIn
import Derived.WalkKit
import Derived.IntWalk
import Derived.Test.YtmdfbdfijnmhkaaGreatSepQ
import Derived.Test.YtmdfbdfijnmhkaaGreatSepP
import Derived.Test.YtmdfbdfijnmhkaaGreatPtrR
namespace Go.Proofs.YtmdfbdfijnmhkaaGreat
set_option linter.unusedVariables false
set_option linter.unusedSimpArgs false
open Go.RowKit Hp
structure ER where
  rd : Int
  sm : Int
  he : Int
def fRd (e : ER) : ER := { e with rd := e.rd + 1 }
def fSm (e : ER) : ER := { e with sm := e.sm + 1 }
def fHe (e : ER) : ER := { e with he := e.he + 1 }
structure MV where
  a : AR
  e : List ER
def MV.er (m : MV) (dev : Int) : ER := m.e.getD dev.toNat ⟨0, 0, 0⟩
def MV.kind (m : MV) (dev pl : Int) (S : List UInt8) : Int :=
  if m.a.readE dev pl = 10 then 3 else if m.a.readE dev pl ≠ 0 then 2 else if sumB (m.a.readB dev pl) = S then 0 else 1
def MV.lookB (m : MV) (dev pl : Int) (S : List UInt8) : List UInt8 := if m.kind dev pl S = 0 then m.a.readB dev pl else []
def MV.looked (m : MV) (dev pl : Int) (S : List UInt8) : MV :=
  ⟨m.a.read dev pl, if m.a.readE dev pl = 13 then m.e.modify dev.toNat fRd else if m.kind dev pl S = 1 then m.e.modify dev.toNat fSm else m.e⟩
def MV.healed (m : MV) (dev pl : Int) (b : List UInt8) : MV := ⟨m.a.write dev pl b, if m.a.writeE dev pl b = 0 then m.e.modify dev.toNat fHe else m.e⟩
def MV.heals (m : MV) (l : List (Int × Int)) (b : List UInt8) : MV := l.foldl (fun m x => m.healed x.1 x.2 b) m
structure FR where
  er : Int
  b : List UInt8
  ill : List (Int × Int)
  m : MV
def found (S : List UInt8) (but : Int) : MV → List (Int × Int) → List (Int × Int) → FR
  | m, [], ill => ⟨if ill = [] then 13 else 12, [], [], m⟩
  | m, x :: l, ill =>
    if x.1 = but then found S but m l ill
    else if m.kind x.1 x.2 S = 0 then ⟨0, m.lookB x.1 x.2 S, ill, m.looked x.1 x.2 S⟩
    else if m.kind x.1 x.2 S = 1 then found S but (m.looked x.1 x.2 S) l (ill ++ [x])
    else if m.kind x.1 x.2 S = 3 then ⟨10, [], [], m.looked x.1 x.2 S⟩
    else found S but (m.looked x.1 x.2 S) l ill
def MV.lies (m : MV) (l : List (Int × Int)) : Bool := l.all fun x => m.a.inS x.1 x.2 && decide (5 ≤ x.2)
def MV.askE (m : MV) (p : PV) : Int := if (p.ok && !p.hole) && m.lies p.l then 0 else 2
structure GR where
  er : Int
  b : List UInt8
  m : MV
def MV.get (m : MV) (p : PV) : GR :=
  if m.askE p ≠ 0 then ⟨m.askE p, [], m⟩
  else if (found p.S (-1) m p.l []).er ≠ 0 then ⟨(found p.S (-1) m p.l []).er, [], (found p.S (-1) m p.l []).m⟩
  else ⟨0, (found p.S (-1) m p.l []).b, (found p.S (-1) m p.l []).m.heals (found p.S (-1) m p.l []).ill (found p.S (-1) m p.l []).b⟩
structure CR where
  good : Nat
  lost : Nat
  ill : List (Int × Int)
  b : List UInt8
  m : MV
  out : Bool
def CR.next (S : List UInt8) (c : CR) (x : Int × Int) : CR :=
  if c.out then c
  else if c.m.kind x.1 x.2 S = 0 then { c with good := c.good + 1, b := if c.good = 0 then c.m.lookB x.1 x.2 S else c.b, m := c.m.looked x.1 x.2 S }
  else if c.m.kind x.1 x.2 S = 1 then { c with ill := c.ill ++ [x], m := c.m.looked x.1 x.2 S }
  else if c.m.kind x.1 x.2 S = 2 then { c with lost := c.lost + 1, m := c.m.looked x.1 x.2 S }
  else { c with m := c.m.looked x.1 x.2 S, out := true }
structure HR where
  he : Nat
  bad : Nat
  m : MV
def HR.next (any : Bool) (b : List UInt8) (h : HR) (x : Int × Int) : HR :=
  if any && (h.m.a.writeE x.1 x.2 b == 0) then ⟨h.he + 1, h.bad, h.m.healed x.1 x.2 b⟩ else ⟨h.he, h.bad + 1, if any then h.m.healed x.1 x.2 b else h.m⟩
structure SR where
  er : Int
  good : Nat
  he : Nat
  bad : Nat
  lost : Nat
  m : MV
def MV.look (m : MV) (p : PV) : CR := p.l.foldl (CR.next p.S) ⟨0, 0, [], [], m, false⟩
def CR.mend (c : CR) : HR := c.ill.foldl (HR.next (decide (0 < c.good)) c.b) ⟨0, 0, c.m⟩
def MV.scan (m : MV) (p : PV) : SR :=
  if m.askE p ≠ 0 then ⟨m.askE p, 0, 0, 0, 0, m⟩
  else if (m.look p).out then ⟨10, 0, 0, 0, 0, (m.look p).m⟩
  else ⟨0, (m.look p).good, (m.look p).mend.he, (m.look p).mend.bad, (m.look p).lost, (m.look p).mend.m⟩
def placeOn (dev : Int) (l : List (Int × Int)) : Int := l.foldl (fun at' x => if x.1 = dev then x.2 else at') (-1)
structure OR where
  er : Int
  m : MV
def MV.restore (m : MV) (p : PV) (dev : Int) : OR :=
  if m.askE p ≠ 0 then ⟨m.askE p, m⟩
  else if placeOn dev p.l < 0 then ⟨6, m⟩
  else if m.a.up dev = false then ⟨14, m⟩
  else if (found p.S dev m p.l []).er ≠ 0 then ⟨(found p.S dev m p.l []).er, (found p.S dev m p.l []).m⟩
  else ⟨(found p.S dev m p.l []).m.a.writeE dev (placeOn dev p.l) (found p.S dev m p.l []).b, { (found p.S dev m p.l []).m with a := (found p.S dev m p.l []).m.a.write dev (placeOn dev p.l) (found p.S dev m p.l []).b }⟩
structure NR where
  er : Int
  n : Nat
  a : AR
def some16 (n : Nat) (a : AR) : NR := if n = 0 then ⟨13, 0, a⟩ else ⟨0, n, a⟩
def wrote16 (b : List UInt8) : AR → Nat → List (Int × Int) → NR
  | a, n, [] => some16 n a
  | a, n, x :: l =>
    if a.writeE x.1 x.2 b = 0 then wrote16 b (a.write x.1 x.2 b) (n + 1) l
    else if a.writeE x.1 x.2 b = 10 then ⟨10, 0, a.write x.1 x.2 b⟩
    else wrote16 b (a.write x.1 x.2 b) n l
def apartB : List (Int × Int) → Bool
  | [] => true
  | x :: l => l.all (fun y => y.1 != x.1) && apartB l
def MV.putOk (m : MV) (l : List (Int × Int)) (b : List UInt8) : Bool := (decide (b.length = 256) && decide (1 ≤ l.length ∧ l.length ≤ 3)) && (m.lies l && apartB l)
def MV.put (m : MV) (l : List (Int × Int)) (b : List UInt8) : NR := if m.putOk l b then wrote16 b m.a 0 l else ⟨2, 0, m.a⟩
def flushed16 (d : Nat) : Nat → AR → Nat → NR
  | 0, a, n => some16 n a
  | k + 1, a, n =>
    if a.up ((d - (k + 1) : Nat) : Int) = false then flushed16 d k a n
    else if a.flushE ((d - (k + 1) : Nat) : Int) = 0 then flushed16 d k (a.flush ((d - (k + 1) : Nat) : Int)) (n + 1)
    else if a.flushE ((d - (k + 1) : Nat) : Int) = 10 then ⟨10, 0, a.flush ((d - (k + 1) : Nat) : Int)⟩
    else flushed16 d k (a.flush ((d - (k + 1) : Nat) : Int)) n
def MV.flush (m : MV) : NR := if m.a.out then ⟨10, 0, m.a⟩ else flushed16 m.a.devs.length m.a.devs.length m.a 0
def MV.errs (m : MV) (dev : Int) : ER := if m.a.inD dev then m.er dev else ⟨0, 0, 0⟩
structure MGood (m : MV) (N : Nat) : Prop where
  sc : Sc m.a N
  el : m.e.length = 8
  en : ∀ e ∈ m.e, 0 ≤ e.rd ∧ e.rd ≤ N ∧ 0 ≤ e.sm ∧ e.sm ≤ N ∧ 0 ≤ e.he ∧ e.he ≤ N
theorem MGood.mono {m : MV} {N K : Nat} (h : MGood m N) (hk : N ≤ K) : MGood m K :=
  ⟨⟨h.sc.ok, h.sc.sec, ⟨h.sc.st.1, by have := h.sc.st.2; omega⟩, by have := h.sc.ll; omega⟩, h.el, fun e he => by have := h.en e he; omega⟩
theorem MGood.arr {m : MV} {N : Nat} {a : AR} (h : MGood m N) (ok : a.Ok) (hs : Stays m.a a) : MGood { m with a := a } (N + 1) :=
  ⟨h.sc.next ok hs, h.el, fun e he => by have := h.en e he; omega⟩
theorem MGood.up {m : MV} {N : Nat} {a : AR} {f : ER → ER} (h : MGood m N) (ok : a.Ok) (hs : Stays m.a a) (k : Nat) (hf : ∀ e : ER, (f e).rd = e.rd ∧ (f e).sm = e.sm ∧ (f e).he = e.he ∨ (f e).rd = e.rd + 1 ∧ (f e).sm = e.sm ∧ (f e).he = e.he ∨ (f e).rd = e.rd ∧ (f e).sm = e.sm + 1 ∧ (f e).he = e.he ∨ (f e).rd = e.rd ∧ (f e).sm = e.sm ∧ (f e).he = e.he + 1) : MGood ⟨a, m.e.modify k f⟩ (N + 1) := by
  refine ⟨h.sc.next ok hs, by show (m.e.modify k f).length = 8; rw [List.length_modify]; exact h.el, fun e he => ?_⟩
  obtain ⟨j, hj⟩ := List.getElem?_of_mem he
  have hj' : (m.e.modify k f)[j]? = some e := hj
  rw [List.getElem?_modify] at hj'
  cases hq : m.e[j]? with
  | none => rw [hq] at hj'; simp at hj'
  | some y =>
    have hy := h.en y (List.mem_of_getElem? hq)
    rw [hq] at hj'
    have hfy := hf y
    by_cases hkj : k = j
    · simp [hkj] at hj'
      rw [← hj']
      omega
    · simp [hkj] at hj'
      rw [← hj']
      omega
theorem MGood.looked {m : MV} {N : Nat} (h : MGood m N) (dev pl : Int) (S : List UInt8) : MGood (m.looked dev pl S) (N + 1) := by
  unfold MV.looked
  split
  · exact h.up (h.sc.ok.read _ _) (Stays.read _ _ _) _ fun e => .inr (.inl ⟨rfl, rfl, rfl⟩)
  · split
    · exact h.up (h.sc.ok.read _ _) (Stays.read _ _ _) _ fun e => .inr (.inr (.inl ⟨rfl, rfl, rfl⟩))
    · exact h.arr (h.sc.ok.read _ _) (Stays.read _ _ _)
theorem MGood.healed {m : MV} {N : Nat} (h : MGood m N) (dev pl : Int) (b : List UInt8) : MGood (m.healed dev pl b) (N + 1) := by
  unfold MV.healed
  split
  · exact h.up (h.sc.ok.write _ _ _) (Stays.write _ _ _ _) _ fun e => .inr (.inr (.inr ⟨rfl, rfl, rfl⟩))
  · exact h.arr (h.sc.ok.write _ _ _) (Stays.write _ _ _ _)
theorem MGood.heals {b : List UInt8} : ∀ {l : List (Int × Int)} {m : MV} {N : Nat}, MGood m N → MGood (m.heals l b) (N + l.length)
  | [], _, _, h => h
  | x :: l, m, N, h => by
    have := MGood.heals (b := b) (l := l) (h.healed x.1 x.2 b)
    rw [List.length_cons, show N + (l.length + 1) = N + 1 + l.length by omega]
    exact this
end Go.Proofs.YtmdfbdfijnmhkaaGreat
namespace Go.Proofs.YtmdfbdfijnmhkaaGreat
set_option linter.unusedVariables false
set_option linter.unusedSimpArgs false
open Hp
instance tyS3 : TyS Tryz.prog 3 := ⟨by kernel_rfl⟩
instance tyS4 : TyS Tryz.prog 4 := ⟨by kernel_rfl⟩
instance tyS5 : TyS Tryz.prog 5 := ⟨by kernel_rfl⟩
instance tyS22 : TyS Tryz.prog 28 := ⟨by kernel_rfl⟩
instance tyI3 : TyI Tryz.prog 3 .i64 := ⟨by kernel_rfl⟩
instance tyI5 : TyI Tryz.prog 5 .u8 := ⟨by kernel_rfl⟩
instance tyStr9 : TyStr Tryz.prog 9 := ⟨by kernel_rfl⟩
instance tySl22 : TySl Tryz.prog 28 5 := ⟨by kernel_rfl⟩
instance tyE5 : TyE Tryz.prog 5 1 1 := ⟨by kernel_rfl⟩
instance tyE3 : TyE Tryz.prog 3 1 8 := ⟨by kernel_rfl⟩
instance tyN3 : TyN Tryz.prog 3 1 := ⟨by kernel_rfl⟩
instance tyN4 : TyN Tryz.prog 4 1 := ⟨by kernel_rfl⟩
instance tyN5 : TyN Tryz.prog 5 1 := ⟨by kernel_rfl⟩
instance tyN22 : TyN Tryz.prog 28 1 := ⟨by kernel_rfl⟩
instance tyS25 : TyS Tryz.prog 30 := ⟨by kernel_rfl⟩
instance tyN25 : TyN Tryz.prog 30 1 := ⟨by kernel_rfl⟩
instance tySl25 : TySl Tryz.prog 30 83 := ⟨by kernel_rfl⟩
instance tyA42 : TyA Tryz.prog 83 2 := ⟨by kernel_rfl⟩
instance tyN42 : TyN Tryz.prog 83 2 := ⟨by kernel_rfl⟩
instance tyE42 : TyE Tryz.prog 83 2 16 := ⟨by kernel_rfl⟩
instance tyZ42 : TyZ Tryz.prog 83 [.int .i64 0, .int .i64 0] := ⟨by kernel_rfl⟩
instance tyZ62 : TyZ Tryz.prog 204 (List.replicate 8 (.bool false)) := ⟨by kernel_rfl⟩
instance tyA27 : TyA Tryz.prog 32 32 := ⟨by kernel_rfl⟩
instance tyA29 : TyA Tryz.prog 34 35 := ⟨by kernel_rfl⟩
instance tyN29 : TyN Tryz.prog 34 35 := ⟨by kernel_rfl⟩
instance tyS30 : TyS Tryz.prog 37 := ⟨by kernel_rfl⟩
instance tyN30 : TyN Tryz.prog 37 1 := ⟨by kernel_rfl⟩
instance tyArr27 : TyArr Tryz.prog 32 32 5 := ⟨by kernel_rfl, by kernel_rfl, by kernel_rfl, by kernel_rfl⟩
instance tyB27 : TyB Tryz.prog 32 (bytesV nones) := ⟨by kernel_rfl⟩
instance tyZ29 : TyZ Tryz.prog 34 (ptrCells (.slice none 0 0) 0 0 nones) := ⟨by kernel_rfl⟩
instance tyB29 : TyB Tryz.prog 34 (ptrCells (.slice none 0 0) 0 0 nones) := ⟨by kernel_rfl⟩
instance tyP42 : TyP2 Tryz.prog 83 := ⟨by kernel_rfl⟩
@[go_sem ↓] theorem eqlAddr (a b c d : Int) (w : World) : (binOp .eql 83 (.agg #[.int .i64 a, .int .i64 b]) (.agg #[.int .i64 c, .int .i64 d])).run Tryz.prog w = .ok (.bool ((a == c) && (b == d))) w := run_eql_p2 tyP42 a b c d _ _ w
@[go_sem ↓] theorem neqAddr (a b c d : Int) (w : World) : (binOp .neq 83 (.agg #[.int .i64 a, .int .i64 b]) (.agg #[.int .i64 c, .int .i64 d])).run Tryz.prog w = .ok (.bool (!((a == c) && (b == d)))) w := run_neq_p2 tyP42 a b c d _ _ w
@[go_sem ↓] theorem guardAddr (op : BinOp) (x y : Operand) (xs ys : Array Value) (w : World) : (eqGuard op 83 x y (.agg xs) (.agg ys)).run Tryz.prog w = .ok () w := run_guard_p2 tyP42 op x y xs ys w
instance tyZ5 : TyZ Tryz.prog 5 [.int .u8 0] := ⟨by kernel_rfl⟩
end Go.Proofs.YtmdfbdfijnmhkaaGreat
namespace Go.Proofs.YtmdfbdfijnmhkaaGreat
set_option linter.unusedVariables false
set_option linter.unusedSimpArgs false
open Go.RowKit
namespace Hp
variable {P : Program} {md : Region.Mode} {ops : Array Oper} {Q : Exit → Act → World → Prop} {S : World → Prop}
end Hp
end Go.Proofs.YtmdfbdfijnmhkaaGreat
namespace Go.Proofs.YtmdfbdfijnmhkaaGreat
set_option linter.unusedVariables false
set_option linter.unusedSimpArgs false
open Go.RowKit
namespace Hp
variable {P : Program}
def intsV (q : IntKind) (l : List Int) : List Value := l.map (.int q)
section
variable {ops : Array Oper} {rest : List Oper} {o : Oper} {a : Act} {w : World} {Q : Exit → Act → World → Prop}
theorem wl_neq_bytes {T T' n e : Nat} {x y : Operand} {l k : List UInt8} (hop : o.op = .binOp .neq T x y T') (hw : Region.wanted o (yielded ops a.tmps) = true) (hx : a.eval x = .agg (bytesV l).toArray) (hy : a.eval y = .agg (bytesV k).toArray)
    [h : TyArr P T n e] (hlk : l.length = n ∧ k.length = n) (hh : wpList P ops Q rest (a.put o.dst (.bool (!(l == k)))) w) : wpList P ops Q (o :: rest) a w := by
  refine wl_run hw ?_ hh
  unfold execOp
  simp only [hop, hx, hy, Sem.run_bind, run_eqGuard_agg h.out.2.2.2, Result.andThen_ok, run_neq_bytes h l k hlk.1 hlk.2, Sem.run_pure]
end
end Hp
end Go.Proofs.YtmdfbdfijnmhkaaGreat
namespace Go.Proofs.YtmdfbdfijnmhkaaGreat
set_option linter.unusedVariables false
set_option linter.unusedSimpArgs false
open Go.RowKit Hp
set_option maxRecDepth 100000
instance mSp : TyS Tryz.prog 24 := ⟨by kernel_rfl⟩
instance mNp : TyN Tryz.prog 24 1 := ⟨by kernel_rfl⟩
instance mAM : TyA Tryz.prog 97 25 := ⟨by kernel_rfl⟩
instance mNM : TyN Tryz.prog 97 25 := ⟨by kernel_rfl⟩
instance mAC : TyA Tryz.prog 128 2 := ⟨by kernel_rfl⟩
instance mNC : TyN Tryz.prog 128 2 := ⟨by kernel_rfl⟩
instance mZC : TyZ Tryz.prog 128 [.int .i64 0, .slice none 0 0] := ⟨by kernel_rfl⟩
instance mAE : TyA Tryz.prog 71 3 := ⟨by kernel_rfl⟩
instance mNE : TyN Tryz.prog 71 3 := ⟨by kernel_rfl⟩
instance mZE : TyZ Tryz.prog 71 [.int .i64 0, .int .i64 0, .int .i64 0] := ⟨by kernel_rfl⟩
instance mBE : TyB Tryz.prog 71 [.int .i64 0, .int .i64 0, .int .i64 0] := ⟨by kernel_rfl⟩
instance mAS : TyA Tryz.prog 59 4 := ⟨by kernel_rfl⟩
instance mNS : TyN Tryz.prog 59 4 := ⟨by kernel_rfl⟩
instance mZS : TyZ Tryz.prog 59 [.int .i64 0, .int .i64 0, .int .i64 0, .int .i64 0] := ⟨by kernel_rfl⟩
instance mBS : TyB Tryz.prog 59 [.int .i64 0, .int .i64 0, .int .i64 0, .int .i64 0] := ⟨by kernel_rfl⟩
instance mZA : TyZ Tryz.prog 30 [.slice none 0 0] := ⟨by kernel_rfl⟩
instance mZN : TyZ Tryz.prog 37 [.int .i64 0] := ⟨by kernel_rfl⟩
def ER.cells (e : ER) : List Value := [.int .i64 e.rd, .int .i64 e.sm, .int .i64 e.he]
def mirC (ga : Nat) (m : MV) : List Value := .pointer (some ⟨ga, 0, none⟩) :: m.e.flatMap ER.cells
def mB (gm ga : Nat) (m : MV) : HA := .blk gm 97 (mirC ga m)
def mP (gm ga : Nat) (x : GA) (m : MV) : List HA := mB gm ga m :: arP ga x m.a
theorem St.mcell {w0 w : World} {M : List Nat} {R : List HA} {gm ga : Nat} {x : GA} {m : MV} (h : St w0 M w (mP gm ga x m ++ R)) : w.cell? ⟨gm, 0, none⟩ = some (.pointer (some ⟨ga, 0, none⟩)) :=
  h.cell (T := 97) (cs := mirC ga m) (.head _) rfl
theorem St.marr {w0 w : World} {M : List Nat} {R : List HA} {gm ga : Nat} {x : GA} {m : MV} (h : St w0 M w (mP gm ga x m ++ R)) (hn : m.a.devs ≠ []) : ArrAll w ga x m.a := ArrAll.of h (fun p hp => .tail _ (List.mem_append_left _ hp)) hn
structure MirAt (w : World) (gm ga : Nat) (x : GA) (m : MV) : Prop where
  c : w.cell? ⟨gm, 0, none⟩ = some (.pointer (some ⟨ga, 0, none⟩))
  arr : ArrAll w ga x m.a
theorem St.mat {w0 w : World} {M : List Nat} {R : List HA} {gm ga : Nat} {x : GA} {m : MV} (h : St w0 M w (mP gm ga x m ++ R)) (hn : m.a.devs ≠ []) : MirAt w gm ga x m := ⟨St.mcell h, St.marr h hn⟩
theorem MirAt.later {w0 w : World} {L : List HA} {gm ga : Nat} {x : GA} {m : MV} (hst : St w0 [] w L) (h : MirAt w0 gm ga x m) : MirAt w gm ga x m := ⟨hst.old_cell h.c (by simp), h.arr.later hst⟩
def PM (gm : Nat) : Value := .pointer (some ⟨gm, 0, none⟩)
theorem lies_no {m : MV} {l : List (Int × Int)} {k : Nat} (hk : k < l.length) (h : (m.a.inS (l.getD k (0, 0)).1 (l.getD k (0, 0)).2 && decide (5 ≤ (l.getD k (0, 0)).2)) = false) : m.lies l = false := by
  unfold MV.lies
  rw [List.all_eq_false]
  refine ⟨l[k], List.getElem_mem hk, ?_⟩
  rw [List.getD_eq_getElem?_getD, List.getElem?_eq_getElem hk] at h
  simpa using h
theorem lies_yes {m : MV} {l : List (Int × Int)} (h : ∀ q, q < l.length → (m.a.inS (l.getD q (0, 0)).1 (l.getD q (0, 0)).2 && decide (5 ≤ (l.getD q (0, 0)).2)) = true) : m.lies l = true := by
  unfold MV.lies
  rw [List.all_eq_true]
  intro y hy
  obtain ⟨k, hk, rfl⟩ := List.getElem_of_mem hy
  have := h k hk
  rwa [List.getD_eq_getElem?_getD, List.getElem?_eq_getElem hk] at this
theorem in_parts (a : AR) (x : Int × Int) : (a.inS x.1 x.2 && decide (5 ≤ x.2)) = decide (0 ≤ x.1 ∧ x.1 < (a.devs.length : Int) ∧ 5 ≤ x.2 ∧ x.2 < (a.secs : Int)) := by
  unfold AR.inS AR.inD
  rw [Bool.eq_iff_iff]
  simp only [Bool.and_eq_true, decide_eq_true_eq]
  omega
theorem apart_no {l : List (Int × Int)} {i j : Nat} (hi : i < l.length) (hj : j < i) (h : (l.getD i (0, 0)).1 = (l.getD j (0, 0)).1) : apartB l = false := by
  induction l generalizing i j with
  | nil => simp at hi
  | cons x l ih =>
    unfold apartB
    cases i with
    | zero => omega
    | succ i =>
      have hi' : i < l.length := by simpa using hi
      cases j with
      | zero =>
        rw [Bool.and_eq_false_iff]
        left
        rw [List.all_eq_false]
        refine ⟨l[i], List.getElem_mem hi', ?_⟩
        simp [List.getD_eq_getElem?_getD, hi'] at h
        simp [h]
      | succ j =>
        rw [ih (j := j) hi' (by omega) (by simpa [List.getD_eq_getElem?_getD] using h), Bool.and_false]
theorem apart_yes {l : List (Int × Int)} (h : ∀ i j, i < l.length → j < i → (l.getD i (0, 0)).1 ≠ (l.getD j (0, 0)).1) : apartB l = true := by
  induction l with
  | nil => rfl
  | cons x l ih =>
    unfold apartB
    rw [Bool.and_eq_true]
    refine ⟨?_, ih fun i j hi hj => ?_⟩
    · rw [List.all_eq_true]
      intro y hy
      obtain ⟨k, hk, rfl⟩ := List.getElem_of_mem hy
      have := h (k + 1) 0 (by simpa using hk) (by omega)
      simp [List.getD_eq_getElem?_getD, hk] at this
      simpa using this
    · have := h (i + 1) (j + 1) (by simpa using hi) (by omega)
      simpa [List.getD_eq_getElem?_getD] using this
end Go.Proofs.YtmdfbdfijnmhkaaGreat
namespace Go.Proofs.YtmdfbdfijnmhkaaGreat
set_option linter.unusedVariables false
set_option linter.unusedSimpArgs false
open Go.RowKit Hp
attribute [local irreducible] Go.Calls Go.wpList
set_option maxRecDepth 100000
set_option maxHeartbeats 4000000
def zeroE : List ER := List.replicate 8 ⟨0, 0, 0⟩
theorem mirNew_any {w0 w : World} {M : List Nat} {R : List HA} {ga : Nat} {x : GA} {a : AR} (hS : St w0 M w (arP ga x a ++ R)) (hn : a.devs ≠ []) :
    Calls Tryz.prog 30 #[.pointer (some ⟨ga, 0, none⟩)] w fun e w' => ∃ gm, e = .returned (.tuple #[PM gm, .int .i64 0]) ∧ St w0 M w' (mP gm ga x ⟨a, zeroE⟩ ++ R) := by
  have hst := hS
  have d1 : ((a.devs.length : Int) == 0) = false := by
    cases hd : a.devs with
    | nil => exact absurd hd hn
    | cons d l => simp; omega
  have HA := hid (ArrAll.of hS (fun p hp => List.mem_append_left _ hp) hn)
  clear hS hn
  go_enter Tryz.func30, Tryz.ntmps30
  go_wp2_with (first | go_big_skip | go_big_guard | (go_at_call 67; refine (devs_any HA.out.toArrAt).mono ?_; rintro _ w9 ⟨rfl, h4⟩; replace hst := St.call0 hst h4; clear h4) | (refine wl_buildX (cs := mirC ga ⟨a, zeroE⟩) [(0, .pointer (some ⟨ga, 0, none⟩))] rfl rfl (by exact rfl) (by kernel_rfl) ?_) | (refine wl_boxA hst rfl rfl rfl ?_; intro gm w8 hst2; clear hst))
  go_ret2
  exact ⟨gm, rfl, hst2⟩
theorem mirNone_any {w : World} {gm ga : Nat} {x : GA} {m : MV} (h : MirAt w gm ga x m) : Calls Tryz.prog 62 #[PM gm] w fun e w' => e = .returned (.bool false) ∧ St w [] w' [] := by
  have hst := St.refl w
  have H := hid h.c
  clear h
  unfold PM
  go_enter Tryz.func62, Tryz.ntmps62
  go_wp2_with (first | go_big_skip | go_big_guard | (refine wl_loadE rfl rfl rfl ?_; refine ⟨_, Loads.old hst H.out, ?_⟩))
  go_ret
  exact ⟨rfl, hst⟩
section
theorem loadedIm (A : Addr) : loadVar 3 A = loadVarH 3 A := rfl
theorem loadedAm (A : Addr) : loadVar 23 A = loadVarH 23 A := rfl
attribute [local go_sem ↓] loadedIm loadedAm
theorem mirSectors_any {w : World} {gm ga : Nat} {x : GA} {m : MV} (h : MirAt w gm ga x m) (ao : Option Addr) (n c : Nat) (l : List (Int × Int)) (hA : Rd w (.slice ao n c) 2 n (addrsV l)) (hn : l.length = n) :
    Calls Tryz.prog 63 #[PM gm, .slice ao n c] w fun e w' => e = .returned (.bool (m.lies l)) ∧ St w [] w' [] := by
  have hst := St.refl w
  have hbd := hA.bd
  have hbd1 := hbd.1
  have hbd2 := hbd.2.1
  clear hbd
  have H := hid h
  have Hn := hid hn
  obtain ⟨nd, hnd⟩ : ∃ nd, nd = m.a.devs.length := ⟨_, rfl⟩
  obtain ⟨ns, hns⟩ : ∃ ns, ns = m.a.secs := ⟨_, rfl⟩
  have Hnd := hid hnd
  have Hns := hid hns
  clear h hn hnd hns
  unfold PM
  go_enter Tryz.func63, Tryz.ntmps63
  go_wp2_with (first | go_big_skip | go_big_guard | fail)
  go_loopw [9] (fun i wr => ∃ k : Nat, k ≤ n ∧ i = .int .i64 k ∧ Hid (∀ q, q < k → (m.a.inS (l.getD q (0, 0)).1 (l.getD q (0, 0)).2 && decide (5 ≤ (l.getD q (0, 0)).2)) = true) ∧ St w [] wr []) (fun i _ => n - (intOf i).toNat)
  case atStart => exact ⟨0, Nat.zero_le _, rfl, hid (fun q hq => by omega), hst⟩
  case round =>
    clear hst
    obtain ⟨k, hk, rfl, hq, hst2⟩ := hrel
    by_cases hlt : k < n
    · obtain ⟨b, off, rfl, hr⟩ := hA.at hlt
      obtain ⟨z, hz⟩ : ∃ z, z = l.getD k (0, 0) := ⟨_, rfl⟩
      have hb := addr_both hr (k := k) (by rw [Hn.out]; exact hlt)
      rw [← hz] at hb
      have Hz := hid hz
      have HB := hid hb
      have HQ := hid hq
      clear hz hb hq
      have d0 : decide ((k : Int) < (n : Int)) = true := decide_eq_true (by omega)
      go_wp2_with (first | go_big_skip | go_big_guard | (refine wl_index rfl rfl rfl rfl (hlt) ?_) | (refine wl_loadE rfl rfl rfl ?_; first | refine ⟨_, Loads.oldA hst2 rfl (HB.out), ?_⟩) | (refine wl_alloc hst2 rfl rfl ?_; intro g6 w3 hst3; clear hst2) | (refine wl_store [] hst3 rfl rfl rfl (v := .agg (List.toArray _)) rfl rfl rfl ?_ ?_; (exact Nat.le_refl _); intro w4 hst4; clear hst3; (simp [putAt] at hst4)))
      have HN := hid (in_parts m.a z)
      rw [← Hnd.out, ← Hns.out] at HN
      by_cases c1 : z.1 < 0
      · have f0 : decide (z.1 < 0) = true := decide_eq_true c1
        have hD := hst4.drew
        clear hst4
        refine wp_region_held_drew (S := (fun w' => (loadVarH 3 ⟨g6, 0, none⟩).run Tryz.prog w' = .ok (.int .i64 z.1) w' ∧ (loadVarH 3 ⟨g6, 1, none⟩).run Tryz.prog w' = .ok (.int .i64 z.2) w' ∧ (loadVarH 23 ⟨gm, 0, none⟩).run Tryz.prog w' = .ok (.pointer (some ⟨ga, 0, none⟩)) w')) (by kernel_rfl) (by exact ⟨Loads.at (P := Tryz.prog) [] hD rfl, Loads.at (P := Tryz.prog) [] hD rfl, Loads.old (P := Tryz.prog) hD H.out.c⟩) (fun hHeld => ?_)
        refine tkH 0 13 ?_ rfl (by kernel_rfl) (fun _ _ _ h => h) (by rfl) (by assumption) ?_ ?_
        rotate_left
        · intro w hSw; (try dsimp only at hSw); go_simp; try with_reducible rfl
        (try simp only [pmL, pnL, sc0, sc1])
        refine tkH 1 14 ?_ rfl (by kernel_rfl) (fun _ _ _ h => h) (by rfl) (by assumption) ?_ ?_
        rotate_left
        · intro w hSw; (try dsimp only at hSw); go_simp; try with_reducible rfl
        (try simp only [pmL, pnL, sc0, sc1])
        refine tkH 2 15 ?_ rfl (by kernel_rfl) (fun _ _ _ h => h) (by rfl) (by assumption) ?_ ?_
        rotate_left
        · intro w hSw; (try dsimp only at hSw); go_simp; try with_reducible rfl
        (try simp only [pmL, pnL, sc0, sc1])
        refine tkH 3 16 ?_ rfl (by kernel_rfl) (fun _ _ _ h => h) (by rfl) (by assumption) ?_ ?_
        rotate_left
        · intro w hSw; (try dsimp only at hSw); go_simp; try with_reducible rfl
        (try simp only [pmL, pnL, sc0, sc1])
        refine ukH 4 17 rfl (by kernel_rfl) (fun _ _ _ h => h) (by rfl) (by assumption) ?_
        (try simp only [pmL, pnL, sc0, sc1])
        refine ukH 6 19 rfl (by kernel_rfl) (fun _ _ _ h => h) (by rfl) (by assumption) ?_
        (try simp only [pmL, pnL, sc0, sc1])
        refine ukH 5 18 rfl (by kernel_rfl) (fun _ _ _ h => h) (by rfl) (by assumption) ?_
        (try simp only [pmL, pnL, sc0, sc1])
        refine ukH 7 20 rfl (by kernel_rfl) (fun _ _ _ h => h) (by rfl) (by assumption) ?_
        (try simp only [pmL, pnL, sc0, sc1])
        refine ukH 8 21 rfl (by kernel_rfl) (fun _ _ _ h => h) (by rfl) (by assumption) ?_
        (try simp only [pmL, pnL, sc0, sc1])
        refine ukH 9 22 rfl (by kernel_rfl) (fun _ _ _ h => h) (by rfl) (by assumption) ?_
        (try simp only [pmL, pnL, sc0, sc1])
        refine wpAnyH_ready (rs := [10]) (by kernel_rfl) (by simp) ?_
        refine (AllReadyH.cons (o := ⟨some 23, _, _, _, _, _⟩) rfl (fun K hK => ?_) AllReadyH.nil)
        rw [if_neg (by rw [show Region.wanted _ _ = false from rfl]; exact Bool.false_ne_true)]
        refine hK.out _ _ ?_ (fun hHeld => ?_)
        · exact ⟨Loads.at (P := Tryz.prog) [] hD rfl, Loads.at (P := Tryz.prog) [] hD rfl, Loads.old (P := Tryz.prog) hD H.out.c⟩
        clear hK K
        (try simp only [pmL, pnL, sc0, sc1])
        refine ukH 11 24 rfl (by kernel_rfl) (fun _ _ _ h => h) (by rfl) (by assumption) ?_
        (try simp only [pmL, pnL, sc0, sc1])
        refine tkH 12 25 ?_ rfl (by kernel_rfl) (fun _ _ _ h => h) (by rfl) (by assumption) ?_ ?_
        rotate_left
        · intro w hSw; (try dsimp only at hSw); go_simp; try with_reducible rfl
        (try simp only [pmL, pnL, sc0, sc1])
        refine tkH 13 26 ?_ rfl (by kernel_rfl) (fun _ _ _ h => h) (by rfl) (by assumption) ?_ ?_
        rotate_left
        · intro w hSw; (try dsimp only at hSw); go_simp; try with_reducible rfl
        (try simp only [pmL, pnL, sc0, sc1])
        refine ukH 14 27 rfl (by kernel_rfl) (fun _ _ _ h => h) (by rfl) (by assumption) ?_
        (try simp only [pmL, pnL, sc0, sc1])
        refine ukH 15 28 rfl (by kernel_rfl) (fun _ _ _ h => h) (by rfl) (by assumption) ?_
        (try simp only [pmL, pnL, sc0, sc1])
        refine ukH 16 29 rfl (by kernel_rfl) (fun _ _ _ h => h) (by rfl) (by assumption) ?_
        (try simp only [pmL, pnL, sc0, sc1])
        refine tkH 17 30 ?_ rfl (by kernel_rfl) (fun _ _ _ h => h) (by rfl) (by assumption) ?_ ?_
        rotate_left
        · intro w hSw; (try dsimp only at hSw); go_simp; try with_reducible rfl
        (try simp only [pmL, pnL, sc0, sc1])
        refine tkH 18 31 ?_ rfl (by kernel_rfl) (fun _ _ _ h => h) (by rfl) (by assumption) ?_ ?_
        rotate_left
        · intro w hSw; (try dsimp only at hSw); go_simp; try with_reducible rfl
        (try simp only [pmL, pnL, sc0, sc1])
        refine ukH 19 32 rfl (by kernel_rfl) (fun _ _ _ h => h) (by rfl) (by assumption) ?_
        (try simp only [pmL, pnL, sc0, sc1])
        refine ukH 21 34 rfl (by kernel_rfl) (fun _ _ _ h => h) (by rfl) (by assumption) ?_
        (try simp only [pmL, pnL, sc0, sc1])
        refine ukH 20 33 rfl (by kernel_rfl) (fun _ _ _ h => h) (by rfl) (by assumption) ?_
        (try simp only [pmL, pnL, sc0, sc1])
        refine ukH 22 35 rfl (by kernel_rfl) (fun _ _ _ h => h) (by rfl) (by assumption) ?_
        (try simp only [pmL, pnL, sc0, sc1])
        refine ukH 23 36 rfl (by kernel_rfl) (fun _ _ _ h => h) (by rfl) (by assumption) ?_
        (try simp only [pmL, pnL, sc0, sc1])
        refine ukH 24 37 rfl (by kernel_rfl) (fun _ _ _ h => h) (by rfl) (by assumption) ?_
        (try simp only [pmL, pnL, sc0, sc1])
        refine wpAnyH_ready (rs := [25]) (by kernel_rfl) (by simp) ?_
        refine (AllReadyH.cons (o := ⟨some 38, _, _, _, _, _⟩) rfl (fun K hK => ?_) AllReadyH.nil)
        rw [if_neg (by rw [show Region.wanted _ _ = false from rfl]; exact Bool.false_ne_true)]
        refine hK.out _ _ ?_ (fun hHeld => ?_)
        · exact ⟨Loads.at (P := Tryz.prog) [] hD rfl, Loads.at (P := Tryz.prog) [] hD rfl, Loads.old (P := Tryz.prog) hD H.out.c⟩
        clear hK K
        (try simp only [pmL, pnL, sc0, sc1])
        refine ukH 26 39 rfl (by kernel_rfl) (fun _ _ _ h => h) (by rfl) (by assumption) ?_
        (try simp only [pmL, pnL, sc0, sc1])
        refine tkH 27 40 ?_ rfl (by kernel_rfl) (fun _ _ _ h => h) (by rfl) (by assumption) ?_ ?_
        rotate_left
        · intro w hSw; (try dsimp only at hSw); go_simp; try with_reducible rfl
        (try simp only [pmL, pnL, sc0, sc1])
        refine wpAnyH_done (by kernel_rfl) ?_ _
        clear hHeld
        go_wp2_with (first | go_big_skip | go_big_guard | fail)
        go_ret
        exact ⟨ret_bool (lies_no (k := k) (by rw [Hn.out]; exact hlt) (by rw [← Hz.out, HN.out]; exact decide_eq_false (by omega))).symm, hD.nil⟩
      by_cases c2 : z.1 ≥ (nd : Int)
      · have f0 : decide (z.1 < 0) = false := decide_eq_false c1
        have f1 : decide (z.1 ≥ (nd : Int)) = true := decide_eq_true c2
        have hD := hst4.drew
        clear hst4
        refine wp_region_held_drew (S := (fun w' => (loadVarH 3 ⟨g6, 0, none⟩).run Tryz.prog w' = .ok (.int .i64 z.1) w' ∧ (loadVarH 3 ⟨g6, 1, none⟩).run Tryz.prog w' = .ok (.int .i64 z.2) w' ∧ (loadVarH 23 ⟨gm, 0, none⟩).run Tryz.prog w' = .ok (.pointer (some ⟨ga, 0, none⟩)) w')) (by kernel_rfl) (by exact ⟨Loads.at (P := Tryz.prog) [] hD rfl, Loads.at (P := Tryz.prog) [] hD rfl, Loads.old (P := Tryz.prog) hD H.out.c⟩) (fun hHeld => ?_)
        refine tkH 0 13 ?_ rfl (by kernel_rfl) (fun _ _ _ h => h) (by rfl) (by assumption) ?_ ?_
        rotate_left
        · intro w hSw; (try dsimp only at hSw); go_simp; try with_reducible rfl
        (try simp only [pmL, pnL, sc0, sc1])
        refine tkH 1 14 ?_ rfl (by kernel_rfl) (fun _ _ _ h => h) (by rfl) (by assumption) ?_ ?_
        rotate_left
        · intro w hSw; (try dsimp only at hSw); go_simp; try with_reducible rfl
        (try simp only [pmL, pnL, sc0, sc1])
        refine tkH 2 15 ?_ rfl (by kernel_rfl) (fun _ _ _ h => h) (by rfl) (by assumption) ?_ ?_
        rotate_left
        · intro w hSw; (try dsimp only at hSw); go_simp; try with_reducible rfl
        (try simp only [pmL, pnL, sc0, sc1])
        refine tkH 3 16 ?_ rfl (by kernel_rfl) (fun _ _ _ h => h) (by rfl) (by assumption) ?_ ?_
        rotate_left
        · intro w hSw; (try dsimp only at hSw); go_simp; try with_reducible rfl
        (try simp only [pmL, pnL, sc0, sc1])
        refine tkH 4 17 ?_ rfl (by kernel_rfl) (fun _ _ _ h => h) (by rfl) (by assumption) ?_ ?_
        rotate_left
        · intro w hSw; (try dsimp only at hSw); go_simp; try with_reducible rfl
        (try simp only [pmL, pnL, sc0, sc1])
        refine tkH 6 19 ?_ rfl (by kernel_rfl) (fun _ _ _ h => h) (by rfl) (by assumption) ?_ ?_
        rotate_left
        · intro w hSw; (try dsimp only at hSw); go_simp; try with_reducible rfl
        (try simp only [pmL, pnL, sc0, sc1])
        refine tkH 5 18 ?_ rfl (by kernel_rfl) (fun _ _ _ h => h) (by rfl) (by assumption) ?_ ?_
        rotate_left
        · intro w hSw; (try dsimp only at hSw); go_simp; try with_reducible rfl
        (try simp only [pmL, pnL, sc0, sc1])
        refine tkH 7 20 ?_ rfl (by kernel_rfl) (fun _ _ _ h => h) (by rfl) (by assumption) ?_ ?_
        rotate_left
        · intro w hSw; (try dsimp only at hSw); go_simp; try with_reducible rfl
        (try simp only [pmL, pnL, sc0, sc1])
        refine tkH 8 21 ?_ rfl (by kernel_rfl) (fun _ _ _ h => h) (by rfl) (by assumption) ?_ ?_
        rotate_left
        · intro w hSw; (try dsimp only at hSw); go_simp; try with_reducible rfl
        (try simp only [pmL, pnL, sc0, sc1])
        refine tkH 9 22 ?_ rfl (by kernel_rfl) (fun _ _ _ h => h) (by rfl) (by assumption) ?_ ?_
        rotate_left
        · intro w hSw; (try dsimp only at hSw); go_simp; try with_reducible rfl
        (try simp only [pmL, pnL, sc0, sc1])
        refine wpAnyH_ready (rs := [10]) (by kernel_rfl) (by simp) ?_
        refine (AllReadyH.cons (o := ⟨some 23, _, _, _, _, _⟩) rfl (fun K hK => ?_) AllReadyH.nil)
        rw [if_pos (by rfl)]
        go_simp
        go_at_call 67
        have HD9 := devs_any (ArrAt.later hD H.out.arr.toArrAt)
        rw [← Hnd.out] at HD9
        refine HD9.mono ?_
        clear HD9
        rintro _ w9 ⟨rfl, h4⟩
        have hE := St.call0 hD h4
        clear h4
        refine hK.out _ _ ?_ (fun hHeld => ?_)
        · exact ⟨Loads.at (P := Tryz.prog) [] hE rfl, Loads.at (P := Tryz.prog) [] hE rfl, Loads.old (P := Tryz.prog) hE H.out.c⟩
        clear hK K
        (try simp only [pmL, pnL, sc0, sc1])
        refine tkH 11 24 ?_ rfl (by kernel_rfl) (fun _ _ _ h => h) (by rfl) (by assumption) ?_ ?_
        rotate_left
        · intro w hSw; (try dsimp only at hSw); go_simp; try with_reducible rfl
        (try simp only [pmL, pnL, sc0, sc1])
        refine tkH 12 25 ?_ rfl (by kernel_rfl) (fun _ _ _ h => h) (by rfl) (by assumption) ?_ ?_
        rotate_left
        · intro w hSw; (try dsimp only at hSw); go_simp; try with_reducible rfl
        (try simp only [pmL, pnL, sc0, sc1])
        refine tkH 13 26 ?_ rfl (by kernel_rfl) (fun _ _ _ h => h) (by rfl) (by assumption) ?_ ?_
        rotate_left
        · intro w hSw; (try dsimp only at hSw); go_simp; try with_reducible rfl
        (try simp only [pmL, pnL, sc0, sc1])
        refine ukH 14 27 rfl (by kernel_rfl) (fun _ _ _ h => h) (by rfl) (by assumption) ?_
        (try simp only [pmL, pnL, sc0, sc1])
        refine ukH 15 28 rfl (by kernel_rfl) (fun _ _ _ h => h) (by rfl) (by assumption) ?_
        (try simp only [pmL, pnL, sc0, sc1])
        refine ukH 16 29 rfl (by kernel_rfl) (fun _ _ _ h => h) (by rfl) (by assumption) ?_
        (try simp only [pmL, pnL, sc0, sc1])
        refine tkH 17 30 ?_ rfl (by kernel_rfl) (fun _ _ _ h => h) (by rfl) (by assumption) ?_ ?_
        rotate_left
        · intro w hSw; (try dsimp only at hSw); go_simp; try with_reducible rfl
        (try simp only [pmL, pnL, sc0, sc1])
        refine tkH 18 31 ?_ rfl (by kernel_rfl) (fun _ _ _ h => h) (by rfl) (by assumption) ?_ ?_
        rotate_left
        · intro w hSw; (try dsimp only at hSw); go_simp; try with_reducible rfl
        (try simp only [pmL, pnL, sc0, sc1])
        refine ukH 19 32 rfl (by kernel_rfl) (fun _ _ _ h => h) (by rfl) (by assumption) ?_
        (try simp only [pmL, pnL, sc0, sc1])
        refine ukH 21 34 rfl (by kernel_rfl) (fun _ _ _ h => h) (by rfl) (by assumption) ?_
        (try simp only [pmL, pnL, sc0, sc1])
        refine ukH 20 33 rfl (by kernel_rfl) (fun _ _ _ h => h) (by rfl) (by assumption) ?_
        (try simp only [pmL, pnL, sc0, sc1])
        refine ukH 22 35 rfl (by kernel_rfl) (fun _ _ _ h => h) (by rfl) (by assumption) ?_
        (try simp only [pmL, pnL, sc0, sc1])
        refine ukH 23 36 rfl (by kernel_rfl) (fun _ _ _ h => h) (by rfl) (by assumption) ?_
        (try simp only [pmL, pnL, sc0, sc1])
        refine ukH 24 37 rfl (by kernel_rfl) (fun _ _ _ h => h) (by rfl) (by assumption) ?_
        (try simp only [pmL, pnL, sc0, sc1])
        refine wpAnyH_ready (rs := [25]) (by kernel_rfl) (by simp) ?_
        refine (AllReadyH.cons (o := ⟨some 38, _, _, _, _, _⟩) rfl (fun K hK => ?_) AllReadyH.nil)
        rw [if_neg (by rw [show Region.wanted _ _ = false from rfl]; exact Bool.false_ne_true)]
        refine hK.out _ _ ?_ (fun hHeld => ?_)
        · exact ⟨Loads.at (P := Tryz.prog) [] hE rfl, Loads.at (P := Tryz.prog) [] hE rfl, Loads.old (P := Tryz.prog) hE H.out.c⟩
        clear hK K
        (try simp only [pmL, pnL, sc0, sc1])
        refine ukH 26 39 rfl (by kernel_rfl) (fun _ _ _ h => h) (by rfl) (by assumption) ?_
        (try simp only [pmL, pnL, sc0, sc1])
        refine tkH 27 40 ?_ rfl (by kernel_rfl) (fun _ _ _ h => h) (by rfl) (by assumption) ?_ ?_
        rotate_left
        · intro w hSw; (try dsimp only at hSw); go_simp; try with_reducible rfl
        (try simp only [pmL, pnL, sc0, sc1])
        refine wpAnyH_done (by kernel_rfl) ?_ _
        clear hHeld
        go_wp2_with (first | go_big_skip | go_big_guard | fail)
        go_ret
        exact ⟨ret_bool (lies_no (k := k) (by rw [Hn.out]; exact hlt) (by rw [← Hz.out, HN.out]; exact decide_eq_false (by omega))).symm, hE.nil⟩
      by_cases c3 : z.2 < 5
      · have f0 : decide (z.1 < 0) = false := decide_eq_false c1
        have f1 : decide (z.1 ≥ (nd : Int)) = false := decide_eq_false c2
        have f2 : decide (z.2 < 5) = true := decide_eq_true c3
        have hD := hst4.drew
        clear hst4
        refine wp_region_held_drew (S := (fun w' => (loadVarH 3 ⟨g6, 0, none⟩).run Tryz.prog w' = .ok (.int .i64 z.1) w' ∧ (loadVarH 3 ⟨g6, 1, none⟩).run Tryz.prog w' = .ok (.int .i64 z.2) w' ∧ (loadVarH 23 ⟨gm, 0, none⟩).run Tryz.prog w' = .ok (.pointer (some ⟨ga, 0, none⟩)) w')) (by kernel_rfl) (by exact ⟨Loads.at (P := Tryz.prog) [] hD rfl, Loads.at (P := Tryz.prog) [] hD rfl, Loads.old (P := Tryz.prog) hD H.out.c⟩) (fun hHeld => ?_)
        refine tkH 0 13 ?_ rfl (by kernel_rfl) (fun _ _ _ h => h) (by rfl) (by assumption) ?_ ?_
        rotate_left
        · intro w hSw; (try dsimp only at hSw); go_simp; try with_reducible rfl
        (try simp only [pmL, pnL, sc0, sc1])
        refine tkH 1 14 ?_ rfl (by kernel_rfl) (fun _ _ _ h => h) (by rfl) (by assumption) ?_ ?_
        rotate_left
        · intro w hSw; (try dsimp only at hSw); go_simp; try with_reducible rfl
        (try simp only [pmL, pnL, sc0, sc1])
        refine tkH 2 15 ?_ rfl (by kernel_rfl) (fun _ _ _ h => h) (by rfl) (by assumption) ?_ ?_
        rotate_left
        · intro w hSw; (try dsimp only at hSw); go_simp; try with_reducible rfl
        (try simp only [pmL, pnL, sc0, sc1])
        refine tkH 3 16 ?_ rfl (by kernel_rfl) (fun _ _ _ h => h) (by rfl) (by assumption) ?_ ?_
        rotate_left
        · intro w hSw; (try dsimp only at hSw); go_simp; try with_reducible rfl
        (try simp only [pmL, pnL, sc0, sc1])
        refine tkH 4 17 ?_ rfl (by kernel_rfl) (fun _ _ _ h => h) (by rfl) (by assumption) ?_ ?_
        rotate_left
        · intro w hSw; (try dsimp only at hSw); go_simp; try with_reducible rfl
        (try simp only [pmL, pnL, sc0, sc1])
        refine tkH 6 19 ?_ rfl (by kernel_rfl) (fun _ _ _ h => h) (by rfl) (by assumption) ?_ ?_
        rotate_left
        · intro w hSw; (try dsimp only at hSw); go_simp; try with_reducible rfl
        (try simp only [pmL, pnL, sc0, sc1])
        refine tkH 5 18 ?_ rfl (by kernel_rfl) (fun _ _ _ h => h) (by rfl) (by assumption) ?_ ?_
        rotate_left
        · intro w hSw; (try dsimp only at hSw); go_simp; try with_reducible rfl
        (try simp only [pmL, pnL, sc0, sc1])
        refine tkH 7 20 ?_ rfl (by kernel_rfl) (fun _ _ _ h => h) (by rfl) (by assumption) ?_ ?_
        rotate_left
        · intro w hSw; (try dsimp only at hSw); go_simp; try with_reducible rfl
        (try simp only [pmL, pnL, sc0, sc1])
        refine tkH 8 21 ?_ rfl (by kernel_rfl) (fun _ _ _ h => h) (by rfl) (by assumption) ?_ ?_
        rotate_left
        · intro w hSw; (try dsimp only at hSw); go_simp; try with_reducible rfl
        (try simp only [pmL, pnL, sc0, sc1])
        refine tkH 9 22 ?_ rfl (by kernel_rfl) (fun _ _ _ h => h) (by rfl) (by assumption) ?_ ?_
        rotate_left
        · intro w hSw; (try dsimp only at hSw); go_simp; try with_reducible rfl
        (try simp only [pmL, pnL, sc0, sc1])
        refine wpAnyH_ready (rs := [10]) (by kernel_rfl) (by simp) ?_
        refine (AllReadyH.cons (o := ⟨some 23, _, _, _, _, _⟩) rfl (fun K hK => ?_) AllReadyH.nil)
        rw [if_pos (by rfl)]
        go_simp
        go_at_call 67
        have HD9 := devs_any (ArrAt.later hD H.out.arr.toArrAt)
        rw [← Hnd.out] at HD9
        refine HD9.mono ?_
        clear HD9
        rintro _ w9 ⟨rfl, h4⟩
        have hE := St.call0 hD h4
        clear h4
        refine hK.out _ _ ?_ (fun hHeld => ?_)
        · exact ⟨Loads.at (P := Tryz.prog) [] hE rfl, Loads.at (P := Tryz.prog) [] hE rfl, Loads.old (P := Tryz.prog) hE H.out.c⟩
        clear hK K
        (try simp only [pmL, pnL, sc0, sc1])
        refine tkH 11 24 ?_ rfl (by kernel_rfl) (fun _ _ _ h => h) (by rfl) (by assumption) ?_ ?_
        rotate_left
        · intro w hSw; (try dsimp only at hSw); go_simp; try with_reducible rfl
        (try simp only [pmL, pnL, sc0, sc1])
        refine tkH 12 25 ?_ rfl (by kernel_rfl) (fun _ _ _ h => h) (by rfl) (by assumption) ?_ ?_
        rotate_left
        · intro w hSw; (try dsimp only at hSw); go_simp; try with_reducible rfl
        (try simp only [pmL, pnL, sc0, sc1])
        refine tkH 13 26 ?_ rfl (by kernel_rfl) (fun _ _ _ h => h) (by rfl) (by assumption) ?_ ?_
        rotate_left
        · intro w hSw; (try dsimp only at hSw); go_simp; try with_reducible rfl
        (try simp only [pmL, pnL, sc0, sc1])
        refine tkH 14 27 ?_ rfl (by kernel_rfl) (fun _ _ _ h => h) (by rfl) (by assumption) ?_ ?_
        rotate_left
        · intro w hSw; (try dsimp only at hSw); go_simp; try with_reducible rfl
        (try simp only [pmL, pnL, sc0, sc1])
        refine tkH 15 28 ?_ rfl (by kernel_rfl) (fun _ _ _ h => h) (by rfl) (by assumption) ?_ ?_
        rotate_left
        · intro w hSw; (try dsimp only at hSw); go_simp; try with_reducible rfl
        (try simp only [pmL, pnL, sc0, sc1])
        refine tkH 16 29 ?_ rfl (by kernel_rfl) (fun _ _ _ h => h) (by rfl) (by assumption) ?_ ?_
        rotate_left
        · intro w hSw; (try dsimp only at hSw); go_simp; try with_reducible rfl
        (try simp only [pmL, pnL, sc0, sc1])
        refine tkH 17 30 ?_ rfl (by kernel_rfl) (fun _ _ _ h => h) (by rfl) (by assumption) ?_ ?_
        rotate_left
        · intro w hSw; (try dsimp only at hSw); go_simp; try with_reducible rfl
        (try simp only [pmL, pnL, sc0, sc1])
        refine tkH 18 31 ?_ rfl (by kernel_rfl) (fun _ _ _ h => h) (by rfl) (by assumption) ?_ ?_
        rotate_left
        · intro w hSw; (try dsimp only at hSw); go_simp; try with_reducible rfl
        (try simp only [pmL, pnL, sc0, sc1])
        refine ukH 19 32 rfl (by kernel_rfl) (fun _ _ _ h => h) (by rfl) (by assumption) ?_
        (try simp only [pmL, pnL, sc0, sc1])
        refine ukH 21 34 rfl (by kernel_rfl) (fun _ _ _ h => h) (by rfl) (by assumption) ?_
        (try simp only [pmL, pnL, sc0, sc1])
        refine ukH 20 33 rfl (by kernel_rfl) (fun _ _ _ h => h) (by rfl) (by assumption) ?_
        (try simp only [pmL, pnL, sc0, sc1])
        refine ukH 22 35 rfl (by kernel_rfl) (fun _ _ _ h => h) (by rfl) (by assumption) ?_
        (try simp only [pmL, pnL, sc0, sc1])
        refine ukH 23 36 rfl (by kernel_rfl) (fun _ _ _ h => h) (by rfl) (by assumption) ?_
        (try simp only [pmL, pnL, sc0, sc1])
        refine ukH 24 37 rfl (by kernel_rfl) (fun _ _ _ h => h) (by rfl) (by assumption) ?_
        (try simp only [pmL, pnL, sc0, sc1])
        refine wpAnyH_ready (rs := [25]) (by kernel_rfl) (by simp) ?_
        refine (AllReadyH.cons (o := ⟨some 38, _, _, _, _, _⟩) rfl (fun K hK => ?_) AllReadyH.nil)
        rw [if_neg (by rw [show Region.wanted _ _ = false from rfl]; exact Bool.false_ne_true)]
        refine hK.out _ _ ?_ (fun hHeld => ?_)
        · exact ⟨Loads.at (P := Tryz.prog) [] hE rfl, Loads.at (P := Tryz.prog) [] hE rfl, Loads.old (P := Tryz.prog) hE H.out.c⟩
        clear hK K
        (try simp only [pmL, pnL, sc0, sc1])
        refine ukH 26 39 rfl (by kernel_rfl) (fun _ _ _ h => h) (by rfl) (by assumption) ?_
        (try simp only [pmL, pnL, sc0, sc1])
        refine tkH 27 40 ?_ rfl (by kernel_rfl) (fun _ _ _ h => h) (by rfl) (by assumption) ?_ ?_
        rotate_left
        · intro w hSw; (try dsimp only at hSw); go_simp; try with_reducible rfl
        (try simp only [pmL, pnL, sc0, sc1])
        refine wpAnyH_done (by kernel_rfl) ?_ _
        clear hHeld
        go_wp2_with (first | go_big_skip | go_big_guard | fail)
        go_ret
        exact ⟨ret_bool (lies_no (k := k) (by rw [Hn.out]; exact hlt) (by rw [← Hz.out, HN.out]; exact decide_eq_false (by omega))).symm, hE.nil⟩
      by_cases c4 : z.2 ≥ (ns : Int)
      · have f0 : decide (z.1 < 0) = false := decide_eq_false c1
        have f1 : decide (z.1 ≥ (nd : Int)) = false := decide_eq_false c2
        have f2 : decide (z.2 < 5) = false := decide_eq_false c3
        have f3 : decide (z.2 ≥ (ns : Int)) = true := decide_eq_true c4
        have hD := hst4.drew
        clear hst4
        refine wp_region_held_drew (S := (fun w' => (loadVarH 3 ⟨g6, 0, none⟩).run Tryz.prog w' = .ok (.int .i64 z.1) w' ∧ (loadVarH 3 ⟨g6, 1, none⟩).run Tryz.prog w' = .ok (.int .i64 z.2) w' ∧ (loadVarH 23 ⟨gm, 0, none⟩).run Tryz.prog w' = .ok (.pointer (some ⟨ga, 0, none⟩)) w')) (by kernel_rfl) (by exact ⟨Loads.at (P := Tryz.prog) [] hD rfl, Loads.at (P := Tryz.prog) [] hD rfl, Loads.old (P := Tryz.prog) hD H.out.c⟩) (fun hHeld => ?_)
        refine tkH 0 13 ?_ rfl (by kernel_rfl) (fun _ _ _ h => h) (by rfl) (by assumption) ?_ ?_
        rotate_left
        · intro w hSw; (try dsimp only at hSw); go_simp; try with_reducible rfl
        (try simp only [pmL, pnL, sc0, sc1])
        refine tkH 1 14 ?_ rfl (by kernel_rfl) (fun _ _ _ h => h) (by rfl) (by assumption) ?_ ?_
        rotate_left
        · intro w hSw; (try dsimp only at hSw); go_simp; try with_reducible rfl
        (try simp only [pmL, pnL, sc0, sc1])
        refine tkH 2 15 ?_ rfl (by kernel_rfl) (fun _ _ _ h => h) (by rfl) (by assumption) ?_ ?_
        rotate_left
        · intro w hSw; (try dsimp only at hSw); go_simp; try with_reducible rfl
        (try simp only [pmL, pnL, sc0, sc1])
        refine tkH 3 16 ?_ rfl (by kernel_rfl) (fun _ _ _ h => h) (by rfl) (by assumption) ?_ ?_
        rotate_left
        · intro w hSw; (try dsimp only at hSw); go_simp; try with_reducible rfl
        (try simp only [pmL, pnL, sc0, sc1])
        refine tkH 4 17 ?_ rfl (by kernel_rfl) (fun _ _ _ h => h) (by rfl) (by assumption) ?_ ?_
        rotate_left
        · intro w hSw; (try dsimp only at hSw); go_simp; try with_reducible rfl
        (try simp only [pmL, pnL, sc0, sc1])
        refine tkH 6 19 ?_ rfl (by kernel_rfl) (fun _ _ _ h => h) (by rfl) (by assumption) ?_ ?_
        rotate_left
        · intro w hSw; (try dsimp only at hSw); go_simp; try with_reducible rfl
        (try simp only [pmL, pnL, sc0, sc1])
        refine tkH 5 18 ?_ rfl (by kernel_rfl) (fun _ _ _ h => h) (by rfl) (by assumption) ?_ ?_
        rotate_left
        · intro w hSw; (try dsimp only at hSw); go_simp; try with_reducible rfl
        (try simp only [pmL, pnL, sc0, sc1])
        refine tkH 7 20 ?_ rfl (by kernel_rfl) (fun _ _ _ h => h) (by rfl) (by assumption) ?_ ?_
        rotate_left
        · intro w hSw; (try dsimp only at hSw); go_simp; try with_reducible rfl
        (try simp only [pmL, pnL, sc0, sc1])
        refine tkH 8 21 ?_ rfl (by kernel_rfl) (fun _ _ _ h => h) (by rfl) (by assumption) ?_ ?_
        rotate_left
        · intro w hSw; (try dsimp only at hSw); go_simp; try with_reducible rfl
        (try simp only [pmL, pnL, sc0, sc1])
        refine tkH 9 22 ?_ rfl (by kernel_rfl) (fun _ _ _ h => h) (by rfl) (by assumption) ?_ ?_
        rotate_left
        · intro w hSw; (try dsimp only at hSw); go_simp; try with_reducible rfl
        (try simp only [pmL, pnL, sc0, sc1])
        refine wpAnyH_ready (rs := [10]) (by kernel_rfl) (by simp) ?_
        refine (AllReadyH.cons (o := ⟨some 23, _, _, _, _, _⟩) rfl (fun K hK => ?_) AllReadyH.nil)
        rw [if_pos (by rfl)]
        go_simp
        go_at_call 67
        have HD9 := devs_any (ArrAt.later hD H.out.arr.toArrAt)
        rw [← Hnd.out] at HD9
        refine HD9.mono ?_
        clear HD9
        rintro _ w9 ⟨rfl, h4⟩
        have hE := St.call0 hD h4
        clear h4
        refine hK.out _ _ ?_ (fun hHeld => ?_)
        · exact ⟨Loads.at (P := Tryz.prog) [] hE rfl, Loads.at (P := Tryz.prog) [] hE rfl, Loads.old (P := Tryz.prog) hE H.out.c⟩
        clear hK K
        (try simp only [pmL, pnL, sc0, sc1])
        refine tkH 11 24 ?_ rfl (by kernel_rfl) (fun _ _ _ h => h) (by rfl) (by assumption) ?_ ?_
        rotate_left
        · intro w hSw; (try dsimp only at hSw); go_simp; try with_reducible rfl
        (try simp only [pmL, pnL, sc0, sc1])
        refine tkH 12 25 ?_ rfl (by kernel_rfl) (fun _ _ _ h => h) (by rfl) (by assumption) ?_ ?_
        rotate_left
        · intro w hSw; (try dsimp only at hSw); go_simp; try with_reducible rfl
        (try simp only [pmL, pnL, sc0, sc1])
        refine tkH 13 26 ?_ rfl (by kernel_rfl) (fun _ _ _ h => h) (by rfl) (by assumption) ?_ ?_
        rotate_left
        · intro w hSw; (try dsimp only at hSw); go_simp; try with_reducible rfl
        (try simp only [pmL, pnL, sc0, sc1])
        refine tkH 14 27 ?_ rfl (by kernel_rfl) (fun _ _ _ h => h) (by rfl) (by assumption) ?_ ?_
        rotate_left
        · intro w hSw; (try dsimp only at hSw); go_simp; try with_reducible rfl
        (try simp only [pmL, pnL, sc0, sc1])
        refine tkH 15 28 ?_ rfl (by kernel_rfl) (fun _ _ _ h => h) (by rfl) (by assumption) ?_ ?_
        rotate_left
        · intro w hSw; (try dsimp only at hSw); go_simp; try with_reducible rfl
        (try simp only [pmL, pnL, sc0, sc1])
        refine tkH 16 29 ?_ rfl (by kernel_rfl) (fun _ _ _ h => h) (by rfl) (by assumption) ?_ ?_
        rotate_left
        · intro w hSw; (try dsimp only at hSw); go_simp; try with_reducible rfl
        (try simp only [pmL, pnL, sc0, sc1])
        refine tkH 17 30 ?_ rfl (by kernel_rfl) (fun _ _ _ h => h) (by rfl) (by assumption) ?_ ?_
        rotate_left
        · intro w hSw; (try dsimp only at hSw); go_simp; try with_reducible rfl
        (try simp only [pmL, pnL, sc0, sc1])
        refine tkH 18 31 ?_ rfl (by kernel_rfl) (fun _ _ _ h => h) (by rfl) (by assumption) ?_ ?_
        rotate_left
        · intro w hSw; (try dsimp only at hSw); go_simp; try with_reducible rfl
        (try simp only [pmL, pnL, sc0, sc1])
        refine tkH 19 32 ?_ rfl (by kernel_rfl) (fun _ _ _ h => h) (by rfl) (by assumption) ?_ ?_
        rotate_left
        · intro w hSw; (try dsimp only at hSw); go_simp; try with_reducible rfl
        (try simp only [pmL, pnL, sc0, sc1])
        refine tkH 21 34 ?_ rfl (by kernel_rfl) (fun _ _ _ h => h) (by rfl) (by assumption) ?_ ?_
        rotate_left
        · intro w hSw; (try dsimp only at hSw); go_simp; try with_reducible rfl
        (try simp only [pmL, pnL, sc0, sc1])
        refine tkH 20 33 ?_ rfl (by kernel_rfl) (fun _ _ _ h => h) (by rfl) (by assumption) ?_ ?_
        rotate_left
        · intro w hSw; (try dsimp only at hSw); go_simp; try with_reducible rfl
        (try simp only [pmL, pnL, sc0, sc1])
        refine tkH 22 35 ?_ rfl (by kernel_rfl) (fun _ _ _ h => h) (by rfl) (by assumption) ?_ ?_
        rotate_left
        · intro w hSw; (try dsimp only at hSw); go_simp; try with_reducible rfl
        (try simp only [pmL, pnL, sc0, sc1])
        refine tkH 23 36 ?_ rfl (by kernel_rfl) (fun _ _ _ h => h) (by rfl) (by assumption) ?_ ?_
        rotate_left
        · intro w hSw; (try dsimp only at hSw); go_simp; try with_reducible rfl
        (try simp only [pmL, pnL, sc0, sc1])
        refine tkH 24 37 ?_ rfl (by kernel_rfl) (fun _ _ _ h => h) (by rfl) (by assumption) ?_ ?_
        rotate_left
        · intro w hSw; (try dsimp only at hSw); go_simp; try with_reducible rfl
        (try simp only [pmL, pnL, sc0, sc1])
        refine wpAnyH_ready (rs := [25]) (by kernel_rfl) (by simp) ?_
        refine (AllReadyH.cons (o := ⟨some 38, _, _, _, _, _⟩) rfl (fun K hK => ?_) AllReadyH.nil)
        rw [if_pos (by rfl)]
        go_simp
        go_at_call 48
        have HD9 := sectors_any (ArrAt.later hE H.out.arr.toArrAt)
        rw [← Hns.out] at HD9
        refine HD9.mono ?_
        clear HD9
        rintro _ w8 ⟨rfl, h4⟩
        have hF := St.call0 hE h4
        clear h4
        refine hK.out _ _ ?_ (fun hHeld => ?_)
        · exact ⟨Loads.at (P := Tryz.prog) [] hF rfl, Loads.at (P := Tryz.prog) [] hF rfl, Loads.old (P := Tryz.prog) hF H.out.c⟩
        clear hK K
        (try simp only [pmL, pnL, sc0, sc1])
        refine tkH 26 39 ?_ rfl (by kernel_rfl) (fun _ _ _ h => h) (by rfl) (by assumption) ?_ ?_
        rotate_left
        · intro w hSw; (try dsimp only at hSw); go_simp; try with_reducible rfl
        (try simp only [pmL, pnL, sc0, sc1])
        refine tkH 27 40 ?_ rfl (by kernel_rfl) (fun _ _ _ h => h) (by rfl) (by assumption) ?_ ?_
        rotate_left
        · intro w hSw; (try dsimp only at hSw); go_simp; try with_reducible rfl
        (try simp only [pmL, pnL, sc0, sc1])
        refine wpAnyH_done (by kernel_rfl) ?_ _
        clear hHeld
        go_wp2_with (first | go_big_skip | go_big_guard | fail)
        go_ret
        exact ⟨ret_bool (lies_no (k := k) (by rw [Hn.out]; exact hlt) (by rw [← Hz.out, HN.out]; exact decide_eq_false (by omega))).symm, hF.nil⟩
      have f0 : decide (z.1 < 0) = false := decide_eq_false c1
      have f1 : decide (z.1 ≥ (nd : Int)) = false := decide_eq_false c2
      have f2 : decide (z.2 < 5) = false := decide_eq_false c3
      have f3 : decide (z.2 ≥ (ns : Int)) = false := decide_eq_false c4
      have hD := hst4.drew
      clear hst4
      refine wp_region_held_drew (S := (fun w' => (loadVarH 3 ⟨g6, 0, none⟩).run Tryz.prog w' = .ok (.int .i64 z.1) w' ∧ (loadVarH 3 ⟨g6, 1, none⟩).run Tryz.prog w' = .ok (.int .i64 z.2) w' ∧ (loadVarH 23 ⟨gm, 0, none⟩).run Tryz.prog w' = .ok (.pointer (some ⟨ga, 0, none⟩)) w')) (by kernel_rfl) (by exact ⟨Loads.at (P := Tryz.prog) [] hD rfl, Loads.at (P := Tryz.prog) [] hD rfl, Loads.old (P := Tryz.prog) hD H.out.c⟩) (fun hHeld => ?_)
      refine tkH 0 13 ?_ rfl (by kernel_rfl) (fun _ _ _ h => h) (by rfl) (by assumption) ?_ ?_
      rotate_left
      · intro w hSw; (try dsimp only at hSw); go_simp; try with_reducible rfl
      (try simp only [pmL, pnL, sc0, sc1])
      refine tkH 1 14 ?_ rfl (by kernel_rfl) (fun _ _ _ h => h) (by rfl) (by assumption) ?_ ?_
      rotate_left
      · intro w hSw; (try dsimp only at hSw); go_simp; try with_reducible rfl
      (try simp only [pmL, pnL, sc0, sc1])
      refine tkH 2 15 ?_ rfl (by kernel_rfl) (fun _ _ _ h => h) (by rfl) (by assumption) ?_ ?_
      rotate_left
      · intro w hSw; (try dsimp only at hSw); go_simp; try with_reducible rfl
      (try simp only [pmL, pnL, sc0, sc1])
      refine tkH 3 16 ?_ rfl (by kernel_rfl) (fun _ _ _ h => h) (by rfl) (by assumption) ?_ ?_
      rotate_left
      · intro w hSw; (try dsimp only at hSw); go_simp; try with_reducible rfl
      (try simp only [pmL, pnL, sc0, sc1])
      refine tkH 4 17 ?_ rfl (by kernel_rfl) (fun _ _ _ h => h) (by rfl) (by assumption) ?_ ?_
      rotate_left
      · intro w hSw; (try dsimp only at hSw); go_simp; try with_reducible rfl
      (try simp only [pmL, pnL, sc0, sc1])
      refine tkH 6 19 ?_ rfl (by kernel_rfl) (fun _ _ _ h => h) (by rfl) (by assumption) ?_ ?_
      rotate_left
      · intro w hSw; (try dsimp only at hSw); go_simp; try with_reducible rfl
      (try simp only [pmL, pnL, sc0, sc1])
      refine tkH 5 18 ?_ rfl (by kernel_rfl) (fun _ _ _ h => h) (by rfl) (by assumption) ?_ ?_
      rotate_left
      · intro w hSw; (try dsimp only at hSw); go_simp; try with_reducible rfl
      (try simp only [pmL, pnL, sc0, sc1])
      refine tkH 7 20 ?_ rfl (by kernel_rfl) (fun _ _ _ h => h) (by rfl) (by assumption) ?_ ?_
      rotate_left
      · intro w hSw; (try dsimp only at hSw); go_simp; try with_reducible rfl
      (try simp only [pmL, pnL, sc0, sc1])
      refine tkH 8 21 ?_ rfl (by kernel_rfl) (fun _ _ _ h => h) (by rfl) (by assumption) ?_ ?_
      rotate_left
      · intro w hSw; (try dsimp only at hSw); go_simp; try with_reducible rfl
      (try simp only [pmL, pnL, sc0, sc1])
      refine tkH 9 22 ?_ rfl (by kernel_rfl) (fun _ _ _ h => h) (by rfl) (by assumption) ?_ ?_
      rotate_left
      · intro w hSw; (try dsimp only at hSw); go_simp; try with_reducible rfl
      (try simp only [pmL, pnL, sc0, sc1])
      refine wpAnyH_ready (rs := [10]) (by kernel_rfl) (by simp) ?_
      refine (AllReadyH.cons (o := ⟨some 23, _, _, _, _, _⟩) rfl (fun K hK => ?_) AllReadyH.nil)
      rw [if_pos (by rfl)]
      go_simp
      go_at_call 67
      have HD9 := devs_any (ArrAt.later hD H.out.arr.toArrAt)
      rw [← Hnd.out] at HD9
      refine HD9.mono ?_
      clear HD9
      rintro _ w9 ⟨rfl, h4⟩
      have hE := St.call0 hD h4
      clear h4
      refine hK.out _ _ ?_ (fun hHeld => ?_)
      · exact ⟨Loads.at (P := Tryz.prog) [] hE rfl, Loads.at (P := Tryz.prog) [] hE rfl, Loads.old (P := Tryz.prog) hE H.out.c⟩
      clear hK K
      (try simp only [pmL, pnL, sc0, sc1])
      refine tkH 11 24 ?_ rfl (by kernel_rfl) (fun _ _ _ h => h) (by rfl) (by assumption) ?_ ?_
      rotate_left
      · intro w hSw; (try dsimp only at hSw); go_simp; try with_reducible rfl
      (try simp only [pmL, pnL, sc0, sc1])
      refine tkH 12 25 ?_ rfl (by kernel_rfl) (fun _ _ _ h => h) (by rfl) (by assumption) ?_ ?_
      rotate_left
      · intro w hSw; (try dsimp only at hSw); go_simp; try with_reducible rfl
      (try simp only [pmL, pnL, sc0, sc1])
      refine tkH 13 26 ?_ rfl (by kernel_rfl) (fun _ _ _ h => h) (by rfl) (by assumption) ?_ ?_
      rotate_left
      · intro w hSw; (try dsimp only at hSw); go_simp; try with_reducible rfl
      (try simp only [pmL, pnL, sc0, sc1])
      refine tkH 14 27 ?_ rfl (by kernel_rfl) (fun _ _ _ h => h) (by rfl) (by assumption) ?_ ?_
      rotate_left
      · intro w hSw; (try dsimp only at hSw); go_simp; try with_reducible rfl
      (try simp only [pmL, pnL, sc0, sc1])
      refine tkH 15 28 ?_ rfl (by kernel_rfl) (fun _ _ _ h => h) (by rfl) (by assumption) ?_ ?_
      rotate_left
      · intro w hSw; (try dsimp only at hSw); go_simp; try with_reducible rfl
      (try simp only [pmL, pnL, sc0, sc1])
      refine tkH 16 29 ?_ rfl (by kernel_rfl) (fun _ _ _ h => h) (by rfl) (by assumption) ?_ ?_
      rotate_left
      · intro w hSw; (try dsimp only at hSw); go_simp; try with_reducible rfl
      (try simp only [pmL, pnL, sc0, sc1])
      refine tkH 17 30 ?_ rfl (by kernel_rfl) (fun _ _ _ h => h) (by rfl) (by assumption) ?_ ?_
      rotate_left
      · intro w hSw; (try dsimp only at hSw); go_simp; try with_reducible rfl
      (try simp only [pmL, pnL, sc0, sc1])
      refine tkH 18 31 ?_ rfl (by kernel_rfl) (fun _ _ _ h => h) (by rfl) (by assumption) ?_ ?_
      rotate_left
      · intro w hSw; (try dsimp only at hSw); go_simp; try with_reducible rfl
      (try simp only [pmL, pnL, sc0, sc1])
      refine tkH 19 32 ?_ rfl (by kernel_rfl) (fun _ _ _ h => h) (by rfl) (by assumption) ?_ ?_
      rotate_left
      · intro w hSw; (try dsimp only at hSw); go_simp; try with_reducible rfl
      (try simp only [pmL, pnL, sc0, sc1])
      refine tkH 21 34 ?_ rfl (by kernel_rfl) (fun _ _ _ h => h) (by rfl) (by assumption) ?_ ?_
      rotate_left
      · intro w hSw; (try dsimp only at hSw); go_simp; try with_reducible rfl
      (try simp only [pmL, pnL, sc0, sc1])
      refine tkH 20 33 ?_ rfl (by kernel_rfl) (fun _ _ _ h => h) (by rfl) (by assumption) ?_ ?_
      rotate_left
      · intro w hSw; (try dsimp only at hSw); go_simp; try with_reducible rfl
      (try simp only [pmL, pnL, sc0, sc1])
      refine tkH 22 35 ?_ rfl (by kernel_rfl) (fun _ _ _ h => h) (by rfl) (by assumption) ?_ ?_
      rotate_left
      · intro w hSw; (try dsimp only at hSw); go_simp; try with_reducible rfl
      (try simp only [pmL, pnL, sc0, sc1])
      refine tkH 23 36 ?_ rfl (by kernel_rfl) (fun _ _ _ h => h) (by rfl) (by assumption) ?_ ?_
      rotate_left
      · intro w hSw; (try dsimp only at hSw); go_simp; try with_reducible rfl
      (try simp only [pmL, pnL, sc0, sc1])
      refine tkH 24 37 ?_ rfl (by kernel_rfl) (fun _ _ _ h => h) (by rfl) (by assumption) ?_ ?_
      rotate_left
      · intro w hSw; (try dsimp only at hSw); go_simp; try with_reducible rfl
      (try simp only [pmL, pnL, sc0, sc1])
      refine wpAnyH_ready (rs := [25]) (by kernel_rfl) (by simp) ?_
      refine (AllReadyH.cons (o := ⟨some 38, _, _, _, _, _⟩) rfl (fun K hK => ?_) AllReadyH.nil)
      rw [if_pos (by rfl)]
      go_simp
      go_at_call 48
      have HD9 := sectors_any (ArrAt.later hE H.out.arr.toArrAt)
      rw [← Hns.out] at HD9
      refine HD9.mono ?_
      clear HD9
      rintro _ w8 ⟨rfl, h4⟩
      have hF := St.call0 hE h4
      clear h4
      refine hK.out _ _ ?_ (fun hHeld => ?_)
      · exact ⟨Loads.at (P := Tryz.prog) [] hF rfl, Loads.at (P := Tryz.prog) [] hF rfl, Loads.old (P := Tryz.prog) hF H.out.c⟩
      clear hK K
      (try simp only [pmL, pnL, sc0, sc1])
      refine tkH 26 39 ?_ rfl (by kernel_rfl) (fun _ _ _ h => h) (by rfl) (by assumption) ?_ ?_
      rotate_left
      · intro w hSw; (try dsimp only at hSw); go_simp; try with_reducible rfl
      (try simp only [pmL, pnL, sc0, sc1])
      refine tkH 27 40 ?_ rfl (by kernel_rfl) (fun _ _ _ h => h) (by rfl) (by assumption) ?_ ?_
      rotate_left
      · intro w hSw; (try dsimp only at hSw); go_simp; try with_reducible rfl
      (try simp only [pmL, pnL, sc0, sc1])
      refine wpAnyH_done (by kernel_rfl) ?_ _
      clear hHeld
      go_wp2_with (first | go_big_skip | go_big_guard | fail)
      have hy : Hid (∀ q, q < k + 1 → (m.a.inS (l.getD q (0, 0)).1 (l.getD q (0, 0)).2 && decide (5 ≤ (l.getD q (0, 0)).2)) = true) := hid (fun q hq => by
        by_cases e : q = k
        · rw [e, ← Hz.out, HN.out]; exact decide_eq_true (by omega)
        · exact HQ.out q (by omega))
      go_roundw
      case rel => exact ⟨k + 1, by omega, by go_num, hy, hF.nil⟩
      case measure => simp [intOf]; omega
    · have d0 : decide ((k : Int) < (n : Int)) = false := decide_eq_false (by omega)
      have HY := hid (lies_yes (m := m) (l := l) fun q hq' => hq.out q (by rw [Hn.out] at hq'; omega))
      clear hq
      go_wp2_with (first | go_big_skip | go_big_guard | fail)
      go_ret
      exact ⟨ret_bool HY.out.symm, hst2⟩
end
theorem some16_any (n : Nat) (hn : n ≤ 1000000) (w : World) : Calls Tryz.prog 65 #[.int .i64 n] w fun e w' => e = .returned (.tuple #[.int .i64 n, .int .i64 (if n = 0 then 13 else 0)]) ∧ St w [] w' [] := by
  have hst := St.refl w
  by_cases h0 : n = 0
  · subst h0
    go_enter Tryz.func65, Tryz.ntmps65
    go_wp2_with (first | go_big_skip | go_big_guard | fail)
    go_ret2
    exact ⟨rfl, hst⟩
  · have d0 : ((n : Int) == 0) = false := by simp; omega
    rw [if_neg h0]
    clear h0
    go_enter Tryz.func65, Tryz.ntmps65
    go_wp2_with (first | go_big_skip | go_big_guard | fail)
    go_ret2
    exact ⟨rfl, hst⟩
end Go.Proofs.YtmdfbdfijnmhkaaGreat
namespace Go.Proofs.YtmdfbdfijnmhkaaGreat
set_option linter.unusedVariables false
set_option linter.unusedSimpArgs false
open Hp
instance hyS3 : TyS Tryz.prog 3 := ⟨by kernel_rfl⟩
instance hyS4 : TyS Tryz.prog 4 := ⟨by kernel_rfl⟩
instance hyS5 : TyS Tryz.prog 5 := ⟨by kernel_rfl⟩
instance hyS22 : TyS Tryz.prog 28 := ⟨by kernel_rfl⟩
instance hyI3 : TyI Tryz.prog 3 .i64 := ⟨by kernel_rfl⟩
instance hyI5 : TyI Tryz.prog 5 .u8 := ⟨by kernel_rfl⟩
instance hyStr9 : TyStr Tryz.prog 9 := ⟨by kernel_rfl⟩
instance hySl22 : TySl Tryz.prog 28 5 := ⟨by kernel_rfl⟩
instance hyE5 : TyE Tryz.prog 5 1 1 := ⟨by kernel_rfl⟩
instance hyE3 : TyE Tryz.prog 3 1 8 := ⟨by kernel_rfl⟩
instance hyN3 : TyN Tryz.prog 3 1 := ⟨by kernel_rfl⟩
instance hyN4 : TyN Tryz.prog 4 1 := ⟨by kernel_rfl⟩
instance hyN5 : TyN Tryz.prog 5 1 := ⟨by kernel_rfl⟩
instance hyN22 : TyN Tryz.prog 28 1 := ⟨by kernel_rfl⟩
instance hyZ5 : TyZ Tryz.prog 5 [.int .u8 0] := ⟨by kernel_rfl⟩
instance hyE22 : TyE Tryz.prog 28 1 24 := ⟨by kernel_rfl⟩
instance hyZ22 : TyZ Tryz.prog 28 [.slice none 0 0] := ⟨by kernel_rfl⟩
instance hyS25 : TyS Tryz.prog 119 := ⟨by kernel_rfl⟩
instance hyN25 : TyN Tryz.prog 119 1 := ⟨by kernel_rfl⟩
instance hySl25 : TySl Tryz.prog 119 28 := ⟨by kernel_rfl⟩
instance hyZ25 : TyZ Tryz.prog 119 [.slice none 0 0] := ⟨by kernel_rfl⟩
instance hyZ3 : TyZ Tryz.prog 3 [.int .i64 0] := ⟨by kernel_rfl⟩
instance hyS35 : TyS Tryz.prog 115 := ⟨by kernel_rfl⟩
instance hyN35 : TyN Tryz.prog 115 1 := ⟨by kernel_rfl⟩
instance hyA36 : TyA Tryz.prog 116 8 := ⟨by kernel_rfl⟩
instance hyN36 : TyN Tryz.prog 116 8 := ⟨by kernel_rfl⟩
instance hyZ36 : TyZ Tryz.prog 116 (List.replicate 8 (.int .u32 0)) := ⟨by kernel_rfl⟩
instance hyA58 : TyA Tryz.prog 117 8 := ⟨by kernel_rfl⟩
instance hyN58 : TyN Tryz.prog 117 8 := ⟨by kernel_rfl⟩
instance hyZ58 : TyZ Tryz.prog 117 (List.replicate 8 (.int .u32 0)) := ⟨by kernel_rfl⟩
instance hyA60 : TyA Tryz.prog 169 64 := ⟨by kernel_rfl⟩
instance hyN60 : TyN Tryz.prog 169 64 := ⟨by kernel_rfl⟩
instance hyZ60 : TyZ Tryz.prog 169 (List.replicate 64 (.int .u32 0)) := ⟨by kernel_rfl⟩
instance hyA76 : TyA Tryz.prog 172 16 := ⟨by kernel_rfl⟩
instance hyN76 : TyN Tryz.prog 172 16 := ⟨by kernel_rfl⟩
instance hyZ76 : TyZ Tryz.prog 172 (List.replicate 16 (.int .u32 0)) := ⟨by kernel_rfl⟩
end Go.Proofs.YtmdfbdfijnmhkaaGreat
namespace Go.Proofs.YtmdfbdfijnmhkaaGreat
set_option linter.unusedVariables false
set_option linter.unusedSimpArgs false
open Go.RowKit
namespace Hp
variable {P : Program}
theorem op_inRound {l n : Nat} {o : Oper} {a : Act} {w : World} {K : Act → World → Prop} {Q : Exit → Act → World → Prop} (hd : ∀ c, o.op ≠ .defer c) (h : o.wp P a w K Q) : o.wpIn (Fence.wide.inRound l) n P a w K Q := by
  refine ⟨fun _ _ => trivial, ?_⟩
  rw [Oper.semAt_plain _ _ _ hd]
  unfold Oper.wp at h
  revert h
  generalize (execOp a.eval o).run P w = r
  intro h
  cases r with
  | ok x w' =>
    cases x <;> simp only [Oper.upon, Oper.uponIn] at h ⊢ <;>
      first
        | exact h
        | exact h.elim
        | exact ⟨fun h => (by cases h), CallsIn.inRound l (callsIn_wide.2 h)⟩
        | exact ⟨fun h => (by cases h), fun c cs _ => let ⟨v, w', r, s⟩ := h c cs; ⟨v, w', r, stepsIn_wide.2 s⟩⟩
  | halt x w' => cases x <;> simp only [Oper.upon, Oper.uponIn] at h ⊢ <;> exact h
def noDefer (ops : List Oper) : Bool := ops.all fun o => match o.op with
  | .defer _ => false
  | _ => true
theorem noDefer_mem {ops : List Oper} (h : noDefer ops = true) {o : Oper} (ho : o ∈ ops) : ∀ c, o.op ≠ .defer c := by
  intro c hc
  have := List.all_eq_true.1 h o ho
  rw [hc] at this
  cases this
theorem opI_inRound {l n i : Nat} {ops : Array Oper} {a : Act} {w : World} {K : Act → World → Prop} {Q : Exit → Act → World → Prop} (hd : noDefer ops.toList = true) (hQ : ¬ LetsOut Q) (h : wpOp P ops Q i K a w) : wpOpIn (Fence.wide.inRound l) n P ops Q i K a w := by
  unfold wpOp at h
  unfold wpOpIn
  cases ho : ops[i]? with
  | none => simpa [ho] using h
  | some o =>
    simp only [ho] at h ⊢
    have hm : o ∈ ops.toList := by
      obtain ⟨hlt, e⟩ := Array.getElem?_eq_some_iff.1 ho
      rw [← e]; simp
    split
    · rename_i hw
      simp only [hw, if_true] at h
      rcases h with h | h
      · exact op_inRound (noDefer_mem hd hm) h
      · exact absurd h.2 hQ
    · rename_i hw
      simp only [hw] at h
      exact ⟨fun _ _ => trivial, h⟩
theorem any_inRound {l n : Nat} {ops : Array Oper} {Q : Exit → Act → World → Prop} {md : Region.Mode} (hd : noDefer ops.toList = true) (hQ : ¬ LetsOut Q) : ∀ (fuel : Nat) (listed : Array Bool) (a : Act) (w : World), wpAny P md ops Q fuel listed a w → wpAnyIn (Fence.wide.inRound l) n P md ops Q fuel listed a w
  | 0, _, _, _, h => h
  | fuel + 1, listed, a, w, h => ⟨h.1, fun i hi => wpOpIn_mono (fun a w hh => any_inRound hd hQ fuel _ a w hh) (opI_inRound hd hQ (h.2 i hi))⟩
theorem region_last_inRound {l n id : Nat} {L : Array Oper} {o : Oper} {S : World → Prop} {a : Act} {w : World} {Q : Exit → Act → World → Prop} (hm : P.follows .mixedOrders = true) (hd : noDefer L.toList = true) (hQ : ¬ LetsOut Q) (ho : L.back? = some o) (hB : lastB L.pop o = true) (hS : S w.drew)
    (h : S w.drew → wpAnyH P .any L.pop (QL P L.pop o Q) S L.pop.size (Array.replicate L.pop.size false) a w.drew) : (Code.region id L true).wpIn (Fence.wide.inRound l) n P Q a w := by
  have e := push_pop ho
  refine wpIn_region_any hm (any_inRound hd hQ _ _ a _ ?_)
  have h1 := wpAny_last hB _ _ a w.drew (by simp) (wpAny_of_held _ _ _ _ (h hS))
  rw [e] at h1
  have h2 : L.size = L.pop.size + 1 := by conv => lhs; rw [← e]
                                          simp
  have h3 : (Array.replicate L.pop.size false).push false = Array.replicate L.size false := by rw [h2, Array.replicate_succ]
  rw [h3, ← h2] at h1
  exact h1
theorem list_inRound {l n : Nat} {ops : Array Oper} {Q : Exit → Act → World → Prop} (hQ : ¬ LetsOut Q) : ∀ (L : List Oper) (a : Act) (w : World), noDefer L = true → wpList P ops Q L a w → wpListIn (Fence.wide.inRound l) n P ops Q L a w
  | [], _, _, _, h => h
  | o :: L, a, w, hd, h => by
    unfold wpList at h
    unfold wpListIn
    have hd2 : noDefer L = true := by
      simp only [noDefer, List.all_cons, Bool.and_eq_true] at hd
      exact hd.2
    split
    · rename_i hw
      simp only [hw, if_true] at h
      rcases h with h | h
      · exact Oper.wpIn_mono (fun a w hh => list_inRound hQ L a w hd2 hh) (op_inRound (noDefer_mem hd (.head _)) h)
      · exact absurd h.2 hQ
    · rename_i hw
      simp only [hw] at h
      exact ⟨fun _ _ => trivial, list_inRound hQ L _ w hd2 h⟩
theorem St.ownFrom {w0 w w' : World} {M : List Nat} {L : List HA} {B : Nat} {row : Option Nat} (hB : w0.heap.size ≤ B) (h : St w0 M w L) (hg : w.grownBy w' row) (hr : ∀ r, row = some r → B ≤ r ∧ ∃ o : Obj, w.heap[r]? = some o ∧ o.isCells = false) : St w0 M w' L := by
  have key : ∀ k, k < w.heap.size → (∀ r, row = some r → k ≠ r) → w'.heap[k]? = w.heap[k]? := fun k hk hne => hg.block k hk (fun e => (hne k e.symm) rfl)
  have cells : ∀ (k : Nat) (c : Array Value) (t : TypeId) (m : Nat × Nat), w.heap[k]? = some (.cells c t m) → ∀ r, row = some r → k ≠ r := by
    rintro k c t m hk r e rfl
    obtain ⟨_, o, ho, hc⟩ := hr k e
    rw [hk] at ho
    cases ho
    cases hc
  have foot : ∀ x ∈ L, ∀ k, x.foot = some k → ∀ r, row = some r → k ≠ r := by
    intro x hx k hk
    have hh := h.all x hx
    cases x with
    | blk g T cs =>
      cases hk
      exact cells _ _ _ _ hh
    | row v T sz n xs =>
      obtain ⟨_, h2⟩ := hh
      rcases h2 with ⟨rfl, _⟩ | ⟨g, cap, cur, rfl, _, hc, _⟩
      · cases hk
      · cases hk
        exact cells _ _ _ _ hc
    | rowP p v T sz n xs =>
      obtain ⟨⟨_, h2⟩, _⟩ := hh
      rcases h2 with ⟨rfl, _⟩ | ⟨g, cap, cur, rfl, _, hc, _⟩
      · cases hk
      · cases hk
        exact cells _ _ _ _ hc
    | frz m g T cs =>
      cases hk
      exact cells _ _ _ _ hh
  refine ⟨hg.os.trans h.os, hg.tape.trans h.tape, hg.output.trans h.output, Nat.le_trans h.size hg.size, fun k hk hM => ?_, fun x hx => ?_, h.own, h.apart⟩
  · rw [key k (Nat.lt_of_lt_of_le hk h.size) (fun r e => by have := (hr r e).1; omega)]
    exact h.old k hk hM
  · exact HA.keep (h.all x hx) fun k hk => key k (h.lt hx hk) (foot x hx k hk)
end Hp
end Go.Proofs.YtmdfbdfijnmhkaaGreat
namespace Go.Proofs.YtmdfbdfijnmhkaaGreat
set_option linter.unusedVariables false
set_option linter.unusedSimpArgs false
open Go.RowKit Go.Shelf Hp
attribute [local go_sem] Oper.semAt_some
set_option maxRecDepth 100000
set_option maxHeartbeats 4000000
def Keep2 (a b : Nat) (W W' : World) : Prop := W'.heap[a]? = W.heap[a]? ∧ W'.heap[b]? = W.heap[b]?
theorem Keep2.trans {a b : Nat} {A B C : World} (h : Keep2 a b A B) (k : Keep2 a b B C) : Keep2 a b A C := ⟨k.1.trans h.1, k.2.trans h.2⟩
theorem Keep2.c1 {a b : Nat} {A B : World} {v : Value} (h : Keep2 a b A B) (hc : A.cell? ⟨a, 0, none⟩ = some v) : B.cell? ⟨a, 0, none⟩ = some v := (World.cell?_of_block h.1).trans hc
theorem Keep2.c2 {a b : Nat} {A B : World} {v : Value} (h : Keep2 a b A B) (hc : A.cell? ⟨b, 0, none⟩ = some v) : B.cell? ⟨b, 0, none⟩ = some v := (World.cell?_of_block h.2).trans hc
theorem keep2_b {a b : Nat} {w : World} (ha : a < w.heap.size) (hb : b < w.heap.size) (W : World) (l : Nat) (o o' : Obj) (hl : w.heap.size ≤ l) (h : W.heap[l]? = some o) (_ : o.isCells = false) (_ : o.isWalk = false) : Keep2 a b W (W.putObj l o') := by
  have hg := grownBy_putObj' W l o'
  have hlt : l < W.heap.size := (Array.getElem?_eq_some_iff.1 h).1
  exact ⟨hg.block a (by omega) (by simp; omega), hg.block b (by omega) (by simp; omega)⟩
theorem finTake_succ {m k : Nat} (h : k < m) : (List.finRange m).take (k + 1) = (List.finRange m).take k ++ [⟨k, h⟩] := by
  rw [List.take_succ_eq_append_getElem (by simpa using h)]
  simp
theorem chunk1_in (n l Bs Bn b off m cap : Nat) (hn : 1 ≤ n) (hm : 64 * m ≤ 1000000) (hcap : 64 * m ≤ cap) (hcm : cap ≤ 9223372036854775807) (J Jx : List (Fin m) → World → Prop)
    (hY : ∀ pre x W, J pre W → pre.length < m → YieldAt Fence.wide (n - 1) Tryz.prog l #[.slice (some ⟨b, off + 64 * x.1, none⟩) 64 64] W fun e W' =>
      (e = .returned (.bool true) ∧ J (pre ++ [x]) W' ∧ Keep2 Bs Bn W W') ∨ (e = .returned (.bool false) ∧ Jx (pre ++ [x]) W'))
    (W : World) (hBs : W.cell? ⟨Bs, 0, none⟩ = some (.slice (some ⟨b, off, none⟩) (64 * m) cap)) (hBn : W.cell? ⟨Bn, 0, none⟩ = some (.int .i64 64)) (h0 : J [] W) (hJd : ∀ pre W, J pre W → J pre W.drew) :
    CallsIn Fence.wide n Tryz.prog 146 #[.func (.yield l) #[] #[], .pointer (some ⟨Bs, 0, none⟩), .pointer (some ⟨Bn, 0, none⟩)] W fun e W' => (∃ v, e = .returned v) ∧
      ((∃ ys, ys = List.finRange m ∧ J ys W') ∨ (∃ pre, (∃ k, k ≤ m ∧ pre = (List.finRange m).take k) ∧ Jx pre W')) := by
  refine callsIn_of_wp Tryz.func146 rfl trivial ?_ rfl
  simp only [Tryz.ntmps146, List.size_toArray, List.length_cons, List.length_nil, Nat.reduceAdd, Nat.reduceSub, Array.replicate_succ, Array.replicate_zero, List.push_toArray, List.append_toArray, List.nil_append, List.cons_append]
  gi_wp2
  gi_loopw [4] (fun i wr => ∃ k : Nat, k ≤ m ∧ i = .int .i64 ((64 * k : Nat) : Int) ∧ J ((List.finRange m).take k) wr ∧ Keep2 Bs Bn W wr) (fun i _ => 64 * m - (intOf i).toNat)
  case atStart => exact ⟨0, Nat.zero_le _, rfl, h0, ⟨rfl, rfl⟩⟩
  case round =>
    obtain ⟨k, hk, rfl, hJs, hnx⟩ := hrel
    have c1 : wr.cell? ⟨Bs, 0, none⟩ = some (.slice (some ⟨b, off, none⟩) (64 * m) cap) := hnx.c1 hBs
    have c2 : wr.cell? ⟨Bn, 0, none⟩ = some (.int .i64 64) := hnx.c2 hBn
    by_cases hlt : k < m
    · have d1 : ((64 * k : Nat) : Int) < ((64 * m : Nat) : Int) := by omega
      have d2 : (64 * k : Nat) ≤ 64 * m := by omega
      have d3 : ¬ (cap = 64 * k) := by omega
      have d6 : (0 : Int) ≤ 64 * (k : Int) := by omega
      have d7 : (64 * (k : Int)).toNat = 64 * k := by omega
      have d8 : 64 * (k : Int) ≤ 64 * (m : Int) := by omega
      have d9 : min (64 : Int) (64 * (m : Int) - 64 * k) = 64 := by omega
      have d4 : ((64 * m - 64 * k : Nat) : Int) = 64 * (m : Int) - 64 * k := by omega
      have d5 : min (64 : Int) ((64 * m - 64 * k : Nat) : Int) = 64 := by omega
      obtain ⟨fn, tmps, assign, body, hy, hR⟩ := hY ((List.finRange m).take k) ⟨k, hlt⟩ wr.drew (hJd _ _ hJs) (by simp; omega)
      dsimp only at hy
      gi_wp2
      refine wpIn_wide.2 ?_
      refine wp_region_held_drew (S := (fun w' => w'.cell? ⟨Bs, 0, none⟩ = some (.slice (some ⟨b, off, none⟩) (64 * m) cap) ∧ w'.cell? ⟨Bn, 0, none⟩ = some (.int .i64 64))) (by kernel_rfl) (by exact ⟨c1, c2⟩) (fun hHeld => ?_)
      refine tkH 0 13 ?_ rfl (by kernel_rfl) (fun _ _ _ h => h) (by rfl) (by assumption) ?_ ?_
      rotate_left
      · intro w hSw; (try dsimp only at hSw); go_simp; try with_reducible rfl
      (try simp only [pmL, pnL, sc0, sc1])
      refine tkH 1 14 ?_ rfl (by kernel_rfl) (fun _ _ _ h => h) (by rfl) (by assumption) ?_ ?_
      rotate_left
      · intro w hSw; (try dsimp only at hSw); go_simp; try with_reducible rfl
      (try simp only [pmL, pnL, sc0, sc1])
      refine tkH 2 15 ?_ rfl (by kernel_rfl) (fun _ _ _ h => h) (by rfl) (by assumption) ?_ ?_
      rotate_left
      · intro w hSw; (try dsimp only at hSw); go_simp; try with_reducible rfl
      (try simp only [pmL, pnL, sc0, sc1])
      refine tkH 3 16 ?_ rfl (by kernel_rfl) (fun _ _ _ h => h) (by rfl) (by assumption) ?_ ?_
      rotate_left
      · intro w hSw; (try dsimp only at hSw); go_simp; try with_reducible rfl
      (try simp only [pmL, pnL, sc0, sc1])
      refine tkH 4 17 ?_ rfl (by kernel_rfl) (fun _ _ _ h => h) (by rfl) (by assumption) ?_ ?_
      rotate_left
      · intro w hSw; (try dsimp only at hSw); go_simp; try with_reducible rfl
      (try simp only [pmL, pnL, sc0, sc1])
      refine tkH 5 18 ?_ rfl (by kernel_rfl) (fun _ _ _ h => h) (by rfl) (by assumption) ?_ ?_
      rotate_left
      · intro w hSw; (try dsimp only at hSw); go_simp; try with_reducible rfl
      (try simp only [pmL, pnL, sc0, sc1])
      refine tkH 6 5 ?_ rfl (by kernel_rfl) (fun _ _ _ h => h) (by rfl) (by assumption) ?_ ?_
      rotate_left
      · intro w hSw; (try dsimp only at hSw); go_simp; try with_reducible rfl
      (try simp only [pmL, pnL, sc0, sc1])
      refine wpAnyH_done (by kernel_rfl) ?_ _
      clear hHeld
      have c4 : wr.drew.cell? ⟨Bn, 0, none⟩ = some (.int .i64 64) := c2
      gi_wp2
      refine hR.mono ?_
      rintro e W3 (⟨rfl, hJ3, hk3⟩ | ⟨rfl, hJx3⟩)
      · have c3 : W3.cell? ⟨Bn, 0, none⟩ = some (.int .i64 64) := hk3.c2 c4
        gi_wp2
        go_roundw
        case rel => exact ⟨k + 1, by omega, by go_num, by rw [finTake_succ hlt]; exact hJ3, Keep2.trans (B := wr.drew) hnx hk3⟩
        case measure => simp [intOf]; omega
      · gi_wp2
        refine bodyPost_ret (results_none rfl _ _ _) rfl ?_
        exact ⟨⟨_, rfl⟩, .inr ⟨_, ⟨k + 1, by omega, (finTake_succ hlt).symm⟩, hJx3⟩⟩
    · obtain rfl : k = m := by omega
      gi_wp2
      go_end0
      exact ⟨⟨_, rfl⟩, .inl ⟨_, List.take_of_length_le (by simp), hJs⟩⟩
theorem chunk_in (ao : Option Addr) (n c : Nat) (w : World) : Calls Tryz.prog 113 #[.slice ao n c, .int .i64 64] w fun e w' =>
    ∃ g h, e = .returned (.func (.func 146) #[] #[.pointer (some ⟨g, 0, none⟩), .pointer (some ⟨h, 0, none⟩)]) ∧ St w [] w' [.blk h 3 [.int .i64 64], .blk g 28 [.slice ao n c]] := by
  have hst := St.refl w
  go_enter Tryz.func113, Tryz.ntmps113
  go_wp2_with (first | go_big_skip | go_big_guard | (refine wl_loadE rfl rfl rfl ?_; first | refine ⟨_, Loads.at [] hst2 rfl, ?_⟩) | (refine wl_box hst rfl rfl rfl ?_; intro g _ hst1; clear hst) | (refine wl_box hst1 rfl rfl rfl ?_; intro h _ hst2; clear hst1))
  go_ret
  exact ⟨g, h, rfl, hst2⟩
theorem abides_drew {β : Type} {B : Nat} {J : β → World → Prop} (h : AbidesFrom B J) {s : β} {W : World} (hs : J s W) : J s W.drew :=
  h s W W.drew none hs ⟨rfl, rfl, rfl, Nat.le_refl _, fun _ _ _ => rfl⟩ (fun _ e => by cases e)
theorem chunk_stops (n Bs Bn b off m cap : Nat) (w : World) (hn : 1 ≤ n) (hm : 64 * m ≤ 1000000) (hcap : 64 * m ≤ cap) (hcm : cap ≤ 9223372036854775807) (hb : Bs < w.heap.size) (hb2 : Bn < w.heap.size)
    (hBs : w.cell? ⟨Bs, 0, none⟩ = some (.slice (some ⟨b, off, none⟩) (64 * m) cap)) (hBn : w.cell? ⟨Bn, 0, none⟩ = some (.int .i64 64)) :
    SeqStopsK Fence.wide n Tryz.prog 146 #[.pointer (some ⟨Bs, 0, none⟩), .pointer (some ⟨Bn, 0, none⟩)] (fun x : Fin m => #[Value.slice (some ⟨b, off + 64 * x.1, none⟩) 64 64]) (Keep2 Bs Bn) (fun ys => ys = List.finRange m) (fun _ => True) m w := fun l J Jx W hW hJ _ hY h0 => by
  have h1 := (hW.cell (p := ⟨Bs, 0, none⟩) hb).trans hBs
  have h2 := (hW.cell (p := ⟨Bn, 0, none⟩) hb2).trans hBn
  refine (chunk1_in n l Bs Bn b off m cap hn hm hcap hcm J Jx hY W h1 h2 h0 (fun _ _ h => abides_drew hJ h)).mono ?_
  rintro e W' ⟨he, ⟨ys, rfl, hj⟩ | ⟨pre, ⟨k, hk, rfl⟩, hj⟩⟩
  · exact ⟨he, .inl ⟨_, rfl, hj⟩⟩
  · exact ⟨he, .inr ⟨_, trivial, hj⟩⟩
end Go.Proofs.YtmdfbdfijnmhkaaGreat
namespace Go.Proofs.YtmdfbdfijnmhkaaGreat
set_option linter.unusedVariables false
set_option linter.unusedSimpArgs false
open Go.RowKit Go.Shelf
namespace Hp
variable {P : Program}
def rgAct (a : Act) (p t : Nat) (v : Value) : Act := { tmps := (a.tmps.setIfInBounds p v).setIfInBounds t v, defers := [] }
theorem wp_rangeF {α : Type} (p t : Nat) {g : Operand} {assign body : Code} {Q : Exit → Act → World → Prop} {a : Act} {w : World} {gf : Nat} {lb : Array Value} (hg : a.eval g = .func (.func gf) #[] lb) (eg : Enters P gf)
    {enc : α → Value} {Kp : World → World → Prop} {S : List α → Prop} {N : Nat} (hseq : SeqStopsK Fence.wide 4 P gf lb (fun x => #[enc x]) Kp S (fun _ => True) N w)
    (hKt : ∀ {A B C : World}, Kp A B → Kp B C → Kp A C) (hKb : ∀ (W : World) (l : Nat) (o o' : Obj), w.heap.size ≤ l → W.heap[l]? = some o → o.isCells = false → o.isWalk = false → Kp W (W.putObj l o'))
    (I : List α → World → Prop) (hI : OwnFrom w.heap.size I) (h0 : I [] w)
    (hassign : ∀ (l : Nat) (x : α) (W : World) (K : Act → World → Prop), K (rgAct a p t (enc x)) W → assign.wpIn (Fence.wide.inRound l) 3 P (Exit.then K (fun _ _ _ => False)) { tmps := a.tmps.setIfInBounds p (enc x), defers := [] } W)
    (hbody : ∀ (l : Nat) (pre : List α) (x : α) (W : World), I pre W → pre.length < N → body.wpIn (Fence.wide.inRound l) 3 P (ownPostK Kp I (fun _ _ _ => False) (pre ++ [x]) W) (rgAct a p t (enc x)) W)
    (hdone : ∀ (D : Nat) (xs : List α) (W : World), w.heap.size ≤ D → S xs → I xs W → W.heap[D]? = some (.deferred (some [])) → Q .normal { a with defers := { target := .collected D, args := #[] } :: a.defers } W) :
    (Code.rangeFunc g #[p] assign body).wp P Q a w := by
  refine (wpIn_wide (n := 5)).1 ?_
  exact wpIn_rangeFunc_ownF (F := Fence.wide) (n := 5) (encs := fun x => #[enc x]) rfl (by decide) hg trivial eg hseq hKt hKb (Below.refl _ _) (fun _ => rfl) I (fun _ _ _ => False) hI (fun _ _ _ _ _ hs _ _ => hs) h0 (fun x => rgAct a p t (enc x))
    (fun l x W K hK => by
      have h := hassign l x W K hK
      have e : Array.foldl (fun (t : Array Value) (q : Tmp × Value) => match q with | (p, v) => t.setIfInBounds p v) a.tmps (#[p].zip #[enc x]) = a.tmps.setIfInBounds p (enc x) := by simp
      rw [← e] at h
      exact h) (fun l pre x W hI hl => hbody l pre x W hI hl) (fun D xs W hD hS hI hK => hdone D xs W hD hS hI hK) (fun _ _ _ _ _ _ h _ => h.elim)
theorem eqInSliceNil (w : World) (d : Nat) (t e : TypeId) (a : Option Addr) (n c : Nat) (h : P.underlying t = some (.slice e)) : (Op.equalIn (d + 1) t (.slice a n c) (.slice none 0 0)).run P w = .ok a.isNone w := by
  cases a <;> simp [Op.equalIn, run_underlying h]
theorem eqSliceNil (w : World) (t e : TypeId) (a : Option Addr) (n c : Nat) (h : P.underlying t = some (.slice e)) : (binOp .eql t (.slice a n c) (.slice none 0 0)).run P w = .ok (.bool a.isNone) w := by
  simp only [binOp]
  simp [Op.equal, Op.maxDepth, eqInSliceNil w 9999 t e a n c h]
theorem St.selfM {w0 w : World} {M : List Nat} {L : List HA} (h : St w0 M w L) : St w (L.filterMap HA.foot) w L :=
  ⟨rfl, rfl, rfl, Nat.le_refl _, fun _ _ _ => rfl, h.all, fun x hx k hk => .inr (List.mem_filterMap.2 ⟨x, hx, hk⟩), h.apart⟩
theorem foot_cells {w : World} {x : HA} (h : x.holds w) {k : Nat} (hk : x.foot = some k) : ∃ c t m, w.heap[k]? = some (.cells c t m) := by
  cases x with
  | blk g T cs =>
    cases hk
    exact ⟨_, _, _, h⟩
  | row v T sz n xs =>
    obtain ⟨_, h2⟩ := h
    rcases h2 with ⟨rfl, _⟩ | ⟨g, cap, cur, rfl, _, hc, _⟩
    · cases hk
    · cases hk
      exact ⟨_, _, _, hc⟩
  | rowP p v T sz n xs =>
    obtain ⟨⟨_, h2⟩, _⟩ := h
    rcases h2 with ⟨rfl, _⟩ | ⟨g, cap, cur, rfl, _, hc, _⟩
    · cases hk
    · cases hk
      exact ⟨_, _, _, hc⟩
  | frz m g T cs =>
    cases hk
    exact ⟨_, _, _, h⟩
theorem St.keeps {w0 w w' : World} {M : List Nat} {L L' : List HA} (h : St w0 M w L) (h' : St w (L.filterMap HA.foot) w' L') : KeepsOthers w w' := by
  refine ⟨h'.size, fun k o hk ho => ?_⟩
  have hlt : k < w.heap.size := (Array.getElem?_eq_some_iff.1 hk).1
  rw [h'.old k hlt (fun hm => ?_)]
  · exact hk
  · obtain ⟨x, hx, hf⟩ := List.mem_filterMap.1 hm
    obtain ⟨c, t, m, hc⟩ := foot_cells (h.all x hx) hf
    rw [hk] at hc
    cases hc
    cases ho
theorem St.joinAll {w0 w w' : World} {M : List Nat} {L L' : List HA} (h : St w0 M w L) (h' : St w (L.filterMap HA.foot) w' L') : St w0 M w' L' := by
  have := St.callG L [] (by rw [List.append_nil]; exact h) h' (fun k hk => List.mem_filterMap.1 hk)
  rwa [List.append_nil] at this
theorem St.putObj {w0 w : World} {M : List Nat} {L : List HA} {D : Nat} {o o' : Obj} (hD : w0.heap.size ≤ D) (h : St w0 M w L) (ho : w.heap[D]? = some o) (hc : o.isCells = false) : St w0 M (w.putObj D o') L :=
  St.ownFrom hD h (grownBy_putObj' w D o') (fun r e => by cases e; exact ⟨Nat.le_refl _, o, ho, hc⟩)
end Hp
end Go.Proofs.YtmdfbdfijnmhkaaGreat
namespace Go.Proofs.YtmdfbdfijnmhkaaGreat
set_option linter.unusedVariables false
set_option linter.unusedSimpArgs false
open Go.RowKit Go.Shelf Hp
attribute [local irreducible] Go.Calls
set_option maxRecDepth 100000
set_option maxHeartbeats 4000000
theorem Hp.St.nilP {w0 w : World} {M : List Nat} {L : List HA} (p : Value → Bool) (T : TypeId) (sz : Nat) (h : St w0 M w L) : St w0 M w (.rowP p (.slice none 0 0) T sz 0 [] :: L) :=
  St.toP (L1 := []) (St.nilRow T sz h) (fun g cs hg _ => by cases hg)
theorem eqNil (ao : Option Addr) (n c : Nat) (w : World) : (binOp .eql 28 (.slice ao n c) (.slice none 0 0)).run Tryz.prog w = .ok (.bool ao.isNone) w :=
  eqSliceNil w _ _ ao n c (show Tryz.prog.underlying 28 = some (.slice 5) by kernel_rfl)
attribute [local go_sem ↓] eqNil
theorem clone_any (ao : Option Addr) (n c : Nat) (bs : List UInt8) (w : World) (hA : Rd w (.slice ao n c) 1 n (bytesV bs)) (hn : bs.length = n) (hb : n ≤ 100000) :
    Calls Tryz.prog 112 #[.slice ao n c] w fun e w' => ∃ v, e = .returned v ∧ St w [] w' [.rowP isB v 5 1 n (bytesV bs)] := by
  have hst := St.refl w
  have Hn := hid hn
  rcases hA.casesF with ⟨he, h0, hb0⟩ | ⟨A, c', he, _⟩
  · cases he
    have e0 : bs = [] := by simpa [bytesV] using hb0
    subst e0
    clear hA hn hb Hn h0 hb0
    go_enter Tryz.func112, Tryz.ntmps112
    go_wp2_with (first | go_big_skip | go_big_guard | fail)
    go_ret
    exact ⟨_, rfl, St.nilP isB _ 1 hst⟩
  · cases he
    clear hn
    go_enter Tryz.func112, Tryz.ntmps112
    go_wp2_with (first | go_big_skip | go_big_guard | (apply wl_bsX [] [] hst; rfl; rfl; exact rfl; exact rfl; infer_instance; infer_instance; rfl; rfl; rfl; intro g3 w3 hst3; clear hst; have hst4 := St.toRowP isB (n := 0) (cap := 0) (sz := 1) hst3 rfl (by decide) (by decide) rfl; clear hst3) | (apply wl_appP [] hst4; rfl; rfl; exact rfl; exact rfl; infer_instance; infer_instance; infer_instance; infer_instance; exact Rd.old hst4 hA; exact ones_bytesV bs; rfl; exact isB_bytes bs; (unfold maxLen; omega); intro v9 w9 hst9 _; clear hst4))
    go_ret
    rw [Nat.zero_add] at hst9
    exact ⟨v9, rfl, hst9⟩
end Go.Proofs.YtmdfbdfijnmhkaaGreat
namespace Go.Proofs.YtmdfbdfijnmhkaaGreat
set_option linter.unusedVariables false
set_option linter.unusedSimpArgs false
open Go.RowKit Go.Shelf Hp
attribute [local irreducible] Go.Calls
set_option maxRecDepth 100000
set_option maxHeartbeats 4000000
def lenS : Value → Nat
  | .slice _ n _ => n
  | _ => 0
theorem Hp.St.rowPSlice {w0 w : World} {M : List Nat} (L1 : List HA) {L2 : List HA} {p : Value → Bool} {v : Value} {T : TypeId} {sz n : Nat} {xs : List Value} (h : St w0 M w (L1 ++ .rowP p v T sz n xs :: L2)) : ∃ ao c, v = .slice ao n c := St.rowSliceAt L1 h.unP
theorem noughts_ne {n j : Nat} (h : j < noughts n) : (n + 1 + j) % 64 ≠ 56 := by
  unfold noughts at h; omega
theorem noughts_eq (n : Nat) : (n + 1 + noughts n) % 64 = 56 := noughts_mod n
def padB (bs : List UInt8) (j : Nat) : List UInt8 := bs ++ 128 :: List.replicate j 0
theorem padB_succ (bs : List UInt8) (j : Nat) : bytesV (padB bs j) ++ [.int .u8 0] = bytesV (padB bs (j + 1)) := by
  simp [padB, bytesV, List.replicate_succ']
theorem filled_pad (bs : List UInt8) {n : Nat} (hn : bs.length = n) : padB bs (noughts n) ++ (numB (8 * n) 8).take 8 = filled bs := by
  subst hn
  rw [List.take_of_length_le (by rw [length_numB]; exact Nat.le_refl _)]
  simp [padB, filled]
theorem rowP_some {w0 w : World} {M : List Nat} {L : List HA} {p : Value → Bool} {v : Value} {T : TypeId} {sz n : Nat} {xs : List Value} (h : St w0 M w L) (hm : HA.rowP p v T sz n xs ∈ L) (hn : 0 < n) : ∃ g cap, v = .slice (some ⟨g, 0, none⟩) n cap ∧ n ≤ cap ∧ cap ≤ 9223372036854775807 := by
  obtain ⟨⟨_, h2⟩, _⟩ := h.ownsP hm
  rcases h2 with ⟨rfl, rfl⟩ | ⟨g, cap, cur, rfl, _, hc, hnc, hcm, _⟩
  · omega
  · exact ⟨g, cap, rfl, hnc, hcm⟩
def rowsB (T : TypeId) : List Value → List (List UInt8) → List HA
  | v :: vs, p :: ps => .rowP isB v T 1 p.length (bytesV p) :: rowsB T vs ps
  | _, _ => []
theorem rowsB_snoc (T : TypeId) : ∀ (vs : List Value) (ps : List (List UInt8)) (v : Value) (p : List UInt8), vs.length = ps.length → rowsB T (vs ++ [v]) (ps ++ [p]) = rowsB T vs ps ++ [.rowP isB v T 1 p.length (bytesV p)]
  | [], [], _, _, _ => rfl
  | u :: vs, q :: ps, v, p, h => by
    have := rowsB_snoc T vs ps v p (by simpa using h)
    simp only [List.cons_append, rowsB, this]
theorem perm_row {α : Type} (x a b : α) (R B : List α) : (x :: a :: b :: (R ++ B)).Perm (a :: b :: ((R ++ [x]) ++ B)) := by
  have h := (List.perm_middle (a := x) (l₁ := a :: b :: R) (l₂ := B)).symm
  simpa using h
theorem Rd_chunk {w : World} {b c n x : Nat} {F : List UInt8} (h : Rd w (.slice (some ⟨b, 0, none⟩) n c) 1 n (bytesV F)) (hl : F.length = n) (hx : 64 * x + 64 ≤ n) : Rd w (.slice (some ⟨b, 0 + 64 * x, none⟩) 64 64) 1 64 (bytesV (cut64 F x)) := by
  obtain ⟨b', off', e, hr⟩ := h.at (k := 0) (by omega)
  cases e
  refine Rd.mk (Nat.le_refl _) (by unfold maxLen; omega) (by simp [cut64]; omega) ?_
  intro j v hj
  have hj2 : (bytesV F)[64 * x + j]? = some v := by
    simp only [cut64, bytesV, List.map_take, List.map_drop] at hj ⊢
    rw [List.getElem?_take] at hj
    split at hj
    · rwa [List.getElem?_drop] at hj
    · cases hj
  have := hr _ _ hj2
  rwa [← Nat.add_assoc] at this
theorem length_cut64 {F : List UInt8} {x m : Nat} (hl : F.length = 64 * m) (hx : x < m) : (cut64 F x).length = 64 := by
  simp [cut64]; omega
def fillI (w : World) (g6 ga gs gn cap m : Nat) (F : List UInt8) (pre : List (Fin m)) (W : World) : Prop := ∃ (ov : Value) (vs : List Value), vs.length = pre.length ∧
  St w [] W (.blk g6 119 [ov] :: .row ov 28 1 pre.length vs :: (rowsB 5 vs (pre.map fun x => cut64 F x.1) ++ [.blk gn 3 [.int .i64 64], .blk gs 28 [.slice (some ⟨ga, 0, none⟩) (64 * m) cap], .rowP isB (.slice (some ⟨ga, 0, none⟩) (64 * m) cap) 5 1 (64 * m) (bytesV F)]))
theorem loadedLL (A : Addr) : loadVar 119 A = loadVarH 119 A := rfl
attribute [local go_sem] Oper.semAt_some
attribute [local go_sem ↓] loadedLL
theorem fill_any (ao : Option Addr) (n c : Nat) (bs : List UInt8) (w : World) (hA : Rd w (.slice ao n c) 1 n (bytesV bs)) (hn : bs.length = n) (hb : n ≤ 100000) :
    Calls Tryz.prog 60 #[.slice ao n c] w fun e w' => ∃ out vs, e = .returned out ∧ vs.length = (pieces bs).length ∧ St w [] w' (.row out 28 1 vs.length vs :: rowsB 5 vs (pieces bs)) := by
  have hst := St.refl w
  have Hn := hid hn
  clear hn
  refine (callsIn_wide (n := 5)).1 ?_
  refine callsIn_of_wp_marks Tryz.func60 rfl trivial ?_ rfl
  simp only [Tryz.ntmps60, List.size_toArray, List.length_cons, List.length_nil, Nat.reduceAdd, Nat.reduceSub, Array.replicate_succ, Array.replicate_zero, List.push_toArray, List.append_toArray, List.nil_append, List.cons_append]
  refine wpIn_wide.2 ?_
  go_wp2_with (first | go_big_skip | go_big_guard | (go_at_call 112; refine (clone_any ao n c bs _ (Rd.old hst hA) Hn.out hb).mono ?_; rintro _ _ ⟨v0, rfl, h4⟩; have hst1 := St.call hst h4; clear h4 hst) | (apply wl_bsX [.int _ _] [.int _ _] hst1; rfl; rfl; exact rfl; exact rfl; infer_instance; infer_instance; rfl; rfl; rfl; intro gb _ hst2; clear hst1) | (apply wl_appP [_] hst2; rfl; rfl; exact rfl; exact rfl; infer_instance; infer_instance; infer_instance; infer_instance; exact (Rd.blk0 hst2 rfl (by decide)); exact rfl; rfl; rfl; (unfold maxLen; omega); intro v1 w9 hst3 _; clear hst2))
  have hst4 : St w [] w9 [.rowP isB v1 5 1 (n + 1 + 0) (bytesV (padB bs 0))] := by
    have h := St.sub hst3 (.cons _ (List.Sublist.refl _))
    have e : bytesV bs ++ [.int .u8 128] = bytesV (padB bs 0) := by simp [padB, bytesV]
    rw [← e]
    exact h
  clear hst3
  go_loopw [3] (fun u wr => ∃ j : Nat, j ≤ noughts n ∧ St w [] wr [.rowP isB u 5 1 (n + 1 + j) (bytesV (padB bs j))]) (fun u _ => n + 1 + noughts n - lenS u)
  case atStart => exact ⟨0, by omega, hst4⟩
  case round =>
    clear hst4
    obtain ⟨j, hj, hst⟩ := hrel
    obtain ⟨au, cu, hu⟩ := St.rowPSlice [] hst
    obtain ⟨L, hL⟩ : ∃ L, L = n + 1 + j := ⟨_, rfl⟩
    have hnl : noughts n < 64 := by unfold noughts; omega
    have hlen : (Builtin.len_ #[28] 3 #[u3]).run Tryz.prog wr = .ok (.int .i64 (L : Int)) wr := by subst hu; rw [hL]; rfl
    have hL1 : L ≤ 200000 := by omega
    have Hu := hid hu
    obtain ⟨r, hr⟩ : ∃ r, r = L % 64 := ⟨_, rfl⟩
    have e1 : Int.tmod (L : Int) 64 = (r : Int) := by rw [Int.tmod_eq_emod_of_nonneg (by omega)]; omega
    have e2 : (L : Int) % 64 = (r : Int) := by omega
    clear hu
    by_cases hjn : j < noughts n
    · have hne := noughts_ne hjn
      have d1 : ((r : Int) != 56) = true := by simp; omega
      rw [← hL] at hst
      have HL := hid hL
      clear hL hr hne
      go_wp2_with (first | go_big_skip | go_big_guard | (apply wl_bsX [.int _ _] [.int _ _] hst; rfl; rfl; exact rfl; exact rfl; infer_instance; infer_instance; rfl; rfl; rfl; intro gb _ hst2; clear hst) | (apply wl_appP [_] hst2; rfl; rfl; exact rfl; exact rfl; infer_instance; infer_instance; infer_instance; infer_instance; exact (Rd.blk0 hst2 rfl (by decide)); exact rfl; rfl; rfl; (unfold maxLen; omega); intro v1 w9 hst3 _; clear hst2))
      have hst5 : St w [] w9 [.rowP isB v1 5 1 (n + 1 + (j + 1)) (bytesV (padB bs (j + 1)))] := by
        have h := St.sub hst3 (.cons _ (List.Sublist.refl _))
        rw [← padB_succ, show n + 1 + (j + 1) = L + 1 by rw [HL.out]; omega]
        exact h
      clear hst3
      obtain ⟨a9, c9, hu9⟩ := St.rowPSlice [] hst5
      have Hu9 := hid hu9
      clear hu9
      go_roundw
      case rel => exact ⟨j + 1, by omega, hst5⟩
      case measure =>
        rw [Hu9.out, Hu.out]
        show n + 1 + noughts n - (n + 1 + (j + 1)) < n + 1 + noughts n - (n + 1 + j)
        omega
    · have ej : j = noughts n := by omega
      subst ej
      have hq := noughts_eq n
      have d1 : ((r : Int) != 56) = false := by simp; omega
      have HL := hid hL
      rw [← hL] at hst
      have h8 : (n : Int) * 8 ≤ 800000 := by omega
      clear hL hr hq hj hjn
      go_wp2_with (first | go_big_skip | go_big_guard | fail)
      obtain ⟨M, hM⟩ : ∃ M : Int, M = (n : Int) * 8 := ⟨_, rfl⟩
      rw [← hM]
      have HM := hid hM
      clear hM h8 e1 e2 d1 hlen
      have hst6 : St w [] wr [.rowP isB u3 5 1 (L + 0) (bytesV (padB bs (noughts n) ++ (numB (8 * n) 8).take 0))] := by simpa using hst
      clear hst
      go_loopw [3, 23] (fun u q wr => ∃ i : Nat, i ≤ 8 ∧ q = .int .i64 i ∧ St w [] wr [.rowP isB u 5 1 (L + i) (bytesV (padB bs (noughts n) ++ (numB (8 * n) 8).take i))]) (fun _ q _ => 8 - (intOf q).toNat)
      case atStart => exact ⟨0, by omega, rfl, hst6⟩
      case round =>
        clear hst6
        obtain ⟨i, hi, rfl, hst⟩ := hrel
        by_cases hi8 : i < 8
        · obtain ⟨Q, hQ⟩ : ∃ Q : Int, Q = M / 2 ^ (56 - 8 * (i : Int)).toNat := ⟨_, rfl⟩
          have f1 : ∀ T, binOp .shr T (.int .u64 M) (.int .i64 (56 - 8 * (i : Int))) = pure (.int .u64 Q) := by
            intro T
            show Op.shift .shr .u64 M .i64 (56 - 8 * (i : Int)) = _
            rw [shift_shr .u64 .i64 M _ (by omega) (by show _ ≤ (64 : Int); omega), hQ]
          have f3 : Q % 256 = ((byteAt (8 * n) (7 - i)).toNat : Int) := by
            rw [hQ, byteAt_int, HM.out, show (56 - 8 * (i : Int)).toNat = 8 * (7 - i) by omega, Int.mul_comm]
          have f2 : IntKind.u8.wrap Q = ((byteAt (8 * n) (7 - i)).toNat : Int) := f3
          obtain ⟨Y, hY⟩ : ∃ Y, Y = byteAt (8 * n) (7 - i) := ⟨_, rfl⟩
          rw [← hY] at f2 f3
          have HY := hid hY
          clear hY hQ
          go_wp2_with (first | go_big_skip | go_big_guard | (apply wl_bsX [.int _ _] [.int _ _] hst; rfl; rfl; exact rfl; exact rfl; infer_instance; infer_instance; rfl; rfl; rfl; intro gb _ hst2; clear hst) | (apply wl_appP (ys := bytesV [Y]) [_] hst2; rfl; rfl; exact rfl; exact rfl; infer_instance; infer_instance; infer_instance; infer_instance; exact (Rd.blk0 hst2 rfl (by decide)); exact rfl; rfl; exact isB_bytes _; (unfold maxLen; omega); intro v1 w9 hst3 _; clear hst2))
          have hst5 : St w [] w9 [.rowP isB v1 5 1 (L + (i + 1)) (bytesV (padB bs (noughts n) ++ (numB (8 * n) 8).take (i + 1)))] := by
            have h := St.sub hst3 (.cons _ (List.Sublist.refl _))
            rw [numB_take _ _ _ hi8, ← List.append_assoc, bytesV_append _ [_], show 8 - 1 - i = 7 - i by omega, ← HY.out]
            exact h
          clear hst3
          go_roundw
          case rel => exact ⟨i + 1, by omega, by go_num, hst5⟩
          case measure => simp [intOf]; omega
        · have ei : i = 8 := by omega
          subst ei
          obtain ⟨F, hF⟩ : ∃ F, F = filled bs := ⟨_, rfl⟩
          obtain ⟨m, hm⟩ : ∃ m, m = F.length / 64 := ⟨_, rfl⟩
          have hFl : F.length = 64 * m := by
            have h1 := filled_mod bs
            rw [← hF] at h1
            omega
          have hLm : L + 8 = 64 * m := by rw [← hFl, hF, length_filled, Hn.out, HL.out]; omega
          rw [filled_pad bs Hn.out, ← hF, hLm] at hst
          have HF := hid hF
          have HFl := hid hFl
          have Hm := hid hm
          have hm0 : 0 < m := by omega
          have hm1 : 64 * m ≤ 1000000 := by omega
          obtain ⟨ga, cap, rfl, hcap, hcm⟩ := rowP_some hst (.head _) (by omega)
          clear hF hm hFl hLm hi hi8
          go_wp2_with (first | go_big_skip | go_big_guard | (refine wl_alloc hst rfl rfl ?_; intro g6 _ hst2; clear hst) | (go_at_call 113; refine (chunk_in _ _ _ _).mono ?_; rintro _ wq ⟨gs, gn, rfl, h4⟩; have hst3 := St.call hst2 h4; clear h4 hst2))
          have hst4 : St w [] wq (.blk g6 119 [.slice none 0 0] :: .row (.slice none 0 0) 28 1 0 [] :: ([] ++ [.blk gn 3 [.int .i64 64], .blk gs 28 [.slice (some ⟨ga, 0, none⟩) (64 * m) cap], .rowP isB (.slice (some ⟨ga, 0, none⟩) (64 * m) cap) 5 1 (64 * m) (bytesV F)])) :=
            St.front (L1 := [_]) (St.nilRow 28 1 (St.front (L1 := [_, _]) hst3))
          have hgs := hst3.lt (x := .blk gs 28 [.slice (some ⟨ga, 0, none⟩) (64 * m) cap]) (by simp) rfl
          have hgn := hst3.lt (x := .blk gn 3 [.int .i64 64]) (by simp) rfl
          have cgs : wq.cell? ⟨gs, 0, none⟩ = some (.slice (some ⟨ga, 0, none⟩) (64 * m) cap) := hst3.cell (T := 28) (cs := [.slice (some ⟨ga, 0, none⟩) (64 * m) cap]) (by simp) rfl
          have cgn : wq.cell? ⟨gn, 0, none⟩ = some (.int .i64 64) := hst3.cell (T := 3) (cs := [.int .i64 64]) (by simp) rfl
          refine wp_rangeF 38 7 (gf := 146) rfl (enters_of Tryz.func146 (by kernel_rfl) rfl) (enc := fun x : Fin m => .slice (some ⟨ga, 0 + 64 * x.1, none⟩) 64 64)
            ((chunk_stops 4 gs gn ga 0 m cap wq (by decide) hm1 hcap hcm hgs hgn cgs cgn)) (fun h k => h.trans k) (keep2_b hgs hgn) (fillI w g6 ga gs gn cap m F) (fun s A B row hs hg hr => ?own) ⟨_, [], rfl, hst4⟩ ?assign ?body ?done
          case own =>
            obtain ⟨ov, vs, h1, h2⟩ := hs
            exact ⟨ov, vs, h1, St.ownFrom hst4.size h2 hg hr⟩
          case assign =>
            intro l x W K hK
            simp only [rgAct, List.setIfInBounds_toArray, List.set_cons_zero, List.set_cons_succ] at hK ⊢
            gi_wp2
            exact hK
          case body =>
            rintro l pre x W ⟨ov, vs, hvl, hs0⟩ hlen
            have hs := hs0.selfM
            have hx := x.2
            have hcl := length_cut64 HFl.out hx
            simp only [rgAct, List.setIfInBounds_toArray, List.set_cons_zero, List.set_cons_succ]
            gi_wp2
            have hD := hs.drew
            clear hs
            refine region_last_inRound (S := (fun w' => (loadVarH 119 ⟨g6, 0, none⟩).run Tryz.prog w' = .ok (ov) w')) (by kernel_rfl) (by kernel_rfl) (fun ⟨_, _, h⟩ => h) rfl (by kernel_rfl) (by exact ldS [] hD rfl) (fun hHeld => ?_)
            simp only [List.pop_toArray, List.dropLast, List.size_toArray, List.length_cons, List.length_nil]
            refine tkH 0 39 ?_ rfl (by kernel_rfl) (fun _ _ _ h => h) (by rfl) (by assumption) ?_ ?_
            rotate_left
            · intro w hSw; (try dsimp only at hSw); go_simp; try with_reducible rfl
            (try simp only [pmL, pnL, sc0, sc1])
            refine tkH 1 40 ?_ rfl (by kernel_rfl) (fun _ _ _ h => h) (by rfl) (by assumption) ?_ ?_
            rotate_left
            · intro w hSw; (try dsimp only at hSw); go_simp; try with_reducible rfl
            (try simp only [pmL, pnL, sc0, sc1])
            refine wpAnyH_ready (rs := [2]) (by kernel_rfl) (by simp) ?_
            refine (AllReadyH.cons (o := ⟨some 41, _, _, _, _, _⟩) rfl (fun K hK => ?_) AllReadyH.nil)
            have hrd := Rd_chunk (x := x.1) (Rd.rowP hD (p := isB) (v := .slice (some ⟨ga, 0, none⟩) (64 * m) cap) (T := 5) (sz := 1) (n := 64 * m) (xs := bytesV F) (by simp)) HFl.out (by omega)
            rw [Nat.zero_add] at hrd
            rw [if_pos (by rfl)]
            apply ow_appP [] (St.nilP isB 5 1 hD)
            rfl
            rfl
            exact rfl
            infer_instance
            infer_instance
            infer_instance
            infer_instance
            exact hrd
            exact ones_bytesV _
            rfl
            exact isB_bytes _
            · unfold maxLen; omega
            intro v2 w2 hE _
            rw [Nat.zero_add] at hE
            obtain ⟨ax, cx, rfl⟩ := St.rowPSlice [] hE
            refine hK.out _ _ ?_ (fun hHeld => ?_)
            · exact ldS [_] hE rfl
            clear hK K
            (try simp only [pmL, pnL, sc0, sc1])
            refine wpAnyH_ready (rs := [3]) (by kernel_rfl) (by simp) ?_
            refine (AllReadyH.cons (o := ⟨some 42, _, _, _, _, _⟩) rfl (fun K hK => ?_) AllReadyH.nil)
            rw [if_pos (by rfl)]
            refine ow_of_wl (ops := #[]) (by rfl) ?_
            apply wl_bsX [.slice _ _ _] [.slice _ _ _] hE
            rfl
            rfl
            exact rfl
            exact rfl
            infer_instance
            infer_instance
            rfl
            rfl
            rfl
            intro g8 w3 hF
            refine q0_nil ?_
            refine hK.out _ _ ?_ (fun hHeld => ?_)
            · exact ldS [_, _] hF rfl
            clear hK K
            (try simp only [pmL, pnL, sc0, sc1])
            refine wpAnyH_ready (rs := [4]) (by kernel_rfl) (by simp) ?_
            refine (AllReadyH.cons (o := ⟨some 43, _, _, _, _, _⟩) rfl (fun K hK => ?_) AllReadyH.nil)
            rw [if_pos (by rfl)]
            refine ow_of_wl (ops := #[]) (by rfl) ?_
            apply wl_appX [_, _, _] hF
            rfl
            rfl
            exact rfl
            exact rfl
            infer_instance
            infer_instance
            infer_instance
            exact (Rd.blk0 hF rfl (by decide))
            exact rfl
            · unfold maxLen; omega
            intro v4 w4 hG _
            refine q0_nil ?_
            refine hK.out _ _ ?_ (fun hHeld => ?_)
            · exact ldS [_, _] hG rfl
            clear hK K
            (try simp only [pmL, pnL, sc0, sc1])
            refine wpAnyH_done (by kernel_rfl) ?_ _
            clear hHeld
            refine QL_intro ?_
            obtain ⟨a4, c4, rfl⟩ := St.rowSliceAt [_, _, _] hG
            refine wl_store [_, _] hG rfl rfl rfl (v := .slice _ _ _) rfl rfl rfl ?_ ?_
            · exact Nat.le_refl _
            intro w5 hH
            have hN : St W _ w5 (.blk g8 28 [.slice ax 64 cx] :: .rowP isB (.slice ax 64 cx) 5 1 64 ([] ++ bytesV (cut64 F x.1)) :: .blk g6 119 [.slice a4 (pre.length + 1) c4] :: .row (.slice a4 (pre.length + 1) c4) 28 1 (pre.length + 1) (vs ++ [.slice ax 64 cx]) :: (rowsB 5 vs (pre.map fun x => cut64 F x.1) ++ [.blk gn 3 [.int .i64 64], .blk gs 28 [.slice (some ⟨ga, 0, none⟩) (64 * m) cap], .rowP isB (.slice (some ⟨ga, 0, none⟩) (64 * m) cap) 5 1 (64 * m) (bytesV F)])) := hH
            have hJ := St.perm (St.sub (St.joinAll hs0 hN) (.cons _ (List.Sublist.refl _))) (perm_row _ _ _ _ _)
            refine ⟨St.keeps hs0 hN, ⟨(hN.all (.blk gs 28 [.slice (some ⟨ga, 0, none⟩) (64 * m) cap]) (by simp)).trans (hs0.all (.blk gs 28 [.slice (some ⟨ga, 0, none⟩) (64 * m) cap]) (by simp)).symm, (hN.all (.blk gn 3 [.int .i64 64]) (by simp)).trans (hs0.all (.blk gn 3 [.int .i64 64]) (by simp)).symm⟩, ?_⟩
            refine ⟨.slice a4 (pre.length + 1) c4, vs ++ [.slice ax 64 cx], by simp [hvl], ?_⟩
            have e : rowsB 5 (vs ++ [.slice ax 64 cx]) ((pre ++ [x]).map fun x => cut64 F x.1) = rowsB 5 vs (pre.map fun x => cut64 F x.1) ++ [.rowP isB (.slice ax 64 cx) 5 1 64 ([] ++ bytesV (cut64 F x.1))] := by
              rw [List.map_append, List.map_singleton, rowsB_snoc _ _ _ _ _ (by rw [List.length_map, hvl]), hcl]
              rfl
            rw [e, List.length_append, List.length_singleton]
            exact hJ
          case done =>
            rintro D xs W hD rfl ⟨ov, vs, hvl, hs⟩ hK
            go_wp2_with (first | go_big_skip | go_big_guard | (refine wl_loadE rfl rfl rfl ?_; first | refine ⟨_, Loads.at [] hs rfl, ?_⟩))
            obtain ⟨vf, hvf⟩ : ∃ vf, vf = (List.finRange m).map fun x : Fin m => cut64 F x.1 := ⟨_, rfl⟩
            have hp : vf = pieces bs := by
              rw [hvf, pieces, ← HF.out, ← Hm.out]
              apply List.ext_getElem (by simp)
              intro i h1 h2
              simp
            refine ⟨by simp, .inl ⟨_, _, rfl, run_takeDeferred hK, ?_⟩⟩
            have hs2 : St w [] (W.putObj D (.deferred none)) _ := St.putObj (Nat.le_trans hst4.size hD) hs hK rfl
            refine ⟨_, results_tmp rfl _ _ _, ov, vs, rfl, ?_, ?_⟩
            · rw [hvl, ← hp, hvf]; simp
            · rw [← hp, hvf, hvl]
              refine St.sub hs2 (.cons _ (.cons_cons _ ?_))
              exact List.sublist_append_left _ _
end Go.Proofs.YtmdfbdfijnmhkaaGreat
