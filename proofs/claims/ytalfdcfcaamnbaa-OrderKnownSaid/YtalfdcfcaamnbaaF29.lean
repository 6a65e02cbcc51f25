import Derived.Test.YtalfdcfcaamnbaaF28
import Derived.Test.YtalfdcfcaamnbaaF16
import Derived.Test.YtalfdcfcaamnbaaFA
namespace Go.Proofs.Ytalfdcfcaamnbaa
set_option linter.unusedVariables false
set_option linter.unusedSimpArgs false
open Go.RowKit Hp
attribute [local irreducible] Go.Calls
set_option maxRecDepth 100000
set_option maxHeartbeats 4000000
/-- What is asked of a reader. -/
structure KV where
  (kind size low high : Int)
def KV.cells (x : KV) : List Value := [.int .i64 x.kind, .int .i64 x.size, .int .i64 x.low, .int .i64 x.high]
def KV.Ok (x : KV) : Prop := -9223372036854775808 ≤ x.size ∧ x.size ≤ 9223372036854775807
def KV.step (B : List UInt8) (x : KV) (s : RS) : RS :=
  if x.kind = 0 then (stepR s (numRR B s.pos x.size x.low x.high) 0).1 else if x.kind = 1 then (stepR s (textRR B s.pos x.size) []).1 else if x.kind = 2 then (stepR s (rawRR B s.pos x.size) []).1 else if x.kind = 3 then (stepR s (restRR B s.pos) ()).1 else s
/-- Both readers, in the same state. -/
def bP (g : Nat) (bv : Value) (q : Nat) (v : Value) (B : List UInt8) (s : RS) : List HA := rP g bv B s ++ qP q v s
def bF (g : Nat) (bv : Value) (q : Nat) (v : Value) (B : List UInt8) (s : RS) : List Nat := (bP g bv q v B s).filterMap HA.foot
section
attribute [local go_sem ↓] loadedInt loadedSl
end
end Go.Proofs.Ytalfdcfcaamnbaa
