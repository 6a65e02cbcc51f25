/- Acts: what is written, as plain data. -/
import Derived.Test.YtalfdcfcaamnbaaF8
namespace Go.Proofs.Ytalfdcfcaamnbaa
set_option linter.unusedVariables false
set_option linter.unusedSimpArgs false
open Go.RowKit Hp
/-- An act: kind, number, size, text, bytes (as a value, and which they are). -/
structure AV where
  (kind n size : Int) (s : List UInt8) (au : Option Addr) (m cu : Nat) (B : List UInt8)
def AV.cells (x : AV) : List Value := [.int .i64 x.kind, .int .i64 x.n, .int .i64 x.size, .string ⟨x.s.toArray⟩, .slice x.au x.m x.cu]
/-- What an act makes of a writer. -/
def AV.step (x : AV) (s : WR) : WR :=
  if x.kind = 0 then putW s (numR x.n x.size) else if x.kind = 1 then putW s (textR x.s x.size) else if x.kind = 2 then putW s (0, x.B) else if x.kind = 3 then putW s (padR x.size s.2.length) else s
structure AV.Ok (x : AV) (w : World) : Prop where
  rd : Rd w (.slice x.au x.m x.cu) 1 x.m (bytesV x.B)
  len : x.B.length = x.m
  m : x.m ≤ 1000
  s : x.s.length ≤ 1000
  n : -9223372036854775808 ≤ x.n ∧ x.n ≤ 9223372036854775807
  size : -9223372036854775808 ≤ x.size ∧ x.size ≤ 9223372036854775807
theorem AV.step_len {x : AV} {s : WR} (h : s.2.length ≤ 65536) : (x.step s).2.length ≤ 65536 := by
  unfold AV.step
  split
  · exact putW_len h
  · split
    · exact putW_len h
    · split
      · exact putW_len h
      · split
        · exact putW_len h
        · exact h
end Go.Proofs.Ytalfdcfcaamnbaa
