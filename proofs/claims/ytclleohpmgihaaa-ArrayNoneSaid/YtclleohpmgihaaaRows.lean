/-
  No cell of these rows narrows 'for every input' (looked for: loops, veiled, ifaces, maps, wideKeys, modest, calm, conditions, laid).
  DERIVED. THE GIVEN ROWS OF THIS SEAT. 6 by the template 'for every input the law returns true; each argument reads behind the call as it read before'; 0 by the template 'total and deterministic' (their statements: YtclleohpmgihaaaTotals.lean).
  GIVEN WITH THE SEED: the statements are not yours to turn. If you find one false, say at which input.
  Laid BY PROGRAM, IN A SANDBOX (cutbox-rows.mjs): the forced cells as the released guide's own fill.sh prints them over the translation 1a084930878b45af… (all of the seat's roots in one cut). By AI agents, Wed Nov 11 2026. No macro, syntax, notation, axiom, sorry.
-/
import Derived.Test.YtclleohpmgihaaaChecked
import GoSem.Claim
import GoSem.ClaimJoined
import GoSem.ClaimMapViews
import Derived.JoinedTies
import Derived.KernelRfl
namespace Go.Proofs.Ytclleohpmgihaaa
/- THE CELL 'sum', in the pinned program and in every row, IS THE sha256 OF THE DUMP (.gsa) THAT YtclleohpmgihaaaProg.lean LOADS. Nothing in Lean hashes anything: it is a label: what it is worth is what the hold of that sum in a sandbox is worth. -/
noncomputable def Try.pinned : Pinned := { name := "ytclleohpmgihaaa", sum := "1a084930878b45af68ba9fac7dbc5e56143b40ad5b603da6173fe81f75dc964e", checked := Try.checked }
namespace Rows
def none {H : Type} : Left H := { results := [], args := [] }

/-- 'caulkerlaw15.ArrayFuses': WHATEVER THE INPUT: true; the input reads as it did. -/
def arrayFusesSpec : ChangeSpec := { name := "arrayFuses", fn := fun _ => fun
  | [d1, d2] => { results := [.lit (.bool true)], args := [d1, d2] }
  | _ => none }
def arrayFusesRow : OpenClaim := { program := "ytclleohpmgihaaa", sum := "1a084930878b45af68ba9fac7dbc5e56143b40ad5b603da6173fe81f75dc964e", func := "caulker/caulkerlaw15.ArrayFuses", spec := "arrayFuses", inPlace := ["internal/reflectlite.TypeOf"], unfollowed := true, recurses := true, apart := false }
def ArrayFusesSaid : Prop := arrayFusesRow.holds Try.pinned (OpenSpec.ofChange arrayFusesSpec)

/-- ITS FALSE NEIGHBOUR: 'it returns false'. Refute it at one input. -/
def arrayFusesWrong : ChangeSpec := { name := "arrayFuses", fn := fun _ => fun
  | [d1, d2] => { results := [.lit (.bool false)], args := [d1, d2] }
  | _ => none }
def ArrayFusesWrongFalsely : Prop := arrayFusesRow.holds Try.pinned (OpenSpec.ofChange arrayFusesWrong)

/-- 'caulkerlaw15.ArrayFaults': WHATEVER THE INPUT: true; the input reads as it did. -/
def arrayFaultsSpec : ChangeSpec := { name := "arrayFaults", fn := fun _ => fun
  | [d1, d2, d3, d4, d5] => { results := [.lit (.bool true)], args := [d1, d2, d3, d4, d5] }
  | _ => none }
def arrayFaultsRow : OpenClaim := { program := "ytclleohpmgihaaa", sum := "1a084930878b45af68ba9fac7dbc5e56143b40ad5b603da6173fe81f75dc964e", func := "caulker/caulkerlaw15.ArrayFaults", spec := "arrayFaults", inPlace := ["internal/reflectlite.TypeOf"], unfollowed := true, recurses := true, apart := false }
def ArrayFaultsSaid : Prop := arrayFaultsRow.holds Try.pinned (OpenSpec.ofChange arrayFaultsSpec)

/-- ITS FALSE NEIGHBOUR: 'it returns false'. Refute it at one input. -/
def arrayFaultsWrong : ChangeSpec := { name := "arrayFaults", fn := fun _ => fun
  | [d1, d2, d3, d4, d5] => { results := [.lit (.bool false)], args := [d1, d2, d3, d4, d5] }
  | _ => none }
def ArrayFaultsWrongFalsely : Prop := arrayFaultsRow.holds Try.pinned (OpenSpec.ofChange arrayFaultsWrong)

/-- 'caulkerlaw15.ArrayApart': WHATEVER THE INPUT: true; the input reads as it did. -/
def arrayApartSpec : ChangeSpec := { name := "arrayApart", fn := fun _ => fun
  | [d1, d2] => { results := [.lit (.bool true)], args := [d1, d2] }
  | _ => none }
def arrayApartRow : OpenClaim := { program := "ytclleohpmgihaaa", sum := "1a084930878b45af68ba9fac7dbc5e56143b40ad5b603da6173fe81f75dc964e", func := "caulker/caulkerlaw15.ArrayApart", spec := "arrayApart", inPlace := ["internal/reflectlite.TypeOf"], unfollowed := true, recurses := true, apart := false }
def ArrayApartSaid : Prop := arrayApartRow.holds Try.pinned (OpenSpec.ofChange arrayApartSpec)

/-- ITS FALSE NEIGHBOUR: 'it returns false'. Refute it at one input. -/
def arrayApartWrong : ChangeSpec := { name := "arrayApart", fn := fun _ => fun
  | [d1, d2] => { results := [.lit (.bool false)], args := [d1, d2] }
  | _ => none }
def ArrayApartWrongFalsely : Prop := arrayApartRow.holds Try.pinned (OpenSpec.ofChange arrayApartWrong)

/-- 'caulkerlaw15.ArrayKnown': WHATEVER THE INPUT: true; the input reads as it did. -/
def arrayKnownSpec : ChangeSpec := { name := "arrayKnown", fn := fun _ => fun
  | [] => { results := [.lit (.bool true)], args := [] }
  | _ => none }
def arrayKnownRow : OpenClaim := { program := "ytclleohpmgihaaa", sum := "1a084930878b45af68ba9fac7dbc5e56143b40ad5b603da6173fe81f75dc964e", func := "caulker/caulkerlaw15.ArrayKnown", spec := "arrayKnown", inPlace := ["internal/reflectlite.TypeOf"], unfollowed := true, recurses := true, apart := false }
def ArrayKnownSaid : Prop := arrayKnownRow.holds Try.pinned (OpenSpec.ofChange arrayKnownSpec)

/-- ITS FALSE NEIGHBOUR: 'it returns false'. Refute it at one input. -/
def arrayKnownWrong : ChangeSpec := { name := "arrayKnown", fn := fun _ => fun
  | [] => { results := [.lit (.bool false)], args := [] }
  | _ => none }
def ArrayKnownWrongFalsely : Prop := arrayKnownRow.holds Try.pinned (OpenSpec.ofChange arrayKnownWrong)

/-- 'caulkerlaw15.ArrayFirm': WHATEVER THE INPUT: true; the input reads as it did. -/
def arrayFirmSpec : ChangeSpec := { name := "arrayFirm", fn := fun _ => fun
  | [d1, d2, d3] => { results := [.lit (.bool true)], args := [d1, d2, d3] }
  | _ => none }
def arrayFirmRow : OpenClaim := { program := "ytclleohpmgihaaa", sum := "1a084930878b45af68ba9fac7dbc5e56143b40ad5b603da6173fe81f75dc964e", func := "caulker/caulkerlaw15.ArrayFirm", spec := "arrayFirm", inPlace := ["internal/reflectlite.TypeOf"], unfollowed := true, recurses := true, apart := false }
def ArrayFirmSaid : Prop := arrayFirmRow.holds Try.pinned (OpenSpec.ofChange arrayFirmSpec)

/-- ITS FALSE NEIGHBOUR: 'it returns false'. Refute it at one input. -/
def arrayFirmWrong : ChangeSpec := { name := "arrayFirm", fn := fun _ => fun
  | [d1, d2, d3] => { results := [.lit (.bool false)], args := [d1, d2, d3] }
  | _ => none }
def ArrayFirmWrongFalsely : Prop := arrayFirmRow.holds Try.pinned (OpenSpec.ofChange arrayFirmWrong)

/-- 'caulkerlaw15.ArrayNone': WHATEVER THE INPUT: true; the input reads as it did. -/
def arrayNoneSpec : ChangeSpec := { name := "arrayNone", fn := fun _ => fun
  | [d] => { results := [.lit (.bool true)], args := [d] }
  | _ => none }
def arrayNoneRow : OpenClaim := { program := "ytclleohpmgihaaa", sum := "1a084930878b45af68ba9fac7dbc5e56143b40ad5b603da6173fe81f75dc964e", func := "caulker/caulkerlaw15.ArrayNone", spec := "arrayNone", inPlace := ["internal/reflectlite.TypeOf"], unfollowed := true, recurses := true, apart := false }
def ArrayNoneSaid : Prop := arrayNoneRow.holds Try.pinned (OpenSpec.ofChange arrayNoneSpec)

/-- ITS FALSE NEIGHBOUR: 'it returns false'. Refute it at one input. -/
def arrayNoneWrong : ChangeSpec := { name := "arrayNone", fn := fun _ => fun
  | [d] => { results := [.lit (.bool false)], args := [d] }
  | _ => none }
def ArrayNoneWrongFalsely : Prop := arrayNoneRow.holds Try.pinned (OpenSpec.ofChange arrayNoneWrong)

/- THE SECOND FORM. 'bulk': how many values and letters a reading holds, each counted each time it is reached (what is shared counts as often as it is met; a slice's spare places count too). A statement '..UptoSaid' is the law's where the arguments, and the package variables that the reading takes, are together of bulk at most 1048576: NARROWER than '..Said'. Prove '..Said' where nothing that the law and all that it calls make is longer than what came in: it says more and counts as full. Else prove '..UptoSaid'. A law counts once. -/
mutual
def uptoBulk {H : Type} : DataW H → Nat
  | .lit (.string bytes) => bytes.length + 1
  | .lit _ => 1
  | .nil => 1
  | .ptr d => uptoBulk d + 1
  | .slice elems spare => uptoBulkAll elems + uptoBulkAll spare + 1
  | .agg parts => uptoBulkAll parts + 1
  | .iface _ d => uptoBulk d + 1
  | .map entries => uptoBulkEntries entries + 1
  | .held _ => 1
def uptoBulkAll {H : Type} : List (DataW H) → Nat
  | [] => 0
  | d :: r => uptoBulk d + uptoBulkAll r
def uptoBulkEntries {H : Type} : List (Lit × DataW H) → Nat
  | [] => 0
  | x :: r => uptoBulkEntry x + uptoBulkEntries r
def uptoBulkEntry {H : Type} : Lit × DataW H → Nat
  | (.string bytes, d) => bytes.length + uptoBulk d + 1
  | (_, d) => uptoBulk d + 1
 end
def uptoSmall : (H : Type) → List (DataW H) → Bool := fun _ ds => decide (uptoBulkAll ds ≤ 1048576)
def OpenSpec.upto (s : _root_.Go.ChangeSpec) : _root_.Go.OpenSpec := { _root_.Go.OpenSpec.ofChange s with cond := some uptoSmall }

/-- 'caulkerlaw15.ArrayFuses', WHERE WHAT IT READS IS OF BULK AT MOST 1048576: true; the input reads as it did. -/
def arrayFusesUptoRow : OpenClaim := { program := "ytclleohpmgihaaa", sum := "1a084930878b45af68ba9fac7dbc5e56143b40ad5b603da6173fe81f75dc964e", func := "caulker/caulkerlaw15.ArrayFuses", spec := "arrayFuses", inPlace := ["internal/reflectlite.TypeOf"], unfollowed := true, recurses := true, apart := false, narrowed := true }
def ArrayFusesUptoSaid : Prop := arrayFusesUptoRow.holds Try.pinned (OpenSpec.upto arrayFusesSpec)

/-- 'caulkerlaw15.ArrayFaults', WHERE WHAT IT READS IS OF BULK AT MOST 1048576: true; the input reads as it did. -/
def arrayFaultsUptoRow : OpenClaim := { program := "ytclleohpmgihaaa", sum := "1a084930878b45af68ba9fac7dbc5e56143b40ad5b603da6173fe81f75dc964e", func := "caulker/caulkerlaw15.ArrayFaults", spec := "arrayFaults", inPlace := ["internal/reflectlite.TypeOf"], unfollowed := true, recurses := true, apart := false, narrowed := true }
def ArrayFaultsUptoSaid : Prop := arrayFaultsUptoRow.holds Try.pinned (OpenSpec.upto arrayFaultsSpec)

/-- 'caulkerlaw15.ArrayApart', WHERE WHAT IT READS IS OF BULK AT MOST 1048576: true; the input reads as it did. -/
def arrayApartUptoRow : OpenClaim := { program := "ytclleohpmgihaaa", sum := "1a084930878b45af68ba9fac7dbc5e56143b40ad5b603da6173fe81f75dc964e", func := "caulker/caulkerlaw15.ArrayApart", spec := "arrayApart", inPlace := ["internal/reflectlite.TypeOf"], unfollowed := true, recurses := true, apart := false, narrowed := true }
def ArrayApartUptoSaid : Prop := arrayApartUptoRow.holds Try.pinned (OpenSpec.upto arrayApartSpec)

/-- 'caulkerlaw15.ArrayKnown', WHERE WHAT IT READS IS OF BULK AT MOST 1048576: true; the input reads as it did. -/
def arrayKnownUptoRow : OpenClaim := { program := "ytclleohpmgihaaa", sum := "1a084930878b45af68ba9fac7dbc5e56143b40ad5b603da6173fe81f75dc964e", func := "caulker/caulkerlaw15.ArrayKnown", spec := "arrayKnown", inPlace := ["internal/reflectlite.TypeOf"], unfollowed := true, recurses := true, apart := false, narrowed := true }
def ArrayKnownUptoSaid : Prop := arrayKnownUptoRow.holds Try.pinned (OpenSpec.upto arrayKnownSpec)

/-- 'caulkerlaw15.ArrayFirm', WHERE WHAT IT READS IS OF BULK AT MOST 1048576: true; the input reads as it did. -/
def arrayFirmUptoRow : OpenClaim := { program := "ytclleohpmgihaaa", sum := "1a084930878b45af68ba9fac7dbc5e56143b40ad5b603da6173fe81f75dc964e", func := "caulker/caulkerlaw15.ArrayFirm", spec := "arrayFirm", inPlace := ["internal/reflectlite.TypeOf"], unfollowed := true, recurses := true, apart := false, narrowed := true }
def ArrayFirmUptoSaid : Prop := arrayFirmUptoRow.holds Try.pinned (OpenSpec.upto arrayFirmSpec)

/-- 'caulkerlaw15.ArrayNone', WHERE WHAT IT READS IS OF BULK AT MOST 1048576: true; the input reads as it did. -/
def arrayNoneUptoRow : OpenClaim := { program := "ytclleohpmgihaaa", sum := "1a084930878b45af68ba9fac7dbc5e56143b40ad5b603da6173fe81f75dc964e", func := "caulker/caulkerlaw15.ArrayNone", spec := "arrayNone", inPlace := ["internal/reflectlite.TypeOf"], unfollowed := true, recurses := true, apart := false, narrowed := true }
def ArrayNoneUptoSaid : Prop := arrayNoneUptoRow.holds Try.pinned (OpenSpec.upto arrayNoneSpec)

end Rows
end Go.Proofs.Ytclleohpmgihaaa
