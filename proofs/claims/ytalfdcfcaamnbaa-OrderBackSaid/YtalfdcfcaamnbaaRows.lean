/-
  No cell of these rows narrows 'for every input' (looked for: loops, veiled, ifaces, maps, wideKeys, modest, calm, conditions, laid).
  DERIVED. THE GIVEN ROWS OF THIS SEAT. 6 by the template 'for every input the law returns true; each argument reads behind the call as it read before'; 0 by the template 'total and deterministic' (their statements: YtalfdcfcaamnbaaTotals.lean).
  GIVEN WITH THE SEED: the statements are not yours to turn. If you find one false, say at which input.
  Laid BY PROGRAM, IN A SANDBOX (cutbox-rows.mjs): the forced cells as the released guide's own fill.sh prints them over the translation b1980c37724be349… (all of the seat's roots in one cut). By AI agents, Wed Nov 11 2026. No macro, syntax, notation, axiom, sorry.
-/
import Derived.Test.YtalfdcfcaamnbaaChecked
import GoSem.Claim
import GoSem.ClaimJoined
import GoSem.ClaimMapViews
import Derived.JoinedTies
import Derived.KernelRfl
namespace Go.Proofs.Ytalfdcfcaamnbaa
/- THE CELL 'sum', in the pinned program and in every row, IS THE sha256 OF THE DUMP (.gsa) THAT YtalfdcfcaamnbaaProg.lean LOADS. Nothing in Lean hashes anything: it is a label: what it is worth is what the hold of that sum in a sandbox is worth. -/
noncomputable def Try.pinned : Pinned := { name := "ytalfdcfcaamnbaa", sum := "b1980c37724be349292cfc30fa09c3ac4e50c4a77370331d59ad955245c7dde2", checked := Try.checked }
namespace Rows
def none {H : Type} : Left H := { results := [], args := [] }

/-- 'caulkerlaw28.OrderPuts': WHATEVER THE INPUT: true; the input reads as it did. -/
def orderPutsSpec : ChangeSpec := { name := "orderPuts", fn := fun _ => fun
  | [d1, d2] => { results := [.lit (.bool true)], args := [d1, d2] }
  | _ => none }
def orderPutsRow : OpenClaim := { program := "ytalfdcfcaamnbaa", sum := "b1980c37724be349292cfc30fa09c3ac4e50c4a77370331d59ad955245c7dde2", func := "caulker/caulkerlaw28.OrderPuts", spec := "orderPuts", unfollowed := true, recurses := true, apart := false }
def OrderPutsSaid : Prop := orderPutsRow.holds Try.pinned (OpenSpec.ofChange orderPutsSpec)

/-- ITS FALSE NEIGHBOUR: 'it returns false'. Refute it at one input. -/
def orderPutsWrong : ChangeSpec := { name := "orderPuts", fn := fun _ => fun
  | [d1, d2] => { results := [.lit (.bool false)], args := [d1, d2] }
  | _ => none }
def OrderPutsWrongFalsely : Prop := orderPutsRow.holds Try.pinned (OpenSpec.ofChange orderPutsWrong)

/-- 'caulkerlaw28.OrderGets': WHATEVER THE INPUT: true; the input reads as it did. -/
def orderGetsSpec : ChangeSpec := { name := "orderGets", fn := fun _ => fun
  | [d] => { results := [.lit (.bool true)], args := [d] }
  | _ => none }
def orderGetsRow : OpenClaim := { program := "ytalfdcfcaamnbaa", sum := "b1980c37724be349292cfc30fa09c3ac4e50c4a77370331d59ad955245c7dde2", func := "caulker/caulkerlaw28.OrderGets", spec := "orderGets", unfollowed := true, recurses := true, apart := false }
def OrderGetsSaid : Prop := orderGetsRow.holds Try.pinned (OpenSpec.ofChange orderGetsSpec)

/-- ITS FALSE NEIGHBOUR: 'it returns false'. Refute it at one input. -/
def orderGetsWrong : ChangeSpec := { name := "orderGets", fn := fun _ => fun
  | [d] => { results := [.lit (.bool false)], args := [d] }
  | _ => none }
def OrderGetsWrongFalsely : Prop := orderGetsRow.holds Try.pinned (OpenSpec.ofChange orderGetsWrong)

/-- 'caulkerlaw28.OrderReplies': WHATEVER THE INPUT: true; the input reads as it did. -/
def orderRepliesSpec : ChangeSpec := { name := "orderReplies", fn := fun _ => fun
  | [d1, d2] => { results := [.lit (.bool true)], args := [d1, d2] }
  | _ => none }
def orderRepliesRow : OpenClaim := { program := "ytalfdcfcaamnbaa", sum := "b1980c37724be349292cfc30fa09c3ac4e50c4a77370331d59ad955245c7dde2", func := "caulker/caulkerlaw28.OrderReplies", spec := "orderReplies", unfollowed := true, recurses := true, apart := false }
def OrderRepliesSaid : Prop := orderRepliesRow.holds Try.pinned (OpenSpec.ofChange orderRepliesSpec)

/-- ITS FALSE NEIGHBOUR: 'it returns false'. Refute it at one input. -/
def orderRepliesWrong : ChangeSpec := { name := "orderReplies", fn := fun _ => fun
  | [d1, d2] => { results := [.lit (.bool false)], args := [d1, d2] }
  | _ => none }
def OrderRepliesWrongFalsely : Prop := orderRepliesRow.holds Try.pinned (OpenSpec.ofChange orderRepliesWrong)

/-- 'caulkerlaw28.OrderKnown': WHATEVER THE INPUT: true; the input reads as it did. -/
def orderKnownSpec : ChangeSpec := { name := "orderKnown", fn := fun _ => fun
  | [] => { results := [.lit (.bool true)], args := [] }
  | _ => none }
def orderKnownRow : OpenClaim := { program := "ytalfdcfcaamnbaa", sum := "b1980c37724be349292cfc30fa09c3ac4e50c4a77370331d59ad955245c7dde2", func := "caulker/caulkerlaw28.OrderKnown", spec := "orderKnown", unfollowed := true, recurses := true, apart := false }
def OrderKnownSaid : Prop := orderKnownRow.holds Try.pinned (OpenSpec.ofChange orderKnownSpec)

/-- ITS FALSE NEIGHBOUR: 'it returns false'. Refute it at one input. -/
def orderKnownWrong : ChangeSpec := { name := "orderKnown", fn := fun _ => fun
  | [] => { results := [.lit (.bool false)], args := [] }
  | _ => none }
def OrderKnownWrongFalsely : Prop := orderKnownRow.holds Try.pinned (OpenSpec.ofChange orderKnownWrong)

/-- 'caulkerlaw28.OrderBack': WHATEVER THE INPUT: true; the input reads as it did. -/
def orderBackSpec : ChangeSpec := { name := "orderBack", fn := fun _ => fun
  | [d1, d2] => { results := [.lit (.bool true)], args := [d1, d2] }
  | _ => none }
def orderBackRow : OpenClaim := { program := "ytalfdcfcaamnbaa", sum := "b1980c37724be349292cfc30fa09c3ac4e50c4a77370331d59ad955245c7dde2", func := "caulker/caulkerlaw28.OrderBack", spec := "orderBack", unfollowed := true, recurses := true, apart := false }
def OrderBackSaid : Prop := orderBackRow.holds Try.pinned (OpenSpec.ofChange orderBackSpec)

/-- ITS FALSE NEIGHBOUR: 'it returns false'. Refute it at one input. -/
def orderBackWrong : ChangeSpec := { name := "orderBack", fn := fun _ => fun
  | [d1, d2] => { results := [.lit (.bool false)], args := [d1, d2] }
  | _ => none }
def OrderBackWrongFalsely : Prop := orderBackRow.holds Try.pinned (OpenSpec.ofChange orderBackWrong)

/-- 'caulkerlaw28.OrderReplied': WHATEVER THE INPUT: true; the input reads as it did. -/
def orderRepliedSpec : ChangeSpec := { name := "orderReplied", fn := fun _ => fun
  | [d1, d2] => { results := [.lit (.bool true)], args := [d1, d2] }
  | _ => none }
def orderRepliedRow : OpenClaim := { program := "ytalfdcfcaamnbaa", sum := "b1980c37724be349292cfc30fa09c3ac4e50c4a77370331d59ad955245c7dde2", func := "caulker/caulkerlaw28.OrderReplied", spec := "orderReplied", unfollowed := true, recurses := true, apart := false }
def OrderRepliedSaid : Prop := orderRepliedRow.holds Try.pinned (OpenSpec.ofChange orderRepliedSpec)

/-- ITS FALSE NEIGHBOUR: 'it returns false'. Refute it at one input. -/
def orderRepliedWrong : ChangeSpec := { name := "orderReplied", fn := fun _ => fun
  | [d1, d2] => { results := [.lit (.bool false)], args := [d1, d2] }
  | _ => none }
def OrderRepliedWrongFalsely : Prop := orderRepliedRow.holds Try.pinned (OpenSpec.ofChange orderRepliedWrong)

/- THE SECOND FORM. 'bulk': how many values and letters a reading holds, each counted each time it is reached (what is shared counts as often as it is met; a slice's spare places count too). A statement '..UptoSaid' is the law's where the arguments, and the package variables that the reading takes, are together of bulk at most 1048576: NARROWER than '..Said'. Prove '..Said' where nothing that the law and all that it calls make is longer than what came in: it says more and counts as full. Else prove '..UptoSaid'. A law counts once. -/
mutual
def uptoBulk {H : Type} : DataW H → Nat
  | .lit (.string bytes) => bytes.length + 1
  | .lit _ => 1
  | .nil => 1
  | .ptr d => uptoBulk d + 1
  | .slice elems spare => uptoBulkAll elems + uptoBulkAll spare + 1
  | .agg parts => uptoBulkAll parts + 1
  | .iface _ d => uptoBulk d + 1
  | .map entries => uptoBulkEntries entries + 1
  | .held _ => 1
def uptoBulkAll {H : Type} : List (DataW H) → Nat
  | [] => 0
  | d :: r => uptoBulk d + uptoBulkAll r
def uptoBulkEntries {H : Type} : List (Lit × DataW H) → Nat
  | [] => 0
  | x :: r => uptoBulkEntry x + uptoBulkEntries r
def uptoBulkEntry {H : Type} : Lit × DataW H → Nat
  | (.string bytes, d) => bytes.length + uptoBulk d + 1
  | (_, d) => uptoBulk d + 1
 end
def uptoSmall : (H : Type) → List (DataW H) → Bool := fun _ ds => decide (uptoBulkAll ds ≤ 1048576)
def OpenSpec.upto (s : _root_.Go.ChangeSpec) : _root_.Go.OpenSpec := { _root_.Go.OpenSpec.ofChange s with cond := some uptoSmall }

/-- 'caulkerlaw28.OrderPuts', WHERE WHAT IT READS IS OF BULK AT MOST 1048576: true; the input reads as it did. -/
def orderPutsUptoRow : OpenClaim := { program := "ytalfdcfcaamnbaa", sum := "b1980c37724be349292cfc30fa09c3ac4e50c4a77370331d59ad955245c7dde2", func := "caulker/caulkerlaw28.OrderPuts", spec := "orderPuts", unfollowed := true, recurses := true, apart := false, narrowed := true }
def OrderPutsUptoSaid : Prop := orderPutsUptoRow.holds Try.pinned (OpenSpec.upto orderPutsSpec)

/-- 'caulkerlaw28.OrderGets', WHERE WHAT IT READS IS OF BULK AT MOST 1048576: true; the input reads as it did. -/
def orderGetsUptoRow : OpenClaim := { program := "ytalfdcfcaamnbaa", sum := "b1980c37724be349292cfc30fa09c3ac4e50c4a77370331d59ad955245c7dde2", func := "caulker/caulkerlaw28.OrderGets", spec := "orderGets", unfollowed := true, recurses := true, apart := false, narrowed := true }
def OrderGetsUptoSaid : Prop := orderGetsUptoRow.holds Try.pinned (OpenSpec.upto orderGetsSpec)

/-- 'caulkerlaw28.OrderReplies', WHERE WHAT IT READS IS OF BULK AT MOST 1048576: true; the input reads as it did. -/
def orderRepliesUptoRow : OpenClaim := { program := "ytalfdcfcaamnbaa", sum := "b1980c37724be349292cfc30fa09c3ac4e50c4a77370331d59ad955245c7dde2", func := "caulker/caulkerlaw28.OrderReplies", spec := "orderReplies", unfollowed := true, recurses := true, apart := false, narrowed := true }
def OrderRepliesUptoSaid : Prop := orderRepliesUptoRow.holds Try.pinned (OpenSpec.upto orderRepliesSpec)

/-- 'caulkerlaw28.OrderKnown', WHERE WHAT IT READS IS OF BULK AT MOST 1048576: true; the input reads as it did. -/
def orderKnownUptoRow : OpenClaim := { program := "ytalfdcfcaamnbaa", sum := "b1980c37724be349292cfc30fa09c3ac4e50c4a77370331d59ad955245c7dde2", func := "caulker/caulkerlaw28.OrderKnown", spec := "orderKnown", unfollowed := true, recurses := true, apart := false, narrowed := true }
def OrderKnownUptoSaid : Prop := orderKnownUptoRow.holds Try.pinned (OpenSpec.upto orderKnownSpec)

/-- 'caulkerlaw28.OrderBack', WHERE WHAT IT READS IS OF BULK AT MOST 1048576: true; the input reads as it did. -/
def orderBackUptoRow : OpenClaim := { program := "ytalfdcfcaamnbaa", sum := "b1980c37724be349292cfc30fa09c3ac4e50c4a77370331d59ad955245c7dde2", func := "caulker/caulkerlaw28.OrderBack", spec := "orderBack", unfollowed := true, recurses := true, apart := false, narrowed := true }
def OrderBackUptoSaid : Prop := orderBackUptoRow.holds Try.pinned (OpenSpec.upto orderBackSpec)

/-- 'caulkerlaw28.OrderReplied', WHERE WHAT IT READS IS OF BULK AT MOST 1048576: true; the input reads as it did. -/
def orderRepliedUptoRow : OpenClaim := { program := "ytalfdcfcaamnbaa", sum := "b1980c37724be349292cfc30fa09c3ac4e50c4a77370331d59ad955245c7dde2", func := "caulker/caulkerlaw28.OrderReplied", spec := "orderReplied", unfollowed := true, recurses := true, apart := false, narrowed := true }
def OrderRepliedUptoSaid : Prop := orderRepliedUptoRow.holds Try.pinned (OpenSpec.upto orderRepliedSpec)

end Rows
end Go.Proofs.Ytalfdcfcaamnbaa
