/-
  No cell of these rows narrows 'for every input' (looked for: loops, veiled, ifaces, maps, wideKeys, modest, calm, conditions, laid).
  DERIVED. THE GIVEN ROWS OF THIS SEAT. 5 by the template 'for every input the law returns true; each argument reads behind the call as it read before'; 0 by the template 'total and deterministic' (their statements: YtmdfbdfijnmhkaaGreatTotals.lean).
  GIVEN WITH THE SEED: the statements are not yours to turn. If you find one false, say at which input.
  Laid BY PROGRAM, IN A SANDBOX (cutbox-rows.mjs): the forced cells as the released guide's own fill.sh prints them over the translation b00a2b5dfc5916a9… (all of the seat's roots in one cut). By AI agents, Wed Nov 11 2026. No macro, syntax, notation, axiom, sorry.
-/
import Derived.Test.YtmdfbdfijnmhkaaGreatChecked
import GoSem.Claim
import GoSem.ClaimJoined
import GoSem.ClaimMapViews
import Derived.JoinedTies
import Derived.KernelRfl
namespace Go.Proofs.YtmdfbdfijnmhkaaGreat
/- THE CELL 'sum', in the pinned program and in every row, IS THE sha256 OF THE DUMP (.gsa) THAT YtmdfbdfijnmhkaaGreatProg.lean LOADS. Nothing in Lean hashes anything: it is a label: what it is worth is what the hold of that sum in a sandbox is worth. -/
noncomputable def Tryz.pinned : Pinned := { name := "ytmdfbdfijnmhkaagreat", sum := "b00a2b5dfc5916a91e34890bb344eaad6e74de9406ea96e5155da2d3750f81fa", checked := Tryz.checked }
namespace Rows
def none {H : Type} : Left H := { results := [], args := [] }

/-- 'caulkerlaw16.MirrorFits': WHATEVER THE INPUT: true; the input reads as it did. -/
def mirrorFitsSpec : ChangeSpec := { name := "mirrorFits", fn := fun _ => fun
  | [d1, d2, d3] => { results := [.lit (.bool true)], args := [d1, d2, d3] }
  | _ => none }
def mirrorFitsRow : OpenClaim := { program := "ytmdfbdfijnmhkaagreat", sum := "b00a2b5dfc5916a91e34890bb344eaad6e74de9406ea96e5155da2d3750f81fa", func := "caulker/caulkerlaw16.MirrorFits", spec := "mirrorFits", inPlace := ["internal/reflectlite.TypeOf"], unfollowed := true, recurses := true, apart := false }
def MirrorFitsSaid : Prop := mirrorFitsRow.holds Tryz.pinned (OpenSpec.ofChange mirrorFitsSpec)

/-- ITS FALSE NEIGHBOUR: 'it returns false'. Refute it at one input. -/
def mirrorFitsWrong : ChangeSpec := { name := "mirrorFits", fn := fun _ => fun
  | [d1, d2, d3] => { results := [.lit (.bool false)], args := [d1, d2, d3] }
  | _ => none }
def MirrorFitsWrongFalsely : Prop := mirrorFitsRow.holds Tryz.pinned (OpenSpec.ofChange mirrorFitsWrong)

/-- 'caulkerlaw16.MirrorSound': WHATEVER THE INPUT: true; the input reads as it did. -/
def mirrorSoundSpec : ChangeSpec := { name := "mirrorSound", fn := fun _ => fun
  | [d1, d2, d3, d4] => { results := [.lit (.bool true)], args := [d1, d2, d3, d4] }
  | _ => none }
def mirrorSoundRow : OpenClaim := { program := "ytmdfbdfijnmhkaagreat", sum := "b00a2b5dfc5916a91e34890bb344eaad6e74de9406ea96e5155da2d3750f81fa", func := "caulker/caulkerlaw16.MirrorSound", spec := "mirrorSound", inPlace := ["internal/reflectlite.TypeOf"], unfollowed := true, recurses := true, apart := false }
def MirrorSoundSaid : Prop := mirrorSoundRow.holds Tryz.pinned (OpenSpec.ofChange mirrorSoundSpec)

/-- ITS FALSE NEIGHBOUR: 'it returns false'. Refute it at one input. -/
def mirrorSoundWrong : ChangeSpec := { name := "mirrorSound", fn := fun _ => fun
  | [d1, d2, d3, d4] => { results := [.lit (.bool false)], args := [d1, d2, d3, d4] }
  | _ => none }
def MirrorSoundWrongFalsely : Prop := mirrorSoundRow.holds Tryz.pinned (OpenSpec.ofChange mirrorSoundWrong)

/-- 'caulkerlaw16.MirrorKnown': WHATEVER THE INPUT: true; the input reads as it did. -/
def mirrorKnownSpec : ChangeSpec := { name := "mirrorKnown", fn := fun _ => fun
  | [] => { results := [.lit (.bool true)], args := [] }
  | _ => none }
def mirrorKnownRow : OpenClaim := { program := "ytmdfbdfijnmhkaagreat", sum := "b00a2b5dfc5916a91e34890bb344eaad6e74de9406ea96e5155da2d3750f81fa", func := "caulker/caulkerlaw16.MirrorKnown", spec := "mirrorKnown", inPlace := ["internal/reflectlite.TypeOf"], unfollowed := true, recurses := true, apart := false }
def MirrorKnownSaid : Prop := mirrorKnownRow.holds Tryz.pinned (OpenSpec.ofChange mirrorKnownSpec)

/-- ITS FALSE NEIGHBOUR: 'it returns false'. Refute it at one input. -/
def mirrorKnownWrong : ChangeSpec := { name := "mirrorKnown", fn := fun _ => fun
  | [] => { results := [.lit (.bool false)], args := [] }
  | _ => none }
def MirrorKnownWrongFalsely : Prop := mirrorKnownRow.holds Tryz.pinned (OpenSpec.ofChange mirrorKnownWrong)

/-- 'caulkerlaw16.MirrorTells': WHATEVER THE INPUT: true; the input reads as it did. -/
def mirrorTellsSpec : ChangeSpec := { name := "mirrorTells", fn := fun _ => fun
  | [d1, d2] => { results := [.lit (.bool true)], args := [d1, d2] }
  | _ => none }
def mirrorTellsRow : OpenClaim := { program := "ytmdfbdfijnmhkaagreat", sum := "b00a2b5dfc5916a91e34890bb344eaad6e74de9406ea96e5155da2d3750f81fa", func := "caulker/caulkerlaw16.MirrorTells", spec := "mirrorTells", inPlace := ["internal/reflectlite.TypeOf"], unfollowed := true, recurses := true, apart := false }
def MirrorTellsSaid : Prop := mirrorTellsRow.holds Tryz.pinned (OpenSpec.ofChange mirrorTellsSpec)

/-- ITS FALSE NEIGHBOUR: 'it returns false'. Refute it at one input. -/
def mirrorTellsWrong : ChangeSpec := { name := "mirrorTells", fn := fun _ => fun
  | [d1, d2] => { results := [.lit (.bool false)], args := [d1, d2] }
  | _ => none }
def MirrorTellsWrongFalsely : Prop := mirrorTellsRow.holds Tryz.pinned (OpenSpec.ofChange mirrorTellsWrong)

/-- 'caulkerlaw16.MirrorScript': WHATEVER THE INPUT: true; the input reads as it did. -/
def mirrorScriptSpec : ChangeSpec := { name := "mirrorScript", fn := fun _ => fun
  | [d1, d2] => { results := [.lit (.bool true)], args := [d1, d2] }
  | _ => none }
def mirrorScriptRow : OpenClaim := { program := "ytmdfbdfijnmhkaagreat", sum := "b00a2b5dfc5916a91e34890bb344eaad6e74de9406ea96e5155da2d3750f81fa", func := "caulker/caulkerlaw16.MirrorScript", spec := "mirrorScript", inPlace := ["internal/reflectlite.TypeOf"], unfollowed := true, recurses := true, apart := false }
def MirrorScriptSaid : Prop := mirrorScriptRow.holds Tryz.pinned (OpenSpec.ofChange mirrorScriptSpec)

/-- ITS FALSE NEIGHBOUR: 'it returns false'. Refute it at one input. -/
def mirrorScriptWrong : ChangeSpec := { name := "mirrorScript", fn := fun _ => fun
  | [d1, d2] => { results := [.lit (.bool false)], args := [d1, d2] }
  | _ => none }
def MirrorScriptWrongFalsely : Prop := mirrorScriptRow.holds Tryz.pinned (OpenSpec.ofChange mirrorScriptWrong)

/- THE SECOND FORM. 'bulk': how many values and letters a reading holds, each counted each time it is reached (what is shared counts as often as it is met; a slice's spare places count too). A statement '..UptoSaid' is the law's where the arguments, and the package variables that the reading takes, are together of bulk at most 1048576: NARROWER than '..Said'. Prove '..Said' where nothing that the law and all that it calls make is longer than what came in: it says more and counts as full. Else prove '..UptoSaid'. A law counts once. -/
mutual
def uptoBulk {H : Type} : DataW H → Nat
  | .lit (.string bytes) => bytes.length + 1
  | .lit _ => 1
  | .nil => 1
  | .ptr d => uptoBulk d + 1
  | .slice elems spare => uptoBulkAll elems + uptoBulkAll spare + 1
  | .agg parts => uptoBulkAll parts + 1
  | .iface _ d => uptoBulk d + 1
  | .map entries => uptoBulkEntries entries + 1
  | .held _ => 1
def uptoBulkAll {H : Type} : List (DataW H) → Nat
  | [] => 0
  | d :: r => uptoBulk d + uptoBulkAll r
def uptoBulkEntries {H : Type} : List (Lit × DataW H) → Nat
  | [] => 0
  | x :: r => uptoBulkEntry x + uptoBulkEntries r
def uptoBulkEntry {H : Type} : Lit × DataW H → Nat
  | (.string bytes, d) => bytes.length + uptoBulk d + 1
  | (_, d) => uptoBulk d + 1
 end
def uptoSmall : (H : Type) → List (DataW H) → Bool := fun _ ds => decide (uptoBulkAll ds ≤ 1048576)
def OpenSpec.upto (s : _root_.Go.ChangeSpec) : _root_.Go.OpenSpec := { _root_.Go.OpenSpec.ofChange s with cond := some uptoSmall }

/-- 'caulkerlaw16.MirrorFits', WHERE WHAT IT READS IS OF BULK AT MOST 1048576: true; the input reads as it did. -/
def mirrorFitsUptoRow : OpenClaim := { program := "ytmdfbdfijnmhkaagreat", sum := "b00a2b5dfc5916a91e34890bb344eaad6e74de9406ea96e5155da2d3750f81fa", func := "caulker/caulkerlaw16.MirrorFits", spec := "mirrorFits", inPlace := ["internal/reflectlite.TypeOf"], unfollowed := true, recurses := true, apart := false, narrowed := true }
def MirrorFitsUptoSaid : Prop := mirrorFitsUptoRow.holds Tryz.pinned (OpenSpec.upto mirrorFitsSpec)

/-- 'caulkerlaw16.MirrorSound', WHERE WHAT IT READS IS OF BULK AT MOST 1048576: true; the input reads as it did. -/
def mirrorSoundUptoRow : OpenClaim := { program := "ytmdfbdfijnmhkaagreat", sum := "b00a2b5dfc5916a91e34890bb344eaad6e74de9406ea96e5155da2d3750f81fa", func := "caulker/caulkerlaw16.MirrorSound", spec := "mirrorSound", inPlace := ["internal/reflectlite.TypeOf"], unfollowed := true, recurses := true, apart := false, narrowed := true }
def MirrorSoundUptoSaid : Prop := mirrorSoundUptoRow.holds Tryz.pinned (OpenSpec.upto mirrorSoundSpec)

/-- 'caulkerlaw16.MirrorKnown', WHERE WHAT IT READS IS OF BULK AT MOST 1048576: true; the input reads as it did. -/
def mirrorKnownUptoRow : OpenClaim := { program := "ytmdfbdfijnmhkaagreat", sum := "b00a2b5dfc5916a91e34890bb344eaad6e74de9406ea96e5155da2d3750f81fa", func := "caulker/caulkerlaw16.MirrorKnown", spec := "mirrorKnown", inPlace := ["internal/reflectlite.TypeOf"], unfollowed := true, recurses := true, apart := false, narrowed := true }
def MirrorKnownUptoSaid : Prop := mirrorKnownUptoRow.holds Tryz.pinned (OpenSpec.upto mirrorKnownSpec)

/-- 'caulkerlaw16.MirrorTells', WHERE WHAT IT READS IS OF BULK AT MOST 1048576: true; the input reads as it did. -/
def mirrorTellsUptoRow : OpenClaim := { program := "ytmdfbdfijnmhkaagreat", sum := "b00a2b5dfc5916a91e34890bb344eaad6e74de9406ea96e5155da2d3750f81fa", func := "caulker/caulkerlaw16.MirrorTells", spec := "mirrorTells", inPlace := ["internal/reflectlite.TypeOf"], unfollowed := true, recurses := true, apart := false, narrowed := true }
def MirrorTellsUptoSaid : Prop := mirrorTellsUptoRow.holds Tryz.pinned (OpenSpec.upto mirrorTellsSpec)

/-- 'caulkerlaw16.MirrorScript', WHERE WHAT IT READS IS OF BULK AT MOST 1048576: true; the input reads as it did. -/
def mirrorScriptUptoRow : OpenClaim := { program := "ytmdfbdfijnmhkaagreat", sum := "b00a2b5dfc5916a91e34890bb344eaad6e74de9406ea96e5155da2d3750f81fa", func := "caulker/caulkerlaw16.MirrorScript", spec := "mirrorScript", inPlace := ["internal/reflectlite.TypeOf"], unfollowed := true, recurses := true, apart := false, narrowed := true }
def MirrorScriptUptoSaid : Prop := mirrorScriptUptoRow.holds Tryz.pinned (OpenSpec.upto mirrorScriptSpec)

end Rows
end Go.Proofs.YtmdfbdfijnmhkaaGreat
