/-
  No cell of these rows narrows 'for every input' (looked for: loops, veiled, ifaces, maps, wideKeys, modest, calm, conditions, laid).
  DERIVED. THE GIVEN ROWS OF THIS SEAT. 3 by the template 'for every input the law returns true; each argument reads behind the call as it read before'; 0 by the template 'total and deterministic' (their statements: YtifajcblbedcoaaGreatTotals.lean).
  GIVEN WITH THE SEED: the statements are not yours to turn. If you find one false, say at which input.
  Laid BY PROGRAM, IN A SANDBOX (cutbox-rows.mjs): the forced cells as the released guide's own fill.sh prints them over the translation d39d7b051c8c1a28… (all of the seat's roots in one cut). By AI agents, Wed Nov 11 2026. No macro, syntax, notation, axiom, sorry.
-/
import Derived.Test.YtifajcblbedcoaaGreatChecked
import GoSem.Claim
import GoSem.ClaimJoined
import GoSem.ClaimMapViews
import Derived.JoinedTies
import Derived.KernelRfl
namespace Go.Proofs.YtifajcblbedcoaaGreat
/- THE CELL 'sum', in the pinned program and in every row, IS THE sha256 OF THE DUMP (.gsa) THAT YtifajcblbedcoaaGreatProg.lean LOADS. Nothing in Lean hashes anything: it is a label: what it is worth is what the hold of that sum in a sandbox is worth. -/
noncomputable def Tryz.pinned : Pinned := { name := "ytifajcblbedcoaagreat", sum := "d39d7b051c8c1a28bb3be8cfbbca471bd0e541c7a12e909a8af35d18aab15497", checked := Tryz.checked }
namespace Rows
def none {H : Type} : Left H := { results := [], args := [] }

/-- 'caulkerlaw13.DirTells': WHATEVER THE INPUT: true; the input reads as it did. -/
def dirTellsSpec : ChangeSpec := { name := "dirTells", fn := fun _ => fun
  | [d1, d2, d3] => { results := [.lit (.bool true)], args := [d1, d2, d3] }
  | _ => none }
def dirTellsRow : OpenClaim := { program := "ytifajcblbedcoaagreat", sum := "d39d7b051c8c1a28bb3be8cfbbca471bd0e541c7a12e909a8af35d18aab15497", func := "caulker/caulkerlaw13.DirTells", spec := "dirTells", inPlace := ["internal/bytealg.IndexByteString", "internal/bytealg.IndexString", "internal/bytealg.abigen_runtime_cmpstring", "slices.overlaps[caulker/api.Record]"], unfollowed := true, recurses := true, named := ["internal/bytealg.MaxLen"], apart := false }
def DirTellsSaid : Prop := dirTellsRow.holds Tryz.pinned (OpenSpec.ofChange dirTellsSpec)

/-- ITS FALSE NEIGHBOUR: 'it returns false'. Refute it at one input. -/
def dirTellsWrong : ChangeSpec := { name := "dirTells", fn := fun _ => fun
  | [d1, d2, d3] => { results := [.lit (.bool false)], args := [d1, d2, d3] }
  | _ => none }
def DirTellsWrongFalsely : Prop := dirTellsRow.holds Tryz.pinned (OpenSpec.ofChange dirTellsWrong)

/-- 'caulkerlaw13.DirScript': WHATEVER THE INPUT: true; the input reads as it did. -/
def dirScriptSpec : ChangeSpec := { name := "dirScript", fn := fun _ => fun
  | [d1, d2] => { results := [.lit (.bool true)], args := [d1, d2] }
  | _ => none }
def dirScriptRow : OpenClaim := { program := "ytifajcblbedcoaagreat", sum := "d39d7b051c8c1a28bb3be8cfbbca471bd0e541c7a12e909a8af35d18aab15497", func := "caulker/caulkerlaw13.DirScript", spec := "dirScript", inPlace := ["internal/bytealg.IndexByteString", "internal/bytealg.IndexString", "internal/bytealg.abigen_runtime_cmpstring", "slices.overlaps[caulker/api.Record]"], unfollowed := true, recurses := true, named := ["internal/bytealg.MaxLen"], apart := false }
def DirScriptSaid : Prop := dirScriptRow.holds Tryz.pinned (OpenSpec.ofChange dirScriptSpec)

/-- ITS FALSE NEIGHBOUR: 'it returns false'. Refute it at one input. -/
def dirScriptWrong : ChangeSpec := { name := "dirScript", fn := fun _ => fun
  | [d1, d2] => { results := [.lit (.bool false)], args := [d1, d2] }
  | _ => none }
def DirScriptWrongFalsely : Prop := dirScriptRow.holds Tryz.pinned (OpenSpec.ofChange dirScriptWrong)

/-- 'caulkerlaw13.DirKeeps': WHATEVER THE INPUT: true; the input reads as it did. -/
def dirKeepsSpec : ChangeSpec := { name := "dirKeeps", fn := fun _ => fun
  | [d1, d2] => { results := [.lit (.bool true)], args := [d1, d2] }
  | _ => none }
def dirKeepsRow : OpenClaim := { program := "ytifajcblbedcoaagreat", sum := "d39d7b051c8c1a28bb3be8cfbbca471bd0e541c7a12e909a8af35d18aab15497", func := "caulker/caulkerlaw13.DirKeeps", spec := "dirKeeps", inPlace := ["internal/bytealg.IndexByteString", "internal/bytealg.IndexString", "internal/bytealg.abigen_runtime_cmpstring", "slices.overlaps[caulker/api.Record]"], unfollowed := true, recurses := true, named := ["internal/bytealg.MaxLen"], apart := false }
def DirKeepsSaid : Prop := dirKeepsRow.holds Tryz.pinned (OpenSpec.ofChange dirKeepsSpec)

/-- ITS FALSE NEIGHBOUR: 'it returns false'. Refute it at one input. -/
def dirKeepsWrong : ChangeSpec := { name := "dirKeeps", fn := fun _ => fun
  | [d1, d2] => { results := [.lit (.bool false)], args := [d1, d2] }
  | _ => none }
def DirKeepsWrongFalsely : Prop := dirKeepsRow.holds Tryz.pinned (OpenSpec.ofChange dirKeepsWrong)

/- THE SECOND FORM. 'bulk': how many values and letters a reading holds, each counted each time it is reached (what is shared counts as often as it is met; a slice's spare places count too). A statement '..UptoSaid' is the law's where the arguments, and the package variables that the reading takes, are together of bulk at most 1048576: NARROWER than '..Said'. Prove '..Said' where nothing that the law and all that it calls make is longer than what came in: it says more and counts as full. Else prove '..UptoSaid'. A law counts once. -/
mutual
def uptoBulk {H : Type} : DataW H → Nat
  | .lit (.string bytes) => bytes.length + 1
  | .lit _ => 1
  | .nil => 1
  | .ptr d => uptoBulk d + 1
  | .slice elems spare => uptoBulkAll elems + uptoBulkAll spare + 1
  | .agg parts => uptoBulkAll parts + 1
  | .iface _ d => uptoBulk d + 1
  | .map entries => uptoBulkEntries entries + 1
  | .held _ => 1
def uptoBulkAll {H : Type} : List (DataW H) → Nat
  | [] => 0
  | d :: r => uptoBulk d + uptoBulkAll r
def uptoBulkEntries {H : Type} : List (Lit × DataW H) → Nat
  | [] => 0
  | x :: r => uptoBulkEntry x + uptoBulkEntries r
def uptoBulkEntry {H : Type} : Lit × DataW H → Nat
  | (.string bytes, d) => bytes.length + uptoBulk d + 1
  | (_, d) => uptoBulk d + 1
 end
def uptoSmall : (H : Type) → List (DataW H) → Bool := fun _ ds => decide (uptoBulkAll ds ≤ 1048576)
def OpenSpec.upto (s : _root_.Go.ChangeSpec) : _root_.Go.OpenSpec := { _root_.Go.OpenSpec.ofChange s with cond := some uptoSmall }

/-- 'caulkerlaw13.DirTells', WHERE WHAT IT READS IS OF BULK AT MOST 1048576: true; the input reads as it did. -/
def dirTellsUptoRow : OpenClaim := { program := "ytifajcblbedcoaagreat", sum := "d39d7b051c8c1a28bb3be8cfbbca471bd0e541c7a12e909a8af35d18aab15497", func := "caulker/caulkerlaw13.DirTells", spec := "dirTells", inPlace := ["internal/bytealg.IndexByteString", "internal/bytealg.IndexString", "internal/bytealg.abigen_runtime_cmpstring", "slices.overlaps[caulker/api.Record]"], unfollowed := true, recurses := true, named := ["internal/bytealg.MaxLen"], apart := false, narrowed := true }
def DirTellsUptoSaid : Prop := dirTellsUptoRow.holds Tryz.pinned (OpenSpec.upto dirTellsSpec)

/-- 'caulkerlaw13.DirScript', WHERE WHAT IT READS IS OF BULK AT MOST 1048576: true; the input reads as it did. -/
def dirScriptUptoRow : OpenClaim := { program := "ytifajcblbedcoaagreat", sum := "d39d7b051c8c1a28bb3be8cfbbca471bd0e541c7a12e909a8af35d18aab15497", func := "caulker/caulkerlaw13.DirScript", spec := "dirScript", inPlace := ["internal/bytealg.IndexByteString", "internal/bytealg.IndexString", "internal/bytealg.abigen_runtime_cmpstring", "slices.overlaps[caulker/api.Record]"], unfollowed := true, recurses := true, named := ["internal/bytealg.MaxLen"], apart := false, narrowed := true }
def DirScriptUptoSaid : Prop := dirScriptUptoRow.holds Tryz.pinned (OpenSpec.upto dirScriptSpec)

/-- 'caulkerlaw13.DirKeeps', WHERE WHAT IT READS IS OF BULK AT MOST 1048576: true; the input reads as it did. -/
def dirKeepsUptoRow : OpenClaim := { program := "ytifajcblbedcoaagreat", sum := "d39d7b051c8c1a28bb3be8cfbbca471bd0e541c7a12e909a8af35d18aab15497", func := "caulker/caulkerlaw13.DirKeeps", spec := "dirKeeps", inPlace := ["internal/bytealg.IndexByteString", "internal/bytealg.IndexString", "internal/bytealg.abigen_runtime_cmpstring", "slices.overlaps[caulker/api.Record]"], unfollowed := true, recurses := true, named := ["internal/bytealg.MaxLen"], apart := false, narrowed := true }
def DirKeepsUptoSaid : Prop := dirKeepsUptoRow.holds Tryz.pinned (OpenSpec.upto dirKeepsSpec)

end Rows
end Go.Proofs.YtifajcblbedcoaaGreat
