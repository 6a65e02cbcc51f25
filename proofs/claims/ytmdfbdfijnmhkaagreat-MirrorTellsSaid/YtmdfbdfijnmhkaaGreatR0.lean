import Derived.Test.YtmdfbdfijnmhkaaGreatSep
namespace Go.Proofs.YtmdfbdfijnmhkaaGreat
set_option linter.unusedVariables false
set_option linter.unusedSimpArgs false
structure LW where
  dev : Nat
  pl : Nat
  b : List UInt8
structure DV where
  g : Nat
  firm : List (List UInt8)
  gone : Bool
  lo : Bool
  st : Bool
  to : Int
  fail : Int
structure AR where
  devs : List DV
  loose : List LW
  fuse : Int
  out : Bool
  steps : Int
def AR.secs (a : AR) : Nat := match a.devs with
  | [] => 0
  | d :: _ => d.firm.length
def AR.inD (a : AR) (dev : Int) : Bool := decide (0 ≤ dev) && decide (dev < (a.devs.length : Int))
def AR.inS (a : AR) (dev pl : Int) : Bool := (a.inD dev && decide (0 ≤ pl)) && decide (pl < (a.secs : Int))
def DV.zero : DV := ⟨0, [], false, false, false, 0, 0⟩
def AR.dv (a : AR) (dev : Int) : DV := a.devs.getD dev.toNat DV.zero
def AR.upd (a : AR) (dev : Int) (f : DV → DV) : AR := { a with devs := a.devs.modify dev.toNat f }
def pickW (d s : Nat) (b : List UInt8) (w : LW) : List UInt8 := if w.dev = d ∧ w.pl = s then w.b else b
def AR.tells (a : AR) (dev pl : Int) : List UInt8 := a.loose.foldl (pickW dev.toNat pl.toNat) ((a.dv dev).firm.getD pl.toNat [])
def firstE (l : List Int) : Int := (l.find? (· ≠ 0)).getD 0
def orE (b : Bool) (e : Int) : Int := if b then 0 else e
def AR.stepE (a : AR) : Int := if a.fuse = 0 then 10 else 0
def AR.step (a : AR) : AR := if a.fuse = 0 then { a with out := true } else { a with fuse := if 0 < a.fuse then a.fuse - 1 else a.fuse, steps := a.steps + 1 }
def AR.readE (a : AR) (dev pl : Int) : Int := if a.devs = [] then 1 else if a.out then 10 else if a.inS dev pl = false then 5 else if (a.dv dev).gone then 14 else if 0 < (a.dv dev).fail then 13 else 0
def AR.read (a : AR) (dev pl : Int) : AR := if a.readE dev pl = 13 then a.upd dev fun d => { d with fail := d.fail - 1 } else a
def AR.writeE (a : AR) (dev pl : Int) (b : List UInt8) : Int := if a.devs = [] then 1 else if a.out then 10 else if a.inS dev pl = false then 5 else if b.length ≠ 256 then 2 else if (a.dv dev).gone then 14 else a.stepE
def AR.lay (a : AR) (dev pl : Int) (b : List UInt8) : AR :=
  if (a.dv dev).lo then a.upd dev fun d => { d with lo := false }
  else if (a.dv dev).st then { (a.upd dev fun d => { d with st := false }) with loose := a.loose ++ [⟨dev.toNat, (a.dv dev).to.toNat, b⟩] }
  else { a with loose := a.loose ++ [⟨dev.toNat, pl.toNat, b⟩] }
def AR.write (a : AR) (dev pl : Int) (b : List UInt8) : AR :=
  if a.devs = [] ∨ a.out ∨ a.inS dev pl = false ∨ b.length ≠ 256 ∨ (a.dv dev).gone then a
  else if a.fuse = 0 then a.step else a.step.lay dev pl b
def AR.flushE (a : AR) (dev : Int) : Int := if a.devs = [] then 1 else if a.out then 10 else if a.inD dev = false then 5 else if (a.dv dev).gone then 14 else a.stepE
def setS (l : List (List UInt8)) (w : LW) : List (List UInt8) := l.set w.pl w.b
def AR.firms (a : AR) (dev : Nat) : AR := { (a.upd dev fun d => { d with firm := (a.loose.filter fun w => w.dev == dev).foldl setS d.firm }) with loose := a.loose.filter fun w => w.dev != dev }
def AR.flush (a : AR) (dev : Int) : AR :=
  if a.devs = [] ∨ a.out ∨ a.inD dev = false ∨ (a.dv dev).gone then a
  else if a.fuse = 0 then a.step else a.step.firms dev.toNat
def AR.fuseE (a : AR) (n : Int) : Int := if a.devs = [] then 1 else if a.out then 10 else if n < 0 then 2 else 0
def AR.fused (a : AR) (n : Int) : AR := if a.fuseE n = 0 then { a with fuse := n } else a
end Go.Proofs.YtmdfbdfijnmhkaaGreat
