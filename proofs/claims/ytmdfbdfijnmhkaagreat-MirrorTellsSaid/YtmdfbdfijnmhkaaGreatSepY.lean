import Derived.Test.YtmdfbdfijnmhkaaGreatSepR
namespace Go.Proofs.YtmdfbdfijnmhkaaGreat
set_option linter.unusedVariables false
set_option linter.unusedSimpArgs false
open Go.RowKit
namespace Hp
variable {P : Program}
def loadVarH (T : TypeId) (A : Addr) : Sem Value := loadVar T A
theorem ldA {w0 w : World} {M : List Nat} {T T' : TypeId} {g off n : Nat} {cs : List Value} (vs : List Value) (L1 : List HA) {L2 : List HA} (hst : St w0 M w (L1 ++ .blk g T' cs :: L2)) [ht : TyA P T n] (hn : vs.length = n) (hv : (cs.drop off).take vs.length = vs) :
    (loadVarH T ⟨g, off, none⟩).run P w = .ok (.agg vs.toArray) w := Loads.atA vs L1 hst hn hv
theorem ldS {w0 w : World} {M : List Nat} {T T' : TypeId} {g off : Nat} {v : Value} {cs : List Value} (L1 : List HA) {L2 : List HA} (hst : St w0 M w (L1 ++ .blk g T' cs :: L2)) [ht : TyS P T] (hv : cs[off]? = some v) :
    (loadVarH T ⟨g, off, none⟩).run P w = .ok v w := Loads.at L1 hst hv
theorem ldO {w0 w : World} {L : List HA} {T : TypeId} {A : Addr} {v : Value} (hst : St w0 [] w L) [ht : TyS P T] (h : w0.cell? A = some v) : (loadVarH T A).run P w = .ok v w := Loads.old hst h
theorem tkH {P : Program} {ops : Array Oper} {Q : Exit → Act → World → Prop} {md : Region.Mode} {S : World → Prop} {op : Op} {ty : TypeId} {pos : String} {af : Array Edge} {g : Option (Nat × Bool)} {fuel : Nat} {listed : Array Bool} {a : Act} {w : World} (i s : Nat) (v : Value) (hi : ops[i]? = some ⟨some s, op, ty, pos, af, g⟩) (hb : (Region.noSelect ops && (Region.free md ops listed i && (Region.ready md ops listed).contains i)) = true)
    (hQ : ∀ c a w, Q (.panic c) (a.put (some s) v) w → Q (.panic c) a w) (hw : Region.wanted ⟨some s, op, ty, pos, af, g⟩ (yielded ops a.tmps) = true) (hS : S w) (hy : ∀ w, S w → (execOp a.eval ⟨some s, op, ty, pos, af, g⟩).run P w = .ok (.value v) w)
    (h : wpAnyH P md ops Q S fuel (listed.setIfInBounds i true) (a.put (some s) v) w) : wpAnyH P md ops Q S (fuel + 1) listed a w := by
  simp only [Bool.and_eq_true] at hb
  exact wpAnyH_take hi hb.1 hb.2.1 hb.2.2 hQ (Or.inl ⟨hw, hy⟩) hS h
theorem ukH {P : Program} {ops : Array Oper} {Q : Exit → Act → World → Prop} {md : Region.Mode} {S : World → Prop} {op : Op} {ty : TypeId} {pos : String} {af : Array Edge} {g : Option (Nat × Bool)} {fuel : Nat} {listed : Array Bool} {a : Act} {w : World} (i s : Nat) (hi : ops[i]? = some ⟨some s, op, ty, pos, af, g⟩) (hb : (Region.noSelect ops && (Region.free md ops listed i && (Region.ready md ops listed).contains i)) = true)
    (hQ : ∀ c a w, Q (.panic c) (a.put (some s) undef) w → Q (.panic c) a w) (hw : Region.wanted ⟨some s, op, ty, pos, af, g⟩ (yielded ops a.tmps) = false) (hS : S w)
    (h : wpAnyH P md ops Q S fuel (listed.setIfInBounds i true) (a.put (some s) undef) w) : wpAnyH P md ops Q S (fuel + 1) listed a w := by
  simp only [Bool.and_eq_true] at hb
  exact wpAnyH_take hi hb.1 hb.2.1 hb.2.2 hQ (Or.inr ⟨hw, rfl⟩) hS h
theorem pmL (l : List Value) (ds : List Deferred) (k : Nat) (v : Value) : Act.put ⟨l.toArray, ds⟩ (some k) v = ⟨(l.set k v).toArray, ds⟩ := by simp only [Act.put, List.setIfInBounds_toArray]
theorem pnL (a : Act) (v : Value) : Act.put a none v = a := rfl
theorem sc0 {α : Type} (a b : α) (l : List α) : (a :: l).set 0 b = b :: l := rfl
theorem sc1 {α : Type} (a b : α) (l : List α) (k : Nat) : (a :: l).set (k + 1) b = a :: l.set k b := rfl
end Hp
end Go.Proofs.YtmdfbdfijnmhkaaGreat
