import Derived.Test.YtmdfbdfijnmhkaaGreatSepR
namespace Go.Proofs.YtmdfbdfijnmhkaaGreat
set_option linter.unusedVariables false
set_option linter.unusedSimpArgs false
open Go.RowKit
namespace Hp
variable {P : Program}
def loadVarH (T : TypeId) (A : Addr) : Sem Value := loadVar T A
theorem ldA {w0 w : World} {M : List Nat} {T T' : TypeId} {g off n : Nat} {cs : List Value} (vs : List Value) (L1 : List HA) {L2 : List HA} (hst : St w0 M w (L1 ++ .blk g T' cs :: L2)) [ht : TyA P T n] (hn : vs.length = n) (hv : (cs.drop off).take vs.length = vs) :
    (loadVarH T ⟨g, off, none⟩).run P w = .ok (.agg vs.toArray) w := Loads.atA vs L1 hst hn hv
theorem ldS {w0 w : World} {M : List Nat} {T T' : TypeId} {g off : Nat} {v : Value} {cs : List Value} (L1 : List HA) {L2 : List HA} (hst : St w0 M w (L1 ++ .blk g T' cs :: L2)) [ht : TyS P T] (hv : cs[off]? = some v) :
    (loadVarH T ⟨g, off, none⟩).run P w = .ok v w := Loads.at L1 hst hv
theorem ldO {w0 w : World} {L : List HA} {T : TypeId} {A : Addr} {v : Value} (hst : St w0 [] w L) [ht : TyS P T] (h : w0.cell? A = some v) : (loadVarH T A).run P w = .ok v w := Loads.old hst h
end Hp
end Go.Proofs.YtmdfbdfijnmhkaaGreat
