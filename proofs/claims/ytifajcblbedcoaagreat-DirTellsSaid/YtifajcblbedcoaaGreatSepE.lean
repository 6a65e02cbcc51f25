import Derived.Test.YtifajcblbedcoaaGreatSepX
namespace Go.Proofs.YtifajcblbedcoaaGreat
set_option linter.unusedVariables false
set_option linter.unusedSimpArgs false
open Go.RowKit
namespace Hp
variable {P : Program}
def intsV (q : IntKind) (l : List Int) : List Value := l.map (.int q)
section
variable {ops : Array Oper} {rest : List Oper} {o : Oper} {a : Act} {w : World} {Q : Exit → Act → World → Prop}
end
end Hp
end Go.Proofs.YtifajcblbedcoaaGreat
