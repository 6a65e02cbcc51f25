import Derived.Test.YtmdfbdfijnmhkaaGreatR23
import Derived.Test.YtmdfbdfijnmhkaaGreatKB
namespace Go.Proofs.YtmdfbdfijnmhkaaGreat
set_option linter.unusedVariables false
set_option linter.unusedSimpArgs false
open Go.RowKit Hp
attribute [local irreducible] Go.Calls Go.wpList
set_option maxRecDepth 100000
set_option maxHeartbeats 4000000
theorem crashM_any {w : World} {ga : Nat} {x : GA} {a : AR} (hS : St w (arF ga x a) w (arP ga x a)) (ok : a.Ok) (hll : a.loose.length < 1000000) (kao : Option Addr) (kn kc : Nat) (keep : List Bool) (hr : Rd w (.slice kao kn kc) 1 kn (boolsV keep)) (hn : keep.length = kn) (ho : Off (.slice kao kn kc) (arF ga x a)) (torn : Int) :
    Calls Tryz.prog 53 #[.pointer (some ⟨ga, 0, none⟩), .slice kao kn kc, .int .i64 torn] w fun e w' => e = .returned (.int .i64 (a.crashE torn)) ∧ ∃ x', St w (arF ga x a) w' (arP ga x' (a.crash keep torn)) := by
  cases h1 : (decide (0 ≤ torn) && decide (torn < 256))
  · exact crash_odd hS ok hll kao kn kc keep hr hn ho torn h1
  · simp only [Bool.and_eq_true, decide_eq_true_eq] at h1
    obtain ⟨t, rfl⟩ : ∃ t : Nat, torn = t := ⟨torn.toNat, by omega⟩
    exact crash_fine hS ok hll kao kn kc keep hr hn ho t (by omega)
end Go.Proofs.YtmdfbdfijnmhkaaGreat
