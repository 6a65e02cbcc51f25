import Derived.Test.YtlgioloanjjndaaF30
import Derived.Test.YtlgioloanjjndaaF22
namespace Go.Proofs.Ytlgioloanjjndaa
open Go.RowKit Hp
attribute [local irreducible] Go.Calls
set_option maxRecDepth 100000
set_option maxHeartbeats 4000000
theorem reads_big (ao : Option Addr) (n c : Nat) (al : Option Addr) (nl cl : Nat) (w : World) (hn : n ≤ 9223372036854775807) (hnl : nl ≤ 9223372036854775807) (hb : 1000 < n ∨ 60 < nl) :
    Calls Try.prog 6 #[.slice ao n c, .slice al nl cl] w fun e w' => e = .returned (.bool true) ∧ St w [] w' [] := by
  have hst := St.refl w
  by_cases h1 : 1000 < n
  · have d1 : decide (1000 < (n : Int)) = true := decide_eq_true (by omega)
    go_enter Try.func6, Try.ntmps6
    go_wp2_with (first | go_big_skip | go_big_guard | (go_at_call 12; refine (awake_any _).mono ?_; rintro _ _ ⟨rfl, h4⟩; have hfin := St.call0 hst h4; clear h4 hst))
    go_ret
    exact ⟨rfl, hfin⟩
  · have d1 : decide (1000 < (n : Int)) = false := decide_eq_false (by omega)
    have d2 : decide (60 < (nl : Int)) = true := decide_eq_true (by omega)
    go_enter Try.func6, Try.ntmps6
    go_wp2_with (first | go_big_skip | go_big_guard | (go_at_call 12; refine (awake_any _).mono ?_; rintro _ _ ⟨rfl, h4⟩; have hfin := St.call0 hst h4; clear h4 hst))
    go_ret
    exact ⟨rfl, hfin⟩
end Go.Proofs.Ytlgioloanjjndaa
