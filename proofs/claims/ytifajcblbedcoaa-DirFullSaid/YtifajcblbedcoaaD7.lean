/- May a cursor be. -/
import Derived.Test.YtifajcblbedcoaaD6
namespace Go.Proofs.Ytifajcblbedcoaa
set_option linter.unusedVariables false
set_option linter.unusedSimpArgs false
open Go.RowKit Hp
attribute [local irreducible] Go.Calls
set_option maxRecDepth 100000
set_option maxHeartbeats 4000000
theorem cursored_any (t : TC) (rv : Value) (al : Option Addr) (nl cl : Nat) (hn : t.lives.length = nl) (hb : nl ≤ 1000000) (w : World) :
    Calls Try.prog 75 #[.agg (tabC t rv (.slice al nl cl)).toArray] w fun e w' => e = .returned (.bool t.curB) ∧ St w [] w' [] := by
  have hst0 := St.refl w
  have hq : t.curB = (([t.kind, t.dev, t.at_, t.txg] == [0, 0, 0, 0]) || ((inB t.at_ 0 2147483647 && inB t.txg 1 2147483648) && (((t.kind == 1) && (t.dev == 0)) || ((t.kind == 2) && inB t.dev 0 ((nl : Int) - 1))))) := by rw [← hn]; rfl
  rw [hq]
  clear hq hn
  have z1 : IntKind.i64.wrap ((nl : Int) - 1) = (nl : Int) - 1 := IntWalk.i64_in _ (by omega)
  have z2 : (nl : Int) + (-1) = (nl : Int) - 1 := by omega
  cases h0 : ([t.kind, t.dev, t.at_, t.txg] == [0, 0, 0, 0])
  · skip
    cases h1 : inB t.at_ 0 2147483647
    · skip
      go_enter Try.func75, Try.ntmps75
      go_wp2_with (first | go_big_skip | go_big_guard | (refine wl_boxA hst0 rfl rfl rfl ?_; intro g1 w1 hst1; clear hst0) | (refine wl_loadE rfl rfl rfl ?_; first | refine ⟨_, Loads.atA [.int .i64 t.kind, .int .i64 t.dev, .int .i64 t.at_, .int .i64 t.txg] [] hst1 rfl rfl, ?_⟩) | (refine wl_alloc hst1 rfl rfl ?_; intro g2 _ hst2; clear hst1) | (refine wl_storeA [] hst2 rfl rfl rfl rfl rfl rfl rfl ?_; intro w6 hst; clear hst2) | (refine wl_loadE rfl rfl rfl ?_; first | refine ⟨_, Loads.atA [.int .i64 t.kind, .int .i64 t.dev, .int .i64 t.at_, .int .i64 t.txg] [] hst rfl rfl, ?_⟩ | refine ⟨_, Loads.at [] hst rfl, ?_⟩ | refine ⟨_, Loads.at [_] hst rfl, ?_⟩) | (refine wl_build0 rfl rfl ?_) | (go_at_call 74; refine (within_any _ _ _ _).mono ?_; rintro _ w9 ⟨rfl, h4⟩; replace hst := St.call0 hst h4; clear h4))
      all_goals go_ret
      all_goals exact ⟨rfl, hst.nil⟩
    · cases h2 : inB t.txg 1 2147483648
      · skip
        go_enter Try.func75, Try.ntmps75
        go_wp2_with (first | go_big_skip | go_big_guard | (refine wl_boxA hst0 rfl rfl rfl ?_; intro g1 w1 hst1; clear hst0) | (refine wl_loadE rfl rfl rfl ?_; first | refine ⟨_, Loads.atA [.int .i64 t.kind, .int .i64 t.dev, .int .i64 t.at_, .int .i64 t.txg] [] hst1 rfl rfl, ?_⟩) | (refine wl_alloc hst1 rfl rfl ?_; intro g2 _ hst2; clear hst1) | (refine wl_storeA [] hst2 rfl rfl rfl rfl rfl rfl rfl ?_; intro w6 hst; clear hst2) | (refine wl_loadE rfl rfl rfl ?_; first | refine ⟨_, Loads.atA [.int .i64 t.kind, .int .i64 t.dev, .int .i64 t.at_, .int .i64 t.txg] [] hst rfl rfl, ?_⟩ | refine ⟨_, Loads.at [] hst rfl, ?_⟩ | refine ⟨_, Loads.at [_] hst rfl, ?_⟩) | (refine wl_build0 rfl rfl ?_) | (go_at_call 74; refine (within_any _ _ _ _).mono ?_; rintro _ w9 ⟨rfl, h4⟩; replace hst := St.call0 hst h4; clear h4))
        all_goals go_ret
        all_goals exact ⟨rfl, hst.nil⟩
      · cases h3 : (t.kind == 1) <;> cases h4 : (t.dev == 0) <;> cases h5 : (t.kind == 2)
        all_goals
          go_enter Try.func75, Try.ntmps75
          go_wp2_with (first | go_big_skip | go_big_guard | (refine wl_boxA hst0 rfl rfl rfl ?_; intro g1 w1 hst1; clear hst0) | (refine wl_loadE rfl rfl rfl ?_; first | refine ⟨_, Loads.atA [.int .i64 t.kind, .int .i64 t.dev, .int .i64 t.at_, .int .i64 t.txg] [] hst1 rfl rfl, ?_⟩) | (refine wl_alloc hst1 rfl rfl ?_; intro g2 _ hst2; clear hst1) | (refine wl_storeA [] hst2 rfl rfl rfl rfl rfl rfl rfl ?_; intro w6 hst; clear hst2) | (refine wl_loadE rfl rfl rfl ?_; first | refine ⟨_, Loads.atA [.int .i64 t.kind, .int .i64 t.dev, .int .i64 t.at_, .int .i64 t.txg] [] hst rfl rfl, ?_⟩ | refine ⟨_, Loads.at [] hst rfl, ?_⟩ | refine ⟨_, Loads.at [_] hst rfl, ?_⟩) | (refine wl_build0 rfl rfl ?_) | (go_at_call 74; refine (within_any _ _ _ _).mono ?_; rintro _ w9 ⟨rfl, h4⟩; replace hst := St.call0 hst h4; clear h4))
          all_goals go_ret
          all_goals exact ⟨rfl, hst.nil⟩
  · skip
    go_enter Try.func75, Try.ntmps75
    go_wp2_with (first | go_big_skip | go_big_guard | (refine wl_boxA hst0 rfl rfl rfl ?_; intro g1 w1 hst1; clear hst0) | (refine wl_loadE rfl rfl rfl ?_; first | refine ⟨_, Loads.atA [.int .i64 t.kind, .int .i64 t.dev, .int .i64 t.at_, .int .i64 t.txg] [] hst1 rfl rfl, ?_⟩) | (refine wl_alloc hst1 rfl rfl ?_; intro g2 _ hst2; clear hst1) | (refine wl_storeA [] hst2 rfl rfl rfl rfl rfl rfl rfl ?_; intro w6 hst; clear hst2) | (refine wl_loadE rfl rfl rfl ?_; first | refine ⟨_, Loads.atA [.int .i64 t.kind, .int .i64 t.dev, .int .i64 t.at_, .int .i64 t.txg] [] hst rfl rfl, ?_⟩ | refine ⟨_, Loads.at [] hst rfl, ?_⟩ | refine ⟨_, Loads.at [_] hst rfl, ?_⟩) | (refine wl_build0 rfl rfl ?_) | (go_at_call 74; refine (within_any _ _ _ _).mono ?_; rintro _ w9 ⟨rfl, h4⟩; replace hst := St.call0 hst h4; clear h4))
    all_goals go_ret
    all_goals exact ⟨rfl, hst.nil⟩
end Go.Proofs.Ytifajcblbedcoaa
