import Derived.Test.YtalfdcfcaamnbaaF13
import Derived.Recover
import Derived.Defers
namespace Go.Proofs.Ytalfdcfcaamnbaa
set_option linter.unusedVariables false
set_option linter.unusedSimpArgs false
open Go.RowKit Hp
attribute [local irreducible] Go.Calls
set_option maxHeartbeats 1000000
@[local go_sem] theorem assert_stop (v : Value) (w : World) : (Instr.typeAssert (.iface 115 v) 20 115 true).run Try.prog w = .ok (.tuple #[v, .bool true]) w := by kernel_rfl
theorem rcatch_idle (p : Addr) (w : World) :
    CallsD Try.prog 100 #[.pointer (some p)] .returning w fun e u' w' => e = .returned (.tuple #[]) ∧ u' = .returning ∧ w' = w := by
  refine callsD_of_wpS Try.func100 rfl fun c₀ cs hu => ?_
  apply wpS_seq
  apply wpS_region
  generalize hQ : Exit.thenS _ _ = Q
  simp [wpOpsS, go_sem, recoverD, hu, Try.ntmps100]
  subst hQ
  show Code.wpS _ _ _ _ _ _
  refine wpS_of_wp ?_
  change Code.wp _ _ _ { tmps := #[.pointer (some p), undef, undef, undef, .nilIface, undef, undef, undef, undef, undef, undef, undef, undef, undef], defers := [] } _
  cases c₀
  go_wp2
  simp_all [bodyPostS, results, Try.results100]
theorem rcatch_stop (M : List Nat) (q g : Nat) (f a : Int) (bv : Value) (B : List UInt8) (s : RS) (X : List HA) (w0 w : World) (older : List PanicEntry) (hst : St w0 M w (.blk q 99 [.pointer (some ⟨g, 0, none⟩)] :: rL g bv B s X)) :
    CallsD Try.prog 100 #[.pointer (some ⟨q, 0, none⟩)] (.panicking ({ v := .iface 115 (.agg #[.int .i64 f, .int .i64 a]), recovered := false } :: older)) w fun e' u' w' =>
      e' = .returned (.tuple #[]) ∧ u' = .panicking ({ v := .iface 115 (.agg #[.int .i64 f, .int .i64 a]), recovered := true } :: older) ∧ St w0 M w' (.blk q 99 [.pointer (some ⟨g, 0, none⟩)] :: rL g bv B ⟨s.pos, f, a⟩ X) := by
  refine callsD_of_wpS Try.func100 rfl fun c₀ cs hu => ?_
  apply wpS_seq
  apply wpS_region
  generalize hQ : Exit.thenS _ _ = Q
  simp [wpOpsS, go_sem, recoverD, hu, Try.ntmps100]
  subst hQ
  show Code.wpS _ _ _ _ _ _
  refine wpS_of_wp ?_
  change Code.wp _ _ _ { tmps := #[.pointer (some ⟨q, 0, none⟩), undef, undef, undef, .iface 115 (.agg #[.int .i64 f, .int .i64 a]), undef, undef, undef, undef, undef, undef, undef, undef, undef], defers := [] } _
  have hst1 : St w0 M w (.blk q 99 [.pointer (some ⟨g, 0, none⟩)] :: .blk g 111 [.bool true, bv, .int .i64 s.pos, .int .i64 s.e, .int .i64 s.fa] :: .rowP isB bv 5 1 B.length (bytesV B) :: X) := hst
  clear hst
  go_wp2_with (first | go_big_skip | go_big_guard | (refine wl_loadE rfl rfl rfl ?_; first | refine ⟨_, Loads.at [_] hst3 rfl, ?_⟩ | refine ⟨_, Loads.atA ([.int .i64 f, .int .i64 a]) [] hst3 (rfl) (rfl), ?_⟩) | (refine wl_alloc hst1 rfl rfl ?_; intro g2 _ hst2; clear hst1) | (refine wl_storeA [] hst2 rfl rfl rfl rfl rfl rfl rfl ?_; intro _ hst3; clear hst2) | (refine wl_store [_, _] hst3 rfl rfl rfl (v := .agg (List.toArray [.int .i64 f, .int .i64 a])) rfl rfl rfl (by show (5 : Nat) ≤ 5; decide) ?_; intro w5 hst4; clear hst3))
  show bodyPostS _ _ _ _ _ Exit.normal _ _ _
  refine ⟨rfl, _, rfl, .tuple #[], results_none rfl _ _ _, rfl, rfl, ?_⟩
  exact St.sub (L := _ :: _ :: _ :: _ :: X) hst4 (.cons _ (List.Sublist.refl _))
end Go.Proofs.Ytalfdcfcaamnbaa
