import Derived.Test.YtilgjldnlgfehaaHTy
import Derived.Test.YtilgjldnlgfehaaHW
import Derived.Test.YtilgjldnlgfehaaSepN
namespace Go.Proofs.Ytilgjldnlgfehaa
set_option linter.unusedVariables false
set_option linter.unusedSimpArgs false
open Go.RowKit Hp
attribute [local irreducible] Go.Calls
set_option maxHeartbeats 2000000
set_option maxRecDepth 100000
theorem results_cellTmp {fn : Func} {p q : Tmp} {ty : TypeId} {tmps : Array Value} {P : Program} {w : World} {A : Addr} {v : Value} (h : fn.results = #[.cell p ty, .tmp q]) (hp : tmps.getD p undef = .pointer (some A)) (hl : Loads P w ty A v) :
    (results fn tmps).run P w = .ok (.tuple #[v, tmps.getD q undef]) w := by
  have hl' : (loadVar ty A).run P w = .ok v w := hl
  have hp' : tmps[p]?.getD undef = .pointer (some A) := by simpa using hp
  simp [results, h, hp', asAddr, hl', Sem.run_bind]
theorem rot_and (z : Int) (n : Nat) (h0 : 0 < n) (h32 : n < 32) : bits .and .u64 (IntKind.u64.wrap (-(n : Int))) 31 = ((32 - n : Nat) : Int) := and31 n h32 h0
theorem right_any (x : Wd) (n : Nat) (w : World) (h0 : 0 < n) (h32 : n < 32) : Calls Try.prog 47 #[.int .u32 (wI x), .int .i64 (n : Int)] w fun e w' => e = .returned (.int .u32 (wI (rotr x n))) ∧ w = w' := by
  obtain ⟨m, hm⟩ : ∃ m, m = 32 - n := ⟨_, rfl⟩
  have h1 : bits .and .u64 (IntKind.u64.wrap (IntKind.i64.wrap (-(n : Int)))) 31 = (m : Int) := by
    have : IntKind.i64.wrap (-(n : Int)) = -(n : Int) := IntWalk.i64_in _ (by omega)
    rw [this, hm]
    exact and31 n h32 h0
  have h1b : bits .and .u64 (IntKind.u64.wrap (-(n : Int))) 31 = (m : Int) := by rw [hm]; exact and31 n h32 h0
  have h2 : IntKind.u64.wrap (32 - (m : Int)) = (n : Int) := by
    show (32 - (m : Int)) % 18446744073709551616 = _
    omega
  have e1 : ∀ T, binOp .shl T (.int .u32 (wI x)) (.int .u64 (m : Int)) = pure (.int .u32 (wI (x <<< m))) := fun T => shlN T x .u64 m (by omega)
  have e2 : ∀ T, binOp .shr T (.int .u32 (wI x)) (.int .u64 (n : Int)) = pure (.int .u32 (wI (x >>> n))) := fun T => shrN T x .u64 n (by omega)
  have e3 : ∀ T, binOp .or T (.int .u32 (wI (x <<< m))) (.int .u32 (wI (x >>> n))) = pure (.int .u32 (wI (x <<< m ||| x >>> n))) := fun T => or32 T _ _
  have Hr := hid (show x <<< m ||| x >>> n = rotr x n by rw [hm, rotr, BitVec.or_comm])
  clear hm
  go_enter Try.func47, Try.ntmps47
  go_wp2
  go_ret
  rw [Hr.out]
  exact ⟨rfl, rfl⟩
theorem keys_any (w : World) : Calls Try.prog 46 #[] w fun e w' => e = .returned (.agg (wordsV kT).toArray) ∧ St w [] w' [] := by
  have hst := St.refl w
  go_enter Try.func46, Try.ntmps46
  go_wp2_with (first | go_big_skip | go_big_guard | (refine wl_alloc hst rfl rfl ?_; intro g _ hst1; clear hst) | (refine wl_buildS (cs := wordsV kT) rfl rfl (by kernel_rfl) ?_) | (refine wl_storeA [] hst1 rfl rfl rfl rfl rfl rfl rfl ?_; intro _ hst2; clear hst1))
  have hl := Loads.atA (P := Try.prog) (off := 0) (T := 60) (wordsV kT) [] hst2 rfl rfl
  refine bodyPost_ret (results_cellL rfl rfl hl) rfl ⟨rfl, hst2.nil⟩
theorem table_any (w : World) : Calls Try.prog 37 #[] w fun e w' => e = .returned (.agg (wordsV kT).toArray) ∧ St w [] w' [] := by
  have hst := St.refl w
  go_enter Try.func37, Try.ntmps37
  go_wp2_with (first | go_big_skip | go_big_guard | (refine wl_alloc hst rfl rfl ?_; intro g _ hst1; clear hst) | (refine wl_buildS (cs := wordsV kT) rfl rfl (by kernel_rfl) ?_) | (refine wl_storeA [] hst1 rfl rfl rfl rfl rfl rfl rfl ?_; intro _ hst2; clear hst1))
  have hl := Loads.atA (P := Try.prog) (off := 0) (T := 60) (wordsV kT) [] hst2 rfl rfl
  refine bodyPost_ret (results_cellL rfl rfl hl) rfl ⟨rfl, hst2.nil⟩
end Go.Proofs.Ytilgjldnlgfehaa
