import Derived.Test.YthjafocnfpphlaaT11
import Derived.Recover
import Derived.Defers
namespace Go.Proofs.Ythjafocnfpphlaa
open Go.RowKit Hp
attribute [local go_sem ↓] Go.wp_at_zero Go.wp_at_succ
attribute [local irreducible] Go.Calls
set_option maxHeartbeats 1000000
@[local go_sem] theorem assert_wrong (v : Value) (w : World) : (Instr.typeAssert (.iface 65 v) 20 65 true).run Try.prog w = .ok (.tuple #[v, .bool true]) w := by kernel_rfl
theorem catch_idle (p q : Addr) (w : World) :
    CallsD Try.prog 50 #[.pointer (some p), .pointer (some q)] .returning w fun e u' w' => e = .returned (.tuple #[]) ∧ u' = .returning ∧ w' = w := by
  refine callsD_of_wpS Try.func50 rfl fun c₀ cs hu => ?_
  apply wpS_seq
  apply wpS_region
  generalize hQ : Exit.thenS _ _ = Q
  simp [wpOpsS, go_sem, recoverD, hu, Try.ntmps50]
  subst hQ
  show Code.wpS _ _ _ _ _ _
  refine wpS_of_wp ?_
  change Code.wp _ _ _ { tmps := #[.pointer (some p), .pointer (some q), .nilIface, undef, undef, .nilIface, undef, undef, undef, undef, undef, undef, undef, undef, undef, undef, undef, undef, undef], defers := [] } _
  cases c₀
  go_wp2
  simp_all [bodyPostS, results, Try.results50]
theorem storedP (A : Addr) (v : Value) : storeVar 29 A v = storeVarH 29 A v := rfl
theorem storedF (A : Addr) (v : Value) : storeVar 32 A v = storeVarH 32 A v := rfl
attribute [local go_sem ↓] storedP storedF
theorem catch_wrong (M : List Nat) (p q : Nat) (e a : Int) (cs0 fs : List Value) (w0 w : World) (L : List HA) (older : List PanicEntry) (hst : St w0 M w (.blk p 29 cs0 :: .blk q 32 fs :: L)) (hp : cs0.length = 35) (hq : fs.length = 2) :
    CallsD Try.prog 50 #[.pointer (some ⟨p, 0, none⟩), .pointer (some ⟨q, 0, none⟩)] (.panicking ({ v := .iface 65 (.agg #[.int .i64 e, .int .i64 a]), recovered := false } :: older)) w fun e' u' w' =>
      e' = .returned (.tuple #[]) ∧ u' = .panicking ({ v := .iface 65 (.agg #[.int .i64 e, .int .i64 a]), recovered := true } :: older) ∧ St w0 M w' (.blk p 29 (ptrCells (.slice none 0 0) 0 0 nones) :: .blk q 32 [.int .i64 e, .int .i64 a] :: L) := by
  refine callsD_of_wpS Try.func50 rfl fun c₀ cs hu => ?_
  apply wpS_seq
  apply wpS_region
  generalize hQ : Exit.thenS _ _ = Q
  simp [wpOpsS, go_sem, recoverD, hu, Try.ntmps50]
  subst hQ
  show Code.wpS _ _ _ _ _ _
  refine wpS_of_wp ?_
  change Code.wp _ _ _ { tmps := #[.pointer (some ⟨p, 0, none⟩), .pointer (some ⟨q, 0, none⟩), .iface 65 (.agg #[.int .i64 e, .int .i64 a]), undef, undef, .iface 65 (.agg #[.int .i64 e, .int .i64 a]), undef, undef, undef, undef, undef, undef, undef, undef, undef, undef, undef, undef, undef], defers := [] } _
  go_wp2_with (first | go_big_skip | go_big_guard | fail)
  have hst1 := (hst.alloc 65 [.int .i64 e, .int .i64 a]).perm (L' := [.blk p 29 _, .blk q 32 fs, .blk w.heap.size 65 [.int .i64 e, .int .i64 a]] ++ L) ((List.Perm.swap _ _ _).trans (List.Perm.cons _ (List.Perm.swap _ _ _)))
  have hst2 := hst1.drew
  have hc0 := hst2.cell (g := w.heap.size) (off := 0) (.tail _ (.tail _ (.head _))) rfl
  have hc1 := hst2.cell (g := w.heap.size) (off := 1) (.tail _ (.tail _ (.head _))) rfl
  have hS : L32 nones := L32.nones
  go_region_held3 (fun w' => w'.cell? ⟨w.heap.size, 0, none⟩ = some (.int .i64 e) ∧ w'.cell? ⟨w.heap.size, 1, none⟩ = some (.int .i64 a))
    (first | go_keep | exact ⟨hst3.cell (.tail _ (.tail _ (.head _))) rfl, hst3.cell (.tail _ (.tail _ (.head _))) rfl⟩ | exact ⟨hst4.cell (.tail _ (.tail _ (.head _))) rfl, hst4.cell (.tail _ (.tail _ (.head _))) rfl⟩)
    (first
      | (rw [stored_row (P := Try.prog) (n := 35) (vs := [.slice none 0 0, .int .i64 0, .int .i64 0, .int .u8 0, .int .u8 0, .int .u8 0, .int .u8 0, .int .u8 0, .int .u8 0, .int .u8 0, .int .u8 0, .int .u8 0, .int .u8 0, .int .u8 0, .int .u8 0, .int .u8 0, .int .u8 0, .int .u8 0, .int .u8 0, .int .u8 0, .int .u8 0, .int .u8 0, .int .u8 0, .int .u8 0, .int .u8 0, .int .u8 0, .int .u8 0, .int .u8 0, .int .u8 0, .int .u8 0, .int .u8 0, .int .u8 0, .int .u8 0, .int .u8 0, .int .u8 0]) [] hst2 inferInstance rfl rfl hp]; have hst3 := St.setRow (L1 := []) hst2 [.slice none 0 0, .int .i64 0, .int .i64 0, .int .u8 0, .int .u8 0, .int .u8 0, .int .u8 0, .int .u8 0, .int .u8 0, .int .u8 0, .int .u8 0, .int .u8 0, .int .u8 0, .int .u8 0, .int .u8 0, .int .u8 0, .int .u8 0, .int .u8 0, .int .u8 0, .int .u8 0, .int .u8 0, .int .u8 0, .int .u8 0, .int .u8 0, .int .u8 0, .int .u8 0, .int .u8 0, .int .u8 0, .int .u8 0, .int .u8 0, .int .u8 0, .int .u8 0, .int .u8 0, .int .u8 0, .int .u8 0]; go_simp)
      | (rw [stored_row (P := Try.prog) (n := 2) (vs := [.int .i64 e, .int .i64 a]) [_] hst3 inferInstance rfl rfl hq]; have hst4 := St.setRow (L1 := [_]) hst3 [.int .i64 e, .int .i64 a]; go_simp))
  show bodyPostS _ _ _ _ _ Exit.normal _ _ _
  refine ⟨rfl, _, rfl, .tuple #[], results_none rfl _ _ _, rfl, rfl, ?_⟩
  exact St.sub (L := _ :: _ :: _ :: L) hst4 (.cons_cons _ (.cons_cons _ (.cons _ (List.Sublist.refl _))))
end Go.Proofs.Ythjafocnfpphlaa
