import Derived.Test.YtalfdcfcaamnbaaOTy
import Derived.Test.YtalfdcfcaamnbaaO3
import Derived.Test.YtalfdcfcaamnbaaF16
namespace Go.Proofs.Ytalfdcfcaamnbaa
set_option linter.unusedVariables false
set_option linter.unusedSimpArgs false
open Go.RowKit Hp
attribute [local irreducible] Go.Calls Go.wpList
set_option maxRecDepth 100000
set_option maxHeartbeats 4000000
def ptrV (g : Nat) : Value := .pointer (some ⟨g, 0, none⟩)
def cloV (fn : Nat) (cap : List Value) : Value := .func (.func fn) #[] cap.toArray
/-- The closures of a part, as the walk asks for them. -/
@[go_sem ↓] theorem fieldPart0 (v0 v1 : Value) (w : World) : (Instr.field 89 (.agg #[v0, v1]) 0).run Try.prog w = .ok v0 w := by
  unfold Instr.field
  rw [Sem.run_bind, run_underlying Try.underlying89 w]
  kernel_rfl
@[go_sem ↓] theorem fieldPart1 (v0 v1 : Value) (w : World) : (Instr.field 89 (.agg #[v0, v1]) 1).run Try.prog w = .ok v1 w := by
  unfold Instr.field
  rw [Sem.run_bind, run_underlying Try.underlying89 w]
  kernel_rfl
theorem num_any (A : Addr) (size low high : Int) (w : World) : Calls Try.prog 56 #[.pointer (some A), .int .i64 size, .int .i64 low, .int .i64 high] w fun e w' => ∃ gn gz gl gh, e = .returned (.agg (List.toArray [cloV 72 [ptrV gn, ptrV gz], cloV 74 [ptrV gz, ptrV gl, ptrV gh, ptrV gn]])) ∧ St w [] w' [.blk gh 3 [.int .i64 high], .blk gl 3 [.int .i64 low], .blk gz 3 [.int .i64 size], .blk gn 83 [.pointer (some A)]] := by
  have hmf : ∀ (fn : Fn) (first cap : Array Value) (w : World), (Instr.makeFunc fn first cap).run Try.prog w = .ok (.func fn first cap) w := fun _ _ _ _ => rfl
  have hst := St.refl w
  go_enter Try.func56, Try.ntmps56
  go_wp2_with (first | go_big_skip | go_big_guard | (refine wl_box hst rfl rfl rfl ?_; intro gn w1 hst1; clear hst) | (refine wl_box hst1 rfl rfl rfl ?_; intro gz w2 hst2; clear hst1) | (refine wl_box hst2 rfl rfl rfl ?_; intro gl w3 hst3; clear hst2) | (refine wl_box hst3 rfl rfl rfl ?_; intro gh w4 hst4; clear hst3) | (refine wl_alloc hst4 rfl rfl ?_; intro gp w8 hst8; clear hst4) | (refine wl_buildX (cs := [cloV 72 [ptrV gn, ptrV gz], cloV 74 [ptrV gz, ptrV gl, ptrV gh, ptrV gn]]) [(0, _), (1, _)] rfl rfl (by exact rfl) (by kernel_rfl) ?_) | (refine wl_storeA [] hst8 rfl rfl rfl rfl rfl rfl rfl ?_; intro w9 hst9; clear hst8))
  refine bodyPost_ret (results_cellL rfl rfl (Loads.whole (T := 89) [] hst9 rfl)) rfl ⟨gn, gz, gl, gh, rfl, St.sub hst9 (.cons _ (List.Sublist.refl _))⟩
theorem text_any (A : Addr) (w : World) : Calls Try.prog 57 #[.pointer (some A)] w fun e w' => ∃ gn, e = .returned (.agg (List.toArray [cloV 76 [ptrV gn], cloV 78 [ptrV gn]])) ∧ St w [] w' [.blk gn 92 [.pointer (some A)]] := by
  have hmf : ∀ (fn : Fn) (first cap : Array Value) (w : World), (Instr.makeFunc fn first cap).run Try.prog w = .ok (.func fn first cap) w := fun _ _ _ _ => rfl
  have hst := St.refl w
  go_enter Try.func57, Try.ntmps57
  go_wp2_with (first | go_big_skip | go_big_guard | (refine wl_box hst rfl rfl rfl ?_; intro gn w1 hst1; clear hst) | (refine wl_alloc hst1 rfl rfl ?_; intro gp w8 hst8; clear hst1) | (refine wl_buildX (cs := [cloV 76 [ptrV gn], cloV 78 [ptrV gn]]) [(0, _), (1, _)] rfl rfl (by exact rfl) (by kernel_rfl) ?_) | (refine wl_storeA [] hst8 rfl rfl rfl rfl rfl rfl rfl ?_; intro w9 hst9; clear hst8))
  refine bodyPost_ret (results_cellL rfl rfl (Loads.whole (T := 89) [] hst9 rfl)) rfl ⟨gn, rfl, St.sub hst9 (.cons _ (List.Sublist.refl _))⟩
theorem raw_any (A : Addr) (w : World) : Calls Try.prog 59 #[.pointer (some A)] w fun e w' => ∃ gn, e = .returned (.agg (List.toArray [cloV 82 [ptrV gn], cloV 84 [ptrV gn]])) ∧ St w [] w' [.blk gn 96 [.pointer (some A)]] := by
  have hmf : ∀ (fn : Fn) (first cap : Array Value) (w : World), (Instr.makeFunc fn first cap).run Try.prog w = .ok (.func fn first cap) w := fun _ _ _ _ => rfl
  have hst := St.refl w
  go_enter Try.func59, Try.ntmps59
  go_wp2_with (first | go_big_skip | go_big_guard | (refine wl_box hst rfl rfl rfl ?_; intro gn w1 hst1; clear hst) | (refine wl_alloc hst1 rfl rfl ?_; intro gp w8 hst8; clear hst1) | (refine wl_buildX (cs := [cloV 82 [ptrV gn], cloV 84 [ptrV gn]]) [(0, _), (1, _)] rfl rfl (by exact rfl) (by kernel_rfl) ?_) | (refine wl_storeA [] hst8 rfl rfl rfl rfl rfl rfl rfl ?_; intro w9 hst9; clear hst8))
  refine bodyPost_ret (results_cellL rfl rfl (Loads.whole (T := 89) [] hst9 rfl)) rfl ⟨gn, rfl, St.sub hst9 (.cons _ (List.Sublist.refl _))⟩
theorem listS_any (A : Addr) (size most : Int) (f : Nat) (w : World) : Calls Try.prog 58 #[.pointer (some A), .int .i64 size, .int .i64 most, .func (.func f) #[] #[]] w fun e w' => ∃ gn gz gm gf, e = .returned (.agg (List.toArray [cloV 80 [ptrV gn, ptrV gz, ptrV gf], cloV 81 [ptrV gz, ptrV gm, ptrV gf, ptrV gn]])) ∧ St w [] w' [.blk gf 91 [.func (.func f) #[] #[]], .blk gm 3 [.int .i64 most], .blk gz 3 [.int .i64 size], .blk gn 94 [.pointer (some A)]] := by
  have hmf : ∀ (fn : Fn) (first cap : Array Value) (w : World), (Instr.makeFunc fn first cap).run Try.prog w = .ok (.func fn first cap) w := fun _ _ _ _ => rfl
  have hst := St.refl w
  go_enter Try.func58, Try.ntmps58
  go_wp2_with (first | go_big_skip | go_big_guard | (refine wl_box hst rfl rfl rfl ?_; intro gn w1 hst1; clear hst) | (refine wl_box hst1 rfl rfl rfl ?_; intro gz w2 hst2; clear hst1) | (refine wl_box hst2 rfl rfl rfl ?_; intro gm w3 hst3; clear hst2) | (refine wl_box hst3 rfl rfl rfl ?_; intro gf w4 hst4; clear hst3) | (refine wl_alloc hst4 rfl rfl ?_; intro gp w8 hst8; clear hst4) | (refine wl_buildX (cs := [cloV 80 [ptrV gn, ptrV gz, ptrV gf], cloV 81 [ptrV gz, ptrV gm, ptrV gf, ptrV gn]]) [(0, _), (1, _)] rfl rfl (by exact rfl) (by kernel_rfl) ?_) | (refine wl_storeA [] hst8 rfl rfl rfl rfl rfl rfl rfl ?_; intro w9 hst9; clear hst8))
  refine bodyPost_ret (results_cellL rfl rfl (Loads.whole (T := 89) [] hst9 rfl)) rfl ⟨gn, gz, gm, gf, rfl, St.sub hst9 (.cons _ (List.Sublist.refl _))⟩
theorem listI_any (A : Addr) (size most : Int) (f : Nat) (w : World) : Calls Try.prog 69 #[.pointer (some A), .int .i64 size, .int .i64 most, .func (.func f) #[] #[]] w fun e w' => ∃ gn gz gm gf, e = .returned (.agg (List.toArray [cloV 88 [ptrV gn, ptrV gz, ptrV gf], cloV 89 [ptrV gz, ptrV gm, ptrV gf, ptrV gn]])) ∧ St w [] w' [.blk gf 107 [.func (.func f) #[] #[]], .blk gm 3 [.int .i64 most], .blk gz 3 [.int .i64 size], .blk gn 106 [.pointer (some A)]] := by
  have hmf : ∀ (fn : Fn) (first cap : Array Value) (w : World), (Instr.makeFunc fn first cap).run Try.prog w = .ok (.func fn first cap) w := fun _ _ _ _ => rfl
  have hst := St.refl w
  go_enter Try.func69, Try.ntmps69
  go_wp2_with (first | go_big_skip | go_big_guard | (refine wl_box hst rfl rfl rfl ?_; intro gn w1 hst1; clear hst) | (refine wl_box hst1 rfl rfl rfl ?_; intro gz w2 hst2; clear hst1) | (refine wl_box hst2 rfl rfl rfl ?_; intro gm w3 hst3; clear hst2) | (refine wl_box hst3 rfl rfl rfl ?_; intro gf w4 hst4; clear hst3) | (refine wl_alloc hst4 rfl rfl ?_; intro gp w8 hst8; clear hst4) | (refine wl_buildX (cs := [cloV 88 [ptrV gn, ptrV gz, ptrV gf], cloV 89 [ptrV gz, ptrV gm, ptrV gf, ptrV gn]]) [(0, _), (1, _)] rfl rfl (by exact rfl) (by kernel_rfl) ?_) | (refine wl_storeA [] hst8 rfl rfl rfl rfl rfl rfl rfl ?_; intro w9 hst9; clear hst8))
  refine bodyPost_ret (results_cellL rfl rfl (Loads.whole (T := 89) [] hst9 rfl)) rfl ⟨gn, gz, gm, gf, rfl, St.sub hst9 (.cons _ (List.Sublist.refl _))⟩
theorem wide_any (A : Addr) (w : World) : Calls Try.prog 70 #[.pointer (some A)] w fun e w' => ∃ gn gz gl gh, e = .returned (.agg (List.toArray [cloV 72 [ptrV gn, ptrV gz], cloV 74 [ptrV gz, ptrV gl, ptrV gh, ptrV gn]])) ∧ St w [] w' [.blk gh 3 [.int .i64 1099511627775], .blk gl 3 [.int .i64 0], .blk gz 3 [.int .i64 5], .blk gn 83 [.pointer (some A)]] := by
  have hst := St.refl w
  go_enter Try.func70, Try.ntmps70
  go_wp2_with (first | go_big_skip | go_big_guard | (refine wl_alloc hst rfl rfl ?_; intro gp w8 hst8; clear hst) | (go_at_call 56; refine (num_any A 5 0 1099511627775 _).mono ?_; rintro _ w9 ⟨gn, gz, gl, gh, rfl, h4⟩; have hst9 := St.call hst8 h4; clear h4 hst8) | (refine wl_storeA [_, _, _, _] hst9 rfl rfl rfl rfl rfl rfl rfl ?_; intro w10 hst10; clear hst9))
  refine bodyPost_ret (results_cellL rfl rfl (Loads.whole (T := 89) [_, _, _, _] hst10 rfl)) rfl ⟨gn, gz, gl, gh, rfl, St.sub hst10 (.cons_cons _ (.cons_cons _ (.cons_cons _ (.cons_cons _ (.cons _ (List.Sublist.refl _))))))⟩
end Go.Proofs.Ytalfdcfcaamnbaa
