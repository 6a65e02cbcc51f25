import Derived.Test.YtmdfbdfijnmhkaaRTy
import Derived.LaidEql
import Derived.Stop.Asserts
import Derived.Lib.IfaceEq
import Derived.RowKitTokens
namespace Go.Proofs.Ytmdfbdfijnmhkaa
set_option linter.unusedVariables false
set_option linter.unusedSimpArgs false
open Go.RowKit Go.Extern.Stop Go.Stop Go.Extern Hp
attribute [local irreducible] Go.Calls
set_option maxRecDepth 100000
set_option maxHeartbeats 4000000
theorem isTypeOf (v : Value) (w : World) : (Extern.ReflectliteType.typeOf #[.iface 39 v]).run Try.prog w = .ok (.iface 166 (.agg #[.pointer (some ⟨0, 39, none⟩)])) w := by kernel_rfl
def rlComparable : Array Value → Sem Value := Extern.ReflectliteType.method fun t => do Extern.Rtype.noPackHeld "Comparable" t; pure (.bool (← typeInfo t).comparable)
theorem isComparable (w : World) : (rlComparable #[.agg #[.pointer (some ⟨0, 39, none⟩)]]).run Try.prog w = .ok (.bool true) w := by kernel_rfl
theorem isMethodComparable (v : Value) (w : World) : (Go.method 309 166 v "Comparable").run Try.prog w = .ok (112, v) w := by kernel_rfl
theorem methodUnwrap (v : Value) (w : World) : (Go.method 309 151 v "Unwrap").run Try.prog w = .ok (107, v) w := by kernel_rfl
theorem noIsR (v : Value) (xT : TypeId) (w : World) : (Instr.typeAssert (.iface 151 v) xT 168 true).run Try.prog w = .ok (.tuple #[.nilIface, .bool false]) w := run_typeAssert_lacksB Try.underlying168 (by kernel_rfl) (by kernel_rfl) v xT w
theorem noIsE (v : Value) (xT : TypeId) (w : World) : (Instr.typeAssert (.iface 39 v) xT 168 true).run Try.prog w = .ok (.tuple #[.nilIface, .bool false]) w := run_typeAssert_lacksB Try.underlying168 (by kernel_rfl) (by kernel_rfl) v xT w
theorem hasUnwrapR (v : Value) (xT : TypeId) (w : World) : (Instr.typeAssert (.iface 151 v) xT 171 true).run Try.prog w = .ok (.tuple #[.iface 151 v, .bool true]) w := run_typeAssert_hasB Try.underlying171 (by kernel_rfl) v xT w
theorem noUnwrapE (v : Value) (xT : TypeId) (w : World) : (Instr.typeAssert (.iface 39 v) xT 171 true).run Try.prog w = .ok (.tuple #[.nilIface, .bool false]) w := run_typeAssert_lacksB Try.underlying171 (by kernel_rfl) (by kernel_rfl) v xT w
theorem noUnwrapsE (v : Value) (xT : TypeId) (w : World) : (Instr.typeAssert (.iface 39 v) xT 173 true).run Try.prog w = .ok (.tuple #[.nilIface, .bool false]) w := run_typeAssert_lacksB Try.underlying173 (by kernel_rfl) (by kernel_rfl) v xT w
def errV (dev e : Int) : Value := if e = 0 then .nilIface else .iface 151 (.agg #[.int .i64 e, .int .i64 dev])
theorem unwrap_any (e d : Int) (w : World) : Calls Try.prog 107 #[.agg #[.int .i64 e, .int .i64 d]] w fun x w' => x = .returned (.iface 39 (.int .i64 e)) ∧ St w [] w' [] := by
  have hst0 := St.refl w
  show Calls Try.prog 107 #[.agg (List.toArray [.int .i64 e, .int .i64 d])] w _
  go_enter Try.func107, Try.ntmps107
  go_wp2_with (first | (refine wl_boxA hst0 rfl rfl rfl ?_; intro g1 _ hst1; clear hst0) | (refine wl_loadE rfl rfl rfl ?_; refine ⟨_, Loads.at [] hst1 rfl, ?_⟩))
  go_ret
  exact ⟨rfl, hst1.nil⟩
theorem isn_any (e d t : Int) (w : World) : Calls Try.prog 89 #[.iface 151 (.agg #[.int .i64 e, .int .i64 d]), .iface 39 (.int .i64 t), .bool true] w fun x w' => x = .returned (.bool (e == t)) ∧ St w [] w' [] := by
  have hst0 := St.refl w
  have h8 := @run_callFunc_extern Try.prog 88 _ Extern.ReflectliteType.typeOf Try.func88 (by kernel_rfl) (by kernel_rfl) (by kernel_rfl) (by kernel_rfl)
  have h32 := @run_callFunc_extern Try.prog 112 _ rlComparable Try.func112 (by kernel_rfl) (by kernel_rfl) (by kernel_rfl) (by kernel_rfl)
  have tT := isTypeOf
  have cT := isComparable
  have mR := isMethodComparable
  have mU := methodUnwrap
  have n1 := noIsR
  have n2 := noIsE
  have n3 := hasUnwrapR
  have n4 := noUnwrapE
  have n5 := noUnwrapsE
  have heq := fun w => Go.Lib.run_eql_iface_int (P := Try.prog) (k := .i64) w e t Try.underlying122 (tx := 39) (by kernel_rfl) Try.underlying39
  have hty := fun w => run_eql_iface_types (P := Try.prog) 151 39 (.agg #[.int .i64 e, .int .i64 d]) (.int .i64 t) Try.underlying122 (by decide) w
  obtain ⟨q, hq⟩ : ∃ q, q = (e == t) := ⟨_, rfl⟩
  rw [← hq] at heq ⊢
  have HQ := hid hq
  clear hq
  go_enter Try.func89, Try.ntmps89
  go_wp2_with (first | go_big_skip | go_big_guard)
  refine wp_loop_rounds 2 ?_
  rw [rounds_succ]
  go_wp2_with (first | go_big_skip | go_big_guard | (go_at_call 107; refine (unwrap_any e d _).mono ?_; rintro _ w9 ⟨rfl, h4⟩; have hst := St.call0 hst0 h4; clear h4 hst0))
  rw [rounds_succ]
  go_wp2_with (first | go_big_skip | go_big_guard)
  all_goals go_ret
  all_goals (clear heq HQ; cases q)
  all_goals first | contradiction | exact ⟨rfl, hst⟩
theorem is_any (e d t : Int) (w : World) : Calls Try.prog 79 #[.iface 151 (.agg #[.int .i64 e, .int .i64 d]), .iface 39 (.int .i64 t)] w fun x w' => x = .returned (.bool (e == t)) ∧ St w [] w' [] := by
  have hst0 := St.refl w
  have h8 := @run_callFunc_extern Try.prog 88 _ Extern.ReflectliteType.typeOf Try.func88 (by kernel_rfl) (by kernel_rfl) (by kernel_rfl) (by kernel_rfl)
  have h32 := @run_callFunc_extern Try.prog 112 _ rlComparable Try.func112 (by kernel_rfl) (by kernel_rfl) (by kernel_rfl) (by kernel_rfl)
  have tT := isTypeOf
  have cT := isComparable
  have mR := isMethodComparable
  go_enter Try.func79, Try.ntmps79
  go_wp2_with (first | go_big_skip | go_big_guard | (go_at_call 89; refine (isn_any e d t _).mono ?_; rintro _ w9 ⟨rfl, h4⟩; have hst := St.call0 hst0 h4; clear h4 hst0))
  go_ret
  exact ⟨rfl, hst⟩
end Go.Proofs.Ytmdfbdfijnmhkaa
