import Derived.Test.YtmdfbdfijnmhkaaGreatRTy
import Derived.LaidEql
import Derived.Stop.Asserts
import Derived.Lib.IfaceEq
import Derived.RowKitTokens
namespace Go.Proofs.YtmdfbdfijnmhkaaGreat
set_option linter.unusedVariables false
set_option linter.unusedSimpArgs false
open Go.RowKit Go.Extern.Stop Go.Stop Go.Extern Hp
attribute [local irreducible] Go.Calls
set_option maxRecDepth 100000
set_option maxHeartbeats 4000000
theorem isTypeOf (v : Value) (w : World) : (Extern.ReflectliteType.typeOf #[.iface 37 v]).run Tryz.prog w = .ok (.iface 206 (.agg #[.pointer (some ⟨0, 37, none⟩)])) w := by kernel_rfl
def rlComparable : Array Value → Sem Value := Extern.ReflectliteType.method fun t => do Extern.Rtype.noPackHeld "Comparable" t; pure (.bool (← typeInfo t).comparable)
theorem isComparable (w : World) : (rlComparable #[.agg #[.pointer (some ⟨0, 37, none⟩)]]).run Tryz.prog w = .ok (.bool true) w := by kernel_rfl
theorem isMethodComparable (v : Value) (w : World) : (Go.method 351 206 v "Comparable").run Tryz.prog w = .ok (192, v) w := by kernel_rfl
theorem methodUnwrap (v : Value) (w : World) : (Go.method 351 154 v "Unwrap").run Tryz.prog w = .ok (188, v) w := by kernel_rfl
theorem noIsR (v : Value) (xT : TypeId) (w : World) : (Instr.typeAssert (.iface 154 v) xT 208 true).run Tryz.prog w = .ok (.tuple #[.nilIface, .bool false]) w := run_typeAssert_lacksB Tryz.underlying208 (by kernel_rfl) (by kernel_rfl) v xT w
theorem noIsE (v : Value) (xT : TypeId) (w : World) : (Instr.typeAssert (.iface 37 v) xT 208 true).run Tryz.prog w = .ok (.tuple #[.nilIface, .bool false]) w := run_typeAssert_lacksB Tryz.underlying208 (by kernel_rfl) (by kernel_rfl) v xT w
theorem hasUnwrapR (v : Value) (xT : TypeId) (w : World) : (Instr.typeAssert (.iface 154 v) xT 211 true).run Tryz.prog w = .ok (.tuple #[.iface 154 v, .bool true]) w := run_typeAssert_hasB Tryz.underlying211 (by kernel_rfl) v xT w
theorem noUnwrapE (v : Value) (xT : TypeId) (w : World) : (Instr.typeAssert (.iface 37 v) xT 211 true).run Tryz.prog w = .ok (.tuple #[.nilIface, .bool false]) w := run_typeAssert_lacksB Tryz.underlying211 (by kernel_rfl) (by kernel_rfl) v xT w
theorem noUnwrapsE (v : Value) (xT : TypeId) (w : World) : (Instr.typeAssert (.iface 37 v) xT 213 true).run Tryz.prog w = .ok (.tuple #[.nilIface, .bool false]) w := run_typeAssert_lacksB Tryz.underlying213 (by kernel_rfl) (by kernel_rfl) v xT w
def errV (dev e : Int) : Value := if e = 0 then .nilIface else .iface 154 (.agg #[.int .i64 e, .int .i64 dev])
theorem unwrap_any (e d : Int) (w : World) : Calls Tryz.prog 188 #[.agg #[.int .i64 e, .int .i64 d]] w fun x w' => x = .returned (.iface 37 (.int .i64 e)) ∧ St w [] w' [] := by
  have hst0 := St.refl w
  show Calls Tryz.prog 188 #[.agg (List.toArray [.int .i64 e, .int .i64 d])] w _
  go_enter Tryz.func188, Tryz.ntmps188
  go_wp2_with (first | (refine wl_boxA hst0 rfl rfl rfl ?_; intro g1 _ hst1; clear hst0) | (refine wl_loadE rfl rfl rfl ?_; refine ⟨_, Loads.at [] hst1 rfl, ?_⟩))
  go_ret
  exact ⟨rfl, hst1.nil⟩
theorem isn_any (e d t : Int) (w : World) : Calls Tryz.prog 145 #[.iface 154 (.agg #[.int .i64 e, .int .i64 d]), .iface 37 (.int .i64 t), .bool true] w fun x w' => x = .returned (.bool (e == t)) ∧ St w [] w' [] := by
  have hst0 := St.refl w
  have h8 := @run_callFunc_extern Tryz.prog 144 _ Extern.ReflectliteType.typeOf Tryz.func144 (by kernel_rfl) (by kernel_rfl) (by kernel_rfl) (by kernel_rfl)
  have h32 := @run_callFunc_extern Tryz.prog 192 _ rlComparable Tryz.func192 (by kernel_rfl) (by kernel_rfl) (by kernel_rfl) (by kernel_rfl)
  have tT := isTypeOf
  have cT := isComparable
  have mR := isMethodComparable
  have mU := methodUnwrap
  have n1 := noIsR
  have n2 := noIsE
  have n3 := hasUnwrapR
  have n4 := noUnwrapE
  have n5 := noUnwrapsE
  have heq := fun w => Go.Lib.run_eql_iface_int (P := Tryz.prog) (k := .i64) w e t Tryz.underlying103 (tx := 37) (by kernel_rfl) Tryz.underlying37
  have hty := fun w => run_eql_iface_types (P := Tryz.prog) 154 37 (.agg #[.int .i64 e, .int .i64 d]) (.int .i64 t) Tryz.underlying103 (by decide) w
  obtain ⟨q, hq⟩ : ∃ q, q = (e == t) := ⟨_, rfl⟩
  rw [← hq] at heq ⊢
  have HQ := hid hq
  clear hq
  go_enter Tryz.func145, Tryz.ntmps145
  go_wp2_with (first | go_big_skip | go_big_guard)
  refine wp_loop_rounds 2 ?_
  rw [rounds_succ]
  go_wp2_with (first | go_big_skip | go_big_guard | (go_at_call 188; refine (unwrap_any e d _).mono ?_; rintro _ w9 ⟨rfl, h4⟩; have hst := St.call0 hst0 h4; clear h4 hst0))
  rw [rounds_succ]
  go_wp2_with (first | go_big_skip | go_big_guard)
  all_goals go_ret
  all_goals (clear heq HQ; cases q)
  all_goals first | contradiction | exact ⟨rfl, hst⟩
theorem is_any (e d t : Int) (w : World) : Calls Tryz.prog 100 #[.iface 154 (.agg #[.int .i64 e, .int .i64 d]), .iface 37 (.int .i64 t)] w fun x w' => x = .returned (.bool (e == t)) ∧ St w [] w' [] := by
  have hst0 := St.refl w
  have h8 := @run_callFunc_extern Tryz.prog 144 _ Extern.ReflectliteType.typeOf Tryz.func144 (by kernel_rfl) (by kernel_rfl) (by kernel_rfl) (by kernel_rfl)
  have h32 := @run_callFunc_extern Tryz.prog 192 _ rlComparable Tryz.func192 (by kernel_rfl) (by kernel_rfl) (by kernel_rfl) (by kernel_rfl)
  have tT := isTypeOf
  have cT := isComparable
  have mR := isMethodComparable
  go_enter Tryz.func100, Tryz.ntmps100
  go_wp2_with (first | go_big_skip | go_big_guard | (go_at_call 145; refine (isn_any e d t _).mono ?_; rintro _ w9 ⟨rfl, h4⟩; have hst := St.call0 hst0 h4; clear h4 hst0))
  go_ret
  exact ⟨rfl, hst⟩
end Go.Proofs.YtmdfbdfijnmhkaaGreat
