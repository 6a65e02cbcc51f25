/- The fields of a fault, as the walk asks for them. -/
import Derived.Test.YtlgioloanjjndaaF22
namespace Go.Proofs.Ytlgioloanjjndaa
set_option linter.unusedVariables false
set_option linter.unusedSimpArgs false
open Go.RowKit Hp
@[go_sem ↓] theorem fieldFault0 (a b : Int) (w : World) : (Instr.field 50 (.agg #[.int .i64 a, .int .i64 b]) 0).run Try.prog w = .ok (.int .i64 a) w := by
  unfold Instr.field
  rw [Sem.run_bind, run_underlying Try.underlying50 w]
  kernel_rfl
@[go_sem ↓] theorem fieldFault1 (a b : Int) (w : World) : (Instr.field 50 (.agg #[.int .i64 a, .int .i64 b]) 1).run Try.prog w = .ok (.int .i64 b) w := by
  unfold Instr.field
  rw [Sem.run_bind, run_underlying Try.underlying50 w]
  kernel_rfl
end Go.Proofs.Ytlgioloanjjndaa
