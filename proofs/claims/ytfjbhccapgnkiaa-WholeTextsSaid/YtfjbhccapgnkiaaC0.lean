import Derived.Test.YtfjbhccapgnkiaaA1
namespace Go.Proofs.Ytfjbhccapgnkiaa.P
open Go.RowKit Go.Proofs.YtfjbhccapgnkiaaW.PrintWords Go.Proofs.YtfjbhccapgnkiaaW.PrintLast Go.Proofs.YtfjbhccapgnkiaaW.PrintMore
attribute [local go_sem] max2_int min2_int max_two min_two max_three min_three max_four min_four
set_option linter.unusedVariables false
set_option linter.unusedSimpArgs false

theorem field24_1 (b v : Value) (w : World) : Sem.run Try.prog (Instr.field 24 (.agg #[b, v]) 1) w = .ok v w := by kernel_rfl
theorem field24_0 (b v : Value) (w : World) : Sem.run Try.prog (Instr.field 24 (.agg #[b, v]) 0) w = .ok b w := by kernel_rfl
theorem field25_1 (b v : Value) (w : World) : Sem.run Try.prog (Instr.field 25 (.agg #[b, v]) 1) w = .ok v w := by kernel_rfl
theorem field25_0 (b v : Value) (w : World) : Sem.run Try.prog (Instr.field 25 (.agg #[b, v]) 0) w = .ok b w := by kernel_rfl

end Go.Proofs.Ytfjbhccapgnkiaa.P
