/-
  'WindowNumbers' in an abstract run, round by round. No statement of the program is proved here.
-/
import Derived.Test.YtclabnfngchpfaaEngRW
import Derived.KernelRfl
namespace Go.Proofs.Ytclabnfngchpfaa.Eng
open Go.RowKit
theorem t4 : E 291 cB s4 = some (.normal, s5) := by kernel_rfl
theorem t5 : E 290 cB s5 = some (.normal, s6) := by kernel_rfl
theorem t6 : E 289 cB s6 = some (.normal, s7) := by kernel_rfl
theorem t7 : E 288 cB s7 = some (.normal, s8) := by kernel_rfl
end Go.Proofs.Ytclabnfngchpfaa.Eng
