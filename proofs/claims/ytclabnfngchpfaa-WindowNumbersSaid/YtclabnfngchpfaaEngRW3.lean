/-
  'WindowNumbers' in an abstract run, round by round. No statement of the program is proved here.
-/
import Derived.Test.YtclabnfngchpfaaEngRW
import Derived.KernelRfl
namespace Go.Proofs.Ytclabnfngchpfaa.Eng
open Go.RowKit
theorem t8 : E 287 cB s8 = some (.normal, s9) := by kernel_rfl
theorem t9 : E 286 cB s9 = some (.normal, s10) := by kernel_rfl
theorem t10 : E 285 cB s10 = some (.normal, s11) := by kernel_rfl
theorem tE : E 284 cB s11 = some (.exit 0, sE) := by kernel_rfl
theorem tF : E 298 cC sE = some (.ret, sF) := by kernel_rfl
end Go.Proofs.Ytclabnfngchpfaa.Eng
