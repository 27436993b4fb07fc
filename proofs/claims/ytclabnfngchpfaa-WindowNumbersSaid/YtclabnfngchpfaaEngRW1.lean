/-
  'WindowNumbers' in an abstract run, round by round. No statement of the program is proved here.
-/
import Derived.Test.YtclabnfngchpfaaEngRW
import Derived.KernelRfl
namespace Go.Proofs.Ytclabnfngchpfaa.Eng
open Go.RowKit
theorem tA : E 299 cA sI = some (.normal, sA) := by kernel_rfl
theorem tR : E 297 cR sA = some (.normal, s0) := by kernel_rfl
theorem t0 : E 295 cB s0 = some (.normal, s1) := by kernel_rfl
theorem t1 : E 294 cB s1 = some (.normal, s2) := by kernel_rfl
theorem t2 : E 293 cB s2 = some (.normal, s3) := by kernel_rfl
theorem t3 : E 292 cB s3 = some (.normal, s4) := by kernel_rfl
end Go.Proofs.Ytclabnfngchpfaa.Eng
