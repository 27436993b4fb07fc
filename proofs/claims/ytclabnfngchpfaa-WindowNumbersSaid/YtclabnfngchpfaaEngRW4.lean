/-
  'WindowNumbers' in an abstract run, round by round. No statement of the program is proved here.
-/
import Derived.Test.YtclabnfngchpfaaEngRW1
import Derived.Test.YtclabnfngchpfaaEngRW2
import Derived.Test.YtclabnfngchpfaaEngRW3
import Derived.KernelRfl
namespace Go.Proofs.Ytclabnfngchpfaa.Eng
open Go.RowKit
theorem fin : E 300 i8.code sI = some (.ret, sF) := by
  rw [code_eq]
  exact ex_seq tA (ex_seq (ex_seq tR (ex_block (ex_loop t0 (ex_loop t1 (ex_loop t2 (ex_loop t3 (ex_loop t4 (ex_loop t5 (ex_loop t6 (ex_loop t7 (ex_loop t8 (ex_loop t9 (ex_loop t10 (ex_loop_out tE)))))))))))))) tF)
theorem init : sI = (List.replicate i8.ntmps undef, [], 0) := by kernel_rfl
theorem runs : resIs isYes (enter (look tab) (ex Try.prog (look tab) ovT 300) 8 [] [] 0) = true :=
  enter_yes (fn := i8) (s := sF) (s0 := sI) rfl init fin (by kernel_rfl)
theorem numbers_yes (w : World) : Calls Try.prog 8 #[] w fun e w' => e = .returned (.bool true) ∧ Below w.heap.size w w' :=
  call_yes (tab_ok tab_all) ovT_ok 300 8 runs w
end Go.Proofs.Ytclabnfngchpfaa.Eng
