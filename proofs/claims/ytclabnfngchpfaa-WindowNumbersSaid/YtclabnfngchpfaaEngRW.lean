/-
  'WindowNumbers' in an abstract run: the functions that it reaches, made plain; the states between the loop's rounds. No statement of the program is proved here.
-/
import Derived.Test.YtclabnfngchpfaaEngT
import Derived.KernelRfl
namespace Go.Proofs.Ytclabnfngchpfaa.Eng
open Go.RowKit
def i8 : IFunc := ⟨(.seq (.region [⟨(some 0), .move (.const (.bool false)), none⟩])
  (.seq (.seq (.region [⟨(some 13), .buildSlice 41 1 11 [(.complex .f64 0 0), (.complex .f64 0 0), (.complex .f64 0 0), (.complex .f64 0 0), (.complex .f64 0 0), (.complex .f64 0 0), (.complex .f64 0 0), (.complex .f64 0 0), (.complex .f64 0 0), (.complex .f64 0 0), (.complex .f64 0 0)] [(0, 1, (.const (.complex .f64 0 0))), (1, 1, (.const (.complex .f64 4607182418800017408 0))), (2, 1, (.const (.complex .f64 4617315517961601024 4611686018427387904))), (3, 1, (.const (.complex .f64 0 4607182418800017408))), (4, 1, (.const (.complex .f64 13830554455654793216 4617315517961601024))), (5, 1, (.const (.complex .f64 4602678819172646912 4607182418800017408))), (6, 1, (.const (.complex .f64 4607182418800017408 4602678819172646912))), (7, 1, (.const (.complex .f64 4751297606873776128 4674736413210574848))), (8, 1, (.const (.complex .f64 4751297606875873280 4607182418800017408))), (9, 1, (.const (.complex .f64 4617315517961601024 4674736550649528320))), (10, 1, (.const (.complex .f64 4617315517961601024 13830554455654793216)))], none⟩,
    ⟨(some 14), .len ⟨none, (.call ⟨.builtin .len, #[(.tmp 13)], #[42]⟩), 3, "", #[], none⟩ (.tmp 13), none⟩,
    ⟨(some 15), .move (.const (.int .i64 (0))), none⟩])
  (.block 0 (.loop (.seq (.region [⟨(some 16), .ibin .lss (.tmp 15) (.tmp 14), none⟩])
   (.seq (.cond (.tmp 16)
    .skip
    (.exit 0))
   (.seq (.block 1 (.seq (.region [⟨(some 17), .indexSlice 1 (.tmp 13) (.tmp 15), none⟩,
     ⟨(some 18), .load1 (.tmp 17), none⟩,
     ⟨(some 2), .move (.tmp 18), none⟩])
   (.seq (.seq (.region [⟨(some 19), .move (.tmp 2), none⟩,
     ⟨(some 20), .call (.func 23) [(.tmp 19)], none⟩,
     ⟨(some 21), .move (.tmp 2), none⟩,
     ⟨(some 22), .call (.func 24) [(.tmp 21)], none⟩,
     ⟨(some 23), .pure ⟨none, (.binOp .neq 4 (.tmp 20) (.tmp 22) 4), 4, "", #[], none⟩, none⟩,
     ⟨(some 24), .move (.tmp 23), none⟩,
     ⟨(some 25), .move (.tmp 2), (some ((some 24), false))⟩,
     ⟨(some 26), .call (.func 25) [(.tmp 25)], (some ((some 24), false))⟩,
     ⟨(some 27), .move (.tmp 2), (some ((some 24), false))⟩,
     ⟨(some 28), .call (.func 26) [(.tmp 27)], (some ((some 24), false))⟩,
     ⟨(some 29), .ibin .neq (.tmp 26) (.tmp 28), (some ((some 24), false))⟩,
     ⟨(some 30), .pick (.tmp 24) (.const (.bool true)) (.tmp 29), none⟩,
     ⟨(some 31), .move (.tmp 30), none⟩,
     ⟨(some 32), .move (.tmp 2), (some ((some 31), false))⟩,
     ⟨(some 33), .call (.func 27) [(.tmp 32)], (some ((some 31), false))⟩,
     ⟨(some 34), .move (.tmp 2), (some ((some 31), false))⟩,
     ⟨(some 35), .call (.func 28) [(.tmp 34)], (some ((some 31), false))⟩,
     ⟨(some 36), .ibin .neq (.tmp 33) (.tmp 35), (some ((some 31), false))⟩,
     ⟨(some 37), .pick (.tmp 31) (.const (.bool true)) (.tmp 36), none⟩])
   (.cond (.tmp 37)
    (.seq (.region [⟨(some 0), .move (.const (.bool false)), none⟩])
    .ret)
    .skip))
   (.seq (.region [⟨(some 38), .buildSlice 2 1 9 [(.int .i64 (0)), (.int .i64 (0)), (.int .i64 (0)), (.int .i64 (0)), (.int .i64 (0)), (.int .i64 (0)), (.int .i64 (0)), (.int .i64 (0)), (.int .i64 (0))] [(0, 1, (.const (.int .i64 (-1)))), (1, 1, (.const (.int .i64 (0)))), (2, 1, (.const (.int .i64 (1)))), (3, 1, (.const (.int .i64 (5)))), (4, 1, (.const (.int .i64 (6)))), (5, 1, (.const (.int .i64 (4294967295)))), (6, 1, (.const (.int .i64 (4294967296)))), (7, 1, (.const (.int .i64 (9223372036854775807)))), (8, 1, (.const (.int .i64 (-9223372036854775808))))], none⟩,
     ⟨(some 39), .len ⟨none, (.call ⟨.builtin .len, #[(.tmp 38)], #[45]⟩), 3, "", #[], none⟩ (.tmp 38), none⟩,
     ⟨(some 40), .move (.const (.int .i64 (0))), none⟩])
   (.block 2 (.loop (.seq (.region [⟨(some 41), .ibin .lss (.tmp 40) (.tmp 39), none⟩])
    (.seq (.cond (.tmp 41)
     .skip
     (.exit 2))
    (.seq (.block 3 (.seq (.region [⟨(some 42), .indexSlice 1 (.tmp 38) (.tmp 40), none⟩,
      ⟨(some 43), .load1 (.tmp 42), none⟩,
      ⟨(some 4), .move (.tmp 43), none⟩])
    (.seq (.region [⟨(some 45), .move (.tmp 2), none⟩,
      ⟨(some 46), .move (.tmp 4), none⟩,
      ⟨(some 47), .call (.func 29) [(.tmp 45), (.tmp 46)], none⟩,
      ⟨(some 44), .move (.tmp 47), none⟩,
      ⟨(some 48), .extract (.tmp 44) 0, none⟩,
      ⟨(some 49), .extract (.tmp 44) 1, none⟩,
      ⟨(some 5), .move (.tmp 48), none⟩,
      ⟨(some 6), .move (.tmp 49), none⟩])
    (.seq (.region [⟨(some 51), .move (.tmp 2), none⟩,
      ⟨(some 52), .move (.tmp 4), none⟩,
      ⟨(some 53), .call (.func 30) [(.tmp 51), (.tmp 52)], none⟩,
      ⟨(some 50), .move (.tmp 53), none⟩,
      ⟨(some 54), .extract (.tmp 50) 0, none⟩,
      ⟨(some 55), .extract (.tmp 50) 1, none⟩,
      ⟨(some 7), .move (.tmp 54), none⟩,
      ⟨(some 8), .move (.tmp 55), none⟩])
    (.seq (.region [⟨(some 57), .move (.tmp 2), none⟩,
      ⟨(some 58), .move (.tmp 4), none⟩,
      ⟨(some 59), .call (.func 31) [(.tmp 57), (.tmp 58)], none⟩,
      ⟨(some 56), .move (.tmp 59), none⟩,
      ⟨(some 60), .extract (.tmp 56) 0, none⟩,
      ⟨(some 61), .extract (.tmp 56) 1, none⟩,
      ⟨(some 9), .move (.tmp 60), none⟩,
      ⟨(some 10), .move (.tmp 61), none⟩])
    (.seq (.region [⟨(some 63), .move (.tmp 2), none⟩,
      ⟨(some 64), .move (.tmp 4), none⟩,
      ⟨(some 65), .call (.func 32) [(.tmp 63), (.tmp 64)], none⟩,
      ⟨(some 62), .move (.tmp 65), none⟩,
      ⟨(some 66), .extract (.tmp 62) 0, none⟩,
      ⟨(some 67), .extract (.tmp 62) 1, none⟩,
      ⟨(some 11), .move (.tmp 66), none⟩,
      ⟨(some 12), .move (.tmp 67), none⟩])
    (.seq (.region [⟨(some 68), .move (.tmp 5), none⟩,
      ⟨(some 69), .move (.tmp 7), none⟩,
      ⟨(some 70), .pure ⟨none, (.binOp .neq 41 (.tmp 68) (.tmp 69) 41), 4, "", #[], none⟩, none⟩,
      ⟨(some 71), .move (.tmp 70), none⟩,
      ⟨(some 72), .move (.tmp 6), (some ((some 71), false))⟩,
      ⟨(some 73), .move (.tmp 8), (some ((some 71), false))⟩,
      ⟨(some 74), .pure ⟨none, (.binOp .neq 4 (.tmp 72) (.tmp 73) 4), 4, "", #[], none⟩, (some ((some 71), false))⟩,
      ⟨(some 75), .pick (.tmp 71) (.const (.bool true)) (.tmp 74), none⟩,
      ⟨(some 76), .move (.tmp 75), none⟩,
      ⟨(some 77), .move (.tmp 9), (some ((some 76), false))⟩,
      ⟨(some 78), .move (.tmp 11), (some ((some 76), false))⟩,
      ⟨(some 79), .pure ⟨none, (.binOp .neq 41 (.tmp 77) (.tmp 78) 41), 4, "", #[], none⟩, (some ((some 76), false))⟩,
      ⟨(some 80), .pick (.tmp 76) (.const (.bool true)) (.tmp 79), none⟩,
      ⟨(some 81), .move (.tmp 80), none⟩,
      ⟨(some 82), .move (.tmp 10), (some ((some 81), false))⟩,
      ⟨(some 83), .move (.tmp 12), (some ((some 81), false))⟩,
      ⟨(some 84), .pure ⟨none, (.binOp .neq 4 (.tmp 82) (.tmp 83) 4), 4, "", #[], none⟩, (some ((some 81), false))⟩,
      ⟨(some 85), .pick (.tmp 81) (.const (.bool true)) (.tmp 84), none⟩])
    (.cond (.tmp 85)
     (.seq (.region [⟨(some 0), .move (.const (.bool false)), none⟩])
     .ret)
     .skip))))))))
    (.region [⟨(some 86), .ibin .add (.tmp 40) (.const (.int .i64 (1))), none⟩,
      ⟨(some 40), .move (.tmp 86), none⟩]))))))))))
   (.region [⟨(some 87), .ibin .add (.tmp 15) (.const (.int .i64 (1))), none⟩,
     ⟨(some 15), .move (.tmp 87), none⟩])))))))
  (.seq (.region [⟨(some 88), .call (.func 33) [(.const (.int .i64 (3))), (.const (.int .i64 (1099511627776)))], none⟩,
    ⟨(some 89), .pure ⟨none, (.binOp .eql 41 (.tmp 88) (.const (.complex .f64 4613937818241073152 4674736413210574848)) 41), 4, "", #[], none⟩, none⟩,
    ⟨(some 90), .move (.tmp 89), none⟩,
    ⟨(some 91), .call (.func 34) [], (some ((some 90), true))⟩,
    ⟨(some 92), .pick (.tmp 90) (.tmp 91) (.const (.bool false)), none⟩,
    ⟨(some 0), .move (.tmp 92), none⟩])
  .ret))), 93, [.tmp 0], false⟩
def i23 : IFunc := ⟨(.seq (.region [⟨(some 2), .move (.const (.bool false)), none⟩])
  (.seq (.region [⟨(some 3), .move (.tmp 0), none⟩,
    ⟨(some 4), .pure ⟨none, (.call ⟨.builtin .real, #[(.tmp 3)], #[41]⟩), 62, "", #[], none⟩, none⟩,
    ⟨(some 5), .call (.func 40) [(.tmp 4), (.const (.float .f64 0)), (.const (.float .f64 4751297606873776128))], none⟩,
    ⟨(some 6), .move (.tmp 5), none⟩,
    ⟨(some 7), .move (.tmp 0), (some ((some 6), true))⟩,
    ⟨(some 8), .pure ⟨none, (.call ⟨.builtin .imag, #[(.tmp 7)], #[41]⟩), 62, "", #[], none⟩, (some ((some 6), true))⟩,
    ⟨(some 9), .call (.func 40) [(.tmp 8), (.const (.float .f64 4607182418800017408)), (.const (.float .f64 4674736413210574848))], (some ((some 6), true))⟩,
    ⟨(some 10), .pick (.tmp 6) (.tmp 9) (.const (.bool false)), none⟩,
    ⟨(some 2), .move (.tmp 10), none⟩])
  .ret)), 11, [.tmp 2], false⟩
def i24 : IFunc := ⟨(.seq (.region [⟨(some 2), .move (.const (.bool false)), none⟩])
  (.seq (.region [⟨(some 5), .move (.tmp 0), none⟩,
    ⟨(some 6), .pure ⟨none, (.call ⟨.builtin .real, #[(.tmp 5)], #[41]⟩), 62, "", #[], none⟩, none⟩,
    ⟨(some 3), .move (.tmp 6), none⟩])
  (.seq (.region [⟨(some 7), .move (.tmp 0), none⟩,
    ⟨(some 8), .pure ⟨none, (.call ⟨.builtin .imag, #[(.tmp 7)], #[41]⟩), 62, "", #[], none⟩, none⟩,
    ⟨(some 4), .move (.tmp 8), none⟩])
  (.seq (.seq (.region [⟨(some 9), .move (.tmp 3), none⟩,
    ⟨(some 10), .pure ⟨none, (.binOp .geq 62 (.tmp 9) (.const (.float .f64 0)) 62), 4, "", #[], none⟩, none⟩,
    ⟨(some 11), .move (.tmp 10), none⟩,
    ⟨(some 12), .move (.tmp 3), (some ((some 11), true))⟩,
    ⟨(some 13), .pure ⟨none, (.binOp .leq 62 (.tmp 12) (.const (.float .f64 4751297606873776128)) 62), 4, "", #[], none⟩, (some ((some 11), true))⟩,
    ⟨(some 14), .pick (.tmp 11) (.tmp 13) (.const (.bool false)), none⟩,
    ⟨(some 15), .move (.tmp 14), none⟩,
    ⟨(some 16), .move (.tmp 4), (some ((some 15), true))⟩,
    ⟨(some 17), .pure ⟨none, (.binOp .geq 62 (.tmp 16) (.const (.float .f64 4607182418800017408)) 62), 4, "", #[], none⟩, (some ((some 15), true))⟩,
    ⟨(some 18), .pick (.tmp 15) (.tmp 17) (.const (.bool false)), none⟩,
    ⟨(some 19), .move (.tmp 18), none⟩,
    ⟨(some 20), .move (.tmp 4), (some ((some 19), true))⟩,
    ⟨(some 21), .pure ⟨none, (.binOp .leq 62 (.tmp 20) (.const (.float .f64 4674736413210574848)) 62), 4, "", #[], none⟩, (some ((some 19), true))⟩,
    ⟨(some 22), .pick (.tmp 19) (.tmp 21) (.const (.bool false)), none⟩,
    ⟨(some 23), .pure ⟨none, (.unOp .not 4 (.tmp 22)), 4, "", #[], none⟩, none⟩])
  (.cond (.tmp 23)
   (.seq (.region [⟨(some 2), .move (.const (.bool false)), none⟩])
   .ret)
   .skip))
  (.seq (.region [⟨(some 24), .move (.tmp 3), none⟩,
    ⟨(some 25), .pure ⟨none, (.convert 62 2 (.tmp 24)), 2, "", #[], none⟩, none⟩,
    ⟨(some 26), .pure ⟨none, (.convert 2 62 (.tmp 25)), 62, "", #[], none⟩, none⟩,
    ⟨(some 27), .move (.tmp 3), none⟩,
    ⟨(some 28), .pure ⟨none, (.binOp .eql 62 (.tmp 26) (.tmp 27) 62), 4, "", #[], none⟩, none⟩,
    ⟨(some 29), .move (.tmp 28), none⟩,
    ⟨(some 30), .move (.tmp 4), (some ((some 29), true))⟩,
    ⟨(some 31), .pure ⟨none, (.convert 62 2 (.tmp 30)), 2, "", #[], none⟩, (some ((some 29), true))⟩,
    ⟨(some 32), .pure ⟨none, (.convert 2 62 (.tmp 31)), 62, "", #[], none⟩, (some ((some 29), true))⟩,
    ⟨(some 33), .move (.tmp 4), (some ((some 29), true))⟩,
    ⟨(some 34), .pure ⟨none, (.binOp .eql 62 (.tmp 32) (.tmp 33) 62), 4, "", #[], none⟩, (some ((some 29), true))⟩,
    ⟨(some 35), .pick (.tmp 29) (.tmp 34) (.const (.bool false)), none⟩,
    ⟨(some 2), .move (.tmp 35), none⟩])
  .ret))))), 36, [.tmp 2], false⟩
def i25 : IFunc := ⟨(.seq (.region [⟨(some 2), .move (.const (.int .i64 (0))), none⟩])
  (.seq (.seq (.region [⟨(some 3), .move (.tmp 0), none⟩,
    ⟨(some 4), .call (.func 23) [(.tmp 3)], none⟩,
    ⟨(some 5), .pure ⟨none, (.unOp .not 4 (.tmp 4)), 4, "", #[], none⟩, none⟩])
  (.cond (.tmp 5)
   (.seq (.region [⟨(some 2), .move (.const (.int .i64 (0))), none⟩])
   .ret)
   .skip))
  (.seq (.region [⟨(some 6), .move (.tmp 0), none⟩,
    ⟨(some 7), .pure ⟨none, (.call ⟨.builtin .real, #[(.tmp 6)], #[41]⟩), 62, "", #[], none⟩, none⟩,
    ⟨(some 8), .pure ⟨none, (.convert 62 2 (.tmp 7)), 2, "", #[], none⟩, none⟩,
    ⟨(some 2), .move (.tmp 8), none⟩])
  .ret))), 9, [.tmp 2], false⟩
def i26 : IFunc := ⟨(.seq (.region [⟨(some 2), .move (.const (.int .i64 (0))), none⟩])
  (.seq (.seq (.region [⟨(some 3), .move (.tmp 0), none⟩,
    ⟨(some 4), .call (.func 24) [(.tmp 3)], none⟩,
    ⟨(some 5), .pure ⟨none, (.unOp .not 4 (.tmp 4)), 4, "", #[], none⟩, none⟩])
  (.cond (.tmp 5)
   (.seq (.region [⟨(some 2), .move (.const (.int .i64 (0))), none⟩])
   .ret)
   .skip))
  (.seq (.region [⟨(some 6), .move (.tmp 0), none⟩,
    ⟨(some 7), .pure ⟨none, (.call ⟨.builtin .real, #[(.tmp 6)], #[41]⟩), 62, "", #[], none⟩, none⟩,
    ⟨(some 8), .pure ⟨none, (.convert 62 2 (.tmp 7)), 2, "", #[], none⟩, none⟩,
    ⟨(some 2), .move (.tmp 8), none⟩])
  .ret))), 9, [.tmp 2], false⟩
def i27 : IFunc := ⟨(.seq (.region [⟨(some 2), .move (.const (.int .i64 (0))), none⟩])
  (.seq (.seq (.region [⟨(some 3), .move (.tmp 0), none⟩,
    ⟨(some 4), .call (.func 23) [(.tmp 3)], none⟩,
    ⟨(some 5), .pure ⟨none, (.unOp .not 4 (.tmp 4)), 4, "", #[], none⟩, none⟩])
  (.cond (.tmp 5)
   (.seq (.region [⟨(some 2), .move (.const (.int .i64 (0))), none⟩])
   .ret)
   .skip))
  (.seq (.region [⟨(some 6), .move (.tmp 0), none⟩,
    ⟨(some 7), .pure ⟨none, (.call ⟨.builtin .imag, #[(.tmp 6)], #[41]⟩), 62, "", #[], none⟩, none⟩,
    ⟨(some 8), .pure ⟨none, (.convert 62 2 (.tmp 7)), 2, "", #[], none⟩, none⟩,
    ⟨(some 2), .move (.tmp 8), none⟩])
  .ret))), 9, [.tmp 2], false⟩
def i28 : IFunc := ⟨(.seq (.region [⟨(some 2), .move (.const (.int .i64 (0))), none⟩])
  (.seq (.seq (.region [⟨(some 3), .move (.tmp 0), none⟩,
    ⟨(some 4), .call (.func 24) [(.tmp 3)], none⟩,
    ⟨(some 5), .pure ⟨none, (.unOp .not 4 (.tmp 4)), 4, "", #[], none⟩, none⟩])
  (.cond (.tmp 5)
   (.seq (.region [⟨(some 2), .move (.const (.int .i64 (0))), none⟩])
   .ret)
   .skip))
  (.seq (.region [⟨(some 6), .move (.tmp 0), none⟩,
    ⟨(some 7), .pure ⟨none, (.call ⟨.builtin .imag, #[(.tmp 6)], #[41]⟩), 62, "", #[], none⟩, none⟩,
    ⟨(some 8), .pure ⟨none, (.convert 62 2 (.tmp 7)), 2, "", #[], none⟩, none⟩,
    ⟨(some 2), .move (.tmp 8), none⟩])
  .ret))), 9, [.tmp 2], false⟩
def i29 : IFunc := ⟨(.seq (.region [⟨(some 4), .move (.const (.complex .f64 0 0)), none⟩,
    ⟨(some 5), .move (.const (.bool false)), none⟩])
  (.seq (.region [⟨(some 6), .move (.tmp 0), none⟩,
    ⟨(some 7), .move (.tmp 0), none⟩,
    ⟨(some 8), .call (.func 25) [(.tmp 7)], none⟩,
    ⟨(some 9), .move (.tmp 1), none⟩,
    ⟨(some 10), .pure ⟨none, (.call ⟨.builtin .max, #[(.tmp 9), (.const (.int .i64 (0)))], #[2, 2]⟩), 2, "", #[], none⟩, none⟩,
    ⟨(some 11), .ibin .sub (.tmp 8) (.tmp 10), none⟩,
    ⟨(some 12), .move (.tmp 0), none⟩,
    ⟨(some 13), .call (.func 23) [(.tmp 12)], none⟩,
    ⟨(some 14), .move (.tmp 13), none⟩,
    ⟨(some 15), .move (.tmp 1), (some ((some 14), true))⟩,
    ⟨(some 16), .ibin .geq (.tmp 15) (.const (.int .i64 (0))), (some ((some 14), true))⟩,
    ⟨(some 17), .pick (.tmp 14) (.tmp 16) (.const (.bool false)), none⟩,
    ⟨(some 18), .call (.func 41) [(.tmp 6), (.tmp 11), (.tmp 17)], none⟩,
    ⟨(some 19), .extract (.tmp 18) 0, none⟩,
    ⟨(some 20), .extract (.tmp 18) 1, none⟩,
    ⟨(some 4), .move (.tmp 19), none⟩,
    ⟨(some 5), .move (.tmp 20), none⟩])
  .ret)), 21, [.tmp 4, .tmp 5], false⟩
def i30 : IFunc := ⟨(.seq (.region [⟨(some 4), .move (.const (.complex .f64 0 0)), none⟩,
    ⟨(some 5), .move (.const (.bool false)), none⟩])
  (.seq (.seq (.region [⟨(some 6), .move (.tmp 0), none⟩,
    ⟨(some 7), .call (.func 24) [(.tmp 6)], none⟩,
    ⟨(some 8), .pure ⟨none, (.unOp .not 4 (.tmp 7)), 4, "", #[], none⟩, none⟩,
    ⟨(some 9), .move (.tmp 8), none⟩,
    ⟨(some 10), .move (.tmp 1), (some ((some 9), false))⟩,
    ⟨(some 11), .ibin .lss (.tmp 10) (.const (.int .i64 (0))), (some ((some 9), false))⟩,
    ⟨(some 12), .pick (.tmp 9) (.const (.bool true)) (.tmp 11), none⟩,
    ⟨(some 13), .move (.tmp 12), none⟩,
    ⟨(some 14), .move (.tmp 1), (some ((some 13), false))⟩,
    ⟨(some 15), .move (.tmp 0), (some ((some 13), false))⟩,
    ⟨(some 16), .call (.func 26) [(.tmp 15)], (some ((some 13), false))⟩,
    ⟨(some 17), .ibin .gtr (.tmp 14) (.tmp 16), (some ((some 13), false))⟩,
    ⟨(some 18), .pick (.tmp 13) (.const (.bool true)) (.tmp 17), none⟩])
  (.cond (.tmp 18)
   (.seq (.region [⟨(some 4), .move (.const (.complex .f64 0 0)), none⟩,
     ⟨(some 5), .move (.const (.bool false)), none⟩])
   .ret)
   .skip))
  (.seq (.region [⟨(some 19), .move (.tmp 0), none⟩,
    ⟨(some 20), .call (.func 26) [(.tmp 19)], none⟩,
    ⟨(some 21), .move (.tmp 1), none⟩,
    ⟨(some 22), .ibin .sub (.tmp 20) (.tmp 21), none⟩,
    ⟨(some 23), .move (.tmp 0), none⟩,
    ⟨(some 24), .call (.func 28) [(.tmp 23)], none⟩,
    ⟨(some 25), .call (.func 42) [(.tmp 22), (.tmp 24)], none⟩,
    ⟨(some 4), .move (.tmp 25), none⟩,
    ⟨(some 5), .move (.const (.bool true)), none⟩])
  .ret))), 26, [.tmp 4, .tmp 5], false⟩
def i31 : IFunc := ⟨(.seq (.region [⟨(some 4), .move (.const (.complex .f64 0 0)), none⟩,
    ⟨(some 5), .move (.const (.bool false)), none⟩])
  (.seq (.region [⟨(some 6), .move (.tmp 0), none⟩,
    ⟨(some 7), .move (.tmp 0), none⟩,
    ⟨(some 8), .call (.func 25) [(.tmp 7)], none⟩,
    ⟨(some 9), .move (.tmp 1), none⟩,
    ⟨(some 10), .pure ⟨none, (.call ⟨.builtin .min, #[(.tmp 9), (.const (.int .i64 (4294967296)))], #[2, 2]⟩), 2, "", #[], none⟩, none⟩,
    ⟨(some 11), .ibin .add (.tmp 8) (.tmp 10), none⟩,
    ⟨(some 12), .move (.tmp 0), none⟩,
    ⟨(some 13), .call (.func 23) [(.tmp 12)], none⟩,
    ⟨(some 14), .move (.tmp 13), none⟩,
    ⟨(some 15), .move (.tmp 1), (some ((some 14), true))⟩,
    ⟨(some 16), .ibin .geq (.tmp 15) (.const (.int .i64 (0))), (some ((some 14), true))⟩,
    ⟨(some 17), .pick (.tmp 14) (.tmp 16) (.const (.bool false)), none⟩,
    ⟨(some 18), .call (.func 41) [(.tmp 6), (.tmp 11), (.tmp 17)], none⟩,
    ⟨(some 19), .extract (.tmp 18) 0, none⟩,
    ⟨(some 20), .extract (.tmp 18) 1, none⟩,
    ⟨(some 4), .move (.tmp 19), none⟩,
    ⟨(some 5), .move (.tmp 20), none⟩])
  .ret)), 21, [.tmp 4, .tmp 5], false⟩
def i32 : IFunc := ⟨(.seq (.region [⟨(some 4), .move (.const (.complex .f64 0 0)), none⟩,
    ⟨(some 5), .move (.const (.bool false)), none⟩])
  (.seq (.seq (.region [⟨(some 6), .move (.tmp 0), none⟩,
    ⟨(some 7), .call (.func 24) [(.tmp 6)], none⟩,
    ⟨(some 8), .pure ⟨none, (.unOp .not 4 (.tmp 7)), 4, "", #[], none⟩, none⟩,
    ⟨(some 9), .move (.tmp 8), none⟩,
    ⟨(some 10), .move (.tmp 1), (some ((some 9), false))⟩,
    ⟨(some 11), .ibin .lss (.tmp 10) (.const (.int .i64 (0))), (some ((some 9), false))⟩,
    ⟨(some 12), .pick (.tmp 9) (.const (.bool true)) (.tmp 11), none⟩,
    ⟨(some 13), .move (.tmp 12), none⟩,
    ⟨(some 14), .move (.tmp 1), (some ((some 13), false))⟩,
    ⟨(some 15), .move (.tmp 0), (some ((some 13), false))⟩,
    ⟨(some 16), .call (.func 26) [(.tmp 15)], (some ((some 13), false))⟩,
    ⟨(some 17), .ibin .sub (.const (.int .i64 (4294967295))) (.tmp 16), (some ((some 13), false))⟩,
    ⟨(some 18), .ibin .gtr (.tmp 14) (.tmp 17), (some ((some 13), false))⟩,
    ⟨(some 19), .pick (.tmp 13) (.const (.bool true)) (.tmp 18), none⟩])
  (.cond (.tmp 19)
   (.seq (.region [⟨(some 4), .move (.const (.complex .f64 0 0)), none⟩,
     ⟨(some 5), .move (.const (.bool false)), none⟩])
   .ret)
   .skip))
  (.seq (.region [⟨(some 20), .move (.tmp 0), none⟩,
    ⟨(some 21), .call (.func 26) [(.tmp 20)], none⟩,
    ⟨(some 22), .move (.tmp 1), none⟩,
    ⟨(some 23), .ibin .add (.tmp 21) (.tmp 22), none⟩,
    ⟨(some 24), .move (.tmp 0), none⟩,
    ⟨(some 25), .call (.func 28) [(.tmp 24)], none⟩,
    ⟨(some 26), .call (.func 42) [(.tmp 23), (.tmp 25)], none⟩,
    ⟨(some 4), .move (.tmp 26), none⟩,
    ⟨(some 5), .move (.const (.bool true)), none⟩])
  .ret))), 27, [.tmp 4, .tmp 5], false⟩
def i33 : IFunc := ⟨(.seq (.region [⟨(some 4), .move (.const (.complex .f64 0 0)), none⟩])
  (.seq (.region [⟨(some 5), .move (.tmp 0), none⟩,
    ⟨(some 6), .pure ⟨none, (.convert 2 62 (.tmp 5)), 62, "", #[], none⟩, none⟩,
    ⟨(some 7), .move (.tmp 1), none⟩,
    ⟨(some 8), .pure ⟨none, (.call ⟨.builtin .min, #[(.tmp 7), (.const (.int .i64 (32768)))], #[2, 2]⟩), 2, "", #[], none⟩, none⟩,
    ⟨(some 9), .pure ⟨none, (.convert 2 62 (.tmp 8)), 62, "", #[], none⟩, none⟩,
    ⟨(some 10), .pure ⟨none, (.call ⟨.builtin .complex, #[(.tmp 6), (.tmp 9)], #[62, 62]⟩), 41, "", #[], none⟩, none⟩,
    ⟨(some 4), .move (.tmp 10), none⟩])
  .ret)), 11, [.tmp 4], false⟩
def i34 : IFunc := ⟨(.seq (.region [⟨(some 0), .move (.const (.bool false)), none⟩])
  (.seq (.region [⟨(some 6), .call (.func 33) [(.const (.int .i64 (5))), (.const (.int .i64 (2)))], none⟩,
    ⟨(some 7), .call (.func 35) [(.tmp 6), (.const (.int .i64 (9)))], none⟩,
    ⟨(some 5), .move (.tmp 7), none⟩,
    ⟨(some 8), .extract (.tmp 5) 0, none⟩,
    ⟨(some 9), .extract (.tmp 5) 1, none⟩,
    ⟨(some 1), .move (.tmp 8), none⟩,
    ⟨(some 2), .move (.tmp 9), none⟩])
  (.seq (.region [⟨(some 11), .call (.func 33) [(.const (.int .i64 (5))), (.const (.int .i64 (2)))], none⟩,
    ⟨(some 12), .call (.func 29) [(.tmp 11), (.const (.int .i64 (6)))], none⟩,
    ⟨(some 10), .move (.tmp 12), none⟩,
    ⟨(some 13), .extract (.tmp 10) 0, none⟩,
    ⟨(some 14), .extract (.tmp 10) 1, none⟩,
    ⟨(some 3), .move (.tmp 13), none⟩,
    ⟨(some 4), .move (.tmp 14), none⟩])
  (.seq (.region [⟨(some 15), .move (.tmp 1), none⟩,
    ⟨(some 16), .buildSlice 2 1 3 [(.int .i64 (0)), (.int .i64 (0)), (.int .i64 (0))] [(0, 1, (.const (.int .i64 (2)))), (1, 1, (.const (.int .i64 (2)))), (2, 1, (.const (.int .i64 (1))))], none⟩,
    ⟨(some 17), .call (.func 43) [(.tmp 15), (.tmp 16)], none⟩,
    ⟨(some 18), .move (.tmp 17), none⟩,
    ⟨(some 19), .move (.tmp 2), (some ((some 18), true))⟩,
    ⟨(some 20), .call (.func 33) [(.const (.int .i64 (0))), (.const (.int .i64 (2)))], (some ((some 18), true))⟩,
    ⟨(some 21), .pure ⟨none, (.binOp .eql 41 (.tmp 19) (.tmp 20) 41), 4, "", #[], none⟩, (some ((some 18), true))⟩,
    ⟨(some 22), .pick (.tmp 18) (.tmp 21) (.const (.bool false)), none⟩,
    ⟨(some 23), .move (.tmp 22), none⟩,
    ⟨(some 24), .move (.tmp 4), (some ((some 23), true))⟩,
    ⟨(some 25), .pure ⟨none, (.unOp .not 4 (.tmp 24)), 4, "", #[], none⟩, (some ((some 23), true))⟩,
    ⟨(some 26), .pick (.tmp 23) (.tmp 25) (.const (.bool false)), none⟩,
    ⟨(some 27), .move (.tmp 26), none⟩,
    ⟨(some 28), .call (.func 33) [(.const (.int .i64 (1))), (.const (.int .i64 (0)))], (some ((some 27), true))⟩,
    ⟨(some 29), .call (.func 23) [(.tmp 28)], (some ((some 27), true))⟩,
    ⟨(some 30), .pure ⟨none, (.unOp .not 4 (.tmp 29)), 4, "", #[], none⟩, (some ((some 27), true))⟩,
    ⟨(some 31), .pick (.tmp 27) (.tmp 30) (.const (.bool false)), none⟩,
    ⟨(some 0), .move (.tmp 31), none⟩])
  .ret)))), 32, [.tmp 0], false⟩
def i40 : IFunc := ⟨(.seq (.region [⟨(some 6), .move (.const (.bool false)), none⟩])
  (.seq (.region [⟨(some 7), .move (.tmp 0), none⟩,
    ⟨(some 8), .move (.tmp 1), none⟩,
    ⟨(some 9), .pure ⟨none, (.binOp .geq 62 (.tmp 7) (.tmp 8) 62), 4, "", #[], none⟩, none⟩,
    ⟨(some 10), .move (.tmp 9), none⟩,
    ⟨(some 11), .move (.tmp 0), (some ((some 10), true))⟩,
    ⟨(some 12), .move (.tmp 2), (some ((some 10), true))⟩,
    ⟨(some 13), .pure ⟨none, (.binOp .leq 62 (.tmp 11) (.tmp 12) 62), 4, "", #[], none⟩, (some ((some 10), true))⟩,
    ⟨(some 14), .pick (.tmp 10) (.tmp 13) (.const (.bool false)), none⟩,
    ⟨(some 15), .move (.tmp 14), none⟩,
    ⟨(some 16), .move (.tmp 0), (some ((some 15), true))⟩,
    ⟨(some 17), .move (.tmp 0), (some ((some 15), true))⟩,
    ⟨(some 18), .call (.func 47) [(.tmp 17)], (some ((some 15), true))⟩,
    ⟨(some 19), .pure ⟨none, (.binOp .eql 62 (.tmp 16) (.tmp 18) 62), 4, "", #[], none⟩, (some ((some 15), true))⟩,
    ⟨(some 20), .pick (.tmp 15) (.tmp 19) (.const (.bool false)), none⟩,
    ⟨(some 6), .move (.tmp 20), none⟩])
  .ret)), 21, [.tmp 6], false⟩
def i41 : IFunc := ⟨(.seq (.region [⟨(some 6), .move (.const (.complex .f64 0 0)), none⟩,
    ⟨(some 7), .move (.const (.bool false)), none⟩])
  (.seq (.seq (.region [⟨(some 8), .move (.tmp 2), none⟩,
    ⟨(some 9), .pure ⟨none, (.unOp .not 4 (.tmp 8)), 4, "", #[], none⟩, none⟩,
    ⟨(some 10), .move (.tmp 9), none⟩,
    ⟨(some 11), .move (.tmp 1), (some ((some 10), false))⟩,
    ⟨(some 12), .ibin .lss (.tmp 11) (.const (.int .i64 (0))), (some ((some 10), false))⟩,
    ⟨(some 13), .pick (.tmp 10) (.const (.bool true)) (.tmp 12), none⟩,
    ⟨(some 14), .move (.tmp 13), none⟩,
    ⟨(some 15), .move (.tmp 1), (some ((some 14), false))⟩,
    ⟨(some 16), .ibin .gtr (.tmp 15) (.const (.int .i64 (4294967295))), (some ((some 14), false))⟩,
    ⟨(some 17), .pick (.tmp 14) (.const (.bool true)) (.tmp 16), none⟩])
  (.cond (.tmp 17)
   (.seq (.region [⟨(some 6), .move (.const (.complex .f64 0 0)), none⟩,
     ⟨(some 7), .move (.const (.bool false)), none⟩])
   .ret)
   .skip))
  (.seq (.region [⟨(some 18), .move (.tmp 1), none⟩,
    ⟨(some 19), .pure ⟨none, (.convert 2 62 (.tmp 18)), 62, "", #[], none⟩, none⟩,
    ⟨(some 20), .move (.tmp 0), none⟩,
    ⟨(some 21), .pure ⟨none, (.call ⟨.builtin .imag, #[(.tmp 20)], #[41]⟩), 62, "", #[], none⟩, none⟩,
    ⟨(some 22), .pure ⟨none, (.call ⟨.builtin .complex, #[(.tmp 19), (.tmp 21)], #[62, 62]⟩), 41, "", #[], none⟩, none⟩,
    ⟨(some 6), .move (.tmp 22), none⟩,
    ⟨(some 7), .move (.const (.bool true)), none⟩])
  .ret))), 23, [.tmp 6, .tmp 7], false⟩
def i42 : IFunc := ⟨(.seq (.region [⟨(some 4), .move (.const (.complex .f64 0 0)), none⟩])
  (.seq (.seq (.region [⟨(some 5), .move (.tmp 1), none⟩,
    ⟨(some 6), .ibin .gtr (.tmp 5) (.const (.int .i64 (32768))), none⟩])
  (.cond (.tmp 6)
   (.region [⟨(some 1), .move (.const (.int .i64 (32768))), none⟩])
   .skip))
  (.seq (.region [⟨(some 7), .move (.tmp 0), none⟩,
    ⟨(some 8), .pure ⟨none, (.convert 2 62 (.tmp 7)), 62, "", #[], none⟩, none⟩,
    ⟨(some 9), .move (.tmp 1), none⟩,
    ⟨(some 10), .pure ⟨none, (.convert 2 62 (.tmp 9)), 62, "", #[], none⟩, none⟩,
    ⟨(some 11), .pure ⟨none, (.call ⟨.builtin .complex, #[(.tmp 8), (.tmp 10)], #[62, 62]⟩), 41, "", #[], none⟩, none⟩,
    ⟨(some 4), .move (.tmp 11), none⟩])
  .ret))), 12, [.tmp 4], false⟩
def i35 : IFunc := ⟨(.seq (.region [⟨(some 4), .move (.const (.slice none 0 0)), none⟩,
    ⟨(some 5), .move (.const (.complex .f64 0 0)), none⟩])
  (.seq (.seq (.region [⟨(some 9), .move (.tmp 0), none⟩,
    ⟨(some 10), .call (.func 23) [(.tmp 9)], none⟩,
    ⟨(some 11), .pure ⟨none, (.unOp .not 4 (.tmp 10)), 4, "", #[], none⟩, none⟩,
    ⟨(some 12), .move (.tmp 11), none⟩,
    ⟨(some 13), .move (.tmp 1), (some ((some 12), false))⟩,
    ⟨(some 14), .ibin .lss (.tmp 13) (.const (.int .i64 (1))), (some ((some 12), false))⟩,
    ⟨(some 15), .pick (.tmp 12) (.const (.bool true)) (.tmp 14), none⟩])
  (.cond (.tmp 15)
   (.seq (.region [⟨(some 16), .move (.tmp 0), none⟩,
     ⟨(some 4), .move (.const (.slice none 0 0)), none⟩,
     ⟨(some 5), .move (.tmp 16), none⟩])
   .ret)
   .skip))
  (.seq (.region [⟨(some 6), .move (.const (.slice none 0 0)), none⟩])
  (.seq (.region [⟨(some 17), .move (.tmp 1), none⟩,
    ⟨(some 18), .move (.tmp 0), none⟩,
    ⟨(some 19), .call (.func 25) [(.tmp 18)], none⟩,
    ⟨(some 20), .pure ⟨none, (.call ⟨.builtin .min, #[(.tmp 17), (.tmp 19)], #[2, 2]⟩), 2, "", #[], none⟩, none⟩,
    ⟨(some 7), .move (.tmp 20), none⟩])
  (.seq (.region [⟨(some 22), .move (.tmp 0), none⟩,
    ⟨(some 23), .move (.tmp 7), none⟩,
    ⟨(some 24), .call (.func 29) [(.tmp 22), (.tmp 23)], none⟩,
    ⟨(some 21), .move (.tmp 24), none⟩,
    ⟨(some 25), .extract (.tmp 21) 0, none⟩,
    ⟨(some 26), .extract (.tmp 21) 1, none⟩,
    ⟨(some 0), .move (.tmp 25), none⟩])
  (.seq (.block 0 (.loop (.seq (.seq (.region [⟨(some 27), .move (.tmp 7), none⟩,
     ⟨(some 28), .ibin .gtr (.tmp 27) (.const (.int .i64 (0))), none⟩])
   (.cond (.tmp 28)
    .skip
    (.exit 0)))
   (.block 1 (.seq (.region [⟨(some 29), .move (.tmp 7), none⟩,
     ⟨(some 30), .move (.tmp 0), none⟩,
     ⟨(some 31), .call (.func 27) [(.tmp 30)], none⟩,
     ⟨(some 32), .pure ⟨none, (.call ⟨.builtin .min, #[(.tmp 29), (.tmp 31)], #[2, 2]⟩), 2, "", #[], none⟩, none⟩,
     ⟨(some 8), .move (.tmp 32), none⟩])
   (.seq (.region [⟨(some 33), .move (.tmp 6), none⟩,
     ⟨(some 34), .move (.tmp 8), none⟩,
     ⟨(some 35), .buildSlice 2 1 1 [(.int .i64 (0))] [(0, 1, (.tmp 34))], none⟩,
     ⟨(some 36), .append 2 1 8 (.tmp 33) (.tmp 35), none⟩,
     ⟨(some 6), .move (.tmp 36), none⟩])
   (.region [⟨(some 37), .move (.tmp 7), none⟩,
     ⟨(some 38), .move (.tmp 8), none⟩,
     ⟨(some 39), .ibin .sub (.tmp 37) (.tmp 38), none⟩,
     ⟨(some 7), .move (.tmp 39), none⟩])))))))
  (.seq (.region [⟨(some 40), .move (.tmp 6), none⟩,
    ⟨(some 41), .move (.tmp 0), none⟩,
    ⟨(some 4), .move (.tmp 40), none⟩,
    ⟨(some 5), .move (.tmp 41), none⟩])
  .ret))))))), 42, [.tmp 4, .tmp 5], false⟩
def i43 : IFunc := ⟨(.seq (.region [⟨(some 4), .move (.const (.bool false)), none⟩])
  (.seq (.seq (.region [⟨(some 6), .move (.tmp 0), none⟩,
    ⟨(some 7), .len ⟨none, (.call ⟨.builtin .len, #[(.tmp 6)], #[45]⟩), 3, "", #[], none⟩ (.tmp 6), none⟩,
    ⟨(some 8), .move (.tmp 1), none⟩,
    ⟨(some 9), .len ⟨none, (.call ⟨.builtin .len, #[(.tmp 8)], #[45]⟩), 3, "", #[], none⟩ (.tmp 8), none⟩,
    ⟨(some 10), .ibin .neq (.tmp 7) (.tmp 9), none⟩])
  (.cond (.tmp 10)
   (.seq (.region [⟨(some 4), .move (.const (.bool false)), none⟩])
   .ret)
   .skip))
  (.seq (.seq (.region [⟨(some 5), .move (.const (.int .i64 (0))), none⟩])
  (.block 0 (.loop (.seq (.seq (.region [⟨(some 11), .move (.tmp 5), none⟩,
     ⟨(some 12), .move (.tmp 0), none⟩,
     ⟨(some 13), .len ⟨none, (.call ⟨.builtin .len, #[(.tmp 12)], #[45]⟩), 3, "", #[], none⟩ (.tmp 12), none⟩,
     ⟨(some 14), .ibin .lss (.tmp 11) (.tmp 13), none⟩])
   (.cond (.tmp 14)
    .skip
    (.exit 0)))
   (.seq (.block 1 (.seq (.region [⟨(some 17), .move (.tmp 0), none⟩,
     ⟨(some 18), .move (.tmp 5), none⟩,
     ⟨(some 19), .indexSlice 1 (.tmp 17) (.tmp 18), none⟩,
     ⟨(some 20), .load1 (.tmp 19), none⟩,
     ⟨(some 21), .move (.tmp 1), none⟩,
     ⟨(some 22), .move (.tmp 5), none⟩,
     ⟨(some 23), .indexSlice 1 (.tmp 21) (.tmp 22), none⟩,
     ⟨(some 24), .load1 (.tmp 23), none⟩,
     ⟨(some 25), .ibin .neq (.tmp 20) (.tmp 24), none⟩])
   (.cond (.tmp 25)
    (.seq (.region [⟨(some 4), .move (.const (.bool false)), none⟩])
    .ret)
    .skip)))
   (.region [⟨(some 15), .move (.tmp 5), none⟩,
     ⟨(some 16), .ibin .add (.tmp 15) (.const (.int .i64 (1))), none⟩,
     ⟨(some 5), .move (.tmp 16), none⟩]))))))
  (.seq (.region [⟨(some 4), .move (.const (.bool true)), none⟩])
  .ret)))), 26, [.tmp 4], false⟩
def i47 : IFunc := ⟨(.seq (.region [⟨(some 2), .move (.const (.float .f64 0)), none⟩])
  (.seq (.cond (.const (.bool true))
   (.seq (.region [⟨(some 3), .move (.tmp 0), none⟩,
     ⟨(some 4), .call (.func 49) [(.tmp 3)], none⟩,
     ⟨(some 2), .move (.tmp 4), none⟩])
   .ret)
   .skip)
  (.seq (.region [⟨(some 5), .move (.tmp 0), none⟩,
    ⟨(some 6), .call (.func 50) [(.tmp 5)], none⟩,
    ⟨(some 2), .move (.tmp 6), none⟩])
  .ret))), 7, [.tmp 2], false⟩
def i50 : IFunc := ⟨(.seq (.region [⟨(some 2), .move (.const (.float .f64 0)), none⟩])
  (.seq (.seq (.region [⟨(some 5), .move (.tmp 0), none⟩,
    ⟨(some 6), .call (.func 51) [(.tmp 5)], none⟩,
    ⟨(some 7), .pure ⟨none, (.binOp .lss 62 (.tmp 6) (.const (.float .f64 4607182418800017408)) 62), 4, "", #[], none⟩, none⟩])
  (.cond (.tmp 7)
   (.seq (.region [⟨(some 8), .move (.tmp 0), none⟩,
     ⟨(some 9), .call (.func 52) [(.const (.float .f64 0)), (.tmp 8)], none⟩,
     ⟨(some 2), .move (.tmp 9), none⟩])
   .ret)
   .skip))
  (.seq (.region [⟨(some 10), .move (.tmp 0), none⟩,
    ⟨(some 11), .call (.func 53) [(.tmp 10)], none⟩,
    ⟨(some 3), .move (.tmp 11), none⟩])
  (.seq (.region [⟨(some 12), .move (.tmp 3), none⟩,
    ⟨(some 13), .ibin .shr (.tmp 12) (.const (.int .u64 (52))), none⟩,
    ⟨(some 14), .ibin .and (.tmp 13) (.const (.int .u64 (2047))), none⟩,
    ⟨(some 15), .ibin .sub (.tmp 14) (.const (.int .u64 (1023))), none⟩,
    ⟨(some 4), .move (.tmp 15), none⟩])
  (.seq (.seq (.region [⟨(some 16), .move (.tmp 4), none⟩,
    ⟨(some 17), .ibin .lss (.tmp 16) (.const (.int .u64 (52))), none⟩])
  (.cond (.tmp 17)
   (.region [⟨(some 18), .move (.tmp 3), none⟩,
     ⟨(some 19), .move (.tmp 4), none⟩,
     ⟨(some 20), .ibin .sub (.const (.int .u64 (52))) (.tmp 19), none⟩,
     ⟨(some 21), .ibin .shl (.const (.int .u64 (1))) (.tmp 20), none⟩,
     ⟨(some 22), .ibin .sub (.tmp 21) (.const (.int .u64 (1))), none⟩,
     ⟨(some 23), .ibin .andNot (.tmp 18) (.tmp 22), none⟩,
     ⟨(some 3), .move (.tmp 23), none⟩])
   .skip))
  (.seq (.region [⟨(some 24), .move (.tmp 3), none⟩,
    ⟨(some 25), .call (.func 54) [(.tmp 24)], none⟩,
    ⟨(some 2), .move (.tmp 25), none⟩])
  .ret)))))), 26, [.tmp 2], false⟩
def i51 : IFunc := ⟨(.seq (.region [⟨(some 2), .move (.const (.float .f64 0)), none⟩])
  (.seq (.region [⟨(some 3), .move (.tmp 0), none⟩,
    ⟨(some 4), .call (.func 53) [(.tmp 3)], none⟩,
    ⟨(some 5), .ibin .andNot (.tmp 4) (.const (.int .u64 (9223372036854775808))), none⟩,
    ⟨(some 6), .call (.func 54) [(.tmp 5)], none⟩,
    ⟨(some 2), .move (.tmp 6), none⟩])
  .ret)), 7, [.tmp 2], false⟩
def i52 : IFunc := ⟨(.seq (.region [⟨(some 4), .move (.const (.float .f64 0)), none⟩])
  (.seq (.region [⟨(some 5), .move (.tmp 0), none⟩,
    ⟨(some 6), .call (.func 53) [(.tmp 5)], none⟩,
    ⟨(some 7), .ibin .andNot (.tmp 6) (.const (.int .u64 (9223372036854775808))), none⟩,
    ⟨(some 8), .move (.tmp 1), none⟩,
    ⟨(some 9), .call (.func 53) [(.tmp 8)], none⟩,
    ⟨(some 10), .ibin .and (.tmp 9) (.const (.int .u64 (9223372036854775808))), none⟩,
    ⟨(some 11), .ibin .or (.tmp 7) (.tmp 10), none⟩,
    ⟨(some 12), .call (.func 54) [(.tmp 11)], none⟩,
    ⟨(some 4), .move (.tmp 12), none⟩])
  .ret)), 13, [.tmp 4], false⟩
def tab : List (Nat × IFunc) := [(8, i8), (23, i23), (24, i24), (25, i25), (26, i26), (27, i27), (28, i28), (29, i29), (30, i30), (31, i31), (32, i32), (33, i33), (34, i34), (40, i40), (41, i41), (42, i42), (35, i35), (43, i43), (47, i47), (50, i50), (51, i51), (52, i52)]
theorem tab_all : ∀ p ∈ tab, mkI Try.prog p.1 p.2.keep = some p.2 := by
  simp only [tab, List.forall_mem_cons, List.not_mem_nil, false_imp_iff, implies_true, and_true]
  exact ⟨by kernel_rfl, by kernel_rfl, by kernel_rfl, by kernel_rfl, by kernel_rfl, by kernel_rfl, by kernel_rfl, by kernel_rfl, by kernel_rfl, by kernel_rfl, by kernel_rfl, by kernel_rfl, by kernel_rfl, by kernel_rfl, by kernel_rfl, by kernel_rfl, by kernel_rfl, by kernel_rfl, by kernel_rfl, by kernel_rfl, by kernel_rfl, by kernel_rfl⟩

noncomputable def cA : ICode := match i8.code with | .seq a _ => a | _ => .fail
noncomputable def cR : ICode := match i8.code with | .seq _ (.seq (.seq r _) _) => r | _ => .fail
noncomputable def cB : ICode := match i8.code with | .seq _ (.seq (.seq _ (.block _ (.loop b))) _) => b | _ => .fail
noncomputable def cC : ICode := match i8.code with | .seq _ (.seq _ c) => c | _ => .fail
theorem code_eq : i8.code = .seq cA (.seq (.seq cR (.block 0 (.loop cB))) cC) := rfl
noncomputable abbrev E (n : Nat) (c : ICode) (s : XSt) : Option (XR × XSt) := ex Try.prog (look tab) ovT n c s
def sI : XSt := ([(.tuple #[]), (.tuple #[]), (.tuple #[]), (.tuple #[]), (.tuple #[]), (.tuple #[]), (.tuple #[]), (.tuple #[]), (.tuple #[]), (.tuple #[]), (.tuple #[]), (.tuple #[]), (.tuple #[]), (.tuple #[]), (.tuple #[]), (.tuple #[]), (.tuple #[]), (.tuple #[]), (.tuple #[]), (.tuple #[]), (.tuple #[]), (.tuple #[]), (.tuple #[]), (.tuple #[]), (.tuple #[]), (.tuple #[]), (.tuple #[]), (.tuple #[]), (.tuple #[]), (.tuple #[]), (.tuple #[]), (.tuple #[]), (.tuple #[]), (.tuple #[]), (.tuple #[]), (.tuple #[]), (.tuple #[]), (.tuple #[]), (.tuple #[]), (.tuple #[]), (.tuple #[]), (.tuple #[]), (.tuple #[]), (.tuple #[]), (.tuple #[]), (.tuple #[]), (.tuple #[]), (.tuple #[]), (.tuple #[]), (.tuple #[]), (.tuple #[]), (.tuple #[]), (.tuple #[]), (.tuple #[]), (.tuple #[]), (.tuple #[]), (.tuple #[]), (.tuple #[]), (.tuple #[]), (.tuple #[]), (.tuple #[]), (.tuple #[]), (.tuple #[]), (.tuple #[]), (.tuple #[]), (.tuple #[]), (.tuple #[]), (.tuple #[]), (.tuple #[]), (.tuple #[]), (.tuple #[]), (.tuple #[]), (.tuple #[]), (.tuple #[]), (.tuple #[]), (.tuple #[]), (.tuple #[]), (.tuple #[]), (.tuple #[]), (.tuple #[]), (.tuple #[]), (.tuple #[]), (.tuple #[]), (.tuple #[]), (.tuple #[]), (.tuple #[]), (.tuple #[]), (.tuple #[]), (.tuple #[]), (.tuple #[]), (.tuple #[]), (.tuple #[]), (.tuple #[])], [], 0)
def sA : XSt := ([(.bool false), (.tuple #[]), (.tuple #[]), (.tuple #[]), (.tuple #[]), (.tuple #[]), (.tuple #[]), (.tuple #[]), (.tuple #[]), (.tuple #[]), (.tuple #[]), (.tuple #[]), (.tuple #[]), (.tuple #[]), (.tuple #[]), (.tuple #[]), (.tuple #[]), (.tuple #[]), (.tuple #[]), (.tuple #[]), (.tuple #[]), (.tuple #[]), (.tuple #[]), (.tuple #[]), (.tuple #[]), (.tuple #[]), (.tuple #[]), (.tuple #[]), (.tuple #[]), (.tuple #[]), (.tuple #[]), (.tuple #[]), (.tuple #[]), (.tuple #[]), (.tuple #[]), (.tuple #[]), (.tuple #[]), (.tuple #[]), (.tuple #[]), (.tuple #[]), (.tuple #[]), (.tuple #[]), (.tuple #[]), (.tuple #[]), (.tuple #[]), (.tuple #[]), (.tuple #[]), (.tuple #[]), (.tuple #[]), (.tuple #[]), (.tuple #[]), (.tuple #[]), (.tuple #[]), (.tuple #[]), (.tuple #[]), (.tuple #[]), (.tuple #[]), (.tuple #[]), (.tuple #[]), (.tuple #[]), (.tuple #[]), (.tuple #[]), (.tuple #[]), (.tuple #[]), (.tuple #[]), (.tuple #[]), (.tuple #[]), (.tuple #[]), (.tuple #[]), (.tuple #[]), (.tuple #[]), (.tuple #[]), (.tuple #[]), (.tuple #[]), (.tuple #[]), (.tuple #[]), (.tuple #[]), (.tuple #[]), (.tuple #[]), (.tuple #[]), (.tuple #[]), (.tuple #[]), (.tuple #[]), (.tuple #[]), (.tuple #[]), (.tuple #[]), (.tuple #[]), (.tuple #[]), (.tuple #[]), (.tuple #[]), (.tuple #[]), (.tuple #[]), (.tuple #[])], [], 0)
def s0 : XSt := ([(.bool false), (.tuple #[]), (.tuple #[]), (.tuple #[]), (.tuple #[]), (.tuple #[]), (.tuple #[]), (.tuple #[]), (.tuple #[]), (.tuple #[]), (.tuple #[]), (.tuple #[]), (.tuple #[]), (.slice (some ⟨0, 0, none⟩) 11 11), (.int .i64 (11)), (.int .i64 (0)), (.tuple #[]), (.tuple #[]), (.tuple #[]), (.tuple #[]), (.tuple #[]), (.tuple #[]), (.tuple #[]), (.tuple #[]), (.tuple #[]), (.tuple #[]), (.tuple #[]), (.tuple #[]), (.tuple #[]), (.tuple #[]), (.tuple #[]), (.tuple #[]), (.tuple #[]), (.tuple #[]), (.tuple #[]), (.tuple #[]), (.tuple #[]), (.tuple #[]), (.tuple #[]), (.tuple #[]), (.tuple #[]), (.tuple #[]), (.tuple #[]), (.tuple #[]), (.tuple #[]), (.tuple #[]), (.tuple #[]), (.tuple #[]), (.tuple #[]), (.tuple #[]), (.tuple #[]), (.tuple #[]), (.tuple #[]), (.tuple #[]), (.tuple #[]), (.tuple #[]), (.tuple #[]), (.tuple #[]), (.tuple #[]), (.tuple #[]), (.tuple #[]), (.tuple #[]), (.tuple #[]), (.tuple #[]), (.tuple #[]), (.tuple #[]), (.tuple #[]), (.tuple #[]), (.tuple #[]), (.tuple #[]), (.tuple #[]), (.tuple #[]), (.tuple #[]), (.tuple #[]), (.tuple #[]), (.tuple #[]), (.tuple #[]), (.tuple #[]), (.tuple #[]), (.tuple #[]), (.tuple #[]), (.tuple #[]), (.tuple #[]), (.tuple #[]), (.tuple #[]), (.tuple #[]), (.tuple #[]), (.tuple #[]), (.tuple #[]), (.tuple #[]), (.tuple #[]), (.tuple #[]), (.tuple #[])], [(0, ⟨41, 1, [(.complex .f64 0 0), (.complex .f64 4607182418800017408 0), (.complex .f64 4617315517961601024 4611686018427387904), (.complex .f64 0 4607182418800017408), (.complex .f64 13830554455654793216 4617315517961601024), (.complex .f64 4602678819172646912 4607182418800017408), (.complex .f64 4607182418800017408 4602678819172646912), (.complex .f64 4751297606873776128 4674736413210574848), (.complex .f64 4751297606875873280 4607182418800017408), (.complex .f64 4617315517961601024 4674736550649528320), (.complex .f64 4617315517961601024 13830554455654793216)], false⟩)], 1)
def s1 : XSt := ([(.bool false), (.tuple #[]), (.complex .f64 0 0), (.tuple #[]), (.int .i64 (-9223372036854775808)), (.complex .f64 0 0), (.bool false), (.complex .f64 0 0), (.bool false), (.complex .f64 0 0), (.bool false), (.complex .f64 0 0), (.bool false), (.slice (some ⟨0, 0, none⟩) 11 11), (.int .i64 (11)), (.int .i64 (1)), (.bool true), (.pointer (some ⟨0, 0, none⟩)), (.complex .f64 0 0), (.complex .f64 0 0), (.bool false), (.complex .f64 0 0), (.bool false), (.bool false), (.bool false), (.complex .f64 0 0), (.int .i64 (0)), (.complex .f64 0 0), (.int .i64 (0)), (.bool false), (.bool false), (.bool false), (.complex .f64 0 0), (.int .i64 (0)), (.complex .f64 0 0), (.int .i64 (0)), (.bool false), (.bool false), (.slice (some ⟨1, 0, none⟩) 9 9), (.int .i64 (9)), (.int .i64 (9)), (.bool false), (.pointer (some ⟨1, 8, none⟩)), (.int .i64 (-9223372036854775808)), (.tuple #[(.complex .f64 0 0), (.bool false)]), (.complex .f64 0 0), (.int .i64 (-9223372036854775808)), (.tuple #[(.complex .f64 0 0), (.bool false)]), (.complex .f64 0 0), (.bool false), (.tuple #[(.complex .f64 0 0), (.bool false)]), (.complex .f64 0 0), (.int .i64 (-9223372036854775808)), (.tuple #[(.complex .f64 0 0), (.bool false)]), (.complex .f64 0 0), (.bool false), (.tuple #[(.complex .f64 0 0), (.bool false)]), (.complex .f64 0 0), (.int .i64 (-9223372036854775808)), (.tuple #[(.complex .f64 0 0), (.bool false)]), (.complex .f64 0 0), (.bool false), (.tuple #[(.complex .f64 0 0), (.bool false)]), (.complex .f64 0 0), (.int .i64 (-9223372036854775808)), (.tuple #[(.complex .f64 0 0), (.bool false)]), (.complex .f64 0 0), (.bool false), (.complex .f64 0 0), (.complex .f64 0 0), (.bool false), (.bool false), (.bool false), (.bool false), (.bool false), (.bool false), (.bool false), (.complex .f64 0 0), (.complex .f64 0 0), (.bool false), (.bool false), (.bool false), (.bool false), (.bool false), (.bool false), (.bool false), (.int .i64 (9)), (.int .i64 (1)), (.tuple #[]), (.tuple #[]), (.tuple #[]), (.tuple #[]), (.tuple #[])], [(1, ⟨2, 1, [(.int .i64 (-1)), (.int .i64 (0)), (.int .i64 (1)), (.int .i64 (5)), (.int .i64 (6)), (.int .i64 (4294967295)), (.int .i64 (4294967296)), (.int .i64 (9223372036854775807)), (.int .i64 (-9223372036854775808))], false⟩), (0, ⟨41, 1, [(.complex .f64 0 0), (.complex .f64 4607182418800017408 0), (.complex .f64 4617315517961601024 4611686018427387904), (.complex .f64 0 4607182418800017408), (.complex .f64 13830554455654793216 4617315517961601024), (.complex .f64 4602678819172646912 4607182418800017408), (.complex .f64 4607182418800017408 4602678819172646912), (.complex .f64 4751297606873776128 4674736413210574848), (.complex .f64 4751297606875873280 4607182418800017408), (.complex .f64 4617315517961601024 4674736550649528320), (.complex .f64 4617315517961601024 13830554455654793216)], false⟩)], 2)
def s2 : XSt := ([(.bool false), (.tuple #[]), (.complex .f64 4607182418800017408 0), (.tuple #[]), (.int .i64 (-9223372036854775808)), (.complex .f64 0 0), (.bool false), (.complex .f64 0 0), (.bool false), (.complex .f64 0 0), (.bool false), (.complex .f64 0 0), (.bool false), (.slice (some ⟨0, 0, none⟩) 11 11), (.int .i64 (11)), (.int .i64 (2)), (.bool true), (.pointer (some ⟨0, 1, none⟩)), (.complex .f64 4607182418800017408 0), (.complex .f64 4607182418800017408 0), (.bool false), (.complex .f64 4607182418800017408 0), (.bool false), (.bool false), (.bool false), (.complex .f64 4607182418800017408 0), (.int .i64 (0)), (.complex .f64 4607182418800017408 0), (.int .i64 (0)), (.bool false), (.bool false), (.bool false), (.complex .f64 4607182418800017408 0), (.int .i64 (0)), (.complex .f64 4607182418800017408 0), (.int .i64 (0)), (.bool false), (.bool false), (.slice (some ⟨2, 0, none⟩) 9 9), (.int .i64 (9)), (.int .i64 (9)), (.bool false), (.pointer (some ⟨2, 8, none⟩)), (.int .i64 (-9223372036854775808)), (.tuple #[(.complex .f64 0 0), (.bool false)]), (.complex .f64 4607182418800017408 0), (.int .i64 (-9223372036854775808)), (.tuple #[(.complex .f64 0 0), (.bool false)]), (.complex .f64 0 0), (.bool false), (.tuple #[(.complex .f64 0 0), (.bool false)]), (.complex .f64 4607182418800017408 0), (.int .i64 (-9223372036854775808)), (.tuple #[(.complex .f64 0 0), (.bool false)]), (.complex .f64 0 0), (.bool false), (.tuple #[(.complex .f64 0 0), (.bool false)]), (.complex .f64 4607182418800017408 0), (.int .i64 (-9223372036854775808)), (.tuple #[(.complex .f64 0 0), (.bool false)]), (.complex .f64 0 0), (.bool false), (.tuple #[(.complex .f64 0 0), (.bool false)]), (.complex .f64 4607182418800017408 0), (.int .i64 (-9223372036854775808)), (.tuple #[(.complex .f64 0 0), (.bool false)]), (.complex .f64 0 0), (.bool false), (.complex .f64 0 0), (.complex .f64 0 0), (.bool false), (.bool false), (.bool false), (.bool false), (.bool false), (.bool false), (.bool false), (.complex .f64 0 0), (.complex .f64 0 0), (.bool false), (.bool false), (.bool false), (.bool false), (.bool false), (.bool false), (.bool false), (.int .i64 (9)), (.int .i64 (2)), (.tuple #[]), (.tuple #[]), (.tuple #[]), (.tuple #[]), (.tuple #[])], [(2, ⟨2, 1, [(.int .i64 (-1)), (.int .i64 (0)), (.int .i64 (1)), (.int .i64 (5)), (.int .i64 (6)), (.int .i64 (4294967295)), (.int .i64 (4294967296)), (.int .i64 (9223372036854775807)), (.int .i64 (-9223372036854775808))], false⟩), (1, ⟨2, 1, [(.int .i64 (-1)), (.int .i64 (0)), (.int .i64 (1)), (.int .i64 (5)), (.int .i64 (6)), (.int .i64 (4294967295)), (.int .i64 (4294967296)), (.int .i64 (9223372036854775807)), (.int .i64 (-9223372036854775808))], false⟩), (0, ⟨41, 1, [(.complex .f64 0 0), (.complex .f64 4607182418800017408 0), (.complex .f64 4617315517961601024 4611686018427387904), (.complex .f64 0 4607182418800017408), (.complex .f64 13830554455654793216 4617315517961601024), (.complex .f64 4602678819172646912 4607182418800017408), (.complex .f64 4607182418800017408 4602678819172646912), (.complex .f64 4751297606873776128 4674736413210574848), (.complex .f64 4751297606875873280 4607182418800017408), (.complex .f64 4617315517961601024 4674736550649528320), (.complex .f64 4617315517961601024 13830554455654793216)], false⟩)], 3)
def s3 : XSt := ([(.bool false), (.tuple #[]), (.complex .f64 4617315517961601024 4611686018427387904), (.tuple #[]), (.int .i64 (-9223372036854775808)), (.complex .f64 0 0), (.bool false), (.complex .f64 0 0), (.bool false), (.complex .f64 0 0), (.bool false), (.complex .f64 0 0), (.bool false), (.slice (some ⟨0, 0, none⟩) 11 11), (.int .i64 (11)), (.int .i64 (3)), (.bool true), (.pointer (some ⟨0, 2, none⟩)), (.complex .f64 4617315517961601024 4611686018427387904), (.complex .f64 4617315517961601024 4611686018427387904), (.bool true), (.complex .f64 4617315517961601024 4611686018427387904), (.bool true), (.bool false), (.bool false), (.complex .f64 4617315517961601024 4611686018427387904), (.int .i64 (5)), (.complex .f64 4617315517961601024 4611686018427387904), (.int .i64 (5)), (.bool false), (.bool false), (.bool false), (.complex .f64 4617315517961601024 4611686018427387904), (.int .i64 (2)), (.complex .f64 4617315517961601024 4611686018427387904), (.int .i64 (2)), (.bool false), (.bool false), (.slice (some ⟨3, 0, none⟩) 9 9), (.int .i64 (9)), (.int .i64 (9)), (.bool false), (.pointer (some ⟨3, 8, none⟩)), (.int .i64 (-9223372036854775808)), (.tuple #[(.complex .f64 0 0), (.bool false)]), (.complex .f64 4617315517961601024 4611686018427387904), (.int .i64 (-9223372036854775808)), (.tuple #[(.complex .f64 0 0), (.bool false)]), (.complex .f64 0 0), (.bool false), (.tuple #[(.complex .f64 0 0), (.bool false)]), (.complex .f64 4617315517961601024 4611686018427387904), (.int .i64 (-9223372036854775808)), (.tuple #[(.complex .f64 0 0), (.bool false)]), (.complex .f64 0 0), (.bool false), (.tuple #[(.complex .f64 0 0), (.bool false)]), (.complex .f64 4617315517961601024 4611686018427387904), (.int .i64 (-9223372036854775808)), (.tuple #[(.complex .f64 0 0), (.bool false)]), (.complex .f64 0 0), (.bool false), (.tuple #[(.complex .f64 0 0), (.bool false)]), (.complex .f64 4617315517961601024 4611686018427387904), (.int .i64 (-9223372036854775808)), (.tuple #[(.complex .f64 0 0), (.bool false)]), (.complex .f64 0 0), (.bool false), (.complex .f64 0 0), (.complex .f64 0 0), (.bool false), (.bool false), (.bool false), (.bool false), (.bool false), (.bool false), (.bool false), (.complex .f64 0 0), (.complex .f64 0 0), (.bool false), (.bool false), (.bool false), (.bool false), (.bool false), (.bool false), (.bool false), (.int .i64 (9)), (.int .i64 (3)), (.tuple #[]), (.tuple #[]), (.tuple #[]), (.tuple #[]), (.tuple #[])], [(3, ⟨2, 1, [(.int .i64 (-1)), (.int .i64 (0)), (.int .i64 (1)), (.int .i64 (5)), (.int .i64 (6)), (.int .i64 (4294967295)), (.int .i64 (4294967296)), (.int .i64 (9223372036854775807)), (.int .i64 (-9223372036854775808))], false⟩), (2, ⟨2, 1, [(.int .i64 (-1)), (.int .i64 (0)), (.int .i64 (1)), (.int .i64 (5)), (.int .i64 (6)), (.int .i64 (4294967295)), (.int .i64 (4294967296)), (.int .i64 (9223372036854775807)), (.int .i64 (-9223372036854775808))], false⟩), (1, ⟨2, 1, [(.int .i64 (-1)), (.int .i64 (0)), (.int .i64 (1)), (.int .i64 (5)), (.int .i64 (6)), (.int .i64 (4294967295)), (.int .i64 (4294967296)), (.int .i64 (9223372036854775807)), (.int .i64 (-9223372036854775808))], false⟩), (0, ⟨41, 1, [(.complex .f64 0 0), (.complex .f64 4607182418800017408 0), (.complex .f64 4617315517961601024 4611686018427387904), (.complex .f64 0 4607182418800017408), (.complex .f64 13830554455654793216 4617315517961601024), (.complex .f64 4602678819172646912 4607182418800017408), (.complex .f64 4607182418800017408 4602678819172646912), (.complex .f64 4751297606873776128 4674736413210574848), (.complex .f64 4751297606875873280 4607182418800017408), (.complex .f64 4617315517961601024 4674736550649528320), (.complex .f64 4617315517961601024 13830554455654793216)], false⟩)], 4)
def s4 : XSt := ([(.bool false), (.tuple #[]), (.complex .f64 0 4607182418800017408), (.tuple #[]), (.int .i64 (-9223372036854775808)), (.complex .f64 0 0), (.bool false), (.complex .f64 0 0), (.bool false), (.complex .f64 0 0), (.bool false), (.complex .f64 0 0), (.bool false), (.slice (some ⟨0, 0, none⟩) 11 11), (.int .i64 (11)), (.int .i64 (4)), (.bool true), (.pointer (some ⟨0, 3, none⟩)), (.complex .f64 0 4607182418800017408), (.complex .f64 0 4607182418800017408), (.bool true), (.complex .f64 0 4607182418800017408), (.bool true), (.bool false), (.bool false), (.complex .f64 0 4607182418800017408), (.int .i64 (0)), (.complex .f64 0 4607182418800017408), (.int .i64 (0)), (.bool false), (.bool false), (.bool false), (.complex .f64 0 4607182418800017408), (.int .i64 (1)), (.complex .f64 0 4607182418800017408), (.int .i64 (1)), (.bool false), (.bool false), (.slice (some ⟨4, 0, none⟩) 9 9), (.int .i64 (9)), (.int .i64 (9)), (.bool false), (.pointer (some ⟨4, 8, none⟩)), (.int .i64 (-9223372036854775808)), (.tuple #[(.complex .f64 0 0), (.bool false)]), (.complex .f64 0 4607182418800017408), (.int .i64 (-9223372036854775808)), (.tuple #[(.complex .f64 0 0), (.bool false)]), (.complex .f64 0 0), (.bool false), (.tuple #[(.complex .f64 0 0), (.bool false)]), (.complex .f64 0 4607182418800017408), (.int .i64 (-9223372036854775808)), (.tuple #[(.complex .f64 0 0), (.bool false)]), (.complex .f64 0 0), (.bool false), (.tuple #[(.complex .f64 0 0), (.bool false)]), (.complex .f64 0 4607182418800017408), (.int .i64 (-9223372036854775808)), (.tuple #[(.complex .f64 0 0), (.bool false)]), (.complex .f64 0 0), (.bool false), (.tuple #[(.complex .f64 0 0), (.bool false)]), (.complex .f64 0 4607182418800017408), (.int .i64 (-9223372036854775808)), (.tuple #[(.complex .f64 0 0), (.bool false)]), (.complex .f64 0 0), (.bool false), (.complex .f64 0 0), (.complex .f64 0 0), (.bool false), (.bool false), (.bool false), (.bool false), (.bool false), (.bool false), (.bool false), (.complex .f64 0 0), (.complex .f64 0 0), (.bool false), (.bool false), (.bool false), (.bool false), (.bool false), (.bool false), (.bool false), (.int .i64 (9)), (.int .i64 (4)), (.tuple #[]), (.tuple #[]), (.tuple #[]), (.tuple #[]), (.tuple #[])], [(4, ⟨2, 1, [(.int .i64 (-1)), (.int .i64 (0)), (.int .i64 (1)), (.int .i64 (5)), (.int .i64 (6)), (.int .i64 (4294967295)), (.int .i64 (4294967296)), (.int .i64 (9223372036854775807)), (.int .i64 (-9223372036854775808))], false⟩), (3, ⟨2, 1, [(.int .i64 (-1)), (.int .i64 (0)), (.int .i64 (1)), (.int .i64 (5)), (.int .i64 (6)), (.int .i64 (4294967295)), (.int .i64 (4294967296)), (.int .i64 (9223372036854775807)), (.int .i64 (-9223372036854775808))], false⟩), (2, ⟨2, 1, [(.int .i64 (-1)), (.int .i64 (0)), (.int .i64 (1)), (.int .i64 (5)), (.int .i64 (6)), (.int .i64 (4294967295)), (.int .i64 (4294967296)), (.int .i64 (9223372036854775807)), (.int .i64 (-9223372036854775808))], false⟩), (1, ⟨2, 1, [(.int .i64 (-1)), (.int .i64 (0)), (.int .i64 (1)), (.int .i64 (5)), (.int .i64 (6)), (.int .i64 (4294967295)), (.int .i64 (4294967296)), (.int .i64 (9223372036854775807)), (.int .i64 (-9223372036854775808))], false⟩), (0, ⟨41, 1, [(.complex .f64 0 0), (.complex .f64 4607182418800017408 0), (.complex .f64 4617315517961601024 4611686018427387904), (.complex .f64 0 4607182418800017408), (.complex .f64 13830554455654793216 4617315517961601024), (.complex .f64 4602678819172646912 4607182418800017408), (.complex .f64 4607182418800017408 4602678819172646912), (.complex .f64 4751297606873776128 4674736413210574848), (.complex .f64 4751297606875873280 4607182418800017408), (.complex .f64 4617315517961601024 4674736550649528320), (.complex .f64 4617315517961601024 13830554455654793216)], false⟩)], 5)
def s5 : XSt := ([(.bool false), (.tuple #[]), (.complex .f64 13830554455654793216 4617315517961601024), (.tuple #[]), (.int .i64 (-9223372036854775808)), (.complex .f64 0 0), (.bool false), (.complex .f64 0 0), (.bool false), (.complex .f64 0 0), (.bool false), (.complex .f64 0 0), (.bool false), (.slice (some ⟨0, 0, none⟩) 11 11), (.int .i64 (11)), (.int .i64 (5)), (.bool true), (.pointer (some ⟨0, 4, none⟩)), (.complex .f64 13830554455654793216 4617315517961601024), (.complex .f64 13830554455654793216 4617315517961601024), (.bool false), (.complex .f64 13830554455654793216 4617315517961601024), (.bool false), (.bool false), (.bool false), (.complex .f64 13830554455654793216 4617315517961601024), (.int .i64 (0)), (.complex .f64 13830554455654793216 4617315517961601024), (.int .i64 (0)), (.bool false), (.bool false), (.bool false), (.complex .f64 13830554455654793216 4617315517961601024), (.int .i64 (0)), (.complex .f64 13830554455654793216 4617315517961601024), (.int .i64 (0)), (.bool false), (.bool false), (.slice (some ⟨5, 0, none⟩) 9 9), (.int .i64 (9)), (.int .i64 (9)), (.bool false), (.pointer (some ⟨5, 8, none⟩)), (.int .i64 (-9223372036854775808)), (.tuple #[(.complex .f64 0 0), (.bool false)]), (.complex .f64 13830554455654793216 4617315517961601024), (.int .i64 (-9223372036854775808)), (.tuple #[(.complex .f64 0 0), (.bool false)]), (.complex .f64 0 0), (.bool false), (.tuple #[(.complex .f64 0 0), (.bool false)]), (.complex .f64 13830554455654793216 4617315517961601024), (.int .i64 (-9223372036854775808)), (.tuple #[(.complex .f64 0 0), (.bool false)]), (.complex .f64 0 0), (.bool false), (.tuple #[(.complex .f64 0 0), (.bool false)]), (.complex .f64 13830554455654793216 4617315517961601024), (.int .i64 (-9223372036854775808)), (.tuple #[(.complex .f64 0 0), (.bool false)]), (.complex .f64 0 0), (.bool false), (.tuple #[(.complex .f64 0 0), (.bool false)]), (.complex .f64 13830554455654793216 4617315517961601024), (.int .i64 (-9223372036854775808)), (.tuple #[(.complex .f64 0 0), (.bool false)]), (.complex .f64 0 0), (.bool false), (.complex .f64 0 0), (.complex .f64 0 0), (.bool false), (.bool false), (.bool false), (.bool false), (.bool false), (.bool false), (.bool false), (.complex .f64 0 0), (.complex .f64 0 0), (.bool false), (.bool false), (.bool false), (.bool false), (.bool false), (.bool false), (.bool false), (.int .i64 (9)), (.int .i64 (5)), (.tuple #[]), (.tuple #[]), (.tuple #[]), (.tuple #[]), (.tuple #[])], [(5, ⟨2, 1, [(.int .i64 (-1)), (.int .i64 (0)), (.int .i64 (1)), (.int .i64 (5)), (.int .i64 (6)), (.int .i64 (4294967295)), (.int .i64 (4294967296)), (.int .i64 (9223372036854775807)), (.int .i64 (-9223372036854775808))], false⟩), (4, ⟨2, 1, [(.int .i64 (-1)), (.int .i64 (0)), (.int .i64 (1)), (.int .i64 (5)), (.int .i64 (6)), (.int .i64 (4294967295)), (.int .i64 (4294967296)), (.int .i64 (9223372036854775807)), (.int .i64 (-9223372036854775808))], false⟩), (3, ⟨2, 1, [(.int .i64 (-1)), (.int .i64 (0)), (.int .i64 (1)), (.int .i64 (5)), (.int .i64 (6)), (.int .i64 (4294967295)), (.int .i64 (4294967296)), (.int .i64 (9223372036854775807)), (.int .i64 (-9223372036854775808))], false⟩), (2, ⟨2, 1, [(.int .i64 (-1)), (.int .i64 (0)), (.int .i64 (1)), (.int .i64 (5)), (.int .i64 (6)), (.int .i64 (4294967295)), (.int .i64 (4294967296)), (.int .i64 (9223372036854775807)), (.int .i64 (-9223372036854775808))], false⟩), (1, ⟨2, 1, [(.int .i64 (-1)), (.int .i64 (0)), (.int .i64 (1)), (.int .i64 (5)), (.int .i64 (6)), (.int .i64 (4294967295)), (.int .i64 (4294967296)), (.int .i64 (9223372036854775807)), (.int .i64 (-9223372036854775808))], false⟩), (0, ⟨41, 1, [(.complex .f64 0 0), (.complex .f64 4607182418800017408 0), (.complex .f64 4617315517961601024 4611686018427387904), (.complex .f64 0 4607182418800017408), (.complex .f64 13830554455654793216 4617315517961601024), (.complex .f64 4602678819172646912 4607182418800017408), (.complex .f64 4607182418800017408 4602678819172646912), (.complex .f64 4751297606873776128 4674736413210574848), (.complex .f64 4751297606875873280 4607182418800017408), (.complex .f64 4617315517961601024 4674736550649528320), (.complex .f64 4617315517961601024 13830554455654793216)], false⟩)], 6)
def s6 : XSt := ([(.bool false), (.tuple #[]), (.complex .f64 4602678819172646912 4607182418800017408), (.tuple #[]), (.int .i64 (-9223372036854775808)), (.complex .f64 0 0), (.bool false), (.complex .f64 0 0), (.bool false), (.complex .f64 0 0), (.bool false), (.complex .f64 0 0), (.bool false), (.slice (some ⟨0, 0, none⟩) 11 11), (.int .i64 (11)), (.int .i64 (6)), (.bool true), (.pointer (some ⟨0, 5, none⟩)), (.complex .f64 4602678819172646912 4607182418800017408), (.complex .f64 4602678819172646912 4607182418800017408), (.bool false), (.complex .f64 4602678819172646912 4607182418800017408), (.bool false), (.bool false), (.bool false), (.complex .f64 4602678819172646912 4607182418800017408), (.int .i64 (0)), (.complex .f64 4602678819172646912 4607182418800017408), (.int .i64 (0)), (.bool false), (.bool false), (.bool false), (.complex .f64 4602678819172646912 4607182418800017408), (.int .i64 (0)), (.complex .f64 4602678819172646912 4607182418800017408), (.int .i64 (0)), (.bool false), (.bool false), (.slice (some ⟨6, 0, none⟩) 9 9), (.int .i64 (9)), (.int .i64 (9)), (.bool false), (.pointer (some ⟨6, 8, none⟩)), (.int .i64 (-9223372036854775808)), (.tuple #[(.complex .f64 0 0), (.bool false)]), (.complex .f64 4602678819172646912 4607182418800017408), (.int .i64 (-9223372036854775808)), (.tuple #[(.complex .f64 0 0), (.bool false)]), (.complex .f64 0 0), (.bool false), (.tuple #[(.complex .f64 0 0), (.bool false)]), (.complex .f64 4602678819172646912 4607182418800017408), (.int .i64 (-9223372036854775808)), (.tuple #[(.complex .f64 0 0), (.bool false)]), (.complex .f64 0 0), (.bool false), (.tuple #[(.complex .f64 0 0), (.bool false)]), (.complex .f64 4602678819172646912 4607182418800017408), (.int .i64 (-9223372036854775808)), (.tuple #[(.complex .f64 0 0), (.bool false)]), (.complex .f64 0 0), (.bool false), (.tuple #[(.complex .f64 0 0), (.bool false)]), (.complex .f64 4602678819172646912 4607182418800017408), (.int .i64 (-9223372036854775808)), (.tuple #[(.complex .f64 0 0), (.bool false)]), (.complex .f64 0 0), (.bool false), (.complex .f64 0 0), (.complex .f64 0 0), (.bool false), (.bool false), (.bool false), (.bool false), (.bool false), (.bool false), (.bool false), (.complex .f64 0 0), (.complex .f64 0 0), (.bool false), (.bool false), (.bool false), (.bool false), (.bool false), (.bool false), (.bool false), (.int .i64 (9)), (.int .i64 (6)), (.tuple #[]), (.tuple #[]), (.tuple #[]), (.tuple #[]), (.tuple #[])], [(6, ⟨2, 1, [(.int .i64 (-1)), (.int .i64 (0)), (.int .i64 (1)), (.int .i64 (5)), (.int .i64 (6)), (.int .i64 (4294967295)), (.int .i64 (4294967296)), (.int .i64 (9223372036854775807)), (.int .i64 (-9223372036854775808))], false⟩), (5, ⟨2, 1, [(.int .i64 (-1)), (.int .i64 (0)), (.int .i64 (1)), (.int .i64 (5)), (.int .i64 (6)), (.int .i64 (4294967295)), (.int .i64 (4294967296)), (.int .i64 (9223372036854775807)), (.int .i64 (-9223372036854775808))], false⟩), (4, ⟨2, 1, [(.int .i64 (-1)), (.int .i64 (0)), (.int .i64 (1)), (.int .i64 (5)), (.int .i64 (6)), (.int .i64 (4294967295)), (.int .i64 (4294967296)), (.int .i64 (9223372036854775807)), (.int .i64 (-9223372036854775808))], false⟩), (3, ⟨2, 1, [(.int .i64 (-1)), (.int .i64 (0)), (.int .i64 (1)), (.int .i64 (5)), (.int .i64 (6)), (.int .i64 (4294967295)), (.int .i64 (4294967296)), (.int .i64 (9223372036854775807)), (.int .i64 (-9223372036854775808))], false⟩), (2, ⟨2, 1, [(.int .i64 (-1)), (.int .i64 (0)), (.int .i64 (1)), (.int .i64 (5)), (.int .i64 (6)), (.int .i64 (4294967295)), (.int .i64 (4294967296)), (.int .i64 (9223372036854775807)), (.int .i64 (-9223372036854775808))], false⟩), (1, ⟨2, 1, [(.int .i64 (-1)), (.int .i64 (0)), (.int .i64 (1)), (.int .i64 (5)), (.int .i64 (6)), (.int .i64 (4294967295)), (.int .i64 (4294967296)), (.int .i64 (9223372036854775807)), (.int .i64 (-9223372036854775808))], false⟩), (0, ⟨41, 1, [(.complex .f64 0 0), (.complex .f64 4607182418800017408 0), (.complex .f64 4617315517961601024 4611686018427387904), (.complex .f64 0 4607182418800017408), (.complex .f64 13830554455654793216 4617315517961601024), (.complex .f64 4602678819172646912 4607182418800017408), (.complex .f64 4607182418800017408 4602678819172646912), (.complex .f64 4751297606873776128 4674736413210574848), (.complex .f64 4751297606875873280 4607182418800017408), (.complex .f64 4617315517961601024 4674736550649528320), (.complex .f64 4617315517961601024 13830554455654793216)], false⟩)], 7)
def s7 : XSt := ([(.bool false), (.tuple #[]), (.complex .f64 4607182418800017408 4602678819172646912), (.tuple #[]), (.int .i64 (-9223372036854775808)), (.complex .f64 0 0), (.bool false), (.complex .f64 0 0), (.bool false), (.complex .f64 0 0), (.bool false), (.complex .f64 0 0), (.bool false), (.slice (some ⟨0, 0, none⟩) 11 11), (.int .i64 (11)), (.int .i64 (7)), (.bool true), (.pointer (some ⟨0, 6, none⟩)), (.complex .f64 4607182418800017408 4602678819172646912), (.complex .f64 4607182418800017408 4602678819172646912), (.bool false), (.complex .f64 4607182418800017408 4602678819172646912), (.bool false), (.bool false), (.bool false), (.complex .f64 4607182418800017408 4602678819172646912), (.int .i64 (0)), (.complex .f64 4607182418800017408 4602678819172646912), (.int .i64 (0)), (.bool false), (.bool false), (.bool false), (.complex .f64 4607182418800017408 4602678819172646912), (.int .i64 (0)), (.complex .f64 4607182418800017408 4602678819172646912), (.int .i64 (0)), (.bool false), (.bool false), (.slice (some ⟨7, 0, none⟩) 9 9), (.int .i64 (9)), (.int .i64 (9)), (.bool false), (.pointer (some ⟨7, 8, none⟩)), (.int .i64 (-9223372036854775808)), (.tuple #[(.complex .f64 0 0), (.bool false)]), (.complex .f64 4607182418800017408 4602678819172646912), (.int .i64 (-9223372036854775808)), (.tuple #[(.complex .f64 0 0), (.bool false)]), (.complex .f64 0 0), (.bool false), (.tuple #[(.complex .f64 0 0), (.bool false)]), (.complex .f64 4607182418800017408 4602678819172646912), (.int .i64 (-9223372036854775808)), (.tuple #[(.complex .f64 0 0), (.bool false)]), (.complex .f64 0 0), (.bool false), (.tuple #[(.complex .f64 0 0), (.bool false)]), (.complex .f64 4607182418800017408 4602678819172646912), (.int .i64 (-9223372036854775808)), (.tuple #[(.complex .f64 0 0), (.bool false)]), (.complex .f64 0 0), (.bool false), (.tuple #[(.complex .f64 0 0), (.bool false)]), (.complex .f64 4607182418800017408 4602678819172646912), (.int .i64 (-9223372036854775808)), (.tuple #[(.complex .f64 0 0), (.bool false)]), (.complex .f64 0 0), (.bool false), (.complex .f64 0 0), (.complex .f64 0 0), (.bool false), (.bool false), (.bool false), (.bool false), (.bool false), (.bool false), (.bool false), (.complex .f64 0 0), (.complex .f64 0 0), (.bool false), (.bool false), (.bool false), (.bool false), (.bool false), (.bool false), (.bool false), (.int .i64 (9)), (.int .i64 (7)), (.tuple #[]), (.tuple #[]), (.tuple #[]), (.tuple #[]), (.tuple #[])], [(7, ⟨2, 1, [(.int .i64 (-1)), (.int .i64 (0)), (.int .i64 (1)), (.int .i64 (5)), (.int .i64 (6)), (.int .i64 (4294967295)), (.int .i64 (4294967296)), (.int .i64 (9223372036854775807)), (.int .i64 (-9223372036854775808))], false⟩), (6, ⟨2, 1, [(.int .i64 (-1)), (.int .i64 (0)), (.int .i64 (1)), (.int .i64 (5)), (.int .i64 (6)), (.int .i64 (4294967295)), (.int .i64 (4294967296)), (.int .i64 (9223372036854775807)), (.int .i64 (-9223372036854775808))], false⟩), (5, ⟨2, 1, [(.int .i64 (-1)), (.int .i64 (0)), (.int .i64 (1)), (.int .i64 (5)), (.int .i64 (6)), (.int .i64 (4294967295)), (.int .i64 (4294967296)), (.int .i64 (9223372036854775807)), (.int .i64 (-9223372036854775808))], false⟩), (4, ⟨2, 1, [(.int .i64 (-1)), (.int .i64 (0)), (.int .i64 (1)), (.int .i64 (5)), (.int .i64 (6)), (.int .i64 (4294967295)), (.int .i64 (4294967296)), (.int .i64 (9223372036854775807)), (.int .i64 (-9223372036854775808))], false⟩), (3, ⟨2, 1, [(.int .i64 (-1)), (.int .i64 (0)), (.int .i64 (1)), (.int .i64 (5)), (.int .i64 (6)), (.int .i64 (4294967295)), (.int .i64 (4294967296)), (.int .i64 (9223372036854775807)), (.int .i64 (-9223372036854775808))], false⟩), (2, ⟨2, 1, [(.int .i64 (-1)), (.int .i64 (0)), (.int .i64 (1)), (.int .i64 (5)), (.int .i64 (6)), (.int .i64 (4294967295)), (.int .i64 (4294967296)), (.int .i64 (9223372036854775807)), (.int .i64 (-9223372036854775808))], false⟩), (1, ⟨2, 1, [(.int .i64 (-1)), (.int .i64 (0)), (.int .i64 (1)), (.int .i64 (5)), (.int .i64 (6)), (.int .i64 (4294967295)), (.int .i64 (4294967296)), (.int .i64 (9223372036854775807)), (.int .i64 (-9223372036854775808))], false⟩), (0, ⟨41, 1, [(.complex .f64 0 0), (.complex .f64 4607182418800017408 0), (.complex .f64 4617315517961601024 4611686018427387904), (.complex .f64 0 4607182418800017408), (.complex .f64 13830554455654793216 4617315517961601024), (.complex .f64 4602678819172646912 4607182418800017408), (.complex .f64 4607182418800017408 4602678819172646912), (.complex .f64 4751297606873776128 4674736413210574848), (.complex .f64 4751297606875873280 4607182418800017408), (.complex .f64 4617315517961601024 4674736550649528320), (.complex .f64 4617315517961601024 13830554455654793216)], false⟩)], 8)
def s8 : XSt := ([(.bool false), (.tuple #[]), (.complex .f64 4751297606873776128 4674736413210574848), (.tuple #[]), (.int .i64 (-9223372036854775808)), (.complex .f64 0 0), (.bool false), (.complex .f64 0 0), (.bool false), (.complex .f64 0 0), (.bool false), (.complex .f64 0 0), (.bool false), (.slice (some ⟨0, 0, none⟩) 11 11), (.int .i64 (11)), (.int .i64 (8)), (.bool true), (.pointer (some ⟨0, 7, none⟩)), (.complex .f64 4751297606873776128 4674736413210574848), (.complex .f64 4751297606873776128 4674736413210574848), (.bool true), (.complex .f64 4751297606873776128 4674736413210574848), (.bool true), (.bool false), (.bool false), (.complex .f64 4751297606873776128 4674736413210574848), (.int .i64 (4294967295)), (.complex .f64 4751297606873776128 4674736413210574848), (.int .i64 (4294967295)), (.bool false), (.bool false), (.bool false), (.complex .f64 4751297606873776128 4674736413210574848), (.int .i64 (32768)), (.complex .f64 4751297606873776128 4674736413210574848), (.int .i64 (32768)), (.bool false), (.bool false), (.slice (some ⟨8, 0, none⟩) 9 9), (.int .i64 (9)), (.int .i64 (9)), (.bool false), (.pointer (some ⟨8, 8, none⟩)), (.int .i64 (-9223372036854775808)), (.tuple #[(.complex .f64 0 0), (.bool false)]), (.complex .f64 4751297606873776128 4674736413210574848), (.int .i64 (-9223372036854775808)), (.tuple #[(.complex .f64 0 0), (.bool false)]), (.complex .f64 0 0), (.bool false), (.tuple #[(.complex .f64 0 0), (.bool false)]), (.complex .f64 4751297606873776128 4674736413210574848), (.int .i64 (-9223372036854775808)), (.tuple #[(.complex .f64 0 0), (.bool false)]), (.complex .f64 0 0), (.bool false), (.tuple #[(.complex .f64 0 0), (.bool false)]), (.complex .f64 4751297606873776128 4674736413210574848), (.int .i64 (-9223372036854775808)), (.tuple #[(.complex .f64 0 0), (.bool false)]), (.complex .f64 0 0), (.bool false), (.tuple #[(.complex .f64 0 0), (.bool false)]), (.complex .f64 4751297606873776128 4674736413210574848), (.int .i64 (-9223372036854775808)), (.tuple #[(.complex .f64 0 0), (.bool false)]), (.complex .f64 0 0), (.bool false), (.complex .f64 0 0), (.complex .f64 0 0), (.bool false), (.bool false), (.bool false), (.bool false), (.bool false), (.bool false), (.bool false), (.complex .f64 0 0), (.complex .f64 0 0), (.bool false), (.bool false), (.bool false), (.bool false), (.bool false), (.bool false), (.bool false), (.int .i64 (9)), (.int .i64 (8)), (.tuple #[]), (.tuple #[]), (.tuple #[]), (.tuple #[]), (.tuple #[])], [(8, ⟨2, 1, [(.int .i64 (-1)), (.int .i64 (0)), (.int .i64 (1)), (.int .i64 (5)), (.int .i64 (6)), (.int .i64 (4294967295)), (.int .i64 (4294967296)), (.int .i64 (9223372036854775807)), (.int .i64 (-9223372036854775808))], false⟩), (7, ⟨2, 1, [(.int .i64 (-1)), (.int .i64 (0)), (.int .i64 (1)), (.int .i64 (5)), (.int .i64 (6)), (.int .i64 (4294967295)), (.int .i64 (4294967296)), (.int .i64 (9223372036854775807)), (.int .i64 (-9223372036854775808))], false⟩), (6, ⟨2, 1, [(.int .i64 (-1)), (.int .i64 (0)), (.int .i64 (1)), (.int .i64 (5)), (.int .i64 (6)), (.int .i64 (4294967295)), (.int .i64 (4294967296)), (.int .i64 (9223372036854775807)), (.int .i64 (-9223372036854775808))], false⟩), (5, ⟨2, 1, [(.int .i64 (-1)), (.int .i64 (0)), (.int .i64 (1)), (.int .i64 (5)), (.int .i64 (6)), (.int .i64 (4294967295)), (.int .i64 (4294967296)), (.int .i64 (9223372036854775807)), (.int .i64 (-9223372036854775808))], false⟩), (4, ⟨2, 1, [(.int .i64 (-1)), (.int .i64 (0)), (.int .i64 (1)), (.int .i64 (5)), (.int .i64 (6)), (.int .i64 (4294967295)), (.int .i64 (4294967296)), (.int .i64 (9223372036854775807)), (.int .i64 (-9223372036854775808))], false⟩), (3, ⟨2, 1, [(.int .i64 (-1)), (.int .i64 (0)), (.int .i64 (1)), (.int .i64 (5)), (.int .i64 (6)), (.int .i64 (4294967295)), (.int .i64 (4294967296)), (.int .i64 (9223372036854775807)), (.int .i64 (-9223372036854775808))], false⟩), (2, ⟨2, 1, [(.int .i64 (-1)), (.int .i64 (0)), (.int .i64 (1)), (.int .i64 (5)), (.int .i64 (6)), (.int .i64 (4294967295)), (.int .i64 (4294967296)), (.int .i64 (9223372036854775807)), (.int .i64 (-9223372036854775808))], false⟩), (1, ⟨2, 1, [(.int .i64 (-1)), (.int .i64 (0)), (.int .i64 (1)), (.int .i64 (5)), (.int .i64 (6)), (.int .i64 (4294967295)), (.int .i64 (4294967296)), (.int .i64 (9223372036854775807)), (.int .i64 (-9223372036854775808))], false⟩), (0, ⟨41, 1, [(.complex .f64 0 0), (.complex .f64 4607182418800017408 0), (.complex .f64 4617315517961601024 4611686018427387904), (.complex .f64 0 4607182418800017408), (.complex .f64 13830554455654793216 4617315517961601024), (.complex .f64 4602678819172646912 4607182418800017408), (.complex .f64 4607182418800017408 4602678819172646912), (.complex .f64 4751297606873776128 4674736413210574848), (.complex .f64 4751297606875873280 4607182418800017408), (.complex .f64 4617315517961601024 4674736550649528320), (.complex .f64 4617315517961601024 13830554455654793216)], false⟩)], 9)
def s9 : XSt := ([(.bool false), (.tuple #[]), (.complex .f64 4751297606875873280 4607182418800017408), (.tuple #[]), (.int .i64 (-9223372036854775808)), (.complex .f64 0 0), (.bool false), (.complex .f64 0 0), (.bool false), (.complex .f64 0 0), (.bool false), (.complex .f64 0 0), (.bool false), (.slice (some ⟨0, 0, none⟩) 11 11), (.int .i64 (11)), (.int .i64 (9)), (.bool true), (.pointer (some ⟨0, 8, none⟩)), (.complex .f64 4751297606875873280 4607182418800017408), (.complex .f64 4751297606875873280 4607182418800017408), (.bool false), (.complex .f64 4751297606875873280 4607182418800017408), (.bool false), (.bool false), (.bool false), (.complex .f64 4751297606875873280 4607182418800017408), (.int .i64 (0)), (.complex .f64 4751297606875873280 4607182418800017408), (.int .i64 (0)), (.bool false), (.bool false), (.bool false), (.complex .f64 4751297606875873280 4607182418800017408), (.int .i64 (0)), (.complex .f64 4751297606875873280 4607182418800017408), (.int .i64 (0)), (.bool false), (.bool false), (.slice (some ⟨9, 0, none⟩) 9 9), (.int .i64 (9)), (.int .i64 (9)), (.bool false), (.pointer (some ⟨9, 8, none⟩)), (.int .i64 (-9223372036854775808)), (.tuple #[(.complex .f64 0 0), (.bool false)]), (.complex .f64 4751297606875873280 4607182418800017408), (.int .i64 (-9223372036854775808)), (.tuple #[(.complex .f64 0 0), (.bool false)]), (.complex .f64 0 0), (.bool false), (.tuple #[(.complex .f64 0 0), (.bool false)]), (.complex .f64 4751297606875873280 4607182418800017408), (.int .i64 (-9223372036854775808)), (.tuple #[(.complex .f64 0 0), (.bool false)]), (.complex .f64 0 0), (.bool false), (.tuple #[(.complex .f64 0 0), (.bool false)]), (.complex .f64 4751297606875873280 4607182418800017408), (.int .i64 (-9223372036854775808)), (.tuple #[(.complex .f64 0 0), (.bool false)]), (.complex .f64 0 0), (.bool false), (.tuple #[(.complex .f64 0 0), (.bool false)]), (.complex .f64 4751297606875873280 4607182418800017408), (.int .i64 (-9223372036854775808)), (.tuple #[(.complex .f64 0 0), (.bool false)]), (.complex .f64 0 0), (.bool false), (.complex .f64 0 0), (.complex .f64 0 0), (.bool false), (.bool false), (.bool false), (.bool false), (.bool false), (.bool false), (.bool false), (.complex .f64 0 0), (.complex .f64 0 0), (.bool false), (.bool false), (.bool false), (.bool false), (.bool false), (.bool false), (.bool false), (.int .i64 (9)), (.int .i64 (9)), (.tuple #[]), (.tuple #[]), (.tuple #[]), (.tuple #[]), (.tuple #[])], [(9, ⟨2, 1, [(.int .i64 (-1)), (.int .i64 (0)), (.int .i64 (1)), (.int .i64 (5)), (.int .i64 (6)), (.int .i64 (4294967295)), (.int .i64 (4294967296)), (.int .i64 (9223372036854775807)), (.int .i64 (-9223372036854775808))], false⟩), (8, ⟨2, 1, [(.int .i64 (-1)), (.int .i64 (0)), (.int .i64 (1)), (.int .i64 (5)), (.int .i64 (6)), (.int .i64 (4294967295)), (.int .i64 (4294967296)), (.int .i64 (9223372036854775807)), (.int .i64 (-9223372036854775808))], false⟩), (7, ⟨2, 1, [(.int .i64 (-1)), (.int .i64 (0)), (.int .i64 (1)), (.int .i64 (5)), (.int .i64 (6)), (.int .i64 (4294967295)), (.int .i64 (4294967296)), (.int .i64 (9223372036854775807)), (.int .i64 (-9223372036854775808))], false⟩), (6, ⟨2, 1, [(.int .i64 (-1)), (.int .i64 (0)), (.int .i64 (1)), (.int .i64 (5)), (.int .i64 (6)), (.int .i64 (4294967295)), (.int .i64 (4294967296)), (.int .i64 (9223372036854775807)), (.int .i64 (-9223372036854775808))], false⟩), (5, ⟨2, 1, [(.int .i64 (-1)), (.int .i64 (0)), (.int .i64 (1)), (.int .i64 (5)), (.int .i64 (6)), (.int .i64 (4294967295)), (.int .i64 (4294967296)), (.int .i64 (9223372036854775807)), (.int .i64 (-9223372036854775808))], false⟩), (4, ⟨2, 1, [(.int .i64 (-1)), (.int .i64 (0)), (.int .i64 (1)), (.int .i64 (5)), (.int .i64 (6)), (.int .i64 (4294967295)), (.int .i64 (4294967296)), (.int .i64 (9223372036854775807)), (.int .i64 (-9223372036854775808))], false⟩), (3, ⟨2, 1, [(.int .i64 (-1)), (.int .i64 (0)), (.int .i64 (1)), (.int .i64 (5)), (.int .i64 (6)), (.int .i64 (4294967295)), (.int .i64 (4294967296)), (.int .i64 (9223372036854775807)), (.int .i64 (-9223372036854775808))], false⟩), (2, ⟨2, 1, [(.int .i64 (-1)), (.int .i64 (0)), (.int .i64 (1)), (.int .i64 (5)), (.int .i64 (6)), (.int .i64 (4294967295)), (.int .i64 (4294967296)), (.int .i64 (9223372036854775807)), (.int .i64 (-9223372036854775808))], false⟩), (1, ⟨2, 1, [(.int .i64 (-1)), (.int .i64 (0)), (.int .i64 (1)), (.int .i64 (5)), (.int .i64 (6)), (.int .i64 (4294967295)), (.int .i64 (4294967296)), (.int .i64 (9223372036854775807)), (.int .i64 (-9223372036854775808))], false⟩), (0, ⟨41, 1, [(.complex .f64 0 0), (.complex .f64 4607182418800017408 0), (.complex .f64 4617315517961601024 4611686018427387904), (.complex .f64 0 4607182418800017408), (.complex .f64 13830554455654793216 4617315517961601024), (.complex .f64 4602678819172646912 4607182418800017408), (.complex .f64 4607182418800017408 4602678819172646912), (.complex .f64 4751297606873776128 4674736413210574848), (.complex .f64 4751297606875873280 4607182418800017408), (.complex .f64 4617315517961601024 4674736550649528320), (.complex .f64 4617315517961601024 13830554455654793216)], false⟩)], 10)
def s10 : XSt := ([(.bool false), (.tuple #[]), (.complex .f64 4617315517961601024 4674736550649528320), (.tuple #[]), (.int .i64 (-9223372036854775808)), (.complex .f64 0 0), (.bool false), (.complex .f64 0 0), (.bool false), (.complex .f64 0 0), (.bool false), (.complex .f64 0 0), (.bool false), (.slice (some ⟨0, 0, none⟩) 11 11), (.int .i64 (11)), (.int .i64 (10)), (.bool true), (.pointer (some ⟨0, 9, none⟩)), (.complex .f64 4617315517961601024 4674736550649528320), (.complex .f64 4617315517961601024 4674736550649528320), (.bool false), (.complex .f64 4617315517961601024 4674736550649528320), (.bool false), (.bool false), (.bool false), (.complex .f64 4617315517961601024 4674736550649528320), (.int .i64 (0)), (.complex .f64 4617315517961601024 4674736550649528320), (.int .i64 (0)), (.bool false), (.bool false), (.bool false), (.complex .f64 4617315517961601024 4674736550649528320), (.int .i64 (0)), (.complex .f64 4617315517961601024 4674736550649528320), (.int .i64 (0)), (.bool false), (.bool false), (.slice (some ⟨10, 0, none⟩) 9 9), (.int .i64 (9)), (.int .i64 (9)), (.bool false), (.pointer (some ⟨10, 8, none⟩)), (.int .i64 (-9223372036854775808)), (.tuple #[(.complex .f64 0 0), (.bool false)]), (.complex .f64 4617315517961601024 4674736550649528320), (.int .i64 (-9223372036854775808)), (.tuple #[(.complex .f64 0 0), (.bool false)]), (.complex .f64 0 0), (.bool false), (.tuple #[(.complex .f64 0 0), (.bool false)]), (.complex .f64 4617315517961601024 4674736550649528320), (.int .i64 (-9223372036854775808)), (.tuple #[(.complex .f64 0 0), (.bool false)]), (.complex .f64 0 0), (.bool false), (.tuple #[(.complex .f64 0 0), (.bool false)]), (.complex .f64 4617315517961601024 4674736550649528320), (.int .i64 (-9223372036854775808)), (.tuple #[(.complex .f64 0 0), (.bool false)]), (.complex .f64 0 0), (.bool false), (.tuple #[(.complex .f64 0 0), (.bool false)]), (.complex .f64 4617315517961601024 4674736550649528320), (.int .i64 (-9223372036854775808)), (.tuple #[(.complex .f64 0 0), (.bool false)]), (.complex .f64 0 0), (.bool false), (.complex .f64 0 0), (.complex .f64 0 0), (.bool false), (.bool false), (.bool false), (.bool false), (.bool false), (.bool false), (.bool false), (.complex .f64 0 0), (.complex .f64 0 0), (.bool false), (.bool false), (.bool false), (.bool false), (.bool false), (.bool false), (.bool false), (.int .i64 (9)), (.int .i64 (10)), (.tuple #[]), (.tuple #[]), (.tuple #[]), (.tuple #[]), (.tuple #[])], [(10, ⟨2, 1, [(.int .i64 (-1)), (.int .i64 (0)), (.int .i64 (1)), (.int .i64 (5)), (.int .i64 (6)), (.int .i64 (4294967295)), (.int .i64 (4294967296)), (.int .i64 (9223372036854775807)), (.int .i64 (-9223372036854775808))], false⟩), (9, ⟨2, 1, [(.int .i64 (-1)), (.int .i64 (0)), (.int .i64 (1)), (.int .i64 (5)), (.int .i64 (6)), (.int .i64 (4294967295)), (.int .i64 (4294967296)), (.int .i64 (9223372036854775807)), (.int .i64 (-9223372036854775808))], false⟩), (8, ⟨2, 1, [(.int .i64 (-1)), (.int .i64 (0)), (.int .i64 (1)), (.int .i64 (5)), (.int .i64 (6)), (.int .i64 (4294967295)), (.int .i64 (4294967296)), (.int .i64 (9223372036854775807)), (.int .i64 (-9223372036854775808))], false⟩), (7, ⟨2, 1, [(.int .i64 (-1)), (.int .i64 (0)), (.int .i64 (1)), (.int .i64 (5)), (.int .i64 (6)), (.int .i64 (4294967295)), (.int .i64 (4294967296)), (.int .i64 (9223372036854775807)), (.int .i64 (-9223372036854775808))], false⟩), (6, ⟨2, 1, [(.int .i64 (-1)), (.int .i64 (0)), (.int .i64 (1)), (.int .i64 (5)), (.int .i64 (6)), (.int .i64 (4294967295)), (.int .i64 (4294967296)), (.int .i64 (9223372036854775807)), (.int .i64 (-9223372036854775808))], false⟩), (5, ⟨2, 1, [(.int .i64 (-1)), (.int .i64 (0)), (.int .i64 (1)), (.int .i64 (5)), (.int .i64 (6)), (.int .i64 (4294967295)), (.int .i64 (4294967296)), (.int .i64 (9223372036854775807)), (.int .i64 (-9223372036854775808))], false⟩), (4, ⟨2, 1, [(.int .i64 (-1)), (.int .i64 (0)), (.int .i64 (1)), (.int .i64 (5)), (.int .i64 (6)), (.int .i64 (4294967295)), (.int .i64 (4294967296)), (.int .i64 (9223372036854775807)), (.int .i64 (-9223372036854775808))], false⟩), (3, ⟨2, 1, [(.int .i64 (-1)), (.int .i64 (0)), (.int .i64 (1)), (.int .i64 (5)), (.int .i64 (6)), (.int .i64 (4294967295)), (.int .i64 (4294967296)), (.int .i64 (9223372036854775807)), (.int .i64 (-9223372036854775808))], false⟩), (2, ⟨2, 1, [(.int .i64 (-1)), (.int .i64 (0)), (.int .i64 (1)), (.int .i64 (5)), (.int .i64 (6)), (.int .i64 (4294967295)), (.int .i64 (4294967296)), (.int .i64 (9223372036854775807)), (.int .i64 (-9223372036854775808))], false⟩), (1, ⟨2, 1, [(.int .i64 (-1)), (.int .i64 (0)), (.int .i64 (1)), (.int .i64 (5)), (.int .i64 (6)), (.int .i64 (4294967295)), (.int .i64 (4294967296)), (.int .i64 (9223372036854775807)), (.int .i64 (-9223372036854775808))], false⟩), (0, ⟨41, 1, [(.complex .f64 0 0), (.complex .f64 4607182418800017408 0), (.complex .f64 4617315517961601024 4611686018427387904), (.complex .f64 0 4607182418800017408), (.complex .f64 13830554455654793216 4617315517961601024), (.complex .f64 4602678819172646912 4607182418800017408), (.complex .f64 4607182418800017408 4602678819172646912), (.complex .f64 4751297606873776128 4674736413210574848), (.complex .f64 4751297606875873280 4607182418800017408), (.complex .f64 4617315517961601024 4674736550649528320), (.complex .f64 4617315517961601024 13830554455654793216)], false⟩)], 11)
def s11 : XSt := ([(.bool false), (.tuple #[]), (.complex .f64 4617315517961601024 13830554455654793216), (.tuple #[]), (.int .i64 (-9223372036854775808)), (.complex .f64 0 0), (.bool false), (.complex .f64 0 0), (.bool false), (.complex .f64 0 0), (.bool false), (.complex .f64 0 0), (.bool false), (.slice (some ⟨0, 0, none⟩) 11 11), (.int .i64 (11)), (.int .i64 (11)), (.bool true), (.pointer (some ⟨0, 10, none⟩)), (.complex .f64 4617315517961601024 13830554455654793216), (.complex .f64 4617315517961601024 13830554455654793216), (.bool false), (.complex .f64 4617315517961601024 13830554455654793216), (.bool false), (.bool false), (.bool false), (.complex .f64 4617315517961601024 13830554455654793216), (.int .i64 (0)), (.complex .f64 4617315517961601024 13830554455654793216), (.int .i64 (0)), (.bool false), (.bool false), (.bool false), (.complex .f64 4617315517961601024 13830554455654793216), (.int .i64 (0)), (.complex .f64 4617315517961601024 13830554455654793216), (.int .i64 (0)), (.bool false), (.bool false), (.slice (some ⟨11, 0, none⟩) 9 9), (.int .i64 (9)), (.int .i64 (9)), (.bool false), (.pointer (some ⟨11, 8, none⟩)), (.int .i64 (-9223372036854775808)), (.tuple #[(.complex .f64 0 0), (.bool false)]), (.complex .f64 4617315517961601024 13830554455654793216), (.int .i64 (-9223372036854775808)), (.tuple #[(.complex .f64 0 0), (.bool false)]), (.complex .f64 0 0), (.bool false), (.tuple #[(.complex .f64 0 0), (.bool false)]), (.complex .f64 4617315517961601024 13830554455654793216), (.int .i64 (-9223372036854775808)), (.tuple #[(.complex .f64 0 0), (.bool false)]), (.complex .f64 0 0), (.bool false), (.tuple #[(.complex .f64 0 0), (.bool false)]), (.complex .f64 4617315517961601024 13830554455654793216), (.int .i64 (-9223372036854775808)), (.tuple #[(.complex .f64 0 0), (.bool false)]), (.complex .f64 0 0), (.bool false), (.tuple #[(.complex .f64 0 0), (.bool false)]), (.complex .f64 4617315517961601024 13830554455654793216), (.int .i64 (-9223372036854775808)), (.tuple #[(.complex .f64 0 0), (.bool false)]), (.complex .f64 0 0), (.bool false), (.complex .f64 0 0), (.complex .f64 0 0), (.bool false), (.bool false), (.bool false), (.bool false), (.bool false), (.bool false), (.bool false), (.complex .f64 0 0), (.complex .f64 0 0), (.bool false), (.bool false), (.bool false), (.bool false), (.bool false), (.bool false), (.bool false), (.int .i64 (9)), (.int .i64 (11)), (.tuple #[]), (.tuple #[]), (.tuple #[]), (.tuple #[]), (.tuple #[])], [(11, ⟨2, 1, [(.int .i64 (-1)), (.int .i64 (0)), (.int .i64 (1)), (.int .i64 (5)), (.int .i64 (6)), (.int .i64 (4294967295)), (.int .i64 (4294967296)), (.int .i64 (9223372036854775807)), (.int .i64 (-9223372036854775808))], false⟩), (10, ⟨2, 1, [(.int .i64 (-1)), (.int .i64 (0)), (.int .i64 (1)), (.int .i64 (5)), (.int .i64 (6)), (.int .i64 (4294967295)), (.int .i64 (4294967296)), (.int .i64 (9223372036854775807)), (.int .i64 (-9223372036854775808))], false⟩), (9, ⟨2, 1, [(.int .i64 (-1)), (.int .i64 (0)), (.int .i64 (1)), (.int .i64 (5)), (.int .i64 (6)), (.int .i64 (4294967295)), (.int .i64 (4294967296)), (.int .i64 (9223372036854775807)), (.int .i64 (-9223372036854775808))], false⟩), (8, ⟨2, 1, [(.int .i64 (-1)), (.int .i64 (0)), (.int .i64 (1)), (.int .i64 (5)), (.int .i64 (6)), (.int .i64 (4294967295)), (.int .i64 (4294967296)), (.int .i64 (9223372036854775807)), (.int .i64 (-9223372036854775808))], false⟩), (7, ⟨2, 1, [(.int .i64 (-1)), (.int .i64 (0)), (.int .i64 (1)), (.int .i64 (5)), (.int .i64 (6)), (.int .i64 (4294967295)), (.int .i64 (4294967296)), (.int .i64 (9223372036854775807)), (.int .i64 (-9223372036854775808))], false⟩), (6, ⟨2, 1, [(.int .i64 (-1)), (.int .i64 (0)), (.int .i64 (1)), (.int .i64 (5)), (.int .i64 (6)), (.int .i64 (4294967295)), (.int .i64 (4294967296)), (.int .i64 (9223372036854775807)), (.int .i64 (-9223372036854775808))], false⟩), (5, ⟨2, 1, [(.int .i64 (-1)), (.int .i64 (0)), (.int .i64 (1)), (.int .i64 (5)), (.int .i64 (6)), (.int .i64 (4294967295)), (.int .i64 (4294967296)), (.int .i64 (9223372036854775807)), (.int .i64 (-9223372036854775808))], false⟩), (4, ⟨2, 1, [(.int .i64 (-1)), (.int .i64 (0)), (.int .i64 (1)), (.int .i64 (5)), (.int .i64 (6)), (.int .i64 (4294967295)), (.int .i64 (4294967296)), (.int .i64 (9223372036854775807)), (.int .i64 (-9223372036854775808))], false⟩), (3, ⟨2, 1, [(.int .i64 (-1)), (.int .i64 (0)), (.int .i64 (1)), (.int .i64 (5)), (.int .i64 (6)), (.int .i64 (4294967295)), (.int .i64 (4294967296)), (.int .i64 (9223372036854775807)), (.int .i64 (-9223372036854775808))], false⟩), (2, ⟨2, 1, [(.int .i64 (-1)), (.int .i64 (0)), (.int .i64 (1)), (.int .i64 (5)), (.int .i64 (6)), (.int .i64 (4294967295)), (.int .i64 (4294967296)), (.int .i64 (9223372036854775807)), (.int .i64 (-9223372036854775808))], false⟩), (1, ⟨2, 1, [(.int .i64 (-1)), (.int .i64 (0)), (.int .i64 (1)), (.int .i64 (5)), (.int .i64 (6)), (.int .i64 (4294967295)), (.int .i64 (4294967296)), (.int .i64 (9223372036854775807)), (.int .i64 (-9223372036854775808))], false⟩), (0, ⟨41, 1, [(.complex .f64 0 0), (.complex .f64 4607182418800017408 0), (.complex .f64 4617315517961601024 4611686018427387904), (.complex .f64 0 4607182418800017408), (.complex .f64 13830554455654793216 4617315517961601024), (.complex .f64 4602678819172646912 4607182418800017408), (.complex .f64 4607182418800017408 4602678819172646912), (.complex .f64 4751297606873776128 4674736413210574848), (.complex .f64 4751297606875873280 4607182418800017408), (.complex .f64 4617315517961601024 4674736550649528320), (.complex .f64 4617315517961601024 13830554455654793216)], false⟩)], 12)
def sE : XSt := ([(.bool false), (.tuple #[]), (.complex .f64 4617315517961601024 13830554455654793216), (.tuple #[]), (.int .i64 (-9223372036854775808)), (.complex .f64 0 0), (.bool false), (.complex .f64 0 0), (.bool false), (.complex .f64 0 0), (.bool false), (.complex .f64 0 0), (.bool false), (.slice (some ⟨0, 0, none⟩) 11 11), (.int .i64 (11)), (.int .i64 (11)), (.bool false), (.pointer (some ⟨0, 10, none⟩)), (.complex .f64 4617315517961601024 13830554455654793216), (.complex .f64 4617315517961601024 13830554455654793216), (.bool false), (.complex .f64 4617315517961601024 13830554455654793216), (.bool false), (.bool false), (.bool false), (.complex .f64 4617315517961601024 13830554455654793216), (.int .i64 (0)), (.complex .f64 4617315517961601024 13830554455654793216), (.int .i64 (0)), (.bool false), (.bool false), (.bool false), (.complex .f64 4617315517961601024 13830554455654793216), (.int .i64 (0)), (.complex .f64 4617315517961601024 13830554455654793216), (.int .i64 (0)), (.bool false), (.bool false), (.slice (some ⟨11, 0, none⟩) 9 9), (.int .i64 (9)), (.int .i64 (9)), (.bool false), (.pointer (some ⟨11, 8, none⟩)), (.int .i64 (-9223372036854775808)), (.tuple #[(.complex .f64 0 0), (.bool false)]), (.complex .f64 4617315517961601024 13830554455654793216), (.int .i64 (-9223372036854775808)), (.tuple #[(.complex .f64 0 0), (.bool false)]), (.complex .f64 0 0), (.bool false), (.tuple #[(.complex .f64 0 0), (.bool false)]), (.complex .f64 4617315517961601024 13830554455654793216), (.int .i64 (-9223372036854775808)), (.tuple #[(.complex .f64 0 0), (.bool false)]), (.complex .f64 0 0), (.bool false), (.tuple #[(.complex .f64 0 0), (.bool false)]), (.complex .f64 4617315517961601024 13830554455654793216), (.int .i64 (-9223372036854775808)), (.tuple #[(.complex .f64 0 0), (.bool false)]), (.complex .f64 0 0), (.bool false), (.tuple #[(.complex .f64 0 0), (.bool false)]), (.complex .f64 4617315517961601024 13830554455654793216), (.int .i64 (-9223372036854775808)), (.tuple #[(.complex .f64 0 0), (.bool false)]), (.complex .f64 0 0), (.bool false), (.complex .f64 0 0), (.complex .f64 0 0), (.bool false), (.bool false), (.bool false), (.bool false), (.bool false), (.bool false), (.bool false), (.complex .f64 0 0), (.complex .f64 0 0), (.bool false), (.bool false), (.bool false), (.bool false), (.bool false), (.bool false), (.bool false), (.int .i64 (9)), (.int .i64 (11)), (.tuple #[]), (.tuple #[]), (.tuple #[]), (.tuple #[]), (.tuple #[])], [(11, ⟨2, 1, [(.int .i64 (-1)), (.int .i64 (0)), (.int .i64 (1)), (.int .i64 (5)), (.int .i64 (6)), (.int .i64 (4294967295)), (.int .i64 (4294967296)), (.int .i64 (9223372036854775807)), (.int .i64 (-9223372036854775808))], false⟩), (10, ⟨2, 1, [(.int .i64 (-1)), (.int .i64 (0)), (.int .i64 (1)), (.int .i64 (5)), (.int .i64 (6)), (.int .i64 (4294967295)), (.int .i64 (4294967296)), (.int .i64 (9223372036854775807)), (.int .i64 (-9223372036854775808))], false⟩), (9, ⟨2, 1, [(.int .i64 (-1)), (.int .i64 (0)), (.int .i64 (1)), (.int .i64 (5)), (.int .i64 (6)), (.int .i64 (4294967295)), (.int .i64 (4294967296)), (.int .i64 (9223372036854775807)), (.int .i64 (-9223372036854775808))], false⟩), (8, ⟨2, 1, [(.int .i64 (-1)), (.int .i64 (0)), (.int .i64 (1)), (.int .i64 (5)), (.int .i64 (6)), (.int .i64 (4294967295)), (.int .i64 (4294967296)), (.int .i64 (9223372036854775807)), (.int .i64 (-9223372036854775808))], false⟩), (7, ⟨2, 1, [(.int .i64 (-1)), (.int .i64 (0)), (.int .i64 (1)), (.int .i64 (5)), (.int .i64 (6)), (.int .i64 (4294967295)), (.int .i64 (4294967296)), (.int .i64 (9223372036854775807)), (.int .i64 (-9223372036854775808))], false⟩), (6, ⟨2, 1, [(.int .i64 (-1)), (.int .i64 (0)), (.int .i64 (1)), (.int .i64 (5)), (.int .i64 (6)), (.int .i64 (4294967295)), (.int .i64 (4294967296)), (.int .i64 (9223372036854775807)), (.int .i64 (-9223372036854775808))], false⟩), (5, ⟨2, 1, [(.int .i64 (-1)), (.int .i64 (0)), (.int .i64 (1)), (.int .i64 (5)), (.int .i64 (6)), (.int .i64 (4294967295)), (.int .i64 (4294967296)), (.int .i64 (9223372036854775807)), (.int .i64 (-9223372036854775808))], false⟩), (4, ⟨2, 1, [(.int .i64 (-1)), (.int .i64 (0)), (.int .i64 (1)), (.int .i64 (5)), (.int .i64 (6)), (.int .i64 (4294967295)), (.int .i64 (4294967296)), (.int .i64 (9223372036854775807)), (.int .i64 (-9223372036854775808))], false⟩), (3, ⟨2, 1, [(.int .i64 (-1)), (.int .i64 (0)), (.int .i64 (1)), (.int .i64 (5)), (.int .i64 (6)), (.int .i64 (4294967295)), (.int .i64 (4294967296)), (.int .i64 (9223372036854775807)), (.int .i64 (-9223372036854775808))], false⟩), (2, ⟨2, 1, [(.int .i64 (-1)), (.int .i64 (0)), (.int .i64 (1)), (.int .i64 (5)), (.int .i64 (6)), (.int .i64 (4294967295)), (.int .i64 (4294967296)), (.int .i64 (9223372036854775807)), (.int .i64 (-9223372036854775808))], false⟩), (1, ⟨2, 1, [(.int .i64 (-1)), (.int .i64 (0)), (.int .i64 (1)), (.int .i64 (5)), (.int .i64 (6)), (.int .i64 (4294967295)), (.int .i64 (4294967296)), (.int .i64 (9223372036854775807)), (.int .i64 (-9223372036854775808))], false⟩), (0, ⟨41, 1, [(.complex .f64 0 0), (.complex .f64 4607182418800017408 0), (.complex .f64 4617315517961601024 4611686018427387904), (.complex .f64 0 4607182418800017408), (.complex .f64 13830554455654793216 4617315517961601024), (.complex .f64 4602678819172646912 4607182418800017408), (.complex .f64 4607182418800017408 4602678819172646912), (.complex .f64 4751297606873776128 4674736413210574848), (.complex .f64 4751297606875873280 4607182418800017408), (.complex .f64 4617315517961601024 4674736550649528320), (.complex .f64 4617315517961601024 13830554455654793216)], false⟩)], 12)
def sF : XSt := ([(.bool true), (.tuple #[]), (.complex .f64 4617315517961601024 13830554455654793216), (.tuple #[]), (.int .i64 (-9223372036854775808)), (.complex .f64 0 0), (.bool false), (.complex .f64 0 0), (.bool false), (.complex .f64 0 0), (.bool false), (.complex .f64 0 0), (.bool false), (.slice (some ⟨0, 0, none⟩) 11 11), (.int .i64 (11)), (.int .i64 (11)), (.bool false), (.pointer (some ⟨0, 10, none⟩)), (.complex .f64 4617315517961601024 13830554455654793216), (.complex .f64 4617315517961601024 13830554455654793216), (.bool false), (.complex .f64 4617315517961601024 13830554455654793216), (.bool false), (.bool false), (.bool false), (.complex .f64 4617315517961601024 13830554455654793216), (.int .i64 (0)), (.complex .f64 4617315517961601024 13830554455654793216), (.int .i64 (0)), (.bool false), (.bool false), (.bool false), (.complex .f64 4617315517961601024 13830554455654793216), (.int .i64 (0)), (.complex .f64 4617315517961601024 13830554455654793216), (.int .i64 (0)), (.bool false), (.bool false), (.slice (some ⟨11, 0, none⟩) 9 9), (.int .i64 (9)), (.int .i64 (9)), (.bool false), (.pointer (some ⟨11, 8, none⟩)), (.int .i64 (-9223372036854775808)), (.tuple #[(.complex .f64 0 0), (.bool false)]), (.complex .f64 4617315517961601024 13830554455654793216), (.int .i64 (-9223372036854775808)), (.tuple #[(.complex .f64 0 0), (.bool false)]), (.complex .f64 0 0), (.bool false), (.tuple #[(.complex .f64 0 0), (.bool false)]), (.complex .f64 4617315517961601024 13830554455654793216), (.int .i64 (-9223372036854775808)), (.tuple #[(.complex .f64 0 0), (.bool false)]), (.complex .f64 0 0), (.bool false), (.tuple #[(.complex .f64 0 0), (.bool false)]), (.complex .f64 4617315517961601024 13830554455654793216), (.int .i64 (-9223372036854775808)), (.tuple #[(.complex .f64 0 0), (.bool false)]), (.complex .f64 0 0), (.bool false), (.tuple #[(.complex .f64 0 0), (.bool false)]), (.complex .f64 4617315517961601024 13830554455654793216), (.int .i64 (-9223372036854775808)), (.tuple #[(.complex .f64 0 0), (.bool false)]), (.complex .f64 0 0), (.bool false), (.complex .f64 0 0), (.complex .f64 0 0), (.bool false), (.bool false), (.bool false), (.bool false), (.bool false), (.bool false), (.bool false), (.complex .f64 0 0), (.complex .f64 0 0), (.bool false), (.bool false), (.bool false), (.bool false), (.bool false), (.bool false), (.bool false), (.int .i64 (9)), (.int .i64 (11)), (.complex .f64 4613937818241073152 4674736413210574848), (.bool true), (.bool true), (.bool true), (.bool true)], [(11, ⟨2, 1, [(.int .i64 (-1)), (.int .i64 (0)), (.int .i64 (1)), (.int .i64 (5)), (.int .i64 (6)), (.int .i64 (4294967295)), (.int .i64 (4294967296)), (.int .i64 (9223372036854775807)), (.int .i64 (-9223372036854775808))], false⟩), (10, ⟨2, 1, [(.int .i64 (-1)), (.int .i64 (0)), (.int .i64 (1)), (.int .i64 (5)), (.int .i64 (6)), (.int .i64 (4294967295)), (.int .i64 (4294967296)), (.int .i64 (9223372036854775807)), (.int .i64 (-9223372036854775808))], false⟩), (9, ⟨2, 1, [(.int .i64 (-1)), (.int .i64 (0)), (.int .i64 (1)), (.int .i64 (5)), (.int .i64 (6)), (.int .i64 (4294967295)), (.int .i64 (4294967296)), (.int .i64 (9223372036854775807)), (.int .i64 (-9223372036854775808))], false⟩), (8, ⟨2, 1, [(.int .i64 (-1)), (.int .i64 (0)), (.int .i64 (1)), (.int .i64 (5)), (.int .i64 (6)), (.int .i64 (4294967295)), (.int .i64 (4294967296)), (.int .i64 (9223372036854775807)), (.int .i64 (-9223372036854775808))], false⟩), (7, ⟨2, 1, [(.int .i64 (-1)), (.int .i64 (0)), (.int .i64 (1)), (.int .i64 (5)), (.int .i64 (6)), (.int .i64 (4294967295)), (.int .i64 (4294967296)), (.int .i64 (9223372036854775807)), (.int .i64 (-9223372036854775808))], false⟩), (6, ⟨2, 1, [(.int .i64 (-1)), (.int .i64 (0)), (.int .i64 (1)), (.int .i64 (5)), (.int .i64 (6)), (.int .i64 (4294967295)), (.int .i64 (4294967296)), (.int .i64 (9223372036854775807)), (.int .i64 (-9223372036854775808))], false⟩), (5, ⟨2, 1, [(.int .i64 (-1)), (.int .i64 (0)), (.int .i64 (1)), (.int .i64 (5)), (.int .i64 (6)), (.int .i64 (4294967295)), (.int .i64 (4294967296)), (.int .i64 (9223372036854775807)), (.int .i64 (-9223372036854775808))], false⟩), (4, ⟨2, 1, [(.int .i64 (-1)), (.int .i64 (0)), (.int .i64 (1)), (.int .i64 (5)), (.int .i64 (6)), (.int .i64 (4294967295)), (.int .i64 (4294967296)), (.int .i64 (9223372036854775807)), (.int .i64 (-9223372036854775808))], false⟩), (3, ⟨2, 1, [(.int .i64 (-1)), (.int .i64 (0)), (.int .i64 (1)), (.int .i64 (5)), (.int .i64 (6)), (.int .i64 (4294967295)), (.int .i64 (4294967296)), (.int .i64 (9223372036854775807)), (.int .i64 (-9223372036854775808))], false⟩), (2, ⟨2, 1, [(.int .i64 (-1)), (.int .i64 (0)), (.int .i64 (1)), (.int .i64 (5)), (.int .i64 (6)), (.int .i64 (4294967295)), (.int .i64 (4294967296)), (.int .i64 (9223372036854775807)), (.int .i64 (-9223372036854775808))], false⟩), (1, ⟨2, 1, [(.int .i64 (-1)), (.int .i64 (0)), (.int .i64 (1)), (.int .i64 (5)), (.int .i64 (6)), (.int .i64 (4294967295)), (.int .i64 (4294967296)), (.int .i64 (9223372036854775807)), (.int .i64 (-9223372036854775808))], false⟩), (0, ⟨41, 1, [(.complex .f64 0 0), (.complex .f64 4607182418800017408 0), (.complex .f64 4617315517961601024 4611686018427387904), (.complex .f64 0 4607182418800017408), (.complex .f64 13830554455654793216 4617315517961601024), (.complex .f64 4602678819172646912 4607182418800017408), (.complex .f64 4607182418800017408 4602678819172646912), (.complex .f64 4751297606873776128 4674736413210574848), (.complex .f64 4751297606875873280 4607182418800017408), (.complex .f64 4617315517961601024 4674736550649528320), (.complex .f64 4617315517961601024 13830554455654793216)], false⟩)], 19)
end Go.Proofs.Ytclabnfngchpfaa.Eng
