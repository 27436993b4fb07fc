/-
  'ChachaNumbers' in an abstract run: the functions that it reaches, made plain; the run, reckoned out. No statement of the program is proved here.
-/
import Derived.Test.YtclabnfngchpfaaEngC
import Derived.KernelRfl
namespace Go.Proofs.Ytclabnfngchpfaa.Eng
open Go.RowKit
def i3 : IFunc := ⟨(.seq (.region [⟨(some 0), .move (.const (.bool false)), none⟩])
  (.seq (.region [⟨(some 16), .call (.func 13) [(.const (.int .i64 (31)))], none⟩,
    ⟨(some 17), .call (.func 13) [(.const (.int .i64 (12)))], none⟩,
    ⟨(some 18), .call (.func 12) [(.tmp 16), (.const (.int .u32 (0))), (.tmp 17)], none⟩,
    ⟨(some 15), .move (.tmp 18), none⟩,
    ⟨(some 19), .extract (.tmp 15) 0, none⟩,
    ⟨(some 20), .extract (.tmp 15) 1, none⟩,
    ⟨(some 1), .move (.tmp 19), none⟩,
    ⟨(some 2), .move (.tmp 20), none⟩])
  (.seq (.region [⟨(some 22), .call (.func 13) [(.const (.int .i64 (32)))], none⟩,
    ⟨(some 23), .call (.func 13) [(.const (.int .i64 (11)))], none⟩,
    ⟨(some 24), .call (.func 12) [(.tmp 22), (.const (.int .u32 (0))), (.tmp 23)], none⟩,
    ⟨(some 21), .move (.tmp 24), none⟩,
    ⟨(some 25), .extract (.tmp 21) 0, none⟩,
    ⟨(some 26), .extract (.tmp 21) 1, none⟩,
    ⟨(some 3), .move (.tmp 25), none⟩,
    ⟨(some 4), .move (.tmp 26), none⟩])
  (.seq (.region [⟨(some 28), .call (.func 13) [(.const (.int .i64 (33)))], none⟩,
    ⟨(some 29), .call (.func 13) [(.const (.int .i64 (12)))], none⟩,
    ⟨(some 30), .call (.func 14) [(.tmp 28), (.const (.int .u32 (0))), (.tmp 29), (.const (.slice none 0 0))], none⟩,
    ⟨(some 27), .move (.tmp 30), none⟩,
    ⟨(some 31), .extract (.tmp 27) 0, none⟩,
    ⟨(some 32), .extract (.tmp 27) 1, none⟩,
    ⟨(some 5), .move (.tmp 31), none⟩,
    ⟨(some 6), .move (.tmp 32), none⟩])
  (.seq (.region [⟨(some 34), .call (.func 13) [(.const (.int .i64 (32)))], none⟩,
    ⟨(some 35), .call (.func 14) [(.tmp 34), (.const (.int .u32 (0))), (.const (.slice none 0 0)), (.const (.slice none 0 0))], none⟩,
    ⟨(some 33), .move (.tmp 35), none⟩,
    ⟨(some 36), .extract (.tmp 33) 0, none⟩,
    ⟨(some 37), .extract (.tmp 33) 1, none⟩,
    ⟨(some 7), .move (.tmp 36), none⟩,
    ⟨(some 8), .move (.tmp 37), none⟩])
  (.seq (.region [⟨(some 39), .call (.func 13) [(.const (.int .i64 (32)))], none⟩,
    ⟨(some 40), .call (.func 13) [(.const (.int .i64 (12)))], none⟩,
    ⟨(some 41), .call (.func 14) [(.tmp 39), (.const (.int .u32 (0))), (.tmp 40), (.const (.slice none 0 0))], none⟩,
    ⟨(some 38), .move (.tmp 41), none⟩,
    ⟨(some 42), .extract (.tmp 38) 0, none⟩,
    ⟨(some 43), .extract (.tmp 38) 1, none⟩,
    ⟨(some 9), .move (.tmp 42), none⟩,
    ⟨(some 10), .move (.tmp 43), none⟩])
  (.seq (.regionB [⟨(some 45), .call (.func 13) [(.const (.int .i64 (32)))], none⟩,
    ⟨(some 46), .call (.func 13) [(.const (.int .i64 (12)))], none⟩,
    ⟨(some 47), .makeSlice 5 1 1 [(.int .u8 (0))] (.const (.int .i64 (130))) (.const (.int .i64 (130))), none⟩,
    ⟨(some 48), .call (.func 14) [(.tmp 45), (.const (.int .u32 (4294967295))), (.tmp 46), (.tmp 47)], none⟩,
    ⟨(some 44), .move (.tmp 48), none⟩,
    ⟨(some 49), .extract (.tmp 44) 0, none⟩,
    ⟨(some 50), .extract (.tmp 44) 1, none⟩,
    ⟨(some 11), .move (.tmp 49), none⟩,
    ⟨(some 12), .move (.tmp 50), none⟩])
  (.seq (.regionB [⟨(some 52), .call (.func 13) [(.const (.int .i64 (32)))], none⟩,
    ⟨(some 53), .call (.func 13) [(.const (.int .i64 (12)))], none⟩,
    ⟨(some 54), .makeSlice 5 1 1 [(.int .u8 (0))] (.const (.int .i64 (130))) (.const (.int .i64 (130))), none⟩,
    ⟨(some 55), .call (.func 15) [(.tmp 52), (.const (.int .u32 (4294967295))), (.tmp 53), (.tmp 54)], none⟩,
    ⟨(some 51), .move (.tmp 55), none⟩,
    ⟨(some 56), .extract (.tmp 51) 0, none⟩,
    ⟨(some 57), .extract (.tmp 51) 1, none⟩,
    ⟨(some 13), .move (.tmp 56), none⟩,
    ⟨(some 14), .move (.tmp 57), none⟩])
  (.seq (.region [⟨(some 58), .move (.tmp 2), none⟩,
    ⟨(some 59), .ibin .eql (.tmp 58) (.const (.int .i64 (1))), none⟩,
    ⟨(some 60), .move (.tmp 59), none⟩,
    ⟨(some 61), .move (.tmp 4), (some ((some 60), true))⟩,
    ⟨(some 62), .ibin .eql (.tmp 61) (.const (.int .i64 (1))), (some ((some 60), true))⟩,
    ⟨(some 63), .pick (.tmp 60) (.tmp 62) (.const (.bool false)), none⟩,
    ⟨(some 64), .move (.tmp 63), none⟩,
    ⟨(some 65), .move (.tmp 6), (some ((some 64), true))⟩,
    ⟨(some 66), .ibin .eql (.tmp 65) (.const (.int .i64 (1))), (some ((some 64), true))⟩,
    ⟨(some 67), .pick (.tmp 64) (.tmp 66) (.const (.bool false)), none⟩,
    ⟨(some 68), .move (.tmp 67), none⟩,
    ⟨(some 69), .move (.tmp 8), (some ((some 68), true))⟩,
    ⟨(some 70), .ibin .eql (.tmp 69) (.const (.int .i64 (1))), (some ((some 68), true))⟩,
    ⟨(some 71), .pick (.tmp 68) (.tmp 70) (.const (.bool false)), none⟩,
    ⟨(some 72), .move (.tmp 71), none⟩,
    ⟨(some 73), .move (.tmp 9), (some ((some 72), true))⟩,
    ⟨(some 74), .len ⟨none, (.call ⟨.builtin .len, #[(.tmp 73)], #[22]⟩), 3, "", #[], none⟩ (.tmp 73), (some ((some 72), true))⟩,
    ⟨(some 75), .ibin .eql (.tmp 74) (.const (.int .i64 (0))), (some ((some 72), true))⟩,
    ⟨(some 76), .pick (.tmp 72) (.tmp 75) (.const (.bool false)), none⟩,
    ⟨(some 77), .move (.tmp 76), none⟩,
    ⟨(some 78), .move (.tmp 10), (some ((some 77), true))⟩,
    ⟨(some 79), .ibin .eql (.tmp 78) (.const (.int .i64 (0))), (some ((some 77), true))⟩,
    ⟨(some 80), .pick (.tmp 77) (.tmp 79) (.const (.bool false)), none⟩,
    ⟨(some 81), .move (.tmp 80), none⟩,
    ⟨(some 82), .move (.tmp 12), (some ((some 81), true))⟩,
    ⟨(some 83), .ibin .eql (.tmp 82) (.const (.int .i64 (0))), (some ((some 81), true))⟩,
    ⟨(some 84), .pick (.tmp 81) (.tmp 83) (.const (.bool false)), none⟩,
    ⟨(some 85), .move (.tmp 84), none⟩,
    ⟨(some 86), .move (.tmp 11), (some ((some 85), true))⟩,
    ⟨(some 87), .toStr (.tmp 86), (some ((some 85), true))⟩,
    ⟨(some 88), .move (.tmp 13), (some ((some 85), true))⟩,
    ⟨(some 89), .toStr (.tmp 88), (some ((some 85), true))⟩,
    ⟨(some 90), .pure ⟨none, (.binOp .eql 9 (.tmp 87) (.tmp 89) 9), 4, "", #[], none⟩, (some ((some 85), true))⟩,
    ⟨(some 91), .pick (.tmp 85) (.tmp 90) (.const (.bool false)), none⟩,
    ⟨(some 92), .move (.tmp 91), none⟩,
    ⟨(some 93), .call (.func 16) [], (some ((some 92), true))⟩,
    ⟨(some 94), .pick (.tmp 92) (.tmp 93) (.const (.bool false)), none⟩,
    ⟨(some 0), .move (.tmp 94), none⟩])
  .ret))))))))), 95, [.tmp 0], false⟩
def i13 : IFunc := ⟨(.seq (.region [⟨(some 2), .move (.const (.slice none 0 0)), none⟩])
  (.seq (.region [⟨(some 3), .move (.const (.slice none 0 0)), none⟩])
  (.seq (.seq (.region [⟨(some 4), .move (.const (.int .i64 (0))), none⟩])
  (.block 0 (.loop (.seq (.seq (.region [⟨(some 5), .move (.tmp 4), none⟩,
     ⟨(some 6), .move (.tmp 0), none⟩,
     ⟨(some 7), .ibin .lss (.tmp 5) (.tmp 6), none⟩])
   (.cond (.tmp 7)
    .skip
    (.exit 0)))
   (.seq (.block 1 (.region [⟨(some 10), .move (.tmp 3), none⟩,
     ⟨(some 11), .move (.tmp 4), none⟩,
     ⟨(some 12), .iconv .u8 (.tmp 11), none⟩,
     ⟨(some 13), .buildSlice 5 1 1 [(.int .u8 (0))] [(0, 1, (.tmp 12))], none⟩,
     ⟨(some 14), .append 5 1 1 (.tmp 10) (.tmp 13), none⟩,
     ⟨(some 3), .move (.tmp 14), none⟩]))
   (.region [⟨(some 8), .move (.tmp 4), none⟩,
     ⟨(some 9), .ibin .add (.tmp 8) (.const (.int .i64 (1))), none⟩,
     ⟨(some 4), .move (.tmp 9), none⟩]))))))
  (.seq (.region [⟨(some 15), .move (.tmp 3), none⟩,
    ⟨(some 2), .move (.tmp 15), none⟩])
  .ret)))), 16, [.tmp 2], false⟩
def i12 : IFunc := ⟨(.seq (.region [⟨(some 6), .move (.const (.slice none 0 0)), none⟩,
    ⟨(some 7), .move (.const (.int .i64 (0))), none⟩])
  (.seq (.seq (.region [⟨(some 8), .move (.tmp 0), none⟩,
    ⟨(some 9), .len ⟨none, (.call ⟨.builtin .len, #[(.tmp 8)], #[22]⟩), 3, "", #[], none⟩ (.tmp 8), none⟩,
    ⟨(some 10), .ibin .neq (.tmp 9) (.const (.int .i64 (32))), none⟩,
    ⟨(some 11), .move (.tmp 10), none⟩,
    ⟨(some 12), .move (.tmp 2), (some ((some 11), false))⟩,
    ⟨(some 13), .len ⟨none, (.call ⟨.builtin .len, #[(.tmp 12)], #[22]⟩), 3, "", #[], none⟩ (.tmp 12), (some ((some 11), false))⟩,
    ⟨(some 14), .ibin .neq (.tmp 13) (.const (.int .i64 (12))), (some ((some 11), false))⟩,
    ⟨(some 15), .pick (.tmp 11) (.const (.bool true)) (.tmp 14), none⟩])
  (.cond (.tmp 15)
   (.seq (.region [⟨(some 6), .move (.const (.slice none 0 0)), none⟩,
     ⟨(some 7), .move (.const (.int .i64 (1))), none⟩])
   .ret)
   .skip))
  (.seq (.region [⟨(some 16), .move (.tmp 0), none⟩,
    ⟨(some 17), .move (.tmp 1), none⟩,
    ⟨(some 18), .move (.tmp 2), none⟩,
    ⟨(some 19), .call (.func 36) [(.tmp 16), (.tmp 17), (.tmp 18)], none⟩,
    ⟨(some 6), .move (.tmp 19), none⟩,
    ⟨(some 7), .move (.const (.int .i64 (0))), none⟩])
  .ret))), 20, [.tmp 6, .tmp 7], false⟩
def i14 : IFunc := ⟨(.seq (.region [⟨(some 8), .move (.const (.slice none 0 0)), none⟩,
    ⟨(some 9), .move (.const (.int .i64 (0))), none⟩])
  (.seq (.seq (.region [⟨(some 14), .move (.tmp 0), none⟩,
    ⟨(some 15), .len ⟨none, (.call ⟨.builtin .len, #[(.tmp 14)], #[22]⟩), 3, "", #[], none⟩ (.tmp 14), none⟩,
    ⟨(some 16), .ibin .neq (.tmp 15) (.const (.int .i64 (32))), none⟩,
    ⟨(some 17), .move (.tmp 16), none⟩,
    ⟨(some 18), .move (.tmp 2), (some ((some 17), false))⟩,
    ⟨(some 19), .len ⟨none, (.call ⟨.builtin .len, #[(.tmp 18)], #[22]⟩), 3, "", #[], none⟩ (.tmp 18), (some ((some 17), false))⟩,
    ⟨(some 20), .ibin .neq (.tmp 19) (.const (.int .i64 (12))), (some ((some 17), false))⟩,
    ⟨(some 21), .pick (.tmp 17) (.const (.bool true)) (.tmp 20), none⟩])
  (.cond (.tmp 21)
   (.seq (.region [⟨(some 8), .move (.const (.slice none 0 0)), none⟩,
     ⟨(some 9), .move (.const (.int .i64 (1))), none⟩])
   .ret)
   .skip))
  (.seq (.region [⟨(some 22), .move (.tmp 3), none⟩,
    ⟨(some 23), .len ⟨none, (.call ⟨.builtin .len, #[(.tmp 22)], #[22]⟩), 3, "", #[], none⟩ (.tmp 22), none⟩,
    ⟨(some 24), .makeSlice 5 1 1 [(.int .u8 (0))] (.tmp 23) (.tmp 23), none⟩,
    ⟨(some 10), .move (.tmp 24), none⟩])
  (.seq (.seq (.region [⟨(some 11), .move (.const (.int .i64 (0))), none⟩])
  (.block 0 (.loop (.seq (.seq (.region [⟨(some 25), .move (.tmp 11), none⟩,
     ⟨(some 26), .move (.tmp 3), none⟩,
     ⟨(some 27), .len ⟨none, (.call ⟨.builtin .len, #[(.tmp 26)], #[22]⟩), 3, "", #[], none⟩ (.tmp 26), none⟩,
     ⟨(some 28), .ibin .lss (.tmp 25) (.tmp 27), none⟩])
   (.cond (.tmp 28)
    .skip
    (.exit 0)))
   (.seq (.block 1 (.seq (.region [⟨(some 31), .move (.tmp 0), none⟩,
     ⟨(some 32), .move (.tmp 1), none⟩,
     ⟨(some 33), .move (.tmp 2), none⟩,
     ⟨(some 34), .call (.func 36) [(.tmp 31), (.tmp 32), (.tmp 33)], none⟩,
     ⟨(some 12), .move (.tmp 34), none⟩])
   (.seq (.region [⟨(some 35), .move (.tmp 1), none⟩,
     ⟨(some 36), .ibin .add (.tmp 35) (.const (.int .u32 (1))), none⟩,
     ⟨(some 1), .move (.tmp 36), none⟩])
   (.seq (.region [⟨(some 13), .move (.const (.int .i64 (0))), none⟩])
   (.block 2 (.loop (.seq (.seq (.region [⟨(some 37), .move (.tmp 13), none⟩,
      ⟨(some 38), .move (.tmp 12), none⟩,
      ⟨(some 39), .len ⟨none, (.call ⟨.builtin .len, #[(.tmp 38)], #[22]⟩), 3, "", #[], none⟩ (.tmp 38), none⟩,
      ⟨(some 40), .ibin .lss (.tmp 37) (.tmp 39), none⟩,
      ⟨(some 41), .move (.tmp 40), none⟩,
      ⟨(some 42), .move (.tmp 11), (some ((some 41), true))⟩,
      ⟨(some 43), .move (.tmp 13), (some ((some 41), true))⟩,
      ⟨(some 44), .ibin .add (.tmp 42) (.tmp 43), (some ((some 41), true))⟩,
      ⟨(some 45), .move (.tmp 3), (some ((some 41), true))⟩,
      ⟨(some 46), .len ⟨none, (.call ⟨.builtin .len, #[(.tmp 45)], #[22]⟩), 3, "", #[], none⟩ (.tmp 45), (some ((some 41), true))⟩,
      ⟨(some 47), .ibin .lss (.tmp 44) (.tmp 46), (some ((some 41), true))⟩,
      ⟨(some 48), .pick (.tmp 41) (.tmp 47) (.const (.bool false)), none⟩])
    (.cond (.tmp 48)
     .skip
     (.exit 2)))
    (.seq (.block 3 (.region [⟨(some 51), .move (.tmp 10), none⟩,
      ⟨(some 52), .move (.tmp 11), none⟩,
      ⟨(some 53), .move (.tmp 13), none⟩,
      ⟨(some 54), .ibin .add (.tmp 52) (.tmp 53), none⟩,
      ⟨(some 55), .move (.tmp 3), none⟩,
      ⟨(some 56), .move (.tmp 11), none⟩,
      ⟨(some 57), .move (.tmp 13), none⟩,
      ⟨(some 58), .ibin .add (.tmp 56) (.tmp 57), none⟩,
      ⟨(some 59), .indexSlice 1 (.tmp 55) (.tmp 58), none⟩,
      ⟨(some 60), .load1 (.tmp 59), none⟩,
      ⟨(some 61), .move (.tmp 12), none⟩,
      ⟨(some 62), .move (.tmp 13), none⟩,
      ⟨(some 63), .indexSlice 1 (.tmp 61) (.tmp 62), none⟩,
      ⟨(some 64), .load1 (.tmp 63), none⟩,
      ⟨(some 65), .ibin .xor (.tmp 60) (.tmp 64), none⟩,
      ⟨(some 66), .indexSlice 1 (.tmp 51) (.tmp 54), none⟩,
      ⟨none, .store 1 (.tmp 66) (.tmp 65), none⟩]))
    (.region [⟨(some 49), .move (.tmp 13), none⟩,
      ⟨(some 50), .ibin .add (.tmp 49) (.const (.int .i64 (1))), none⟩,
      ⟨(some 13), .move (.tmp 50), none⟩])))))))))
   (.region [⟨(some 29), .move (.tmp 11), none⟩,
     ⟨(some 30), .ibin .add (.tmp 29) (.const (.int .i64 (64))), none⟩,
     ⟨(some 11), .move (.tmp 30), none⟩]))))))
  (.seq (.region [⟨(some 67), .move (.tmp 10), none⟩,
    ⟨(some 8), .move (.tmp 67), none⟩,
    ⟨(some 9), .move (.const (.int .i64 (0))), none⟩])
  .ret))))), 68, [.tmp 8, .tmp 9], false⟩
def i15 : IFunc := ⟨(.seq (.region [⟨(some 8), .move (.const (.slice none 0 0)), none⟩,
    ⟨(some 9), .move (.const (.int .i64 (0))), none⟩])
  (.seq (.seq (.region [⟨(some 13), .move (.tmp 0), none⟩,
    ⟨(some 14), .len ⟨none, (.call ⟨.builtin .len, #[(.tmp 13)], #[22]⟩), 3, "", #[], none⟩ (.tmp 13), none⟩,
    ⟨(some 15), .ibin .neq (.tmp 14) (.const (.int .i64 (32))), none⟩,
    ⟨(some 16), .move (.tmp 15), none⟩,
    ⟨(some 17), .move (.tmp 2), (some ((some 16), false))⟩,
    ⟨(some 18), .len ⟨none, (.call ⟨.builtin .len, #[(.tmp 17)], #[22]⟩), 3, "", #[], none⟩ (.tmp 17), (some ((some 16), false))⟩,
    ⟨(some 19), .ibin .neq (.tmp 18) (.const (.int .i64 (12))), (some ((some 16), false))⟩,
    ⟨(some 20), .pick (.tmp 16) (.const (.bool true)) (.tmp 19), none⟩])
  (.cond (.tmp 20)
   (.seq (.region [⟨(some 8), .move (.const (.slice none 0 0)), none⟩,
     ⟨(some 9), .move (.const (.int .i64 (1))), none⟩])
   .ret)
   .skip))
  (.seq (.region [⟨(some 10), .move (.const (.slice none 0 0)), none⟩])
  (.seq (.region [⟨(some 11), .move (.const (.slice none 0 0)), none⟩])
  (.seq (.seq (.region [⟨(some 12), .move (.const (.int .i64 (0))), none⟩])
  (.block 0 (.loop (.seq (.seq (.region [⟨(some 21), .move (.tmp 12), none⟩,
     ⟨(some 22), .move (.tmp 3), none⟩,
     ⟨(some 23), .len ⟨none, (.call ⟨.builtin .len, #[(.tmp 22)], #[22]⟩), 3, "", #[], none⟩ (.tmp 22), none⟩,
     ⟨(some 24), .ibin .lss (.tmp 21) (.tmp 23), none⟩])
   (.cond (.tmp 24)
    .skip
    (.exit 0)))
   (.seq (.block 1 (.seq (.seq (.region [⟨(some 27), .move (.tmp 12), none⟩,
     ⟨(some 28), .ibin .rem (.tmp 27) (.const (.int .i64 (64))), none⟩,
     ⟨(some 29), .ibin .eql (.tmp 28) (.const (.int .i64 (0))), none⟩])
   (.cond (.tmp 29)
    (.seq (.region [⟨(some 31), .move (.tmp 0), none⟩,
      ⟨(some 32), .move (.tmp 1), none⟩,
      ⟨(some 33), .move (.tmp 2), none⟩,
      ⟨(some 34), .call (.func 20) [(.tmp 31), (.tmp 32), (.tmp 33)], none⟩,
      ⟨(some 30), .move (.tmp 34), none⟩,
      ⟨(some 35), .extract (.tmp 30) 0, none⟩,
      ⟨(some 36), .extract (.tmp 30) 1, none⟩,
      ⟨(some 11), .move (.tmp 35), none⟩])
    (.region [⟨(some 37), .move (.tmp 1), none⟩,
      ⟨(some 38), .ibin .add (.tmp 37) (.const (.int .u32 (1))), none⟩,
      ⟨(some 1), .move (.tmp 38), none⟩]))
    .skip))
   (.region [⟨(some 39), .move (.tmp 10), none⟩,
     ⟨(some 40), .move (.tmp 3), none⟩,
     ⟨(some 41), .move (.tmp 12), none⟩,
     ⟨(some 42), .indexSlice 1 (.tmp 40) (.tmp 41), none⟩,
     ⟨(some 43), .load1 (.tmp 42), none⟩,
     ⟨(some 44), .move (.tmp 11), none⟩,
     ⟨(some 45), .move (.tmp 12), none⟩,
     ⟨(some 46), .ibin .rem (.tmp 45) (.const (.int .i64 (64))), none⟩,
     ⟨(some 47), .indexSlice 1 (.tmp 44) (.tmp 46), none⟩,
     ⟨(some 48), .load1 (.tmp 47), none⟩,
     ⟨(some 49), .ibin .xor (.tmp 43) (.tmp 48), none⟩,
     ⟨(some 50), .buildSlice 5 1 1 [(.int .u8 (0))] [(0, 1, (.tmp 49))], none⟩,
     ⟨(some 51), .append 5 1 1 (.tmp 39) (.tmp 50), none⟩,
     ⟨(some 10), .move (.tmp 51), none⟩])))
   (.region [⟨(some 25), .move (.tmp 12), none⟩,
     ⟨(some 26), .ibin .add (.tmp 25) (.const (.int .i64 (1))), none⟩,
     ⟨(some 12), .move (.tmp 26), none⟩]))))))
  (.seq (.region [⟨(some 52), .move (.tmp 10), none⟩,
    ⟨(some 8), .move (.tmp 52), none⟩,
    ⟨(some 9), .move (.const (.int .i64 (0))), none⟩])
  .ret)))))), 53, [.tmp 8, .tmp 9], false⟩
def i16 : IFunc := ⟨(.seq (.region [⟨(some 0), .move (.const (.bool false)), none⟩])
  (.seq (.region [⟨(some 4), .call (.func 13) [(.const (.int .i64 (32)))], none⟩,
    ⟨(some 5), .buildSlice 5 1 12 [(.int .u8 (0)), (.int .u8 (0)), (.int .u8 (0)), (.int .u8 (0)), (.int .u8 (0)), (.int .u8 (0)), (.int .u8 (0)), (.int .u8 (0)), (.int .u8 (0)), (.int .u8 (0)), (.int .u8 (0)), (.int .u8 (0))] [(0, 1, (.const (.int .u8 (0)))), (1, 1, (.const (.int .u8 (0)))), (2, 1, (.const (.int .u8 (0)))), (3, 1, (.const (.int .u8 (9)))), (4, 1, (.const (.int .u8 (0)))), (5, 1, (.const (.int .u8 (0)))), (6, 1, (.const (.int .u8 (0)))), (7, 1, (.const (.int .u8 (74)))), (8, 1, (.const (.int .u8 (0)))), (9, 1, (.const (.int .u8 (0)))), (10, 1, (.const (.int .u8 (0)))), (11, 1, (.const (.int .u8 (0))))], none⟩,
    ⟨(some 6), .call (.func 12) [(.tmp 4), (.const (.int .u32 (1))), (.tmp 5)], none⟩,
    ⟨(some 3), .move (.tmp 6), none⟩,
    ⟨(some 7), .extract (.tmp 3) 0, none⟩,
    ⟨(some 8), .extract (.tmp 3) 1, none⟩,
    ⟨(some 1), .move (.tmp 7), none⟩,
    ⟨(some 2), .move (.tmp 8), none⟩])
  (.seq (.region [⟨(some 9), .move (.tmp 2), none⟩,
    ⟨(some 10), .ibin .eql (.tmp 9) (.const (.int .i64 (0))), none⟩,
    ⟨(some 11), .move (.tmp 10), none⟩,
    ⟨(some 12), .move (.tmp 1), (some ((some 11), true))⟩,
    ⟨(some 13), .len ⟨none, (.call ⟨.builtin .len, #[(.tmp 12)], #[22]⟩), 3, "", #[], none⟩ (.tmp 12), (some ((some 11), true))⟩,
    ⟨(some 14), .ibin .eql (.tmp 13) (.const (.int .i64 (64))), (some ((some 11), true))⟩,
    ⟨(some 15), .pick (.tmp 11) (.tmp 14) (.const (.bool false)), none⟩,
    ⟨(some 16), .move (.tmp 15), none⟩,
    ⟨(some 17), .move (.tmp 1), (some ((some 16), true))⟩,
    ⟨(some 18), .slice ⟨none, (.slice 22 (.tmp 17) none (some (.const (.int .i64 (8)))) none), 22, "", #[], none⟩ 1 (.tmp 17) none (some (.const (.int .i64 (8)))) none, (some ((some 16), true))⟩,
    ⟨(some 19), .toStr (.tmp 18), (some ((some 16), true))⟩,
    ⟨(some 20), .pure ⟨none, (.binOp .eql 9 (.tmp 19) (.const (.string ⟨#[16, 241, 231, 228, 209, 59, 89, 21]⟩)) 9), 4, "", #[], none⟩, (some ((some 16), true))⟩,
    ⟨(some 21), .pick (.tmp 16) (.tmp 20) (.const (.bool false)), none⟩,
    ⟨(some 0), .move (.tmp 21), none⟩])
  .ret))), 22, [.tmp 0], false⟩
def tab : List (Nat × IFunc) := [(3, i3), (13, i13), (12, i12), (14, i14), (15, i15), (16, i16)]
theorem tab_all : ∀ p ∈ tab, mkI Try.prog p.1 p.2.keep = some p.2 := by
  simp only [tab, List.forall_mem_cons, List.not_mem_nil, false_imp_iff, implies_true, and_true]
  exact ⟨by kernel_rfl, by kernel_rfl, by kernel_rfl, by kernel_rfl, by kernel_rfl, by kernel_rfl⟩
theorem has_of (f : Nat) (i : IFunc) (h : look tab f = some i) : ∃ fn, Try.prog.funcs[f]? = some fn ∧ (fn.name == "runtime.NumGoroutine") = false ∧ fn.body.isSome = true := known_of (look_ok tab_all f i h)
theorem ovC_fine : OvOK Try.prog ovC := by
  refine ovC_ok fun f hf => ?_
  simp only [List.mem_cons, List.not_mem_nil, or_false] at hf
  rcases hf with rfl | rfl | rfl | rfl
  · exact has_of _ i12 rfl
  · exact has_of _ i14 rfl
  · exact has_of _ i15 rfl
  · exact has_of _ i16 rfl
theorem runs : resIs isYes (enter (look tab) (ex Try.prog (look tab) ovC 2000) 3 [] [] 0) = true := by decide +kernel
theorem numbers_yes (w : World) : Calls Try.prog 3 #[] w fun e w' => e = .returned (.bool true) ∧ Below w.heap.size w w' :=
  call_yes (tab_ok tab_all) ovC_fine 2000 3 runs w
end Go.Proofs.Ytclabnfngchpfaa.Eng
