/-
  'CurveNumbers' in an abstract run: the functions that it reaches, made plain. No statement of the program is proved here.
-/
import Derived.Test.YtlpoolcdoecodaaEngCv
import Derived.Test.YtlpoolcdoecodaaSized
import Derived.KernelRfl
set_option linter.unusedSimpArgs false
namespace Go.Proofs.Ytlpoolcdoecodaa.Eng
open Go.RowKit Go.Proofs.YtlpoolcdoecodaaW.PrintWords
set_option linter.unusedVariables false
def i3 : IFunc := ⟨(.seq (.region [⟨(some 0), .move (.const (.bool false)), none⟩])
  (.seq (.region [⟨(some 16), .call (.func 9) [], none⟩,
    ⟨(some 17), .slice ⟨none, (.slice 22 (.tmp 16) none (some (.const (.int .i64 (31)))) none), 22, "", #[], none⟩ 1 (.tmp 16) none (some (.const (.int .i64 (31)))) none, none⟩,
    ⟨(some 18), .call (.func 9) [], none⟩,
    ⟨(some 19), .call (.func 8) [(.tmp 17), (.tmp 18)], none⟩,
    ⟨(some 15), .move (.tmp 19), none⟩,
    ⟨(some 20), .extract (.tmp 15) 0, none⟩,
    ⟨(some 21), .extract (.tmp 15) 1, none⟩,
    ⟨(some 1), .move (.tmp 20), none⟩,
    ⟨(some 2), .move (.tmp 21), none⟩])
  (.seq (.region [⟨(some 23), .call (.func 9) [], none⟩,
    ⟨(some 24), .call (.func 9) [], none⟩,
    ⟨(some 25), .slice ⟨none, (.slice 22 (.tmp 24) none (some (.const (.int .i64 (31)))) none), 22, "", #[], none⟩ 1 (.tmp 24) none (some (.const (.int .i64 (31)))) none, none⟩,
    ⟨(some 26), .call (.func 8) [(.tmp 23), (.tmp 25)], none⟩,
    ⟨(some 22), .move (.tmp 26), none⟩,
    ⟨(some 27), .extract (.tmp 22) 0, none⟩,
    ⟨(some 28), .extract (.tmp 22) 1, none⟩,
    ⟨(some 3), .move (.tmp 27), none⟩,
    ⟨(some 4), .move (.tmp 28), none⟩])
  (.seq (.region [⟨(some 30), .call (.func 9) [], none⟩,
    ⟨(some 31), .buildSlice 5 1 1 [(.int .u8 (0))] [(0, 1, (.const (.int .u8 (0))))], none⟩,
    ⟨(some 32), .append 5 1 1 (.tmp 30) (.tmp 31), none⟩,
    ⟨(some 33), .call (.func 10) [(.tmp 32)], none⟩,
    ⟨(some 29), .move (.tmp 33), none⟩,
    ⟨(some 34), .extract (.tmp 29) 0, none⟩,
    ⟨(some 35), .extract (.tmp 29) 1, none⟩,
    ⟨(some 5), .move (.tmp 34), none⟩,
    ⟨(some 6), .move (.tmp 35), none⟩])
  (.seq (.seq (.regionB [0, 1, 0, 7, 0, 31, 0, 127, 0, 511, 0, 2047, 0, 8191, 0, 32767, 0, 131071, 0, 524287, 0, 2097151, 0, 8388607, 0, 33554431, 0, 134217727, 268435455, 0] [⟨(some 37), .buildSlice 5 1 1 [(.int .u8 (0))] [(0, 1, (.const (.int .u8 (1))))], none⟩,
    ⟨(some 38), .appendZ 5 1 1 [(.int .u8 (0))] (.tmp 37) (.const (.int .i64 (31))), none⟩,
    ⟨(some 39), .buildSlice 5 1 1 [(.int .u8 (0))] [(0, 1, (.const (.int .u8 (255))))], none⟩,
    ⟨(some 40), .call (.func 11) [(.tmp 39), (.const (.int .i64 (32)))], none⟩,
    ⟨(some 41), .buildSlice 5 1 1 [(.int .u8 (0))] [(0, 1, (.const (.int .u8 (255))))], none⟩,
    ⟨(some 42), .call (.func 11) [(.tmp 41), (.const (.int .i64 (31)))], none⟩,
    ⟨(some 43), .buildSlice 5 1 1 [(.int .u8 (0))] [(0, 1, (.const (.int .u8 (127))))], none⟩,
    ⟨(some 44), .append 5 1 1 (.tmp 42) (.tmp 43), none⟩,
    ⟨(some 46), .buildSlice 5 1 1 [(.int .u8 (0))] [(0, 1, (.const (.int .u8 (255))))], none⟩,
    ⟨(some 47), .call (.func 11) [(.tmp 46), (.const (.int .i64 (30)))], none⟩,
    ⟨(some 45), .buildSlice 5 1 1 [(.int .u8 (0))] [(0, 1, (.const (.int .u8 (236))))], none⟩,
    ⟨(some 48), .append 5 1 1 (.tmp 45) (.tmp 47), none⟩,
    ⟨(some 49), .buildSlice 5 1 1 [(.int .u8 (0))] [(0, 1, (.const (.int .u8 (127))))], none⟩,
    ⟨(some 50), .append 5 1 1 (.tmp 48) (.tmp 49), none⟩,
    ⟨(some 52), .buildSlice 5 1 1 [(.int .u8 (0))] [(0, 1, (.const (.int .u8 (255))))], none⟩,
    ⟨(some 53), .call (.func 11) [(.tmp 52), (.const (.int .i64 (30)))], none⟩,
    ⟨(some 51), .buildSlice 5 1 1 [(.int .u8 (0))] [(0, 1, (.const (.int .u8 (237))))], none⟩,
    ⟨(some 54), .append 5 1 1 (.tmp 51) (.tmp 53), none⟩,
    ⟨(some 55), .buildSlice 5 1 1 [(.int .u8 (0))] [(0, 1, (.const (.int .u8 (127))))], none⟩,
    ⟨(some 56), .append 5 1 1 (.tmp 54) (.tmp 55), none⟩,
    ⟨(some 58), .buildSlice 5 1 1 [(.int .u8 (0))] [(0, 1, (.const (.int .u8 (255))))], none⟩,
    ⟨(some 59), .call (.func 11) [(.tmp 58), (.const (.int .i64 (30)))], none⟩,
    ⟨(some 57), .buildSlice 5 1 1 [(.int .u8 (0))] [(0, 1, (.const (.int .u8 (238))))], none⟩,
    ⟨(some 60), .append 5 1 1 (.tmp 57) (.tmp 59), none⟩,
    ⟨(some 61), .buildSlice 5 1 1 [(.int .u8 (0))] [(0, 1, (.const (.int .u8 (255))))], none⟩,
    ⟨(some 62), .append 5 1 1 (.tmp 60) (.tmp 61), none⟩,
    ⟨(some 36), .makeSlice 5 1 1 [(.int .u8 (0))] (.const (.int .i64 (32))) (.const (.int .i64 (32))), none⟩,
    ⟨(some 63), .buildSlice 22 1 7 [(.slice none 0 0), (.slice none 0 0), (.slice none 0 0), (.slice none 0 0), (.slice none 0 0), (.slice none 0 0), (.slice none 0 0)] [(0, 1, (.tmp 36)), (1, 1, (.tmp 38)), (2, 1, (.tmp 40)), (3, 1, (.tmp 44)), (4, 1, (.tmp 50)), (5, 1, (.tmp 56)), (6, 1, (.tmp 62))], none⟩,
    ⟨(some 64), .len ⟨none, (.call ⟨.builtin .len, #[(.tmp 63)], #[29]⟩), 3, "", #[], none⟩ (.tmp 63), none⟩,
    ⟨(some 65), .move (.const (.int .i64 (0))), none⟩])
  (.block 0 (.loop (.seq (.region [⟨(some 66), .ibin .lss (.tmp 65) (.tmp 64), none⟩])
   (.seq (.cond (.tmp 66)
    .skip
    (.exit 0))
   (.seq (.block 1 (.seq (.region [⟨(some 67), .indexSlice 1 (.tmp 63) (.tmp 65), none⟩,
     ⟨(some 68), .load1 (.tmp 67), none⟩,
     ⟨(some 8), .move (.tmp 68), none⟩])
   (.seq (.regionB [0, 1, 3, 0, 15, 31, 0] [⟨(some 70), .buildSlice 5 1 1 [(.int .u8 (0))] [(0, 1, (.const (.int .u8 (255))))], none⟩,
     ⟨(some 71), .call (.func 11) [(.tmp 70), (.const (.int .i64 (32)))], none⟩,
     ⟨(some 72), .call (.func 9) [], none⟩,
     ⟨(some 69), .makeSlice 5 1 1 [(.int .u8 (0))] (.const (.int .i64 (32))) (.const (.int .i64 (32))), none⟩,
     ⟨(some 73), .buildSlice 22 1 3 [(.slice none 0 0), (.slice none 0 0), (.slice none 0 0)] [(0, 1, (.tmp 69)), (1, 1, (.tmp 71)), (2, 1, (.tmp 72))], none⟩,
     ⟨(some 74), .len ⟨none, (.call ⟨.builtin .len, #[(.tmp 73)], #[29]⟩), 3, "", #[], none⟩ (.tmp 73), none⟩,
     ⟨(some 75), .move (.const (.int .i64 (0))), none⟩])
   (.block 2 (.loop (.seq (.region [⟨(some 76), .ibin .lss (.tmp 75) (.tmp 74), none⟩])
    (.seq (.cond (.tmp 76)
     .skip
     (.exit 2))
    (.seq (.block 3 (.seq (.region [⟨(some 77), .indexSlice 1 (.tmp 73) (.tmp 75), none⟩,
      ⟨(some 78), .load1 (.tmp 77), none⟩,
      ⟨(some 10), .move (.tmp 78), none⟩])
    (.seq (.region [⟨(some 80), .move (.tmp 10), none⟩,
      ⟨(some 81), .move (.tmp 8), none⟩,
      ⟨(some 82), .call (.func 8) [(.tmp 80), (.tmp 81)], none⟩,
      ⟨(some 79), .move (.tmp 82), none⟩,
      ⟨(some 83), .extract (.tmp 79) 0, none⟩,
      ⟨(some 84), .extract (.tmp 79) 1, none⟩,
      ⟨(some 11), .move (.tmp 83), none⟩,
      ⟨(some 12), .move (.tmp 84), none⟩])
    (.seq (.region [⟨(some 86), .move (.tmp 10), none⟩,
      ⟨(some 87), .move (.tmp 8), none⟩,
      ⟨(some 88), .call (.func 12) [(.tmp 86), (.tmp 87)], none⟩,
      ⟨(some 85), .move (.tmp 88), none⟩,
      ⟨(some 89), .extract (.tmp 85) 0, none⟩,
      ⟨(some 90), .extract (.tmp 85) 1, none⟩,
      ⟨(some 13), .move (.tmp 89), none⟩,
      ⟨(some 14), .move (.tmp 90), none⟩])
    (.seq (.region [⟨(some 91), .move (.tmp 12), none⟩,
      ⟨(some 92), .ibin .neq (.tmp 91) (.const (.int .i64 (0))), none⟩,
      ⟨(some 93), .move (.tmp 92), none⟩,
      ⟨(some 94), .move (.tmp 11), (some ((some 93), false))⟩,
      ⟨(some 95), .toStr (.tmp 94), (some ((some 93), false))⟩,
      ⟨(some 96), .move (.tmp 13), (some ((some 93), false))⟩,
      ⟨(some 97), .toStr (.tmp 96), (some ((some 93), false))⟩,
      ⟨(some 98), .pure ⟨none, (.binOp .neq 9 (.tmp 95) (.tmp 97) 9), 4, "", #[], none⟩, (some ((some 93), false))⟩,
      ⟨(some 99), .pick (.tmp 93) (.const (.bool true)) (.tmp 98), none⟩])
    (.cond (.tmp 99)
     (.seq (.region [⟨(some 0), .move (.const (.bool false)), none⟩])
     .ret)
     .skip))))))
    (.region [⟨(some 100), .ibin .add (.tmp 75) (.const (.int .i64 (1))), none⟩,
      ⟨(some 75), .move (.tmp 100), none⟩])))))))))
   (.region [⟨(some 101), .ibin .add (.tmp 65) (.const (.int .i64 (1))), none⟩,
     ⟨(some 65), .move (.tmp 101), none⟩])))))))
  (.seq (.region [⟨(some 102), .move (.tmp 2), none⟩,
    ⟨(some 103), .ibin .eql (.tmp 102) (.const (.int .i64 (1))), none⟩,
    ⟨(some 104), .move (.tmp 103), none⟩,
    ⟨(some 105), .move (.tmp 4), (some ((some 104), true))⟩,
    ⟨(some 106), .ibin .eql (.tmp 105) (.const (.int .i64 (1))), (some ((some 104), true))⟩,
    ⟨(some 107), .pick (.tmp 104) (.tmp 106) (.const (.bool false)), none⟩,
    ⟨(some 108), .move (.tmp 107), none⟩,
    ⟨(some 109), .move (.tmp 6), (some ((some 108), true))⟩,
    ⟨(some 110), .ibin .eql (.tmp 109) (.const (.int .i64 (1))), (some ((some 108), true))⟩,
    ⟨(some 111), .pick (.tmp 108) (.tmp 110) (.const (.bool false)), none⟩,
    ⟨(some 112), .move (.tmp 111), none⟩,
    ⟨(some 113), .call (.func 13) [], (some ((some 112), true))⟩,
    ⟨(some 114), .pick (.tmp 112) (.tmp 113) (.const (.bool false)), none⟩,
    ⟨(some 0), .move (.tmp 114), none⟩])
  .ret)))))), 115, [.tmp 0], false⟩
def i9 : IFunc := ⟨(.seq (.region [⟨(some 0), .move (.const (.slice none 0 0)), none⟩])
  (.seq (.region [⟨(some 1), .buildSlice 5 1 32 [(.int .u8 (0)), (.int .u8 (0)), (.int .u8 (0)), (.int .u8 (0)), (.int .u8 (0)), (.int .u8 (0)), (.int .u8 (0)), (.int .u8 (0)), (.int .u8 (0)), (.int .u8 (0)), (.int .u8 (0)), (.int .u8 (0)), (.int .u8 (0)), (.int .u8 (0)), (.int .u8 (0)), (.int .u8 (0)), (.int .u8 (0)), (.int .u8 (0)), (.int .u8 (0)), (.int .u8 (0)), (.int .u8 (0)), (.int .u8 (0)), (.int .u8 (0)), (.int .u8 (0)), (.int .u8 (0)), (.int .u8 (0)), (.int .u8 (0)), (.int .u8 (0)), (.int .u8 (0)), (.int .u8 (0)), (.int .u8 (0)), (.int .u8 (0))] [(0, 1, (.const (.int .u8 (119)))), (1, 1, (.const (.int .u8 (7)))), (2, 1, (.const (.int .u8 (109)))), (3, 1, (.const (.int .u8 (10)))), (4, 1, (.const (.int .u8 (115)))), (5, 1, (.const (.int .u8 (24)))), (6, 1, (.const (.int .u8 (165)))), (7, 1, (.const (.int .u8 (125)))), (8, 1, (.const (.int .u8 (60)))), (9, 1, (.const (.int .u8 (22)))), (10, 1, (.const (.int .u8 (193)))), (11, 1, (.const (.int .u8 (114)))), (12, 1, (.const (.int .u8 (81)))), (13, 1, (.const (.int .u8 (178)))), (14, 1, (.const (.int .u8 (102)))), (15, 1, (.const (.int .u8 (69)))), (16, 1, (.const (.int .u8 (223)))), (17, 1, (.const (.int .u8 (76)))), (18, 1, (.const (.int .u8 (47)))), (19, 1, (.const (.int .u8 (135)))), (20, 1, (.const (.int .u8 (235)))), (21, 1, (.const (.int .u8 (192)))), (22, 1, (.const (.int .u8 (153)))), (23, 1, (.const (.int .u8 (42)))), (24, 1, (.const (.int .u8 (177)))), (25, 1, (.const (.int .u8 (119)))), (26, 1, (.const (.int .u8 (251)))), (27, 1, (.const (.int .u8 (165)))), (28, 1, (.const (.int .u8 (29)))), (29, 1, (.const (.int .u8 (185)))), (30, 1, (.const (.int .u8 (44)))), (31, 1, (.const (.int .u8 (42))))], none⟩,
    ⟨(some 2), .mark (.tmp 1), none⟩,
    ⟨(some 0), .move (.tmp 2), none⟩])
  .ret)), 3, [.tmp 0], false⟩
def i8 : IFunc := ⟨(.seq (.region [⟨(some 4), .move (.const (.slice none 0 0)), none⟩,
    ⟨(some 5), .move (.const (.int .i64 (0))), none⟩])
  (.seq (.seq (.region [⟨(some 6), .move (.tmp 0), none⟩,
    ⟨(some 7), .len ⟨none, (.call ⟨.builtin .len, #[(.tmp 6)], #[22]⟩), 3, "", #[], none⟩ (.tmp 6), none⟩,
    ⟨(some 8), .ibin .neq (.tmp 7) (.const (.int .i64 (32))), none⟩,
    ⟨(some 9), .move (.tmp 8), none⟩,
    ⟨(some 10), .move (.tmp 1), (some ((some 9), false))⟩,
    ⟨(some 11), .len ⟨none, (.call ⟨.builtin .len, #[(.tmp 10)], #[22]⟩), 3, "", #[], none⟩ (.tmp 10), (some ((some 9), false))⟩,
    ⟨(some 12), .ibin .neq (.tmp 11) (.const (.int .i64 (32))), (some ((some 9), false))⟩,
    ⟨(some 13), .pick (.tmp 9) (.const (.bool true)) (.tmp 12), none⟩])
  (.cond (.tmp 13)
   (.seq (.region [⟨(some 4), .move (.const (.slice none 0 0)), none⟩,
     ⟨(some 5), .move (.const (.int .i64 (1))), none⟩])
   .ret)
   .skip))
  (.seq (.region [⟨(some 14), .move (.tmp 0), none⟩,
    ⟨(some 15), .move (.tmp 1), none⟩,
    ⟨(some 16), .call (.func 16) [(.tmp 14), (.tmp 15)], none⟩,
    ⟨(some 4), .move (.tmp 16), none⟩,
    ⟨(some 5), .move (.const (.int .i64 (0))), none⟩])
  .ret))), 17, [.tmp 4, .tmp 5], false⟩
def i10 : IFunc := ⟨(.seq (.region [⟨(some 2), .move (.const (.slice none 0 0)), none⟩,
    ⟨(some 3), .move (.const (.int .i64 (0))), none⟩])
  (.seq (.region [⟨(some 5), .makeSlice 5 1 1 [(.int .u8 (0))] (.const (.int .i64 (32))) (.const (.int .i64 (32))), none⟩,
    ⟨(some 4), .move (.tmp 5), none⟩])
  (.seq (.region [⟨(some 6), .move (.tmp 4), none⟩,
    ⟨(some 7), .indexSlice 1 (.tmp 6) (.const (.int .i64 (0))), none⟩,
    ⟨none, .store 1 (.tmp 7) (.const (.int .u8 (9))), none⟩])
  (.seq (.region [⟨(some 8), .move (.tmp 0), none⟩,
    ⟨(some 9), .move (.tmp 4), none⟩,
    ⟨(some 10), .call (.func 8) [(.tmp 8), (.tmp 9)], none⟩,
    ⟨(some 11), .extract (.tmp 10) 0, none⟩,
    ⟨(some 12), .extract (.tmp 10) 1, none⟩,
    ⟨(some 2), .move (.tmp 11), none⟩,
    ⟨(some 3), .move (.tmp 12), none⟩])
  .ret)))), 13, [.tmp 2, .tmp 3], false⟩
def i11 : IFunc := ⟨(.seq (.region [⟨(some 4), .move (.const (.slice none 0 0)), none⟩])
  (.seq (.region [⟨(some 7), .move (.tmp 1), none⟩,
    ⟨(some 8), .makeSlice 5 1 1 [(.int .u8 (0))] (.tmp 7) (.tmp 7), none⟩,
    ⟨(some 5), .move (.tmp 8), none⟩])
  (.seq (.seq (.region [⟨(some 6), .move (.const (.int .i64 (0))), none⟩])
  (.block 0 (.loop (.seq (.seq (.region [⟨(some 9), .move (.tmp 6), none⟩,
     ⟨(some 10), .move (.tmp 1), none⟩,
     ⟨(some 11), .ibin .lss (.tmp 9) (.tmp 10), none⟩,
     ⟨(some 12), .move (.tmp 11), none⟩,
     ⟨(some 13), .move (.tmp 0), (some ((some 12), true))⟩,
     ⟨(some 14), .len ⟨none, (.call ⟨.builtin .len, #[(.tmp 13)], #[22]⟩), 3, "", #[], none⟩ (.tmp 13), (some ((some 12), true))⟩,
     ⟨(some 15), .ibin .gtr (.tmp 14) (.const (.int .i64 (0))), (some ((some 12), true))⟩,
     ⟨(some 16), .pick (.tmp 12) (.tmp 15) (.const (.bool false)), none⟩])
   (.cond (.tmp 16)
    .skip
    (.exit 0)))
   (.seq (.block 1 (.region [⟨(some 19), .move (.tmp 5), none⟩,
     ⟨(some 20), .move (.tmp 6), none⟩,
     ⟨(some 21), .move (.tmp 0), none⟩,
     ⟨(some 22), .move (.tmp 6), none⟩,
     ⟨(some 23), .move (.tmp 0), none⟩,
     ⟨(some 24), .len ⟨none, (.call ⟨.builtin .len, #[(.tmp 23)], #[22]⟩), 3, "", #[], none⟩ (.tmp 23), none⟩,
     ⟨(some 25), .ibin .rem (.tmp 22) (.tmp 24), none⟩,
     ⟨(some 26), .indexSlice 1 (.tmp 21) (.tmp 25), none⟩,
     ⟨(some 27), .load1 (.tmp 26), none⟩,
     ⟨(some 28), .indexSlice 1 (.tmp 19) (.tmp 20), none⟩,
     ⟨none, .store 1 (.tmp 28) (.tmp 27), none⟩]))
   (.region [⟨(some 17), .move (.tmp 6), none⟩,
     ⟨(some 18), .ibin .add (.tmp 17) (.const (.int .i64 (1))), none⟩,
     ⟨(some 6), .move (.tmp 18), none⟩]))))))
  (.seq (.region [⟨(some 29), .move (.tmp 5), none⟩,
    ⟨(some 4), .move (.tmp 29), none⟩])
  .ret)))), 30, [.tmp 4], false⟩
def i13 : IFunc := ⟨(.seq (.region [⟨(some 0), .move (.const (.bool false)), none⟩])
  (.seq (.region [⟨(some 4), .call (.func 9) [], none⟩,
    ⟨(some 5), .call (.func 10) [(.tmp 4)], none⟩,
    ⟨(some 3), .move (.tmp 5), none⟩,
    ⟨(some 6), .extract (.tmp 3) 0, none⟩,
    ⟨(some 7), .extract (.tmp 3) 1, none⟩,
    ⟨(some 1), .move (.tmp 6), none⟩,
    ⟨(some 2), .move (.tmp 7), none⟩])
  (.seq (.region [⟨(some 8), .move (.tmp 2), none⟩,
    ⟨(some 9), .ibin .eql (.tmp 8) (.const (.int .i64 (0))), none⟩,
    ⟨(some 10), .move (.tmp 9), none⟩,
    ⟨(some 11), .move (.tmp 1), (some ((some 10), true))⟩,
    ⟨(some 12), .len ⟨none, (.call ⟨.builtin .len, #[(.tmp 11)], #[22]⟩), 3, "", #[], none⟩ (.tmp 11), (some ((some 10), true))⟩,
    ⟨(some 13), .ibin .eql (.tmp 12) (.const (.int .i64 (32))), (some ((some 10), true))⟩,
    ⟨(some 14), .pick (.tmp 10) (.tmp 13) (.const (.bool false)), none⟩,
    ⟨(some 15), .move (.tmp 14), none⟩,
    ⟨(some 16), .move (.tmp 1), (some ((some 15), true))⟩,
    ⟨(some 17), .slice ⟨none, (.slice 22 (.tmp 16) none (some (.const (.int .i64 (8)))) none), 22, "", #[], none⟩ 1 (.tmp 16) none (some (.const (.int .i64 (8)))) none, (some ((some 15), true))⟩,
    ⟨(some 18), .toStr (.tmp 17), (some ((some 15), true))⟩,
    ⟨(some 19), .pure ⟨none, (.binOp .eql 9 (.tmp 18) (.const (.string ⟨#[133, 32, 240, 9, 137, 48, 167, 84]⟩)) 9), 4, "", #[], none⟩, (some ((some 15), true))⟩,
    ⟨(some 20), .pick (.tmp 15) (.tmp 19) (.const (.bool false)), none⟩,
    ⟨(some 0), .move (.tmp 20), none⟩])
  .ret))), 21, [.tmp 0], false⟩
def tab : List (Nat × IFunc) := [(3, i3), (9, i9), (8, i8), (10, i10), (11, i11), (13, i13)]
theorem tab_all : ∀ p ∈ tab, mkI Go.Proofs.Try.prog p.1 p.2.keep = some p.2 := by
  simp only [tab, List.forall_mem_cons, List.not_mem_nil, false_imp_iff, implies_true, and_true]
  exact ⟨by kernel_rfl, by kernel_rfl, by kernel_rfl, by kernel_rfl, by kernel_rfl, by kernel_rfl⟩
/-- What Mul answers to these: reckoned once each. -/
def okT (t : List Int × List Int × List Int) : Bool := Nat.beq t.1.length 32 && Nat.beq t.2.1.length 32 && bytesB t.1 && bytesB t.2.1 && Cv.curveZ t.1 (Cv.val (Cv.unpF t.2.1)) == t.2.2
def e0 : List Int × List Int × List Int := ([0, 0, 0, 0, 0, 0, 0, 0, 0, 0, 0, 0, 0, 0, 0, 0, 0, 0, 0, 0, 0, 0, 0, 0, 0, 0, 0, 0, 0, 0, 0, 0], [0, 0, 0, 0, 0, 0, 0, 0, 0, 0, 0, 0, 0, 0, 0, 0, 0, 0, 0, 0, 0, 0, 0, 0, 0, 0, 0, 0, 0, 0, 0, 0], [0, 0, 0, 0, 0, 0, 0, 0, 0, 0, 0, 0, 0, 0, 0, 0, 0, 0, 0, 0, 0, 0, 0, 0, 0, 0, 0, 0, 0, 0, 0, 0])
theorem t0 : okT e0 = true := by decide +kernel
def e1 : List Int × List Int × List Int := ([255, 255, 255, 255, 255, 255, 255, 255, 255, 255, 255, 255, 255, 255, 255, 255, 255, 255, 255, 255, 255, 255, 255, 255, 255, 255, 255, 255, 255, 255, 255, 255], [0, 0, 0, 0, 0, 0, 0, 0, 0, 0, 0, 0, 0, 0, 0, 0, 0, 0, 0, 0, 0, 0, 0, 0, 0, 0, 0, 0, 0, 0, 0, 0], [0, 0, 0, 0, 0, 0, 0, 0, 0, 0, 0, 0, 0, 0, 0, 0, 0, 0, 0, 0, 0, 0, 0, 0, 0, 0, 0, 0, 0, 0, 0, 0])
theorem t1 : okT e1 = true := by decide +kernel
def e2 : List Int × List Int × List Int := ([119, 7, 109, 10, 115, 24, 165, 125, 60, 22, 193, 114, 81, 178, 102, 69, 223, 76, 47, 135, 235, 192, 153, 42, 177, 119, 251, 165, 29, 185, 44, 42], [0, 0, 0, 0, 0, 0, 0, 0, 0, 0, 0, 0, 0, 0, 0, 0, 0, 0, 0, 0, 0, 0, 0, 0, 0, 0, 0, 0, 0, 0, 0, 0], [0, 0, 0, 0, 0, 0, 0, 0, 0, 0, 0, 0, 0, 0, 0, 0, 0, 0, 0, 0, 0, 0, 0, 0, 0, 0, 0, 0, 0, 0, 0, 0])
theorem t2 : okT e2 = true := by decide +kernel
def e3 : List Int × List Int × List Int := ([0, 0, 0, 0, 0, 0, 0, 0, 0, 0, 0, 0, 0, 0, 0, 0, 0, 0, 0, 0, 0, 0, 0, 0, 0, 0, 0, 0, 0, 0, 0, 0], [1, 0, 0, 0, 0, 0, 0, 0, 0, 0, 0, 0, 0, 0, 0, 0, 0, 0, 0, 0, 0, 0, 0, 0, 0, 0, 0, 0, 0, 0, 0, 0], [0, 0, 0, 0, 0, 0, 0, 0, 0, 0, 0, 0, 0, 0, 0, 0, 0, 0, 0, 0, 0, 0, 0, 0, 0, 0, 0, 0, 0, 0, 0, 0])
theorem t3 : okT e3 = true := by decide +kernel
def e4 : List Int × List Int × List Int := ([255, 255, 255, 255, 255, 255, 255, 255, 255, 255, 255, 255, 255, 255, 255, 255, 255, 255, 255, 255, 255, 255, 255, 255, 255, 255, 255, 255, 255, 255, 255, 255], [1, 0, 0, 0, 0, 0, 0, 0, 0, 0, 0, 0, 0, 0, 0, 0, 0, 0, 0, 0, 0, 0, 0, 0, 0, 0, 0, 0, 0, 0, 0, 0], [0, 0, 0, 0, 0, 0, 0, 0, 0, 0, 0, 0, 0, 0, 0, 0, 0, 0, 0, 0, 0, 0, 0, 0, 0, 0, 0, 0, 0, 0, 0, 0])
theorem t4 : okT e4 = true := by decide +kernel
def e5 : List Int × List Int × List Int := ([119, 7, 109, 10, 115, 24, 165, 125, 60, 22, 193, 114, 81, 178, 102, 69, 223, 76, 47, 135, 235, 192, 153, 42, 177, 119, 251, 165, 29, 185, 44, 42], [1, 0, 0, 0, 0, 0, 0, 0, 0, 0, 0, 0, 0, 0, 0, 0, 0, 0, 0, 0, 0, 0, 0, 0, 0, 0, 0, 0, 0, 0, 0, 0], [0, 0, 0, 0, 0, 0, 0, 0, 0, 0, 0, 0, 0, 0, 0, 0, 0, 0, 0, 0, 0, 0, 0, 0, 0, 0, 0, 0, 0, 0, 0, 0])
theorem t5 : okT e5 = true := by decide +kernel
def e6 : List Int × List Int × List Int := ([0, 0, 0, 0, 0, 0, 0, 0, 0, 0, 0, 0, 0, 0, 0, 0, 0, 0, 0, 0, 0, 0, 0, 0, 0, 0, 0, 0, 0, 0, 0, 0], [255, 255, 255, 255, 255, 255, 255, 255, 255, 255, 255, 255, 255, 255, 255, 255, 255, 255, 255, 255, 255, 255, 255, 255, 255, 255, 255, 255, 255, 255, 255, 255], [179, 45, 19, 98, 194, 72, 214, 47, 230, 38, 25, 207, 240, 77, 212, 61, 183, 63, 252, 27, 99, 8, 237, 227, 11, 120, 216, 115, 128, 241, 232, 52])
theorem t6 : okT e6 = true := by decide +kernel
def e7 : List Int × List Int × List Int := ([255, 255, 255, 255, 255, 255, 255, 255, 255, 255, 255, 255, 255, 255, 255, 255, 255, 255, 255, 255, 255, 255, 255, 255, 255, 255, 255, 255, 255, 255, 255, 255], [255, 255, 255, 255, 255, 255, 255, 255, 255, 255, 255, 255, 255, 255, 255, 255, 255, 255, 255, 255, 255, 255, 255, 255, 255, 255, 255, 255, 255, 255, 255, 255], [150, 24, 109, 86, 175, 219, 254, 218, 98, 240, 208, 113, 104, 250, 139, 20, 43, 61, 133, 48, 233, 112, 95, 216, 24, 207, 211, 53, 145, 234, 146, 127])
theorem t7 : okT e7 = true := by decide +kernel
def e8 : List Int × List Int × List Int := ([119, 7, 109, 10, 115, 24, 165, 125, 60, 22, 193, 114, 81, 178, 102, 69, 223, 76, 47, 135, 235, 192, 153, 42, 177, 119, 251, 165, 29, 185, 44, 42], [255, 255, 255, 255, 255, 255, 255, 255, 255, 255, 255, 255, 255, 255, 255, 255, 255, 255, 255, 255, 255, 255, 255, 255, 255, 255, 255, 255, 255, 255, 255, 255], [53, 150, 104, 215, 154, 103, 38, 122, 87, 255, 239, 143, 15, 74, 152, 130, 167, 192, 227, 18, 44, 177, 153, 156, 86, 38, 52, 99, 131, 249, 248, 17])
theorem t8 : okT e8 = true := by decide +kernel
def e9 : List Int × List Int × List Int := ([0, 0, 0, 0, 0, 0, 0, 0, 0, 0, 0, 0, 0, 0, 0, 0, 0, 0, 0, 0, 0, 0, 0, 0, 0, 0, 0, 0, 0, 0, 0, 0], [255, 255, 255, 255, 255, 255, 255, 255, 255, 255, 255, 255, 255, 255, 255, 255, 255, 255, 255, 255, 255, 255, 255, 255, 255, 255, 255, 255, 255, 255, 255, 127], [179, 45, 19, 98, 194, 72, 214, 47, 230, 38, 25, 207, 240, 77, 212, 61, 183, 63, 252, 27, 99, 8, 237, 227, 11, 120, 216, 115, 128, 241, 232, 52])
theorem t9 : okT e9 = true := by decide +kernel
def e10 : List Int × List Int × List Int := ([255, 255, 255, 255, 255, 255, 255, 255, 255, 255, 255, 255, 255, 255, 255, 255, 255, 255, 255, 255, 255, 255, 255, 255, 255, 255, 255, 255, 255, 255, 255, 255], [255, 255, 255, 255, 255, 255, 255, 255, 255, 255, 255, 255, 255, 255, 255, 255, 255, 255, 255, 255, 255, 255, 255, 255, 255, 255, 255, 255, 255, 255, 255, 127], [150, 24, 109, 86, 175, 219, 254, 218, 98, 240, 208, 113, 104, 250, 139, 20, 43, 61, 133, 48, 233, 112, 95, 216, 24, 207, 211, 53, 145, 234, 146, 127])
theorem t10 : okT e10 = true := by decide +kernel
def e11 : List Int × List Int × List Int := ([119, 7, 109, 10, 115, 24, 165, 125, 60, 22, 193, 114, 81, 178, 102, 69, 223, 76, 47, 135, 235, 192, 153, 42, 177, 119, 251, 165, 29, 185, 44, 42], [255, 255, 255, 255, 255, 255, 255, 255, 255, 255, 255, 255, 255, 255, 255, 255, 255, 255, 255, 255, 255, 255, 255, 255, 255, 255, 255, 255, 255, 255, 255, 127], [53, 150, 104, 215, 154, 103, 38, 122, 87, 255, 239, 143, 15, 74, 152, 130, 167, 192, 227, 18, 44, 177, 153, 156, 86, 38, 52, 99, 131, 249, 248, 17])
theorem t11 : okT e11 = true := by decide +kernel
def e12 : List Int × List Int × List Int := ([0, 0, 0, 0, 0, 0, 0, 0, 0, 0, 0, 0, 0, 0, 0, 0, 0, 0, 0, 0, 0, 0, 0, 0, 0, 0, 0, 0, 0, 0, 0, 0], [236, 255, 255, 255, 255, 255, 255, 255, 255, 255, 255, 255, 255, 255, 255, 255, 255, 255, 255, 255, 255, 255, 255, 255, 255, 255, 255, 255, 255, 255, 255, 127], [0, 0, 0, 0, 0, 0, 0, 0, 0, 0, 0, 0, 0, 0, 0, 0, 0, 0, 0, 0, 0, 0, 0, 0, 0, 0, 0, 0, 0, 0, 0, 0])
theorem t12 : okT e12 = true := by decide +kernel
def e13 : List Int × List Int × List Int := ([255, 255, 255, 255, 255, 255, 255, 255, 255, 255, 255, 255, 255, 255, 255, 255, 255, 255, 255, 255, 255, 255, 255, 255, 255, 255, 255, 255, 255, 255, 255, 255], [236, 255, 255, 255, 255, 255, 255, 255, 255, 255, 255, 255, 255, 255, 255, 255, 255, 255, 255, 255, 255, 255, 255, 255, 255, 255, 255, 255, 255, 255, 255, 127], [0, 0, 0, 0, 0, 0, 0, 0, 0, 0, 0, 0, 0, 0, 0, 0, 0, 0, 0, 0, 0, 0, 0, 0, 0, 0, 0, 0, 0, 0, 0, 0])
theorem t13 : okT e13 = true := by decide +kernel
def e14 : List Int × List Int × List Int := ([119, 7, 109, 10, 115, 24, 165, 125, 60, 22, 193, 114, 81, 178, 102, 69, 223, 76, 47, 135, 235, 192, 153, 42, 177, 119, 251, 165, 29, 185, 44, 42], [236, 255, 255, 255, 255, 255, 255, 255, 255, 255, 255, 255, 255, 255, 255, 255, 255, 255, 255, 255, 255, 255, 255, 255, 255, 255, 255, 255, 255, 255, 255, 127], [0, 0, 0, 0, 0, 0, 0, 0, 0, 0, 0, 0, 0, 0, 0, 0, 0, 0, 0, 0, 0, 0, 0, 0, 0, 0, 0, 0, 0, 0, 0, 0])
theorem t14 : okT e14 = true := by decide +kernel
def e15 : List Int × List Int × List Int := ([0, 0, 0, 0, 0, 0, 0, 0, 0, 0, 0, 0, 0, 0, 0, 0, 0, 0, 0, 0, 0, 0, 0, 0, 0, 0, 0, 0, 0, 0, 0, 0], [237, 255, 255, 255, 255, 255, 255, 255, 255, 255, 255, 255, 255, 255, 255, 255, 255, 255, 255, 255, 255, 255, 255, 255, 255, 255, 255, 255, 255, 255, 255, 127], [0, 0, 0, 0, 0, 0, 0, 0, 0, 0, 0, 0, 0, 0, 0, 0, 0, 0, 0, 0, 0, 0, 0, 0, 0, 0, 0, 0, 0, 0, 0, 0])
theorem t15 : okT e15 = true := by decide +kernel
def e16 : List Int × List Int × List Int := ([255, 255, 255, 255, 255, 255, 255, 255, 255, 255, 255, 255, 255, 255, 255, 255, 255, 255, 255, 255, 255, 255, 255, 255, 255, 255, 255, 255, 255, 255, 255, 255], [237, 255, 255, 255, 255, 255, 255, 255, 255, 255, 255, 255, 255, 255, 255, 255, 255, 255, 255, 255, 255, 255, 255, 255, 255, 255, 255, 255, 255, 255, 255, 127], [0, 0, 0, 0, 0, 0, 0, 0, 0, 0, 0, 0, 0, 0, 0, 0, 0, 0, 0, 0, 0, 0, 0, 0, 0, 0, 0, 0, 0, 0, 0, 0])
theorem t16 : okT e16 = true := by decide +kernel
def e17 : List Int × List Int × List Int := ([119, 7, 109, 10, 115, 24, 165, 125, 60, 22, 193, 114, 81, 178, 102, 69, 223, 76, 47, 135, 235, 192, 153, 42, 177, 119, 251, 165, 29, 185, 44, 42], [237, 255, 255, 255, 255, 255, 255, 255, 255, 255, 255, 255, 255, 255, 255, 255, 255, 255, 255, 255, 255, 255, 255, 255, 255, 255, 255, 255, 255, 255, 255, 127], [0, 0, 0, 0, 0, 0, 0, 0, 0, 0, 0, 0, 0, 0, 0, 0, 0, 0, 0, 0, 0, 0, 0, 0, 0, 0, 0, 0, 0, 0, 0, 0])
theorem t17 : okT e17 = true := by decide +kernel
def e18 : List Int × List Int × List Int := ([0, 0, 0, 0, 0, 0, 0, 0, 0, 0, 0, 0, 0, 0, 0, 0, 0, 0, 0, 0, 0, 0, 0, 0, 0, 0, 0, 0, 0, 0, 0, 0], [238, 255, 255, 255, 255, 255, 255, 255, 255, 255, 255, 255, 255, 255, 255, 255, 255, 255, 255, 255, 255, 255, 255, 255, 255, 255, 255, 255, 255, 255, 255, 255], [0, 0, 0, 0, 0, 0, 0, 0, 0, 0, 0, 0, 0, 0, 0, 0, 0, 0, 0, 0, 0, 0, 0, 0, 0, 0, 0, 0, 0, 0, 0, 0])
theorem t18 : okT e18 = true := by decide +kernel
def e19 : List Int × List Int × List Int := ([255, 255, 255, 255, 255, 255, 255, 255, 255, 255, 255, 255, 255, 255, 255, 255, 255, 255, 255, 255, 255, 255, 255, 255, 255, 255, 255, 255, 255, 255, 255, 255], [238, 255, 255, 255, 255, 255, 255, 255, 255, 255, 255, 255, 255, 255, 255, 255, 255, 255, 255, 255, 255, 255, 255, 255, 255, 255, 255, 255, 255, 255, 255, 255], [0, 0, 0, 0, 0, 0, 0, 0, 0, 0, 0, 0, 0, 0, 0, 0, 0, 0, 0, 0, 0, 0, 0, 0, 0, 0, 0, 0, 0, 0, 0, 0])
theorem t19 : okT e19 = true := by decide +kernel
def e20 : List Int × List Int × List Int := ([119, 7, 109, 10, 115, 24, 165, 125, 60, 22, 193, 114, 81, 178, 102, 69, 223, 76, 47, 135, 235, 192, 153, 42, 177, 119, 251, 165, 29, 185, 44, 42], [238, 255, 255, 255, 255, 255, 255, 255, 255, 255, 255, 255, 255, 255, 255, 255, 255, 255, 255, 255, 255, 255, 255, 255, 255, 255, 255, 255, 255, 255, 255, 255], [0, 0, 0, 0, 0, 0, 0, 0, 0, 0, 0, 0, 0, 0, 0, 0, 0, 0, 0, 0, 0, 0, 0, 0, 0, 0, 0, 0, 0, 0, 0, 0])
theorem t20 : okT e20 = true := by decide +kernel
def e21 : List Int × List Int × List Int := ([119, 7, 109, 10, 115, 24, 165, 125, 60, 22, 193, 114, 81, 178, 102, 69, 223, 76, 47, 135, 235, 192, 153, 42, 177, 119, 251, 165, 29, 185, 44, 42], [9, 0, 0, 0, 0, 0, 0, 0, 0, 0, 0, 0, 0, 0, 0, 0, 0, 0, 0, 0, 0, 0, 0, 0, 0, 0, 0, 0, 0, 0, 0, 0], [133, 32, 240, 9, 137, 48, 167, 84, 116, 139, 125, 220, 180, 62, 247, 90, 13, 191, 58, 13, 38, 56, 26, 244, 235, 164, 169, 142, 170, 155, 78, 106])
theorem t21 : okT e21 = true := by decide +kernel
def tbM : List (List Int × List Int × List Int) := [e0, e1, e2, e3, e4, e5, e6, e7, e8, e9, e10, e11, e12, e13, e14, e15, e16, e17, e18, e19, e20, e21]
theorem tbM_ok : ∀ t ∈ tbM, okT t = true := by
  simp only [tbM, List.forall_mem_cons, List.not_mem_nil, false_imp_iff, implies_true, and_true]
  exact ⟨t0, t1, t2, t3, t4, t5, t6, t7, t8, t9, t10, t11, t12, t13, t14, t15, t16, t17, t18, t19, t20, t21⟩
def gMulT (args : List Value) (M : Mem) (nx : Nat) : Option (Value × Mem × Nat) :=
  match args with
  | [a0, a1] => match listArg .u8 M a0, listArg .u8 M a1 with
    | some l0, some l1 => match tbM.find? fun t => t.1 == l0 && t.2.1 == l1 with
      | some t => outP t.2.2 M nx
      | none => none
    | _, _ => none
  | _ => none
theorem gMulT_sub {args : List Value} {M : Mem} {nx : Nat} {r : Value × Mem × Nat} (h : gMulT args M nx = some r) : gMul args M nx = some r := by
  unfold gMulT at h
  unfold gMul
  split at h
  · rename_i a0 a1
    simp only
    split at h
    · rename_i l0 l1 e0 e1
      rw [e0, e1]
      simp only
      split at h
      · rename_i t ht
        have h1 := List.find?_some ht
        simp only [Bool.and_eq_true, beq_iff_eq] at h1
        obtain ⟨rfl, rfl⟩ := h1
        have h2 := tbM_ok t (List.mem_of_find?_eq_some ht)
        unfold okT at h2
        simp only [Bool.and_eq_true, beq_iff_eq, Nat.beq_eq] at h2
        obtain ⟨⟨⟨⟨h3, h4⟩, h5⟩, h6⟩, h7⟩ := h2
        rw [if_pos ⟨h3, h4, h5, h6⟩, h7]
        exact h
      · cases h
    · cases h
  · cases h
/-- Sized, by its contract. -/
def outS (r : List Int) (M : Mem) (nx : Nat) : Option (Value × Mem × Nat) :=
  if 0 < r.length then some (.slice (some ⟨nx, 0, none⟩) r.length (OPEN + 1), (nx, ⟨5, 1, nums .u8 r, false⟩) :: M, nx + 1) else none
def gSized (args : List Value) (M : Mem) (nx : Nat) : Option (Value × Mem × Nat) :=
  match args with
  | [a0, .int .i64 n] => match listArg .u8 M a0 with
    | some l => if 0 ≤ n ∧ n ≤ 64 ∧ l.length ≤ 64 then outS (Go.Proofs.Ytlpoolcdoecodaa.sizedF l n.toNat) M nx else none
    | none => none
  | _ => none
theorem outS_some {r : List Int} {v : Value} {M M' : Mem} {nx nx' : Nat} (h : outS r M nx = some (v, M', nx')) : 0 < r.length ∧ v = .slice (some ⟨nx, 0, none⟩) r.length (OPEN + 1) ∧ M' = (nx, ⟨5, 1, nums .u8 r, false⟩) :: M ∧ nx' = nx + 1 := by
  unfold outS at h
  split at h
  · simp only [Option.some.injEq, Prod.mk.injEq] at h
    exact ⟨by assumption, h.1.symm, h.2.1.symm, h.2.2.symm⟩
  · cases h
theorem gSized_ok (hf : ∃ fn, Try.prog.funcs[11]? = some fn ∧ (fn.name == "runtime.NumGoroutine") = false ∧ fn.body.isSome = true) : CallOK Try.prog ⟨fun f' args M nx => if f' = 11 then gSized args M nx else none, fun _ _ => none⟩ := by
  refine ⟨fun f args M nx v M' nx' h => ?_, fun _ _ _ h => by cases h⟩
  simp only at h
  split at h
  · rename_i hfe
    subst hfe
    unfold gSized at h
    split at h
    · rename_i a0 n
      split at h
      · rename_i l0 e0
        split at h
        · rename_i hl
          obtain ⟨hn0, hn1, hl0⟩ := hl
          obtain ⟨hpos, rfl, rfl, rfl⟩ := outS_some h
          refine ⟨Nat.le_succ _, hf, fun w0 W e w args' hB hv hM => ?_⟩
          cases hv with
          | cons _ v0 _ _ k0 hv =>
            cases hv with
            | cons _ v1 _ _ k1 hv =>
              cases hv
              obtain ⟨A0, c0, rfl, hc0, hr0⟩ := listArg_sound hM e0 k0 (by omega)
              obtain rfl := k1.int
              refine (strongroomkeep_Sized.calls A0 c0 l0 n _ w hr0 hc0 (show strongroomkeep_Sized.f l0 n = some (sizedF l0 n.toNat) by unfold strongroomkeep_Sized.f; rw [if_pos ⟨hn0, by omega, by omega⟩])).mono ?_
              rintro en w' ⟨v0', rfl, hR, hb⟩
              obtain ⟨e', h1, h2, h3⟩ := hM.list hb hR hpos hB
              exact ⟨_, e', rfl, h1, h2, h3⟩
        · cases h
      · cases h
    · cases h
  · cases h
def ovT : Ov := ⟨fun f => if Nat.beq f 8 then some gMulT else if Nat.beq f 12 then some gMulT else if Nat.beq f 11 then some gSized else none, fun _ _ => none⟩
theorem ovT_of (f : Nat) (hc : CallOK Try.prog ⟨fun f' args M nx => if f' = f then gMul args M nx else none, fun _ _ => none⟩) : CallOK Try.prog ⟨fun f' args M nx => if f' = f then gMulT args M nx else none, fun _ _ => none⟩ := by
  refine ⟨fun f' args M nx v M' nx' h => hc.out f' args M nx v M' nx' ?_, fun _ _ _ h => by cases h⟩
  simp only at h ⊢
  split at h
  · rename_i hf
    rw [if_pos hf]
    exact gMulT_sub h
  · cases h
theorem ovT_fine : OvOK Try.prog ovT := by
  have hM : OvOK Try.prog ovM := by
    refine ovM_ok fun f hf => ?_
    simp only [List.mem_cons, List.not_mem_nil, or_false] at hf
    rcases hf with rfl | rfl
    · exact ⟨_, Go.Proofs.Try.func8, by kernel_rfl, by kernel_rfl⟩
    · exact ⟨_, Go.Proofs.Try.func12, by kernel_rfl, by kernel_rfl⟩
  refine ⟨fun f g h => ?_, fun _ _ _ h => by cases h⟩
  unfold ovT at h
  simp only at h
  split at h
  · rename_i hb
    obtain rfl := Nat.eq_of_beq_eq_true hb
    obtain rfl := Option.some.inj h
    exact ovT_of 8 (hM.out 8 gMul rfl)
  · split at h
    · rename_i hb
      obtain rfl := Nat.eq_of_beq_eq_true hb
      obtain rfl := Option.some.inj h
      exact ovT_of 12 (hM.out 12 gMul rfl)
    · split at h
      · rename_i hb
        obtain rfl := Nat.eq_of_beq_eq_true hb
        obtain rfl := Option.some.inj h
        exact gSized_ok ⟨_, Go.Proofs.Try.func11, by kernel_rfl, by kernel_rfl⟩
      · cases h
theorem runs : resIs isYes (enter (look tab) (ex Try.prog (look tab) ovT 300) 3 [] [] 0) = true := by decide +kernel
theorem numbers_yes (w : World) : Calls Try.prog 3 #[] w fun e w' => e = .returned (.bool true) ∧ Below w.heap.size w w' :=
  call_yes (tab_ok tab_all) ovT_fine 300 3 runs w
end Go.Proofs.Ytlpoolcdoecodaa.Eng
