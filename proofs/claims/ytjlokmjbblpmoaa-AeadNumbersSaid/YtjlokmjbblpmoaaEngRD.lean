/-
  'AeadNumbers' in an abstract run: the functions that it reaches, made plain. No statement of the program is proved here.
-/
import Derived.Test.YtjlokmjbblpmoaaEngD
import Derived.KernelRfl
namespace Go.Proofs.Ytjlokmjbblpmoaa.Eng
open Go.RowKit
def i3 : IFunc := ⟨(.seq (.region [⟨(some 0), .move (.const (.bool false)), none⟩])
  (.seq (.region [⟨(some 19), .call (.func 8) [(.const (.int .i64 (0))), (.const (.int .i64 (32)))], none⟩,
    ⟨(some 1), .move (.tmp 19), none⟩])
  (.seq (.region [⟨(some 20), .call (.func 8) [(.const (.int .i64 (0))), (.const (.int .i64 (12)))], none⟩,
    ⟨(some 2), .move (.tmp 20), none⟩])
  (.seq (.region [⟨(some 22), .move (.tmp 1), none⟩,
    ⟨(some 23), .slice ⟨none, (.slice 22 (.tmp 22) none (some (.const (.int .i64 (31)))) none), 22, "", #[], none⟩ 1 (.tmp 22) none (some (.const (.int .i64 (31)))) none, none⟩,
    ⟨(some 24), .move (.tmp 2), none⟩,
    ⟨(some 25), .call (.func 9) [(.tmp 23), (.tmp 24), (.const (.slice none 0 0)), (.const (.slice none 0 0))], none⟩,
    ⟨(some 21), .move (.tmp 25), none⟩,
    ⟨(some 26), .extract (.tmp 21) 0, none⟩,
    ⟨(some 27), .extract (.tmp 21) 1, none⟩,
    ⟨(some 3), .move (.tmp 26), none⟩,
    ⟨(some 4), .move (.tmp 27), none⟩])
  (.seq (.region [⟨(some 29), .move (.tmp 1), none⟩,
    ⟨(some 30), .move (.tmp 2), none⟩,
    ⟨(some 31), .slice ⟨none, (.slice 22 (.tmp 30) none (some (.const (.int .i64 (11)))) none), 22, "", #[], none⟩ 1 (.tmp 30) none (some (.const (.int .i64 (11)))) none, none⟩,
    ⟨(some 32), .call (.func 9) [(.tmp 29), (.tmp 31), (.const (.slice none 0 0)), (.const (.slice none 0 0))], none⟩,
    ⟨(some 28), .move (.tmp 32), none⟩,
    ⟨(some 33), .extract (.tmp 28) 0, none⟩,
    ⟨(some 34), .extract (.tmp 28) 1, none⟩,
    ⟨(some 5), .move (.tmp 33), none⟩,
    ⟨(some 6), .move (.tmp 34), none⟩])
  (.seq (.region [⟨(some 36), .move (.tmp 1), none⟩,
    ⟨(some 37), .slice ⟨none, (.slice 22 (.tmp 36) none (some (.const (.int .i64 (31)))) none), 22, "", #[], none⟩ 1 (.tmp 36) none (some (.const (.int .i64 (31)))) none, none⟩,
    ⟨(some 38), .move (.tmp 2), none⟩,
    ⟨(some 39), .makeSlice 5 1 1 [(.int .u8 (0))] (.const (.int .i64 (20))) (.const (.int .i64 (20))), none⟩,
    ⟨(some 40), .call (.func 10) [(.tmp 37), (.tmp 38), (.const (.slice none 0 0)), (.tmp 39)], none⟩,
    ⟨(some 35), .move (.tmp 40), none⟩,
    ⟨(some 41), .extract (.tmp 35) 0, none⟩,
    ⟨(some 42), .extract (.tmp 35) 1, none⟩,
    ⟨(some 7), .move (.tmp 41), none⟩,
    ⟨(some 8), .move (.tmp 42), none⟩])
  (.seq (.region [⟨(some 44), .move (.tmp 1), none⟩,
    ⟨(some 45), .move (.tmp 2), none⟩,
    ⟨(some 46), .slice ⟨none, (.slice 22 (.tmp 45) none (some (.const (.int .i64 (11)))) none), 22, "", #[], none⟩ 1 (.tmp 45) none (some (.const (.int .i64 (11)))) none, none⟩,
    ⟨(some 47), .call (.func 10) [(.tmp 44), (.tmp 46), (.const (.slice none 0 0)), (.const (.slice none 0 0))], none⟩,
    ⟨(some 43), .move (.tmp 47), none⟩,
    ⟨(some 48), .extract (.tmp 43) 0, none⟩,
    ⟨(some 49), .extract (.tmp 43) 1, none⟩,
    ⟨(some 9), .move (.tmp 48), none⟩,
    ⟨(some 10), .move (.tmp 49), none⟩])
  (.seq (.region [⟨(some 51), .move (.tmp 1), none⟩,
    ⟨(some 52), .move (.tmp 2), none⟩,
    ⟨(some 53), .makeSlice 5 1 1 [(.int .u8 (0))] (.const (.int .i64 (15))) (.const (.int .i64 (15))), none⟩,
    ⟨(some 54), .call (.func 10) [(.tmp 51), (.tmp 52), (.const (.slice none 0 0)), (.tmp 53)], none⟩,
    ⟨(some 50), .move (.tmp 54), none⟩,
    ⟨(some 55), .extract (.tmp 50) 0, none⟩,
    ⟨(some 56), .extract (.tmp 50) 1, none⟩,
    ⟨(some 11), .move (.tmp 55), none⟩,
    ⟨(some 12), .move (.tmp 56), none⟩])
  (.seq (.region [⟨(some 58), .move (.tmp 1), none⟩,
    ⟨(some 59), .move (.tmp 2), none⟩,
    ⟨(some 60), .makeSlice 5 1 1 [(.int .u8 (0))] (.const (.int .i64 (16))) (.const (.int .i64 (16))), none⟩,
    ⟨(some 61), .call (.func 10) [(.tmp 58), (.tmp 59), (.const (.slice none 0 0)), (.tmp 60)], none⟩,
    ⟨(some 57), .move (.tmp 61), none⟩,
    ⟨(some 62), .extract (.tmp 57) 0, none⟩,
    ⟨(some 63), .extract (.tmp 57) 1, none⟩,
    ⟨(some 13), .move (.tmp 62), none⟩,
    ⟨(some 14), .move (.tmp 63), none⟩])
  (.seq (.region [⟨(some 65), .move (.tmp 1), none⟩,
    ⟨(some 66), .move (.tmp 2), none⟩,
    ⟨(some 67), .call (.func 9) [(.tmp 65), (.tmp 66), (.const (.slice none 0 0)), (.const (.slice none 0 0))], none⟩,
    ⟨(some 64), .move (.tmp 67), none⟩,
    ⟨(some 68), .extract (.tmp 64) 0, none⟩,
    ⟨(some 69), .extract (.tmp 64) 1, none⟩,
    ⟨(some 15), .move (.tmp 68), none⟩,
    ⟨(some 16), .move (.tmp 69), none⟩])
  (.seq (.region [⟨(some 71), .move (.tmp 1), none⟩,
    ⟨(some 72), .move (.tmp 2), none⟩,
    ⟨(some 73), .move (.tmp 15), none⟩,
    ⟨(some 74), .call (.func 10) [(.tmp 71), (.tmp 72), (.const (.slice none 0 0)), (.tmp 73)], none⟩,
    ⟨(some 70), .move (.tmp 74), none⟩,
    ⟨(some 75), .extract (.tmp 70) 0, none⟩,
    ⟨(some 76), .extract (.tmp 70) 1, none⟩,
    ⟨(some 17), .move (.tmp 75), none⟩,
    ⟨(some 18), .move (.tmp 76), none⟩])
  (.seq (.region [⟨(some 77), .move (.tmp 4), none⟩,
    ⟨(some 78), .ibin .eql (.tmp 77) (.const (.int .i64 (1))), none⟩,
    ⟨(some 79), .move (.tmp 78), none⟩,
    ⟨(some 80), .move (.tmp 6), (some ((some 79), true))⟩,
    ⟨(some 81), .ibin .eql (.tmp 80) (.const (.int .i64 (1))), (some ((some 79), true))⟩,
    ⟨(some 82), .pick (.tmp 79) (.tmp 81) (.const (.bool false)), none⟩,
    ⟨(some 83), .move (.tmp 82), none⟩,
    ⟨(some 84), .move (.tmp 8), (some ((some 83), true))⟩,
    ⟨(some 85), .ibin .eql (.tmp 84) (.const (.int .i64 (1))), (some ((some 83), true))⟩,
    ⟨(some 86), .pick (.tmp 83) (.tmp 85) (.const (.bool false)), none⟩,
    ⟨(some 87), .move (.tmp 86), none⟩,
    ⟨(some 88), .move (.tmp 10), (some ((some 87), true))⟩,
    ⟨(some 89), .ibin .eql (.tmp 88) (.const (.int .i64 (1))), (some ((some 87), true))⟩,
    ⟨(some 90), .pick (.tmp 87) (.tmp 89) (.const (.bool false)), none⟩,
    ⟨(some 91), .move (.tmp 90), none⟩,
    ⟨(some 92), .move (.tmp 12), (some ((some 91), true))⟩,
    ⟨(some 93), .ibin .eql (.tmp 92) (.const (.int .i64 (10))), (some ((some 91), true))⟩,
    ⟨(some 94), .pick (.tmp 91) (.tmp 93) (.const (.bool false)), none⟩,
    ⟨(some 95), .move (.tmp 94), none⟩,
    ⟨(some 96), .move (.tmp 14), (some ((some 95), true))⟩,
    ⟨(some 97), .ibin .eql (.tmp 96) (.const (.int .i64 (14))), (some ((some 95), true))⟩,
    ⟨(some 98), .pick (.tmp 95) (.tmp 97) (.const (.bool false)), none⟩,
    ⟨(some 99), .move (.tmp 98), none⟩,
    ⟨(some 100), .move (.tmp 16), (some ((some 99), true))⟩,
    ⟨(some 101), .ibin .eql (.tmp 100) (.const (.int .i64 (0))), (some ((some 99), true))⟩,
    ⟨(some 102), .pick (.tmp 99) (.tmp 101) (.const (.bool false)), none⟩,
    ⟨(some 103), .move (.tmp 102), none⟩,
    ⟨(some 104), .move (.tmp 15), (some ((some 103), true))⟩,
    ⟨(some 105), .len ⟨none, (.call ⟨.builtin .len, #[(.tmp 104)], #[22]⟩), 3, "", #[], none⟩ (.tmp 104), (some ((some 103), true))⟩,
    ⟨(some 106), .ibin .eql (.tmp 105) (.const (.int .i64 (16))), (some ((some 103), true))⟩,
    ⟨(some 107), .pick (.tmp 103) (.tmp 106) (.const (.bool false)), none⟩,
    ⟨(some 108), .move (.tmp 107), none⟩,
    ⟨(some 109), .move (.tmp 17), (some ((some 108), true))⟩,
    ⟨(some 110), .len ⟨none, (.call ⟨.builtin .len, #[(.tmp 109)], #[22]⟩), 3, "", #[], none⟩ (.tmp 109), (some ((some 108), true))⟩,
    ⟨(some 111), .ibin .eql (.tmp 110) (.const (.int .i64 (0))), (some ((some 108), true))⟩,
    ⟨(some 112), .pick (.tmp 108) (.tmp 111) (.const (.bool false)), none⟩,
    ⟨(some 113), .move (.tmp 112), none⟩,
    ⟨(some 114), .move (.tmp 18), (some ((some 113), true))⟩,
    ⟨(some 115), .ibin .eql (.tmp 114) (.const (.int .i64 (0))), (some ((some 113), true))⟩,
    ⟨(some 116), .pick (.tmp 113) (.tmp 115) (.const (.bool false)), none⟩,
    ⟨(some 117), .move (.tmp 116), none⟩,
    ⟨(some 118), .call (.func 11) [], (some ((some 117), true))⟩,
    ⟨(some 119), .pick (.tmp 117) (.tmp 118) (.const (.bool false)), none⟩,
    ⟨(some 0), .move (.tmp 119), none⟩])
  .ret)))))))))))), 120, [.tmp 0], false⟩
def i8 : IFunc := ⟨(.seq (.region [⟨(some 4), .move (.const (.slice none 0 0)), none⟩])
  (.seq (.region [⟨(some 5), .move (.const (.slice none 0 0)), none⟩])
  (.seq (.seq (.region [⟨(some 6), .move (.const (.int .i64 (0))), none⟩])
  (.block 0 (.loop (.seq (.seq (.region [⟨(some 7), .move (.tmp 6), none⟩,
     ⟨(some 8), .move (.tmp 1), none⟩,
     ⟨(some 9), .ibin .lss (.tmp 7) (.tmp 8), none⟩])
   (.cond (.tmp 9)
    .skip
    (.exit 0)))
   (.seq (.block 1 (.region [⟨(some 12), .move (.tmp 5), none⟩,
     ⟨(some 13), .move (.tmp 0), none⟩,
     ⟨(some 14), .move (.tmp 6), none⟩,
     ⟨(some 15), .ibin .add (.tmp 13) (.tmp 14), none⟩,
     ⟨(some 16), .iconv .u8 (.tmp 15), none⟩,
     ⟨(some 17), .buildSlice 5 1 1 [(.int .u8 (0))] [(0, 1, (.tmp 16))], none⟩,
     ⟨(some 18), .append 5 1 1 (.tmp 12) (.tmp 17), none⟩,
     ⟨(some 5), .move (.tmp 18), none⟩]))
   (.region [⟨(some 10), .move (.tmp 6), none⟩,
     ⟨(some 11), .ibin .add (.tmp 10) (.const (.int .i64 (1))), none⟩,
     ⟨(some 6), .move (.tmp 11), none⟩]))))))
  (.seq (.region [⟨(some 19), .move (.tmp 5), none⟩,
    ⟨(some 4), .move (.tmp 19), none⟩])
  .ret)))), 20, [.tmp 4], false⟩
def i9 : IFunc := ⟨(.seq (.region [⟨(some 8), .move (.const (.slice none 0 0)), none⟩,
    ⟨(some 9), .move (.const (.int .i64 (0))), none⟩])
  (.seq (.region [⟨(some 14), .move (.tmp 0), none⟩,
    ⟨(some 15), .move (.tmp 1), none⟩,
    ⟨(some 16), .move (.tmp 3), none⟩,
    ⟨(some 17), .call (.func 19) [(.tmp 14), (.const (.int .u32 (1))), (.tmp 15), (.tmp 16)], none⟩,
    ⟨(some 13), .move (.tmp 17), none⟩,
    ⟨(some 18), .extract (.tmp 13) 0, none⟩,
    ⟨(some 19), .extract (.tmp 13) 1, none⟩,
    ⟨(some 10), .move (.tmp 18), none⟩,
    ⟨(some 11), .move (.tmp 19), none⟩])
  (.seq (.seq (.region [⟨(some 20), .move (.tmp 11), none⟩,
    ⟨(some 21), .ibin .neq (.tmp 20) (.const (.int .i64 (0))), none⟩])
  (.cond (.tmp 21)
   (.seq (.region [⟨(some 22), .move (.tmp 11), none⟩,
     ⟨(some 8), .move (.const (.slice none 0 0)), none⟩,
     ⟨(some 9), .move (.tmp 22), none⟩])
   .ret)
   .skip))
  (.seq (.region [⟨(some 24), .move (.tmp 0), none⟩,
    ⟨(some 25), .move (.tmp 1), none⟩,
    ⟨(some 26), .move (.tmp 2), none⟩,
    ⟨(some 27), .move (.tmp 10), none⟩,
    ⟨(some 28), .call (.func 20) [(.tmp 24), (.tmp 25), (.tmp 26), (.tmp 27)], none⟩,
    ⟨(some 23), .move (.tmp 28), none⟩,
    ⟨(some 29), .extract (.tmp 23) 0, none⟩,
    ⟨(some 30), .extract (.tmp 23) 1, none⟩,
    ⟨(some 12), .move (.tmp 29), none⟩,
    ⟨(some 11), .move (.tmp 30), none⟩])
  (.seq (.region [⟨(some 31), .move (.tmp 10), none⟩,
    ⟨(some 32), .move (.tmp 12), none⟩,
    ⟨(some 33), .append 5 1 1 (.tmp 31) (.tmp 32), none⟩,
    ⟨(some 34), .move (.tmp 11), none⟩,
    ⟨(some 8), .move (.tmp 33), none⟩,
    ⟨(some 9), .move (.tmp 34), none⟩])
  .ret))))), 35, [.tmp 8, .tmp 9], false⟩
def i10 : IFunc := ⟨(.seq (.region [⟨(some 8), .move (.const (.slice none 0 0)), none⟩,
    ⟨(some 9), .move (.const (.int .i64 (0))), none⟩])
  (.seq (.seq (.region [⟨(some 16), .move (.tmp 0), none⟩,
    ⟨(some 17), .move (.tmp 1), none⟩,
    ⟨(some 18), .call (.func 21) [(.tmp 16), (.const (.int .u32 (0))), (.tmp 17)], none⟩,
    ⟨(some 15), .move (.tmp 18), none⟩,
    ⟨(some 19), .extract (.tmp 15) 0, none⟩,
    ⟨(some 20), .extract (.tmp 15) 1, none⟩,
    ⟨(some 10), .move (.tmp 19), none⟩,
    ⟨(some 11), .move (.tmp 20), none⟩])
  (.seq (.region [⟨(some 21), .move (.tmp 11), none⟩,
    ⟨(some 22), .ibin .neq (.tmp 21) (.const (.int .i64 (0))), none⟩])
  (.cond (.tmp 22)
   (.seq (.region [⟨(some 23), .move (.tmp 11), none⟩,
     ⟨(some 8), .move (.const (.slice none 0 0)), none⟩,
     ⟨(some 9), .move (.tmp 23), none⟩])
   .ret)
   .skip)))
  (.seq (.seq (.region [⟨(some 24), .move (.tmp 3), none⟩,
    ⟨(some 25), .len ⟨none, (.call ⟨.builtin .len, #[(.tmp 24)], #[22]⟩), 3, "", #[], none⟩ (.tmp 24), none⟩,
    ⟨(some 26), .ibin .lss (.tmp 25) (.const (.int .i64 (16))), none⟩])
  (.cond (.tmp 26)
   (.seq (.region [⟨(some 8), .move (.const (.slice none 0 0)), none⟩,
     ⟨(some 9), .move (.const (.int .i64 (10))), none⟩])
   .ret)
   .skip))
  (.seq (.region [⟨(some 27), .move (.tmp 3), none⟩,
    ⟨(some 28), .move (.tmp 3), none⟩,
    ⟨(some 29), .len ⟨none, (.call ⟨.builtin .len, #[(.tmp 28)], #[22]⟩), 3, "", #[], none⟩ (.tmp 28), none⟩,
    ⟨(some 30), .ibin .sub (.tmp 29) (.const (.int .i64 (16))), none⟩,
    ⟨(some 31), .slice ⟨none, (.slice 22 (.tmp 27) none (some (.tmp 30)) none), 22, "", #[], none⟩ 1 (.tmp 27) none (some (.tmp 30)) none, none⟩,
    ⟨(some 12), .move (.tmp 31), none⟩])
  (.seq (.seq (.region [⟨(some 33), .move (.tmp 0), none⟩,
    ⟨(some 34), .move (.tmp 1), none⟩,
    ⟨(some 35), .move (.tmp 2), none⟩,
    ⟨(some 36), .move (.tmp 12), none⟩,
    ⟨(some 37), .call (.func 20) [(.tmp 33), (.tmp 34), (.tmp 35), (.tmp 36)], none⟩,
    ⟨(some 32), .move (.tmp 37), none⟩,
    ⟨(some 38), .extract (.tmp 32) 0, none⟩,
    ⟨(some 39), .extract (.tmp 32) 1, none⟩,
    ⟨(some 13), .move (.tmp 38), none⟩,
    ⟨(some 14), .move (.tmp 39), none⟩])
  (.seq (.region [⟨(some 40), .move (.tmp 13), none⟩,
    ⟨(some 41), .move (.tmp 3), none⟩,
    ⟨(some 42), .move (.tmp 12), none⟩,
    ⟨(some 43), .len ⟨none, (.call ⟨.builtin .len, #[(.tmp 42)], #[22]⟩), 3, "", #[], none⟩ (.tmp 42), none⟩,
    ⟨(some 44), .slice ⟨none, (.slice 22 (.tmp 41) (some (.tmp 43)) none none), 22, "", #[], none⟩ 1 (.tmp 41) (some (.tmp 43)) none none, none⟩,
    ⟨(some 45), .call (.func 22) [(.tmp 40), (.tmp 44)], none⟩,
    ⟨(some 46), .pure ⟨none, (.unOp .not 4 (.tmp 45)), 4, "", #[], none⟩, none⟩])
  (.cond (.tmp 46)
   (.seq (.region [⟨(some 8), .move (.const (.slice none 0 0)), none⟩,
     ⟨(some 9), .move (.const (.int .i64 (14))), none⟩])
   .ret)
   .skip)))
  (.seq (.region [⟨(some 47), .move (.tmp 0), none⟩,
    ⟨(some 48), .move (.tmp 1), none⟩,
    ⟨(some 49), .move (.tmp 12), none⟩,
    ⟨(some 50), .call (.func 19) [(.tmp 47), (.const (.int .u32 (1))), (.tmp 48), (.tmp 49)], none⟩,
    ⟨(some 51), .extract (.tmp 50) 0, none⟩,
    ⟨(some 52), .extract (.tmp 50) 1, none⟩,
    ⟨(some 8), .move (.tmp 51), none⟩,
    ⟨(some 9), .move (.tmp 52), none⟩])
  .ret)))))), 53, [.tmp 8, .tmp 9], false⟩
def i11 : IFunc := ⟨(.seq (.region [⟨(some 0), .move (.const (.bool false)), none⟩])
  (.seq (.region [⟨(some 4), .buildSlice 5 1 4 [(.int .u8 (0)), (.int .u8 (0)), (.int .u8 (0)), (.int .u8 (0))] [(0, 1, (.const (.int .u8 (7)))), (1, 1, (.const (.int .u8 (0)))), (2, 1, (.const (.int .u8 (0)))), (3, 1, (.const (.int .u8 (0))))], none⟩,
    ⟨(some 5), .call (.func 8) [(.const (.int .i64 (64))), (.const (.int .i64 (8)))], none⟩,
    ⟨(some 6), .append 5 1 1 (.tmp 4) (.tmp 5), none⟩,
    ⟨(some 1), .move (.tmp 6), none⟩])
  (.seq (.region [⟨(some 8), .call (.func 8) [(.const (.int .i64 (128))), (.const (.int .i64 (32)))], none⟩,
    ⟨(some 9), .move (.tmp 1), none⟩,
    ⟨(some 10), .buildSlice 5 1 4 [(.int .u8 (0)), (.int .u8 (0)), (.int .u8 (0)), (.int .u8 (0))] [(0, 1, (.const (.int .u8 (80)))), (1, 1, (.const (.int .u8 (81)))), (2, 1, (.const (.int .u8 (82)))), (3, 1, (.const (.int .u8 (83))))], none⟩,
    ⟨(some 11), .call (.func 8) [(.const (.int .i64 (192))), (.const (.int .i64 (8)))], none⟩,
    ⟨(some 12), .append 5 1 1 (.tmp 10) (.tmp 11), none⟩,
    ⟨(some 13), .buildSlice 5 1 114 [(.int .u8 (0)), (.int .u8 (0)), (.int .u8 (0)), (.int .u8 (0)), (.int .u8 (0)), (.int .u8 (0)), (.int .u8 (0)), (.int .u8 (0)), (.int .u8 (0)), (.int .u8 (0)), (.int .u8 (0)), (.int .u8 (0)), (.int .u8 (0)), (.int .u8 (0)), (.int .u8 (0)), (.int .u8 (0)), (.int .u8 (0)), (.int .u8 (0)), (.int .u8 (0)), (.int .u8 (0)), (.int .u8 (0)), (.int .u8 (0)), (.int .u8 (0)), (.int .u8 (0)), (.int .u8 (0)), (.int .u8 (0)), (.int .u8 (0)), (.int .u8 (0)), (.int .u8 (0)), (.int .u8 (0)), (.int .u8 (0)), (.int .u8 (0)), (.int .u8 (0)), (.int .u8 (0)), (.int .u8 (0)), (.int .u8 (0)), (.int .u8 (0)), (.int .u8 (0)), (.int .u8 (0)), (.int .u8 (0)), (.int .u8 (0)), (.int .u8 (0)), (.int .u8 (0)), (.int .u8 (0)), (.int .u8 (0)), (.int .u8 (0)), (.int .u8 (0)), (.int .u8 (0)), (.int .u8 (0)), (.int .u8 (0)), (.int .u8 (0)), (.int .u8 (0)), (.int .u8 (0)), (.int .u8 (0)), (.int .u8 (0)), (.int .u8 (0)), (.int .u8 (0)), (.int .u8 (0)), (.int .u8 (0)), (.int .u8 (0)), (.int .u8 (0)), (.int .u8 (0)), (.int .u8 (0)), (.int .u8 (0)), (.int .u8 (0)), (.int .u8 (0)), (.int .u8 (0)), (.int .u8 (0)), (.int .u8 (0)), (.int .u8 (0)), (.int .u8 (0)), (.int .u8 (0)), (.int .u8 (0)), (.int .u8 (0)), (.int .u8 (0)), (.int .u8 (0)), (.int .u8 (0)), (.int .u8 (0)), (.int .u8 (0)), (.int .u8 (0)), (.int .u8 (0)), (.int .u8 (0)), (.int .u8 (0)), (.int .u8 (0)), (.int .u8 (0)), (.int .u8 (0)), (.int .u8 (0)), (.int .u8 (0)), (.int .u8 (0)), (.int .u8 (0)), (.int .u8 (0)), (.int .u8 (0)), (.int .u8 (0)), (.int .u8 (0)), (.int .u8 (0)), (.int .u8 (0)), (.int .u8 (0)), (.int .u8 (0)), (.int .u8 (0)), (.int .u8 (0)), (.int .u8 (0)), (.int .u8 (0)), (.int .u8 (0)), (.int .u8 (0)), (.int .u8 (0)), (.int .u8 (0)), (.int .u8 (0)), (.int .u8 (0)), (.int .u8 (0)), (.int .u8 (0)), (.int .u8 (0)), (.int .u8 (0)), (.int .u8 (0)), (.int .u8 (0))] [(0, 1, (.const (.int .u8 (76)))), (1, 1, (.const (.int .u8 (97)))), (2, 1, (.const (.int .u8 (100)))), (3, 1, (.const (.int .u8 (105)))), (4, 1, (.const (.int .u8 (101)))), (5, 1, (.const (.int .u8 (115)))), (6, 1, (.const (.int .u8 (32)))), (7, 1, (.const (.int .u8 (97)))), (8, 1, (.const (.int .u8 (110)))), (9, 1, (.const (.int .u8 (100)))), (10, 1, (.const (.int .u8 (32)))), (11, 1, (.const (.int .u8 (71)))), (12, 1, (.const (.int .u8 (101)))), (13, 1, (.const (.int .u8 (110)))), (14, 1, (.const (.int .u8 (116)))), (15, 1, (.const (.int .u8 (108)))), (16, 1, (.const (.int .u8 (101)))), (17, 1, (.const (.int .u8 (109)))), (18, 1, (.const (.int .u8 (101)))), (19, 1, (.const (.int .u8 (110)))), (20, 1, (.const (.int .u8 (32)))), (21, 1, (.const (.int .u8 (111)))), (22, 1, (.const (.int .u8 (102)))), (23, 1, (.const (.int .u8 (32)))), (24, 1, (.const (.int .u8 (116)))), (25, 1, (.const (.int .u8 (104)))), (26, 1, (.const (.int .u8 (101)))), (27, 1, (.const (.int .u8 (32)))), (28, 1, (.const (.int .u8 (99)))), (29, 1, (.const (.int .u8 (108)))), (30, 1, (.const (.int .u8 (97)))), (31, 1, (.const (.int .u8 (115)))), (32, 1, (.const (.int .u8 (115)))), (33, 1, (.const (.int .u8 (32)))), (34, 1, (.const (.int .u8 (111)))), (35, 1, (.const (.int .u8 (102)))), (36, 1, (.const (.int .u8 (32)))), (37, 1, (.const (.int .u8 (39)))), (38, 1, (.const (.int .u8 (57)))), (39, 1, (.const (.int .u8 (57)))), (40, 1, (.const (.int .u8 (58)))), (41, 1, (.const (.int .u8 (32)))), (42, 1, (.const (.int .u8 (73)))), (43, 1, (.const (.int .u8 (102)))), (44, 1, (.const (.int .u8 (32)))), (45, 1, (.const (.int .u8 (73)))), (46, 1, (.const (.int .u8 (32)))), (47, 1, (.const (.int .u8 (99)))), (48, 1, (.const (.int .u8 (111)))), (49, 1, (.const (.int .u8 (117)))), (50, 1, (.const (.int .u8 (108)))), (51, 1, (.const (.int .u8 (100)))), (52, 1, (.const (.int .u8 (32)))), (53, 1, (.const (.int .u8 (111)))), (54, 1, (.const (.int .u8 (102)))), (55, 1, (.const (.int .u8 (102)))), (56, 1, (.const (.int .u8 (101)))), (57, 1, (.const (.int .u8 (114)))), (58, 1, (.const (.int .u8 (32)))), (59, 1, (.const (.int .u8 (121)))), (60, 1, (.const (.int .u8 (111)))), (61, 1, (.const (.int .u8 (117)))), (62, 1, (.const (.int .u8 (32)))), (63, 1, (.const (.int .u8 (111)))), (64, 1, (.const (.int .u8 (110)))), (65, 1, (.const (.int .u8 (108)))), (66, 1, (.const (.int .u8 (121)))), (67, 1, (.const (.int .u8 (32)))), (68, 1, (.const (.int .u8 (111)))), (69, 1, (.const (.int .u8 (110)))), (70, 1, (.const (.int .u8 (101)))), (71, 1, (.const (.int .u8 (32)))), (72, 1, (.const (.int .u8 (116)))), (73, 1, (.const (.int .u8 (105)))), (74, 1, (.const (.int .u8 (112)))), (75, 1, (.const (.int .u8 (32)))), (76, 1, (.const (.int .u8 (102)))), (77, 1, (.const (.int .u8 (111)))), (78, 1, (.const (.int .u8 (114)))), (79, 1, (.const (.int .u8 (32)))), (80, 1, (.const (.int .u8 (116)))), (81, 1, (.const (.int .u8 (104)))), (82, 1, (.const (.int .u8 (101)))), (83, 1, (.const (.int .u8 (32)))), (84, 1, (.const (.int .u8 (102)))), (85, 1, (.const (.int .u8 (117)))), (86, 1, (.const (.int .u8 (116)))), (87, 1, (.const (.int .u8 (117)))), (88, 1, (.const (.int .u8 (114)))), (89, 1, (.const (.int .u8 (101)))), (90, 1, (.const (.int .u8 (44)))), (91, 1, (.const (.int .u8 (32)))), (92, 1, (.const (.int .u8 (115)))), (93, 1, (.const (.int .u8 (117)))), (94, 1, (.const (.int .u8 (110)))), (95, 1, (.const (.int .u8 (115)))), (96, 1, (.const (.int .u8 (99)))), (97, 1, (.const (.int .u8 (114)))), (98, 1, (.const (.int .u8 (101)))), (99, 1, (.const (.int .u8 (101)))), (100, 1, (.const (.int .u8 (110)))), (101, 1, (.const (.int .u8 (32)))), (102, 1, (.const (.int .u8 (119)))), (103, 1, (.const (.int .u8 (111)))), (104, 1, (.const (.int .u8 (117)))), (105, 1, (.const (.int .u8 (108)))), (106, 1, (.const (.int .u8 (100)))), (107, 1, (.const (.int .u8 (32)))), (108, 1, (.const (.int .u8 (98)))), (109, 1, (.const (.int .u8 (101)))), (110, 1, (.const (.int .u8 (32)))), (111, 1, (.const (.int .u8 (105)))), (112, 1, (.const (.int .u8 (116)))), (113, 1, (.const (.int .u8 (46))))], none⟩,
    ⟨(some 14), .mark (.tmp 13), none⟩,
    ⟨(some 15), .call (.func 9) [(.tmp 8), (.tmp 9), (.tmp 12), (.tmp 14)], none⟩,
    ⟨(some 7), .move (.tmp 15), none⟩,
    ⟨(some 16), .extract (.tmp 7) 0, none⟩,
    ⟨(some 17), .extract (.tmp 7) 1, none⟩,
    ⟨(some 2), .move (.tmp 16), none⟩,
    ⟨(some 3), .move (.tmp 17), none⟩])
  (.seq (.region [⟨(some 18), .move (.tmp 3), none⟩,
    ⟨(some 19), .ibin .eql (.tmp 18) (.const (.int .i64 (0))), none⟩,
    ⟨(some 20), .move (.tmp 19), none⟩,
    ⟨(some 21), .move (.tmp 2), (some ((some 20), true))⟩,
    ⟨(some 22), .len ⟨none, (.call ⟨.builtin .len, #[(.tmp 21)], #[22]⟩), 3, "", #[], none⟩ (.tmp 21), (some ((some 20), true))⟩,
    ⟨(some 23), .ibin .eql (.tmp 22) (.const (.int .i64 (130))), (some ((some 20), true))⟩,
    ⟨(some 24), .pick (.tmp 20) (.tmp 23) (.const (.bool false)), none⟩,
    ⟨(some 25), .move (.tmp 24), none⟩,
    ⟨(some 26), .move (.tmp 2), (some ((some 25), true))⟩,
    ⟨(some 27), .slice ⟨none, (.slice 22 (.tmp 26) (some (.const (.int .i64 (114)))) none none), 22, "", #[], none⟩ 1 (.tmp 26) (some (.const (.int .i64 (114)))) none none, (some ((some 25), true))⟩,
    ⟨(some 28), .toStr (.tmp 27), (some ((some 25), true))⟩,
    ⟨(some 29), .pure ⟨none, (.binOp .eql 9 (.tmp 28) (.const (.string ⟨#[26, 225, 11, 89, 79, 9, 226, 106, 126, 144, 46, 203, 208, 96, 6, 145]⟩)) 9), 4, "", #[], none⟩, (some ((some 25), true))⟩,
    ⟨(some 30), .pick (.tmp 25) (.tmp 29) (.const (.bool false)), none⟩,
    ⟨(some 0), .move (.tmp 30), none⟩])
  .ret)))), 31, [.tmp 0], false⟩
def i19 : IFunc := ⟨(.seq (.region [⟨(some 8), .move (.const (.slice none 0 0)), none⟩,
    ⟨(some 9), .move (.const (.int .i64 (0))), none⟩])
  (.seq (.seq (.region [⟨(some 14), .move (.tmp 0), none⟩,
    ⟨(some 15), .len ⟨none, (.call ⟨.builtin .len, #[(.tmp 14)], #[22]⟩), 3, "", #[], none⟩ (.tmp 14), none⟩,
    ⟨(some 16), .ibin .neq (.tmp 15) (.const (.int .i64 (32))), none⟩,
    ⟨(some 17), .move (.tmp 16), none⟩,
    ⟨(some 18), .move (.tmp 2), (some ((some 17), false))⟩,
    ⟨(some 19), .len ⟨none, (.call ⟨.builtin .len, #[(.tmp 18)], #[22]⟩), 3, "", #[], none⟩ (.tmp 18), (some ((some 17), false))⟩,
    ⟨(some 20), .ibin .neq (.tmp 19) (.const (.int .i64 (12))), (some ((some 17), false))⟩,
    ⟨(some 21), .pick (.tmp 17) (.const (.bool true)) (.tmp 20), none⟩])
  (.cond (.tmp 21)
   (.seq (.region [⟨(some 8), .move (.const (.slice none 0 0)), none⟩,
     ⟨(some 9), .move (.const (.int .i64 (1))), none⟩])
   .ret)
   .skip))
  (.seq (.region [⟨(some 22), .move (.tmp 3), none⟩,
    ⟨(some 23), .len ⟨none, (.call ⟨.builtin .len, #[(.tmp 22)], #[22]⟩), 3, "", #[], none⟩ (.tmp 22), none⟩,
    ⟨(some 24), .makeSlice 5 1 1 [(.int .u8 (0))] (.tmp 23) (.tmp 23), none⟩,
    ⟨(some 10), .move (.tmp 24), none⟩])
  (.seq (.seq (.region [⟨(some 11), .move (.const (.int .i64 (0))), none⟩])
  (.block 0 (.loop (.seq (.seq (.region [⟨(some 25), .move (.tmp 11), none⟩,
     ⟨(some 26), .move (.tmp 3), none⟩,
     ⟨(some 27), .len ⟨none, (.call ⟨.builtin .len, #[(.tmp 26)], #[22]⟩), 3, "", #[], none⟩ (.tmp 26), none⟩,
     ⟨(some 28), .ibin .lss (.tmp 25) (.tmp 27), none⟩])
   (.cond (.tmp 28)
    .skip
    (.exit 0)))
   (.seq (.block 1 (.seq (.region [⟨(some 31), .move (.tmp 0), none⟩,
     ⟨(some 32), .move (.tmp 1), none⟩,
     ⟨(some 33), .move (.tmp 2), none⟩,
     ⟨(some 34), .call (.func 26) [(.tmp 31), (.tmp 32), (.tmp 33)], none⟩,
     ⟨(some 12), .move (.tmp 34), none⟩])
   (.seq (.region [⟨(some 35), .move (.tmp 1), none⟩,
     ⟨(some 36), .ibin .add (.tmp 35) (.const (.int .u32 (1))), none⟩,
     ⟨(some 1), .move (.tmp 36), none⟩])
   (.seq (.region [⟨(some 13), .move (.const (.int .i64 (0))), none⟩])
   (.block 2 (.loop (.seq (.seq (.region [⟨(some 37), .move (.tmp 13), none⟩,
      ⟨(some 38), .move (.tmp 12), none⟩,
      ⟨(some 39), .len ⟨none, (.call ⟨.builtin .len, #[(.tmp 38)], #[22]⟩), 3, "", #[], none⟩ (.tmp 38), none⟩,
      ⟨(some 40), .ibin .lss (.tmp 37) (.tmp 39), none⟩,
      ⟨(some 41), .move (.tmp 40), none⟩,
      ⟨(some 42), .move (.tmp 11), (some ((some 41), true))⟩,
      ⟨(some 43), .move (.tmp 13), (some ((some 41), true))⟩,
      ⟨(some 44), .ibin .add (.tmp 42) (.tmp 43), (some ((some 41), true))⟩,
      ⟨(some 45), .move (.tmp 3), (some ((some 41), true))⟩,
      ⟨(some 46), .len ⟨none, (.call ⟨.builtin .len, #[(.tmp 45)], #[22]⟩), 3, "", #[], none⟩ (.tmp 45), (some ((some 41), true))⟩,
      ⟨(some 47), .ibin .lss (.tmp 44) (.tmp 46), (some ((some 41), true))⟩,
      ⟨(some 48), .pick (.tmp 41) (.tmp 47) (.const (.bool false)), none⟩])
    (.cond (.tmp 48)
     .skip
     (.exit 2)))
    (.seq (.block 3 (.region [⟨(some 51), .move (.tmp 10), none⟩,
      ⟨(some 52), .move (.tmp 11), none⟩,
      ⟨(some 53), .move (.tmp 13), none⟩,
      ⟨(some 54), .ibin .add (.tmp 52) (.tmp 53), none⟩,
      ⟨(some 55), .move (.tmp 3), none⟩,
      ⟨(some 56), .move (.tmp 11), none⟩,
      ⟨(some 57), .move (.tmp 13), none⟩,
      ⟨(some 58), .ibin .add (.tmp 56) (.tmp 57), none⟩,
      ⟨(some 59), .indexSlice 1 (.tmp 55) (.tmp 58), none⟩,
      ⟨(some 60), .load1 (.tmp 59), none⟩,
      ⟨(some 61), .move (.tmp 12), none⟩,
      ⟨(some 62), .move (.tmp 13), none⟩,
      ⟨(some 63), .indexSlice 1 (.tmp 61) (.tmp 62), none⟩,
      ⟨(some 64), .load1 (.tmp 63), none⟩,
      ⟨(some 65), .ibin .xor (.tmp 60) (.tmp 64), none⟩,
      ⟨(some 66), .indexSlice 1 (.tmp 51) (.tmp 54), none⟩,
      ⟨none, .store 1 (.tmp 66) (.tmp 65), none⟩]))
    (.region [⟨(some 49), .move (.tmp 13), none⟩,
      ⟨(some 50), .ibin .add (.tmp 49) (.const (.int .i64 (1))), none⟩,
      ⟨(some 13), .move (.tmp 50), none⟩])))))))))
   (.region [⟨(some 29), .move (.tmp 11), none⟩,
     ⟨(some 30), .ibin .add (.tmp 29) (.const (.int .i64 (64))), none⟩,
     ⟨(some 11), .move (.tmp 30), none⟩]))))))
  (.seq (.region [⟨(some 67), .move (.tmp 10), none⟩,
    ⟨(some 8), .move (.tmp 67), none⟩,
    ⟨(some 9), .move (.const (.int .i64 (0))), none⟩])
  .ret))))), 68, [.tmp 8, .tmp 9], false⟩
def i20 : IFunc := ⟨(.seq (.region [⟨(some 8), .move (.const (.slice none 0 0)), none⟩,
    ⟨(some 9), .move (.const (.int .i64 (0))), none⟩])
  (.seq (.region [⟨(some 14), .move (.tmp 0), none⟩,
    ⟨(some 15), .move (.tmp 1), none⟩,
    ⟨(some 16), .call (.func 21) [(.tmp 14), (.const (.int .u32 (0))), (.tmp 15)], none⟩,
    ⟨(some 13), .move (.tmp 16), none⟩,
    ⟨(some 17), .extract (.tmp 13) 0, none⟩,
    ⟨(some 18), .extract (.tmp 13) 1, none⟩,
    ⟨(some 10), .move (.tmp 17), none⟩,
    ⟨(some 11), .move (.tmp 18), none⟩])
  (.seq (.seq (.region [⟨(some 19), .move (.tmp 11), none⟩,
    ⟨(some 20), .ibin .neq (.tmp 19) (.const (.int .i64 (0))), none⟩])
  (.cond (.tmp 20)
   (.seq (.region [⟨(some 21), .move (.tmp 11), none⟩,
     ⟨(some 8), .move (.const (.slice none 0 0)), none⟩,
     ⟨(some 9), .move (.tmp 21), none⟩])
   .ret)
   .skip))
  (.seq (.region [⟨(some 22), .move (.tmp 2), none⟩,
    ⟨(some 23), .call (.func 28) [(.tmp 22)], none⟩,
    ⟨(some 24), .call (.func 27) [(.tmp 23)], none⟩,
    ⟨(some 12), .move (.tmp 24), none⟩])
  (.seq (.region [⟨(some 25), .move (.tmp 12), none⟩,
    ⟨(some 26), .move (.tmp 3), none⟩,
    ⟨(some 27), .append 5 1 1 (.tmp 25) (.tmp 26), none⟩,
    ⟨(some 28), .call (.func 27) [(.tmp 27)], none⟩,
    ⟨(some 12), .move (.tmp 28), none⟩])
  (.seq (.region [⟨(some 29), .move (.tmp 10), none⟩,
    ⟨(some 30), .slice ⟨none, (.slice 22 (.tmp 29) none (some (.const (.int .i64 (32)))) none), 22, "", #[], none⟩ 1 (.tmp 29) none (some (.const (.int .i64 (32)))) none, none⟩,
    ⟨(some 31), .move (.tmp 12), none⟩,
    ⟨(some 32), .move (.tmp 2), none⟩,
    ⟨(some 33), .len ⟨none, (.call ⟨.builtin .len, #[(.tmp 32)], #[22]⟩), 3, "", #[], none⟩ (.tmp 32), none⟩,
    ⟨(some 34), .call (.func 31) [(.tmp 33)], none⟩,
    ⟨(some 35), .move (.tmp 3), none⟩,
    ⟨(some 36), .len ⟨none, (.call ⟨.builtin .len, #[(.tmp 35)], #[22]⟩), 3, "", #[], none⟩ (.tmp 35), none⟩,
    ⟨(some 37), .call (.func 31) [(.tmp 36)], none⟩,
    ⟨(some 38), .buildSlice 22 1 3 [(.slice none 0 0), (.slice none 0 0), (.slice none 0 0)] [(0, 1, (.tmp 31)), (1, 1, (.tmp 34)), (2, 1, (.tmp 37))], none⟩,
    ⟨(some 39), .call (.func 30) [(.tmp 38)], none⟩,
    ⟨(some 40), .call (.func 29) [(.tmp 30), (.tmp 39)], none⟩,
    ⟨(some 41), .extract (.tmp 40) 0, none⟩,
    ⟨(some 42), .extract (.tmp 40) 1, none⟩,
    ⟨(some 8), .move (.tmp 41), none⟩,
    ⟨(some 9), .move (.tmp 42), none⟩])
  .ret)))))), 43, [.tmp 8, .tmp 9], false⟩
def i21 : IFunc := ⟨(.seq (.region [⟨(some 6), .move (.const (.slice none 0 0)), none⟩,
    ⟨(some 7), .move (.const (.int .i64 (0))), none⟩])
  (.seq (.seq (.region [⟨(some 8), .move (.tmp 0), none⟩,
    ⟨(some 9), .len ⟨none, (.call ⟨.builtin .len, #[(.tmp 8)], #[22]⟩), 3, "", #[], none⟩ (.tmp 8), none⟩,
    ⟨(some 10), .ibin .neq (.tmp 9) (.const (.int .i64 (32))), none⟩,
    ⟨(some 11), .move (.tmp 10), none⟩,
    ⟨(some 12), .move (.tmp 2), (some ((some 11), false))⟩,
    ⟨(some 13), .len ⟨none, (.call ⟨.builtin .len, #[(.tmp 12)], #[22]⟩), 3, "", #[], none⟩ (.tmp 12), (some ((some 11), false))⟩,
    ⟨(some 14), .ibin .neq (.tmp 13) (.const (.int .i64 (12))), (some ((some 11), false))⟩,
    ⟨(some 15), .pick (.tmp 11) (.const (.bool true)) (.tmp 14), none⟩])
  (.cond (.tmp 15)
   (.seq (.region [⟨(some 6), .move (.const (.slice none 0 0)), none⟩,
     ⟨(some 7), .move (.const (.int .i64 (1))), none⟩])
   .ret)
   .skip))
  (.seq (.region [⟨(some 16), .move (.tmp 0), none⟩,
    ⟨(some 17), .move (.tmp 1), none⟩,
    ⟨(some 18), .move (.tmp 2), none⟩,
    ⟨(some 19), .call (.func 26) [(.tmp 16), (.tmp 17), (.tmp 18)], none⟩,
    ⟨(some 6), .move (.tmp 19), none⟩,
    ⟨(some 7), .move (.const (.int .i64 (0))), none⟩])
  .ret))), 20, [.tmp 6, .tmp 7], false⟩
def i22 : IFunc := ⟨(.seq (.region [⟨(some 4), .move (.const (.bool false)), none⟩])
  (.seq (.region [⟨(some 5), .move (.tmp 0), none⟩,
    ⟨(some 6), .move (.tmp 1), none⟩,
    ⟨(some 7), .call (.func 32) [(.tmp 5), (.tmp 6)], none⟩,
    ⟨(some 4), .move (.tmp 7), none⟩])
  .ret)), 8, [.tmp 4], false⟩
def i28 : IFunc := ⟨(.seq (.region [⟨(some 2), .move (.const (.slice none 0 0)), none⟩])
  (.seq (.seq (.region [⟨(some 3), .move (.tmp 0), none⟩,
    ⟨(some 4), .nilEq ⟨none, (.binOp .eql 22 (.tmp 3) (.const (.slice none 0 0)) 22), 4, "", #[], none⟩ true (.slice 5) (.tmp 3) (.const (.slice none 0 0)), none⟩])
  (.cond (.tmp 4)
   (.seq (.region [⟨(some 2), .move (.const (.slice none 0 0)), none⟩])
   .ret)
   .skip))
  (.seq (.region [⟨(some 5), .buildSlice 5 1 0 [] [], none⟩,
    ⟨(some 6), .move (.tmp 0), none⟩,
    ⟨(some 7), .append 5 1 1 (.tmp 5) (.tmp 6), none⟩,
    ⟨(some 2), .move (.tmp 7), none⟩])
  .ret))), 8, [.tmp 2], false⟩
def i27 : IFunc := ⟨(.seq (.region [⟨(some 2), .move (.const (.slice none 0 0)), none⟩])
  (.seq (.region [⟨(some 3), .move (.tmp 0), none⟩,
    ⟨(some 4), .move (.tmp 0), none⟩,
    ⟨(some 5), .len ⟨none, (.call ⟨.builtin .len, #[(.tmp 4)], #[22]⟩), 3, "", #[], none⟩ (.tmp 4), none⟩,
    ⟨(some 6), .ibin .rem (.tmp 5) (.const (.int .i64 (16))), none⟩,
    ⟨(some 7), .ibin .sub (.const (.int .i64 (16))) (.tmp 6), none⟩,
    ⟨(some 8), .ibin .rem (.tmp 7) (.const (.int .i64 (16))), none⟩,
    ⟨(some 9), .appendZ 5 1 1 [(.int .u8 (0))] (.tmp 3) (.tmp 8), none⟩,
    ⟨(some 2), .move (.tmp 9), none⟩])
  .ret)), 10, [.tmp 2], false⟩
def i31 : IFunc := ⟨(.seq (.region [⟨(some 2), .move (.const (.slice none 0 0)), none⟩])
  (.seq (.region [⟨(some 5), .makeSlice 5 1 1 [(.int .u8 (0))] (.const (.int .i64 (8))) (.const (.int .i64 (8))), none⟩,
    ⟨(some 3), .move (.tmp 5), none⟩])
  (.seq (.seq (.region [⟨(some 6), .move (.tmp 3), none⟩,
    ⟨(some 7), .len ⟨none, (.call ⟨.builtin .len, #[(.tmp 6)], #[22]⟩), 3, "", #[], none⟩ (.tmp 6), none⟩,
    ⟨(some 8), .move (.const (.int .i64 (0))), none⟩])
  (.block 0 (.loop (.seq (.region [⟨(some 9), .ibin .lss (.tmp 8) (.tmp 7), none⟩])
   (.seq (.cond (.tmp 9)
    .skip
    (.exit 0))
   (.seq (.block 1 (.seq (.region [⟨(some 10), .move (.tmp 8), none⟩,
     ⟨(some 4), .move (.tmp 10), none⟩])
   (.region [⟨(some 11), .move (.tmp 3), none⟩,
     ⟨(some 12), .move (.tmp 4), none⟩,
     ⟨(some 13), .move (.tmp 0), none⟩,
     ⟨(some 14), .iconv .u64 (.tmp 13), none⟩,
     ⟨(some 15), .move (.tmp 4), none⟩,
     ⟨(some 16), .ibin .mul (.const (.int .i64 (8))) (.tmp 15), none⟩,
     ⟨(some 17), .ibin .shr (.tmp 14) (.tmp 16), none⟩,
     ⟨(some 18), .iconv .u8 (.tmp 17), none⟩,
     ⟨(some 19), .indexSlice 1 (.tmp 11) (.tmp 12), none⟩,
     ⟨none, .store 1 (.tmp 19) (.tmp 18), none⟩])))
   (.region [⟨(some 20), .ibin .add (.tmp 8) (.const (.int .i64 (1))), none⟩,
     ⟨(some 8), .move (.tmp 20), none⟩])))))))
  (.seq (.region [⟨(some 21), .move (.tmp 3), none⟩,
    ⟨(some 2), .move (.tmp 21), none⟩])
  .ret)))), 22, [.tmp 2], false⟩
def i30 : IFunc := ⟨(.seq (.region [⟨(some 2), .move (.const (.slice none 0 0)), none⟩])
  (.seq (.region [⟨(some 3), .move (.const (.int .i64 (0))), none⟩])
  (.seq (.seq (.region [⟨(some 9), .move (.tmp 0), none⟩,
    ⟨(some 10), .len ⟨none, (.call ⟨.builtin .len, #[(.tmp 9)], #[57]⟩), 3, "", #[], none⟩ (.tmp 9), none⟩,
    ⟨(some 11), .move (.const (.int .i64 (0))), none⟩])
  (.block 0 (.loop (.seq (.region [⟨(some 12), .ibin .lss (.tmp 11) (.tmp 10), none⟩])
   (.seq (.cond (.tmp 12)
    .skip
    (.exit 0))
   (.seq (.block 1 (.seq (.region [⟨(some 13), .indexSlice 1 (.tmp 9) (.tmp 11), none⟩,
     ⟨(some 14), .load1 (.tmp 13), none⟩,
     ⟨(some 5), .move (.tmp 14), none⟩])
   (.seq (.region [⟨(some 15), .move (.tmp 3), none⟩,
     ⟨(some 16), .move (.tmp 5), none⟩,
     ⟨(some 17), .len ⟨none, (.call ⟨.builtin .len, #[(.tmp 16)], #[22]⟩), 3, "", #[], none⟩ (.tmp 16), none⟩,
     ⟨(some 18), .ibin .add (.tmp 15) (.tmp 17), none⟩,
     ⟨(some 3), .move (.tmp 18), none⟩])
   (.seq (.region [⟨(some 19), .move (.tmp 3), none⟩,
     ⟨(some 20), .ibin .lss (.tmp 19) (.const (.int .i64 (0))), none⟩])
   (.cond (.tmp 20)
    (.region [⟨(some 21), .fail, none⟩,
      ⟨none, .fail, none⟩])
    .skip)))))
   (.region [⟨(some 22), .ibin .add (.tmp 11) (.const (.int .i64 (1))), none⟩,
     ⟨(some 11), .move (.tmp 22), none⟩])))))))
  (.seq (.region [⟨(some 23), .move (.tmp 3), none⟩,
    ⟨(some 24), .call (.func 40) [(.const (.slice none 0 0)), (.tmp 23)], none⟩,
    ⟨(some 6), .move (.tmp 24), none⟩])
  (.seq (.seq (.region [⟨(some 25), .move (.tmp 0), none⟩,
    ⟨(some 26), .len ⟨none, (.call ⟨.builtin .len, #[(.tmp 25)], #[57]⟩), 3, "", #[], none⟩ (.tmp 25), none⟩,
    ⟨(some 27), .move (.const (.int .i64 (0))), none⟩])
  (.block 2 (.loop (.seq (.region [⟨(some 28), .ibin .lss (.tmp 27) (.tmp 26), none⟩])
   (.seq (.cond (.tmp 28)
    .skip
    (.exit 2))
   (.seq (.block 3 (.seq (.region [⟨(some 29), .indexSlice 1 (.tmp 25) (.tmp 27), none⟩,
     ⟨(some 30), .load1 (.tmp 29), none⟩,
     ⟨(some 8), .move (.tmp 30), none⟩])
   (.region [⟨(some 31), .move (.tmp 6), none⟩,
     ⟨(some 32), .move (.tmp 8), none⟩,
     ⟨(some 33), .append 5 1 1 (.tmp 31) (.tmp 32), none⟩,
     ⟨(some 6), .move (.tmp 33), none⟩])))
   (.region [⟨(some 34), .ibin .add (.tmp 27) (.const (.int .i64 (1))), none⟩,
     ⟨(some 27), .move (.tmp 34), none⟩])))))))
  (.seq (.region [⟨(some 35), .move (.tmp 6), none⟩,
    ⟨(some 2), .move (.tmp 35), none⟩])
  .ret)))))), 36, [.tmp 2], false⟩
def i29 : IFunc := ⟨(.seq (.region [⟨(some 4), .move (.const (.slice none 0 0)), none⟩,
    ⟨(some 5), .move (.const (.int .i64 (0))), none⟩])
  (.seq (.seq (.region [⟨(some 6), .move (.tmp 0), none⟩,
    ⟨(some 7), .len ⟨none, (.call ⟨.builtin .len, #[(.tmp 6)], #[22]⟩), 3, "", #[], none⟩ (.tmp 6), none⟩,
    ⟨(some 8), .ibin .neq (.tmp 7) (.const (.int .i64 (32))), none⟩])
  (.cond (.tmp 8)
   (.seq (.region [⟨(some 4), .move (.const (.slice none 0 0)), none⟩,
     ⟨(some 5), .move (.const (.int .i64 (1))), none⟩])
   .ret)
   .skip))
  (.seq (.region [⟨(some 9), .move (.tmp 0), none⟩,
    ⟨(some 10), .move (.tmp 1), none⟩,
    ⟨(some 11), .call (.func 39) [(.tmp 9), (.tmp 10)], none⟩,
    ⟨(some 4), .move (.tmp 11), none⟩,
    ⟨(some 5), .move (.const (.int .i64 (0))), none⟩])
  .ret))), 12, [.tmp 4, .tmp 5], false⟩
def i32 : IFunc := ⟨(.seq (.region [⟨(some 4), .move (.const (.bool false)), none⟩])
  (.seq (.region [⟨(some 5), .move (.tmp 0), none⟩,
    ⟨(some 6), .toStr (.tmp 5), none⟩,
    ⟨(some 7), .move (.tmp 1), none⟩,
    ⟨(some 8), .toStr (.tmp 7), none⟩,
    ⟨(some 9), .pure ⟨none, (.binOp .eql 9 (.tmp 6) (.tmp 8) 9), 4, "", #[], none⟩, none⟩,
    ⟨(some 4), .move (.tmp 9), none⟩])
  .ret)), 10, [.tmp 4], false⟩
def i40 : IFunc := ⟨(.seq (.region [⟨(some 4), .move (.const (.slice none 0 0)), none⟩])
  (.seq (.seq (.region [⟨(some 5), .move (.tmp 1), none⟩,
    ⟨(some 6), .ibin .lss (.tmp 5) (.const (.int .i64 (0))), none⟩])
  (.cond (.tmp 6)
   (.region [⟨(some 7), .fail, none⟩,
     ⟨none, .fail, none⟩])
   .skip))
  (.seq (.seq (.region [⟨(some 8), .move (.tmp 1), none⟩,
    ⟨(some 9), .move (.tmp 0), none⟩,
    ⟨(some 10), .cap (.tmp 9), none⟩,
    ⟨(some 11), .move (.tmp 0), none⟩,
    ⟨(some 12), .len ⟨none, (.call ⟨.builtin .len, #[(.tmp 11)], #[22]⟩), 3, "", #[], none⟩ (.tmp 11), none⟩,
    ⟨(some 13), .ibin .sub (.tmp 10) (.tmp 12), none⟩,
    ⟨(some 14), .ibin .sub (.tmp 8) (.tmp 13), none⟩,
    ⟨(some 1), .move (.tmp 14), none⟩])
  (.seq (.region [⟨(some 15), .move (.tmp 1), none⟩,
    ⟨(some 16), .ibin .gtr (.tmp 15) (.const (.int .i64 (0))), none⟩])
  (.cond (.tmp 16)
   (.region [⟨(some 17), .move (.tmp 0), none⟩,
     ⟨(some 18), .move (.tmp 0), none⟩,
     ⟨(some 19), .cap (.tmp 18), none⟩,
     ⟨(some 20), .slice ⟨none, (.slice 22 (.tmp 17) none (some (.tmp 19)) none), 22, "", #[], none⟩ 1 (.tmp 17) none (some (.tmp 19)) none, none⟩,
     ⟨(some 21), .move (.tmp 1), none⟩,
     ⟨(some 22), .appendZ 5 1 1 [(.int .u8 (0))] (.tmp 20) (.tmp 21), none⟩,
     ⟨(some 23), .move (.tmp 0), none⟩,
     ⟨(some 24), .len ⟨none, (.call ⟨.builtin .len, #[(.tmp 23)], #[22]⟩), 3, "", #[], none⟩ (.tmp 23), none⟩,
     ⟨(some 25), .slice ⟨none, (.slice 22 (.tmp 22) none (some (.tmp 24)) none), 22, "", #[], none⟩ 1 (.tmp 22) none (some (.tmp 24)) none, none⟩,
     ⟨(some 0), .move (.tmp 25), none⟩])
   .skip)))
  (.seq (.region [⟨(some 26), .move (.tmp 0), none⟩,
    ⟨(some 4), .move (.tmp 26), none⟩])
  .ret)))), 27, [.tmp 4], false⟩
def tab : List (Nat × IFunc) := [(3, i3), (8, i8), (9, i9), (10, i10), (11, i11), (19, i19), (20, i20), (21, i21), (22, i22), (28, i28), (27, i27), (31, i31), (30, i30), (29, i29), (32, i32), (40, i40)]
theorem tab_all : ∀ p ∈ tab, mkI Try.prog p.1 p.2.keep = some p.2 := by
  simp only [tab, List.forall_mem_cons, List.not_mem_nil, false_imp_iff, implies_true, and_true]
  exact ⟨by kernel_rfl, by kernel_rfl, by kernel_rfl, by kernel_rfl, by kernel_rfl, by kernel_rfl, by kernel_rfl, by kernel_rfl, by kernel_rfl, by kernel_rfl, by kernel_rfl, by kernel_rfl, by kernel_rfl, by kernel_rfl, by kernel_rfl, by kernel_rfl⟩
theorem has_of (f : Nat) (i : IFunc) (h : look tab f = some i) : ∃ fn, Try.prog.funcs[f]? = some fn ∧ (fn.name == "runtime.NumGoroutine") = false ∧ fn.body.isSome = true := known_of (look_ok tab_all f i h)
theorem ovD_fine : OvOK Try.prog ovD := by
  refine ovD_ok fun f hf => ?_
  simp only [List.mem_cons, List.not_mem_nil, or_false] at hf
  rcases hf with rfl | rfl | rfl
  · exact has_of _ i21 rfl
  · exact has_of _ i19 rfl
  · exact has_of _ i29 rfl
theorem runs : resIs isYes (enter (look tab) (ex Try.prog (look tab) ovD 300) 3 [] [] 0) = true := by decide +kernel
theorem numbers_yes (w : World) : Calls Try.prog 3 #[] w fun e w' => e = .returned (.bool true) ∧ Below w.heap.size w w' :=
  call_yes (tab_ok tab_all) ovD_fine 300 3 runs w
end Go.Proofs.Ytjlokmjbblpmoaa.Eng
