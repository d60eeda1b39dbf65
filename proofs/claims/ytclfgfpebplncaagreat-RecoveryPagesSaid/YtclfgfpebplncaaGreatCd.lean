/- The compiled code of the functions that the law reaches. -/
import Derived.Test.YtclfgfpebplncaaGreatLgC
set_option linter.unusedVariables false
set_option linter.unusedSectionVars false
set_option linter.unusedSimpArgs false
set_option maxRecDepth 10000
namespace Go.Ev
/-! 6: capsule/capsulelaw11.few -/
def c6_0 : CC := .ops [⟨some 2, none, .box 4 (.t 0)⟩,
  ⟨some 4, none, .mv (.c (.bool false))⟩]
def c6_1 : CC := .ops [⟨some 6, none, .faddr (.t 2) 0⟩,
  ⟨some 7, none, .load1 (.t 6)⟩,
  ⟨some 8, none, .bin .lss (.t 7) (.c (.int .i64 ((2 : Nat) : Int))) true .pint⟩,
  ⟨some 9, none, .mv (.t 8)⟩,
  ⟨some 10, (some (9, false)), .faddr (.t 2) 0⟩,
  ⟨some 11, (some (9, false)), .load1 (.t 10)⟩,
  ⟨some 12, (some (9, false)), .bin .gtr (.t 11) (.c (.int .i64 ((6 : Nat) : Int))) true .pint⟩,
  ⟨some 13, none, .pick (.t 9) (.c (.bool true)) (.t 12)⟩,
  ⟨some 14, none, .mv (.t 13)⟩,
  ⟨some 15, (some (14, false)), .faddr (.t 2) 1⟩,
  ⟨some 16, (some (14, false)), .load1 (.t 15)⟩,
  ⟨some 17, (some (14, false)), .bin .lss (.t 16) (.c (.int .i64 ((2 : Nat) : Int))) true .pint⟩,
  ⟨some 18, none, .pick (.t 14) (.c (.bool true)) (.t 17)⟩,
  ⟨some 19, none, .mv (.t 18)⟩,
  ⟨some 20, (some (19, false)), .faddr (.t 2) 1⟩,
  ⟨some 21, (some (19, false)), .load1 (.t 20)⟩,
  ⟨some 22, (some (19, false)), .bin .gtr (.t 21) (.c (.int .i64 ((6 : Nat) : Int))) true .pint⟩,
  ⟨some 23, none, .pick (.t 19) (.c (.bool true)) (.t 22)⟩,
  ⟨some 24, none, .mv (.t 23)⟩,
  ⟨some 25, (some (24, false)), .faddr (.t 2) 2⟩,
  ⟨some 26, (some (24, false)), .load1 (.t 25)⟩,
  ⟨some 27, (some (24, false)), .bin .lss (.t 26) (.c (.int .i64 ((12 : Nat) : Int))) true .pint⟩,
  ⟨some 28, none, .pick (.t 24) (.c (.bool true)) (.t 27)⟩,
  ⟨some 29, none, .mv (.t 28)⟩,
  ⟨some 30, (some (29, false)), .faddr (.t 2) 2⟩,
  ⟨some 31, (some (29, false)), .load1 (.t 30)⟩,
  ⟨some 32, (some (29, false)), .bin .gtr (.t 31) (.c (.int .i64 ((30 : Nat) : Int))) true .pint⟩,
  ⟨some 33, none, .pick (.t 29) (.c (.bool true)) (.t 32)⟩,
  ⟨some 34, none, .mv (.t 33)⟩,
  ⟨some 35, (some (34, false)), .faddr (.t 2) 3⟩,
  ⟨some 36, (some (34, false)), .load1 (.t 35)⟩,
  ⟨some 37, (some (34, false)), .bin .lss (.t 36) (.c (.int .i64 ((1 : Nat) : Int))) true .pint⟩,
  ⟨some 38, none, .pick (.t 34) (.c (.bool true)) (.t 37)⟩,
  ⟨some 39, none, .mv (.t 38)⟩,
  ⟨some 40, (some (39, false)), .faddr (.t 2) 3⟩,
  ⟨some 41, (some (39, false)), .load1 (.t 40)⟩,
  ⟨some 42, (some (39, false)), .bin .gtr (.t 41) (.c (.int .i64 ((1000 : Nat) : Int))) true .pint⟩,
  ⟨some 43, none, .pick (.t 39) (.c (.bool true)) (.t 42)⟩,
  ⟨some 44, none, .mv (.t 43)⟩,
  ⟨some 45, (some (44, false)), .mv (.t 1)⟩,
  ⟨some 46, (some (44, false)), .lenS (.t 45)⟩,
  ⟨some 47, (some (44, false)), .bin .gtr (.t 46) (.c (.int .i64 ((30 : Nat) : Int))) true .pint⟩,
  ⟨some 48, none, .pick (.t 44) (.c (.bool true)) (.t 47)⟩]
def c6_2 : CC := .ops [⟨some 4, none, .mv (.c (.bool false))⟩]
def c6_3 : CC := .seq c6_2 .ret
def c6_4 : CC := .cond (.t 48) c6_3 .skip
def c6_5 : CC := .seq c6_1 c6_4
def c6_6 : CC := .ops [⟨some 5, none, .mv (.c (.int .i64 ((0 : Nat) : Int)))⟩]
def c6_7 : CC := .ops [⟨some 49, none, .mv (.t 5)⟩,
  ⟨some 50, none, .mv (.t 1)⟩,
  ⟨some 51, none, .lenS (.t 50)⟩,
  ⟨some 52, none, .bin .lss (.t 49) (.t 51) false .pint⟩]
def c6_8 : CC := .cond (.t 52) .skip (.exit 0)
def c6_9 : CC := .seq c6_7 c6_8
def c6_10 : CC := .ops [⟨some 55, none, .mv (.t 1)⟩,
  ⟨some 56, none, .mv (.t 5)⟩,
  ⟨some 57, none, .iaddrS 12 (.t 55) (.t 56)⟩,
  ⟨some 58, none, .faddr (.t 57) 11⟩,
  ⟨some 59, none, .load1 (.t 58)⟩,
  ⟨some 60, none, .lenS (.t 59)⟩,
  ⟨some 61, none, .bin .gtr (.t 60) (.c (.int .i64 ((4 : Nat) : Int))) true .pint⟩]
def c6_11 : CC := .ops [⟨some 4, none, .mv (.c (.bool false))⟩]
def c6_12 : CC := .seq c6_11 .ret
def c6_13 : CC := .cond (.t 61) c6_12 .skip
def c6_14 : CC := .seq c6_10 c6_13
def c6_15 : CC := .block 1 c6_14
def c6_16 : CC := .ops [⟨some 53, none, .mv (.t 5)⟩,
  ⟨some 54, none, .bin .add (.t 53) (.c (.int .i64 ((1 : Nat) : Int))) true .pint⟩,
  ⟨some 5, none, .mv (.t 54)⟩]
def c6_17 : CC := .seq c6_15 c6_16
def c6_18 : CC := .seq c6_9 c6_17
def c6_19 : CC := .loop c6_18
def c6_20 : CC := .block 0 c6_19
def c6_21 : CC := .seq c6_6 c6_20
def c6_22 : CC := .ops [⟨some 4, none, .mv (.c (.bool true))⟩]
def c6_23 : CC := .seq c6_22 .ret
def c6_24 : CC := .seq c6_21 c6_23
def c6_25 : CC := .seq c6_5 c6_24
def c6_26 : CC := .seq c6_0 c6_25
def cf6 : CFn := ⟨62, [.tmp 4], c6_26⟩

/-! 125: capsule/flash.valid$1 -/
def c125_0 : CC := .ops [⟨some 6, none, .mv (.c (.bool false))⟩]
def c125_1 : CC := .ops [⟨some 7, none, .mv (.t 0)⟩,
  ⟨some 8, none, .mv (.t 1)⟩,
  ⟨some 9, none, .bin .geq (.t 7) (.t 8) false .pint⟩,
  ⟨some 10, none, .mv (.t 9)⟩,
  ⟨some 11, (some (10, true)), .mv (.t 0)⟩,
  ⟨some 12, (some (10, true)), .mv (.t 2)⟩,
  ⟨some 13, (some (10, true)), .bin .leq (.t 11) (.t 12) false .pint⟩,
  ⟨some 14, none, .pick (.t 10) (.t 13) (.c (.bool false))⟩,
  ⟨some 6, none, .mv (.t 14)⟩]
def c125_2 : CC := .seq c125_1 .ret
def c125_3 : CC := .seq c125_0 c125_2
def cf125 : CFn := ⟨15, [.tmp 6], c125_3⟩

/-! 73: capsule/flash.valid -/
def c73_0 : CC := .ops [⟨some 1, none, .box 4 (.t 0)⟩,
  ⟨some 2, none, .mv (.c (.bool false))⟩]
def c73_1 : CC := .ops [⟨some 3, none, .mv (.c (.fn (.func 125) [] []))⟩]
def c73_2 : CC := .ops [⟨some 4, none, .mv (.t 3)⟩,
  ⟨some 5, none, .faddr (.t 1) 0⟩,
  ⟨some 6, none, .load1 (.t 5)⟩,
  ⟨some 7, none, .callv (.t 4) [(.t 6), (.c (.int .i64 ((2 : Nat) : Int))), (.c (.int .i64 ((4096 : Nat) : Int)))]⟩,
  ⟨some 8, none, .mv (.t 7)⟩,
  ⟨some 9, (some (8, true)), .mv (.t 3)⟩,
  ⟨some 10, (some (8, true)), .faddr (.t 1) 1⟩,
  ⟨some 11, (some (8, true)), .load1 (.t 10)⟩,
  ⟨some 12, (some (8, true)), .callv (.t 9) [(.t 11), (.c (.int .i64 ((2 : Nat) : Int))), (.c (.int .i64 ((512 : Nat) : Int)))]⟩,
  ⟨some 13, none, .pick (.t 8) (.t 12) (.c (.bool false))⟩,
  ⟨some 14, none, .mv (.t 13)⟩,
  ⟨some 15, (some (14, true)), .mv (.t 3)⟩,
  ⟨some 16, (some (14, true)), .faddr (.t 1) 2⟩,
  ⟨some 17, (some (14, true)), .load1 (.t 16)⟩,
  ⟨some 18, (some (14, true)), .callv (.t 15) [(.t 17), (.c (.int .i64 ((1 : Nat) : Int))), (.c (.int .i64 ((8192 : Nat) : Int)))]⟩,
  ⟨some 19, none, .pick (.t 14) (.t 18) (.c (.bool false))⟩,
  ⟨some 20, none, .mv (.t 19)⟩,
  ⟨some 21, (some (20, true)), .mv (.t 3)⟩,
  ⟨some 22, (some (20, true)), .faddr (.t 1) 3⟩,
  ⟨some 23, (some (20, true)), .load1 (.t 22)⟩,
  ⟨some 24, (some (20, true)), .callv (.t 21) [(.t 23), (.c (.int .i64 ((1 : Nat) : Int))), (.c (.int .i64 ((1048576 : Nat) : Int)))]⟩,
  ⟨some 25, none, .pick (.t 20) (.t 24) (.c (.bool false))⟩,
  ⟨some 2, none, .mv (.t 25)⟩]
def c73_3 : CC := .seq c73_2 .ret
def c73_4 : CC := .seq c73_1 c73_3
def c73_5 : CC := .seq c73_0 c73_4
def cf73 : CFn := ⟨26, [.tmp 2], c73_5⟩

/-! 126: slices.IndexFunc[[]int,int] -/
def c126_0 : CC := .ops [⟨some 4, none, .mv (.c (.int .i64 ((0 : Nat) : Int)))⟩]
def c126_1 : CC := .ops [⟨some 6, none, .mv (.t 0)⟩,
  ⟨some 7, none, .lenS (.t 6)⟩,
  ⟨some 8, none, .mv (.c (.int .i64 ((0 : Nat) : Int)))⟩]
def c126_2 : CC := .ops [⟨some 9, none, .bin .lss (.t 8) (.t 7) false .pint⟩]
def c126_3 : CC := .cond (.t 9) .skip (.exit 0)
def c126_4 : CC := .ops [⟨some 10, none, .mv (.t 8)⟩,
  ⟨some 5, none, .mv (.t 10)⟩]
def c126_5 : CC := .ops [⟨some 11, none, .mv (.t 1)⟩,
  ⟨some 12, none, .mv (.t 0)⟩,
  ⟨some 13, none, .mv (.t 5)⟩,
  ⟨some 14, none, .iaddrS 1 (.t 12) (.t 13)⟩,
  ⟨some 15, none, .load1 (.t 14)⟩,
  ⟨some 16, none, .callv (.t 11) [(.t 15)]⟩]
def c126_6 : CC := .ops [⟨some 17, none, .mv (.t 5)⟩,
  ⟨some 4, none, .mv (.t 17)⟩]
def c126_7 : CC := .seq c126_6 .ret
def c126_8 : CC := .cond (.t 16) c126_7 .skip
def c126_9 : CC := .seq c126_5 c126_8
def c126_10 : CC := .seq c126_4 c126_9
def c126_11 : CC := .block 1 c126_10
def c126_12 : CC := .ops [⟨some 18, none, .bin .add (.t 8) (.c (.int .i64 ((1 : Nat) : Int))) true .pint⟩,
  ⟨some 8, none, .mv (.t 18)⟩]
def c126_13 : CC := .seq c126_11 c126_12
def c126_14 : CC := .seq c126_3 c126_13
def c126_15 : CC := .seq c126_2 c126_14
def c126_16 : CC := .loop c126_15
def c126_17 : CC := .block 0 c126_16
def c126_18 : CC := .seq c126_1 c126_17
def c126_19 : CC := .ops [⟨some 4, none, .mv (.c (.int .i64 (-1)))⟩]
def c126_20 : CC := .seq c126_19 .ret
def c126_21 : CC := .seq c126_18 c126_20
def c126_22 : CC := .seq c126_0 c126_21
def cf126 : CFn := ⟨19, [.tmp 4], c126_22⟩

/-! 74: slices.ContainsFunc[[]int,int] -/
def c74_0 : CC := .ops [⟨some 4, none, .mv (.c (.bool false))⟩]
def c74_1 : CC := .ops [⟨some 5, none, .mv (.t 0)⟩,
  ⟨some 6, none, .mv (.t 1)⟩,
  ⟨some 7, none, .callv (.c (.fn (.func 126) [] [])) [(.t 5), (.t 6)]⟩,
  ⟨some 8, none, .bin .geq (.t 7) (.c (.int .i64 ((0 : Nat) : Int))) true .pint⟩,
  ⟨some 4, none, .mv (.t 8)⟩]
def c74_2 : CC := .seq c74_1 .ret
def c74_3 : CC := .seq c74_0 c74_2
def cf74 : CFn := ⟨9, [.tmp 4], c74_3⟩

/-! 75: capsule/flash.New$1 -/
def c75_0 : CC := .ops [⟨some 2, none, .mv (.c (.bool false))⟩]
def c75_1 : CC := .ops [⟨some 3, none, .mv (.t 0)⟩,
  ⟨some 4, none, .bin .lss (.t 3) (.c (.int .i64 ((0 : Nat) : Int))) true .pint⟩,
  ⟨some 2, none, .mv (.t 4)⟩]
def c75_2 : CC := .seq c75_1 .ret
def c75_3 : CC := .seq c75_0 c75_2
def cf75 : CFn := ⟨5, [.tmp 2], c75_3⟩

/-! 76: (*capsule/flash.block).all -/
def c76_0 : CC := .ops [⟨some 7, none, .mv (.t 0)⟩,
  ⟨some 8, none, .mv (.t 1)⟩,
  ⟨some 9, none, .mkslice 32 [.nils, .int .i64 ((0 : Nat) : Int)] (.t 8) (.t 8)⟩,
  ⟨some 10, none, .nilc (.t 7)⟩,
  ⟨some 11, none, .faddr (.t 10) 0⟩,
  ⟨none, none, .store 1 (.t 11) (.t 9)⟩]
def c76_1 : CC := .ops [⟨some 12, none, .mv (.t 0)⟩,
  ⟨some 13, none, .nilc (.t 12)⟩,
  ⟨some 14, none, .faddr (.t 13) 0⟩,
  ⟨some 15, none, .load1 (.t 14)⟩,
  ⟨some 16, none, .lenS (.t 15)⟩,
  ⟨some 17, none, .mv (.c (.int .i64 ((0 : Nat) : Int)))⟩]
def c76_2 : CC := .ops [⟨some 18, none, .bin .lss (.t 17) (.t 16) false .pint⟩]
def c76_3 : CC := .cond (.t 18) .skip (.exit 0)
def c76_4 : CC := .ops [⟨some 19, none, .mv (.t 17)⟩,
  ⟨some 6, none, .mv (.t 19)⟩]
def c76_5 : CC := .ops [⟨some 20, none, .mv (.t 0)⟩,
  ⟨some 21, none, .nilc (.t 20)⟩,
  ⟨some 22, none, .faddr (.t 21) 0⟩,
  ⟨some 23, none, .load1 (.t 22)⟩,
  ⟨some 24, none, .mv (.t 6)⟩,
  ⟨some 25, none, .mv (.t 2)⟩,
  ⟨some 26, none, .iaddrS 2 (.t 23) (.t 24)⟩,
  ⟨some 27, none, .faddr (.t 26) 1⟩,
  ⟨none, none, .store 1 (.t 27) (.t 25)⟩]
def c76_6 : CC := .seq c76_4 c76_5
def c76_7 : CC := .block 1 c76_6
def c76_8 : CC := .ops [⟨some 28, none, .bin .add (.t 17) (.c (.int .i64 ((1 : Nat) : Int))) true .pint⟩,
  ⟨some 17, none, .mv (.t 28)⟩]
def c76_9 : CC := .seq c76_7 c76_8
def c76_10 : CC := .seq c76_3 c76_9
def c76_11 : CC := .seq c76_2 c76_10
def c76_12 : CC := .loop c76_11
def c76_13 : CC := .block 0 c76_12
def c76_14 : CC := .seq c76_1 c76_13
def c76_15 : CC := .ops [⟨some 29, none, .mv (.t 0)⟩,
  ⟨some 30, none, .nilc (.t 29)⟩,
  ⟨some 31, none, .faddr (.t 30) 1⟩,
  ⟨none, none, .store 1 (.t 31) (.c (.int .i64 ((0 : Nat) : Int)))⟩]
def c76_16 : CC := .ops [⟨some 32, none, .mv (.t 2)⟩,
  ⟨some 33, none, .bin .neq (.t 32) (.c (.int .i64 ((1 : Nat) : Int))) true .pint⟩]
def c76_17 : CC := .ops [⟨some 34, none, .mv (.t 0)⟩,
  ⟨some 35, none, .mv (.t 1)⟩,
  ⟨some 36, none, .nilc (.t 34)⟩,
  ⟨some 37, none, .faddr (.t 36) 1⟩,
  ⟨none, none, .store 1 (.t 37) (.t 35)⟩]
def c76_18 : CC := .cond (.t 33) c76_17 .skip
def c76_19 : CC := .seq c76_16 c76_18
def c76_20 : CC := .seq c76_15 c76_19
def c76_21 : CC := .seq c76_14 c76_20
def c76_22 : CC := .seq c76_0 c76_21
def cf76 : CFn := ⟨38, [], c76_22⟩

/-! 23: capsule/flash.New -/
def c23_0 : CC := .ops [⟨some 2, none, .box 4 (.t 0)⟩,
  ⟨some 4, none, .mv (.c (.nilp))⟩,
  ⟨some 5, none, .mv (.c (.int .i64 ((0 : Nat) : Int)))⟩]
def c23_1 : CC := .ops [⟨some 10, none, .loadN 4 (.t 2)⟩,
  ⟨some 11, none, .callv (.c (.fn (.func 73) [] [])) [(.t 10)]⟩,
  ⟨some 12, none, .un .not (.t 11)⟩,
  ⟨some 13, none, .mv (.t 12)⟩,
  ⟨some 14, (some (13, false)), .mv (.t 1)⟩,
  ⟨some 15, (some (13, false)), .callv (.c (.fn (.func 74) [] [])) [(.t 14), (.c (.fn (.func 75) [] []))]⟩,
  ⟨some 16, none, .pick (.t 13) (.c (.bool true)) (.t 15)⟩]
def c23_2 : CC := .ops [⟨some 4, none, .mv (.c (.nilp))⟩,
  ⟨some 5, none, .mv (.c (.int .i64 ((2 : Nat) : Int)))⟩]
def c23_3 : CC := .seq c23_2 .ret
def c23_4 : CC := .cond (.t 16) c23_3 .skip
def c23_5 : CC := .seq c23_1 c23_4
def c23_6 : CC := .drawn [⟨⟨some 17, none, .loadN 4 (.t 2)⟩, [2]⟩,
  ⟨⟨some 18, none, .mkmap⟩, []⟩,
  ⟨⟨some 19, none, .faddr (.t 2) 0⟩, [2]⟩,
  ⟨⟨some 20, none, .load1 (.t 19)⟩, [19]⟩,
  ⟨⟨some 21, none, .mkslice 40 [.nils, .int .i64 ((0 : Nat) : Int), .int .i64 ((0 : Nat) : Int)] (.t 20) (.t 20)⟩, [20, 20]⟩,
  ⟨⟨some 22, none, .build [.int .i64 ((0 : Nat) : Int), .int .i64 ((0 : Nat) : Int), .int .i64 ((0 : Nat) : Int), .int .i64 ((0 : Nat) : Int), .nilm, .nils, .int .i64 ((0 : Nat) : Int), .int .i64 ((0 : Nat) : Int), .int .i64 ((0 : Nat) : Int), .bool false] [(0, 4, (.t 17)), (4, 1, (.t 18)), (5, 1, (.t 21)), (7, 1, (.c (.int .i64 (-1))))]⟩, [17, 18, 21]⟩,
  ⟨⟨some 23, none, .box 10 (.t 22)⟩, [22]⟩,
  ⟨⟨some 6, none, .mv (.t 23)⟩, [23]⟩]
  [⟨⟨some 17, none, .loadN 4 (.t 2)⟩, [2]⟩, ⟨⟨some 20, none, .load1 (.t 19)⟩, [19]⟩]
  []
def c23_7 : CC := .ops [⟨some 24, none, .mv (.t 1)⟩,
  ⟨some 25, none, .lenS (.t 24)⟩,
  ⟨some 26, none, .mv (.c (.int .i64 ((0 : Nat) : Int)))⟩]
def c23_8 : CC := .ops [⟨some 27, none, .bin .lss (.t 26) (.t 25) false .pint⟩]
def c23_9 : CC := .cond (.t 27) .skip (.exit 0)
def c23_10 : CC := .ops [⟨some 28, none, .iaddrS 1 (.t 24) (.t 26)⟩,
  ⟨some 29, none, .load1 (.t 28)⟩,
  ⟨some 8, none, .mv (.t 29)⟩]
def c23_11 : CC := .ops [⟨some 30, none, .mv (.t 6)⟩,
  ⟨some 31, none, .nilc (.t 30)⟩,
  ⟨some 32, none, .faddr (.t 31) 4⟩,
  ⟨some 33, none, .load1 (.t 32)⟩,
  ⟨some 34, none, .mv (.t 8)⟩,
  ⟨none, none, .mupd .pint (.t 33) (.t 34) (.c (.bool true))⟩]
def c23_12 : CC := .seq c23_10 c23_11
def c23_13 : CC := .block 1 c23_12
def c23_14 : CC := .ops [⟨some 35, none, .bin .add (.t 26) (.c (.int .i64 ((1 : Nat) : Int))) true .pint⟩,
  ⟨some 26, none, .mv (.t 35)⟩]
def c23_15 : CC := .seq c23_13 c23_14
def c23_16 : CC := .seq c23_9 c23_15
def c23_17 : CC := .seq c23_8 c23_16
def c23_18 : CC := .loop c23_17
def c23_19 : CC := .block 0 c23_18
def c23_20 : CC := .seq c23_7 c23_19
def c23_21 : CC := .ops [⟨some 36, none, .mv (.t 6)⟩,
  ⟨some 37, none, .nilc (.t 36)⟩,
  ⟨some 38, none, .faddr (.t 37) 5⟩,
  ⟨some 39, none, .load1 (.t 38)⟩,
  ⟨some 40, none, .lenS (.t 39)⟩,
  ⟨some 41, none, .mv (.c (.int .i64 ((0 : Nat) : Int)))⟩]
def c23_22 : CC := .ops [⟨some 42, none, .bin .lss (.t 41) (.t 40) false .pint⟩]
def c23_23 : CC := .cond (.t 42) .skip (.exit 2)
def c23_24 : CC := .ops [⟨some 43, none, .mv (.t 41)⟩,
  ⟨some 9, none, .mv (.t 43)⟩]
def c23_25 : CC := .drawn [⟨⟨some 44, none, .mv (.t 6)⟩, [6]⟩,
  ⟨⟨some 45, none, .nilc (.t 44)⟩, [44]⟩,
  ⟨⟨some 46, none, .faddr (.t 45) 5⟩, [45]⟩,
  ⟨⟨some 47, none, .load1 (.t 46)⟩, [46]⟩,
  ⟨⟨some 48, none, .mv (.t 9)⟩, [9]⟩,
  ⟨⟨some 49, none, .iaddrS 3 (.t 47) (.t 48)⟩, [47, 48]⟩,
  ⟨⟨some 50, none, .faddr (.t 2) 1⟩, [2]⟩,
  ⟨⟨some 51, none, .load1 (.t 50)⟩, [50]⟩]
  []
  [⟨⟨⟨some 52, none, .callv (.c (.fn (.func 76) [] [])) [(.t 49), (.t 51), (.c (.int .i64 ((1 : Nat) : Int)))]⟩, [49, 51]⟩, [], []⟩]
def c23_26 : CC := .seq c23_24 c23_25
def c23_27 : CC := .block 3 c23_26
def c23_28 : CC := .ops [⟨some 53, none, .bin .add (.t 41) (.c (.int .i64 ((1 : Nat) : Int))) true .pint⟩,
  ⟨some 41, none, .mv (.t 53)⟩]
def c23_29 : CC := .seq c23_27 c23_28
def c23_30 : CC := .seq c23_23 c23_29
def c23_31 : CC := .seq c23_22 c23_30
def c23_32 : CC := .loop c23_31
def c23_33 : CC := .block 2 c23_32
def c23_34 : CC := .seq c23_21 c23_33
def c23_35 : CC := .ops [⟨some 54, none, .mv (.t 6)⟩,
  ⟨some 4, none, .mv (.t 54)⟩,
  ⟨some 5, none, .mv (.c (.int .i64 ((0 : Nat) : Int)))⟩]
def c23_36 : CC := .seq c23_35 .ret
def c23_37 : CC := .seq c23_34 c23_36
def c23_38 : CC := .seq c23_20 c23_37
def c23_39 : CC := .seq c23_6 c23_38
def c23_40 : CC := .seq c23_5 c23_39
def c23_41 : CC := .seq c23_0 c23_40
def cf23 : CFn := ⟨55, [.tmp 4, .tmp 5], c23_41⟩

/-! 96: capsule/capsuleref04.Right -/
def c96_0 : CC := .ops [⟨some 1, none, .box 4 (.t 0)⟩,
  ⟨some 2, none, .mv (.c (.bool false))⟩]
def c96_1 : CC := .ops [⟨some 3, none, .faddr (.t 1) 0⟩,
  ⟨some 4, none, .load1 (.t 3)⟩,
  ⟨some 5, none, .bin .geq (.t 4) (.c (.int .i64 ((2 : Nat) : Int))) true .pint⟩,
  ⟨some 6, none, .mv (.t 5)⟩,
  ⟨some 7, (some (6, true)), .faddr (.t 1) 0⟩,
  ⟨some 8, (some (6, true)), .load1 (.t 7)⟩,
  ⟨some 9, (some (6, true)), .bin .leq (.t 8) (.c (.int .i64 ((4096 : Nat) : Int))) true .pint⟩,
  ⟨some 10, none, .pick (.t 6) (.t 9) (.c (.bool false))⟩,
  ⟨some 11, none, .mv (.t 10)⟩,
  ⟨some 12, (some (11, true)), .faddr (.t 1) 1⟩,
  ⟨some 13, (some (11, true)), .load1 (.t 12)⟩,
  ⟨some 14, (some (11, true)), .bin .geq (.t 13) (.c (.int .i64 ((2 : Nat) : Int))) true .pint⟩,
  ⟨some 15, none, .pick (.t 11) (.t 14) (.c (.bool false))⟩,
  ⟨some 16, none, .mv (.t 15)⟩,
  ⟨some 17, (some (16, true)), .faddr (.t 1) 1⟩,
  ⟨some 18, (some (16, true)), .load1 (.t 17)⟩,
  ⟨some 19, (some (16, true)), .bin .leq (.t 18) (.c (.int .i64 ((512 : Nat) : Int))) true .pint⟩,
  ⟨some 20, none, .pick (.t 16) (.t 19) (.c (.bool false))⟩,
  ⟨some 21, none, .mv (.t 20)⟩,
  ⟨some 22, (some (21, true)), .faddr (.t 1) 2⟩,
  ⟨some 23, (some (21, true)), .load1 (.t 22)⟩,
  ⟨some 24, (some (21, true)), .bin .geq (.t 23) (.c (.int .i64 ((1 : Nat) : Int))) true .pint⟩,
  ⟨some 25, none, .pick (.t 21) (.t 24) (.c (.bool false))⟩,
  ⟨some 26, none, .mv (.t 25)⟩,
  ⟨some 27, (some (26, true)), .faddr (.t 1) 2⟩,
  ⟨some 28, (some (26, true)), .load1 (.t 27)⟩,
  ⟨some 29, (some (26, true)), .bin .leq (.t 28) (.c (.int .i64 ((8192 : Nat) : Int))) true .pint⟩,
  ⟨some 30, none, .pick (.t 26) (.t 29) (.c (.bool false))⟩,
  ⟨some 31, none, .mv (.t 30)⟩,
  ⟨some 32, (some (31, true)), .faddr (.t 1) 3⟩,
  ⟨some 33, (some (31, true)), .load1 (.t 32)⟩,
  ⟨some 34, (some (31, true)), .bin .geq (.t 33) (.c (.int .i64 ((1 : Nat) : Int))) true .pint⟩,
  ⟨some 35, none, .pick (.t 31) (.t 34) (.c (.bool false))⟩,
  ⟨some 36, none, .mv (.t 35)⟩,
  ⟨some 37, (some (36, true)), .faddr (.t 1) 3⟩,
  ⟨some 38, (some (36, true)), .load1 (.t 37)⟩,
  ⟨some 39, (some (36, true)), .bin .leq (.t 38) (.c (.int .i64 ((1048576 : Nat) : Int))) true .pint⟩,
  ⟨some 40, none, .pick (.t 36) (.t 39) (.c (.bool false))⟩,
  ⟨some 2, none, .mv (.t 40)⟩]
def c96_2 : CC := .seq c96_1 .ret
def c96_3 : CC := .seq c96_0 c96_2
def cf96 : CFn := ⟨41, [.tmp 2], c96_3⟩

/-! 49: capsule/capsuleref04.pages -/
def c49_0 : CC := .ops [⟨some 4, none, .mv (.c (.nils))⟩]
def c49_1 : CC := .ops [⟨some 7, none, .mv (.t 0)⟩,
  ⟨some 8, none, .mkslice 32 [.int .i64 ((0 : Nat) : Int), .nils] (.t 7) (.t 7)⟩,
  ⟨some 5, none, .mv (.t 8)⟩]
def c49_2 : CC := .ops [⟨some 6, none, .mv (.c (.int .i64 ((0 : Nat) : Int)))⟩]
def c49_3 : CC := .ops [⟨some 9, none, .mv (.t 6)⟩,
  ⟨some 10, none, .mv (.t 0)⟩,
  ⟨some 11, none, .bin .lss (.t 9) (.t 10) false .pint⟩]
def c49_4 : CC := .cond (.t 11) .skip (.exit 0)
def c49_5 : CC := .seq c49_3 c49_4
def c49_6 : CC := .ops [⟨some 14, none, .mv (.t 5)⟩,
  ⟨some 15, none, .mv (.t 6)⟩,
  ⟨some 16, none, .mv (.t 1)⟩,
  ⟨some 17, none, .iaddrS 2 (.t 14) (.t 15)⟩,
  ⟨some 18, none, .faddr (.t 17) 0⟩,
  ⟨none, none, .store 1 (.t 18) (.t 16)⟩]
def c49_7 : CC := .block 1 c49_6
def c49_8 : CC := .ops [⟨some 12, none, .mv (.t 6)⟩,
  ⟨some 13, none, .bin .add (.t 12) (.c (.int .i64 ((1 : Nat) : Int))) true .pint⟩,
  ⟨some 6, none, .mv (.t 13)⟩]
def c49_9 : CC := .seq c49_7 c49_8
def c49_10 : CC := .seq c49_5 c49_9
def c49_11 : CC := .loop c49_10
def c49_12 : CC := .block 0 c49_11
def c49_13 : CC := .seq c49_2 c49_12
def c49_14 : CC := .ops [⟨some 19, none, .mv (.t 5)⟩,
  ⟨some 4, none, .mv (.t 19)⟩]
def c49_15 : CC := .seq c49_14 .ret
def c49_16 : CC := .seq c49_13 c49_15
def c49_17 : CC := .seq c49_1 c49_16
def c49_18 : CC := .seq c49_0 c49_17
def cf49 : CFn := ⟨20, [.tmp 4], c49_18⟩

/-! 36: capsule/capsuleref04.New -/
def c36_0 : CC := .ops [⟨some 2, none, .box 4 (.t 0)⟩,
  ⟨some 4, none, .alloc [.int .i64 ((0 : Nat) : Int), .int .i64 ((0 : Nat) : Int), .int .i64 ((0 : Nat) : Int), .int .i64 ((0 : Nat) : Int), .nils, .nils, .nils, .int .i64 ((0 : Nat) : Int), .int .i64 ((0 : Nat) : Int), .int .i64 ((0 : Nat) : Int), .bool false]⟩,
  ⟨some 5, none, .mv (.c (.int .i64 ((0 : Nat) : Int)))⟩]
def c36_1 : CC := .ops [⟨some 9, none, .loadN 4 (.t 2)⟩,
  ⟨some 10, none, .callv (.c (.fn (.func 96) [] [])) [(.t 9)]⟩,
  ⟨some 11, none, .un .not (.t 10)⟩]
def c36_2 : CC := .ops [⟨some 12, none, .build [.int .i64 ((0 : Nat) : Int), .int .i64 ((0 : Nat) : Int), .int .i64 ((0 : Nat) : Int), .int .i64 ((0 : Nat) : Int), .nils, .nils, .nils, .int .i64 ((0 : Nat) : Int), .int .i64 ((0 : Nat) : Int), .int .i64 ((0 : Nat) : Int), .bool false] []⟩,
  ⟨none, none, .store 11 (.t 4) (.t 12)⟩,
  ⟨some 5, none, .mv (.c (.int .i64 ((2 : Nat) : Int)))⟩]
def c36_3 : CC := .seq c36_2 .ret
def c36_4 : CC := .cond (.t 11) c36_3 .skip
def c36_5 : CC := .seq c36_1 c36_4
def c36_6 : CC := .ops [⟨some 6, none, .mv (.c (.int .i64 ((0 : Nat) : Int)))⟩]
def c36_7 : CC := .ops [⟨some 13, none, .mv (.t 6)⟩,
  ⟨some 14, none, .mv (.t 1)⟩,
  ⟨some 15, none, .lenS (.t 14)⟩,
  ⟨some 16, none, .bin .lss (.t 13) (.t 15) false .pint⟩]
def c36_8 : CC := .cond (.t 16) .skip (.exit 0)
def c36_9 : CC := .seq c36_7 c36_8
def c36_10 : CC := .ops [⟨some 19, none, .mv (.t 1)⟩,
  ⟨some 20, none, .mv (.t 6)⟩,
  ⟨some 21, none, .iaddrS 1 (.t 19) (.t 20)⟩,
  ⟨some 22, none, .load1 (.t 21)⟩,
  ⟨some 23, none, .bin .lss (.t 22) (.c (.int .i64 ((0 : Nat) : Int))) true .pint⟩]
def c36_11 : CC := .ops [⟨some 24, none, .build [.int .i64 ((0 : Nat) : Int), .int .i64 ((0 : Nat) : Int), .int .i64 ((0 : Nat) : Int), .int .i64 ((0 : Nat) : Int), .nils, .nils, .nils, .int .i64 ((0 : Nat) : Int), .int .i64 ((0 : Nat) : Int), .int .i64 ((0 : Nat) : Int), .bool false] []⟩,
  ⟨none, none, .store 11 (.t 4) (.t 24)⟩,
  ⟨some 5, none, .mv (.c (.int .i64 ((2 : Nat) : Int)))⟩]
def c36_12 : CC := .seq c36_11 .ret
def c36_13 : CC := .cond (.t 23) c36_12 .skip
def c36_14 : CC := .seq c36_10 c36_13
def c36_15 : CC := .block 1 c36_14
def c36_16 : CC := .ops [⟨some 17, none, .mv (.t 6)⟩,
  ⟨some 18, none, .bin .add (.t 17) (.c (.int .i64 ((1 : Nat) : Int))) true .pint⟩,
  ⟨some 6, none, .mv (.t 18)⟩]
def c36_17 : CC := .seq c36_15 c36_16
def c36_18 : CC := .seq c36_9 c36_17
def c36_19 : CC := .loop c36_18
def c36_20 : CC := .block 0 c36_19
def c36_21 : CC := .seq c36_6 c36_20
def c36_22 : CC := .alts [⟨[⟨⟨some 25, none, .loadN 4 (.t 2)⟩, [2]⟩, ⟨⟨some 26, none, .bslice 0 [] []⟩, []⟩, ⟨⟨some 27, none, .mv (.t 1)⟩, [1]⟩, ⟨⟨some 29, none, .faddr (.t 2) 0⟩, [2]⟩, ⟨⟨some 30, none, .load1 (.t 29)⟩, [29]⟩, ⟨⟨some 31, none, .mkslice 8 [.int .i64 ((0 : Nat) : Int)] (.t 30) (.t 30)⟩, [30, 30]⟩, ⟨⟨some 7, none, .alloc [.int .i64 ((0 : Nat) : Int), .int .i64 ((0 : Nat) : Int), .int .i64 ((0 : Nat) : Int), .int .i64 ((0 : Nat) : Int), .nils, .nils, .nils, .int .i64 ((0 : Nat) : Int), .int .i64 ((0 : Nat) : Int), .int .i64 ((0 : Nat) : Int), .bool false]⟩, []⟩], [⟨⟨some 25, none, .loadN 4 (.t 2)⟩, [2]⟩, ⟨⟨some 30, none, .load1 (.t 29)⟩, [29]⟩], [⟨⟨⟨some 28, none, .append 1 8 (.t 26) (.t 27)⟩, [26, 27]⟩, [⟨⟨some 32, none, .build [.int .i64 ((0 : Nat) : Int), .int .i64 ((0 : Nat) : Int), .int .i64 ((0 : Nat) : Int), .int .i64 ((0 : Nat) : Int), .nils, .nils, .nils, .int .i64 ((0 : Nat) : Int), .int .i64 ((0 : Nat) : Int), .int .i64 ((0 : Nat) : Int), .bool false] [(0, 4, (.t 25)), (4, 1, (.t 28)), (6, 1, (.t 31)), (8, 1, (.c (.int .i64 (-1))))]⟩, [25, 28, 31]⟩], [⟨⟨some 25, none, .loadN 4 (.t 2)⟩, [2]⟩]⟩, ⟨⟨⟨none, none, .store 11 (.t 7) (.t 32)⟩, [7, 32]⟩, [], []⟩]⟩,
  ⟨[⟨⟨some 25, none, .loadN 4 (.t 2)⟩, [2]⟩, ⟨⟨some 26, none, .bslice 0 [] []⟩, []⟩, ⟨⟨some 27, none, .mv (.t 1)⟩, [1]⟩, ⟨⟨some 29, none, .faddr (.t 2) 0⟩, [2]⟩, ⟨⟨some 30, none, .load1 (.t 29)⟩, [29]⟩, ⟨⟨some 31, none, .mkslice 8 [.int .i64 ((0 : Nat) : Int)] (.t 30) (.t 30)⟩, [30, 30]⟩], [⟨⟨some 25, none, .loadN 4 (.t 2)⟩, [2]⟩, ⟨⟨some 30, none, .load1 (.t 29)⟩, [29]⟩], [⟨⟨⟨some 28, none, .append 1 8 (.t 26) (.t 27)⟩, [26, 27]⟩, [⟨⟨some 32, none, .build [.int .i64 ((0 : Nat) : Int), .int .i64 ((0 : Nat) : Int), .int .i64 ((0 : Nat) : Int), .int .i64 ((0 : Nat) : Int), .nils, .nils, .nils, .int .i64 ((0 : Nat) : Int), .int .i64 ((0 : Nat) : Int), .int .i64 ((0 : Nat) : Int), .bool false] [(0, 4, (.t 25)), (4, 1, (.t 28)), (6, 1, (.t 31)), (8, 1, (.c (.int .i64 (-1))))]⟩, [25, 28, 31]⟩, ⟨⟨some 7, none, .alloc [.int .i64 ((0 : Nat) : Int), .int .i64 ((0 : Nat) : Int), .int .i64 ((0 : Nat) : Int), .int .i64 ((0 : Nat) : Int), .nils, .nils, .nils, .int .i64 ((0 : Nat) : Int), .int .i64 ((0 : Nat) : Int), .int .i64 ((0 : Nat) : Int), .bool false]⟩, []⟩], [⟨⟨some 25, none, .loadN 4 (.t 2)⟩, [2]⟩]⟩, ⟨⟨⟨none, none, .store 11 (.t 7) (.t 32)⟩, [7, 32]⟩, [], []⟩]⟩,
  ⟨[⟨⟨some 25, none, .loadN 4 (.t 2)⟩, [2]⟩, ⟨⟨some 26, none, .bslice 0 [] []⟩, []⟩, ⟨⟨some 27, none, .mv (.t 1)⟩, [1]⟩, ⟨⟨some 29, none, .faddr (.t 2) 0⟩, [2]⟩, ⟨⟨some 30, none, .load1 (.t 29)⟩, [29]⟩, ⟨⟨some 7, none, .alloc [.int .i64 ((0 : Nat) : Int), .int .i64 ((0 : Nat) : Int), .int .i64 ((0 : Nat) : Int), .int .i64 ((0 : Nat) : Int), .nils, .nils, .nils, .int .i64 ((0 : Nat) : Int), .int .i64 ((0 : Nat) : Int), .int .i64 ((0 : Nat) : Int), .bool false]⟩, []⟩], [⟨⟨some 25, none, .loadN 4 (.t 2)⟩, [2]⟩, ⟨⟨some 30, none, .load1 (.t 29)⟩, [29]⟩], [⟨⟨⟨some 28, none, .append 1 8 (.t 26) (.t 27)⟩, [26, 27]⟩, [⟨⟨some 31, none, .mkslice 8 [.int .i64 ((0 : Nat) : Int)] (.t 30) (.t 30)⟩, [30, 30]⟩, ⟨⟨some 32, none, .build [.int .i64 ((0 : Nat) : Int), .int .i64 ((0 : Nat) : Int), .int .i64 ((0 : Nat) : Int), .int .i64 ((0 : Nat) : Int), .nils, .nils, .nils, .int .i64 ((0 : Nat) : Int), .int .i64 ((0 : Nat) : Int), .int .i64 ((0 : Nat) : Int), .bool false] [(0, 4, (.t 25)), (4, 1, (.t 28)), (6, 1, (.t 31)), (8, 1, (.c (.int .i64 (-1))))]⟩, [25, 28, 31]⟩], [⟨⟨some 25, none, .loadN 4 (.t 2)⟩, [2]⟩, ⟨⟨some 29, none, .faddr (.t 2) 0⟩, [2]⟩, ⟨⟨some 30, none, .load1 (.t 29)⟩, [29]⟩]⟩, ⟨⟨⟨none, none, .store 11 (.t 7) (.t 32)⟩, [7, 32]⟩, [], []⟩]⟩,
  ⟨[⟨⟨some 25, none, .loadN 4 (.t 2)⟩, [2]⟩, ⟨⟨some 26, none, .bslice 0 [] []⟩, []⟩, ⟨⟨some 27, none, .mv (.t 1)⟩, [1]⟩, ⟨⟨some 29, none, .faddr (.t 2) 0⟩, [2]⟩, ⟨⟨some 30, none, .load1 (.t 29)⟩, [29]⟩], [⟨⟨some 25, none, .loadN 4 (.t 2)⟩, [2]⟩, ⟨⟨some 30, none, .load1 (.t 29)⟩, [29]⟩], [⟨⟨⟨some 28, none, .append 1 8 (.t 26) (.t 27)⟩, [26, 27]⟩, [⟨⟨some 31, none, .mkslice 8 [.int .i64 ((0 : Nat) : Int)] (.t 30) (.t 30)⟩, [30, 30]⟩, ⟨⟨some 32, none, .build [.int .i64 ((0 : Nat) : Int), .int .i64 ((0 : Nat) : Int), .int .i64 ((0 : Nat) : Int), .int .i64 ((0 : Nat) : Int), .nils, .nils, .nils, .int .i64 ((0 : Nat) : Int), .int .i64 ((0 : Nat) : Int), .int .i64 ((0 : Nat) : Int), .bool false] [(0, 4, (.t 25)), (4, 1, (.t 28)), (6, 1, (.t 31)), (8, 1, (.c (.int .i64 (-1))))]⟩, [25, 28, 31]⟩, ⟨⟨some 7, none, .alloc [.int .i64 ((0 : Nat) : Int), .int .i64 ((0 : Nat) : Int), .int .i64 ((0 : Nat) : Int), .int .i64 ((0 : Nat) : Int), .nils, .nils, .nils, .int .i64 ((0 : Nat) : Int), .int .i64 ((0 : Nat) : Int), .int .i64 ((0 : Nat) : Int), .bool false]⟩, []⟩], [⟨⟨some 25, none, .loadN 4 (.t 2)⟩, [2]⟩, ⟨⟨some 29, none, .faddr (.t 2) 0⟩, [2]⟩, ⟨⟨some 30, none, .load1 (.t 29)⟩, [29]⟩]⟩, ⟨⟨⟨none, none, .store 11 (.t 7) (.t 32)⟩, [7, 32]⟩, [], []⟩]⟩]
def c36_23 : CC := .ops [⟨some 8, none, .mv (.c (.int .i64 ((0 : Nat) : Int)))⟩]
def c36_24 : CC := .ops [⟨some 33, none, .mv (.t 8)⟩,
  ⟨some 34, none, .faddr (.t 2) 0⟩,
  ⟨some 35, none, .load1 (.t 34)⟩,
  ⟨some 36, none, .bin .lss (.t 33) (.t 35) false .pint⟩]
def c36_25 : CC := .cond (.t 36) .skip (.exit 2)
def c36_26 : CC := .seq c36_24 c36_25
def c36_27 : CC := .drawn [⟨⟨some 39, none, .faddr (.t 7) 5⟩, [7]⟩,
  ⟨⟨some 40, none, .load1 (.t 39)⟩, [39]⟩,
  ⟨⟨some 41, none, .faddr (.t 2) 1⟩, [2]⟩,
  ⟨⟨some 42, none, .load1 (.t 41)⟩, [41]⟩]
  []
  [⟨⟨⟨some 43, none, .callv (.c (.fn (.func 49) [] [])) [(.t 42), (.c (.int .i64 ((1 : Nat) : Int)))]⟩, [42]⟩, [⟨⟨some 44, none, .bslice 1 [.nils] [(0, 1, (.t 43))]⟩, [43]⟩], [⟨⟨some 39, none, .faddr (.t 7) 5⟩, [7]⟩, ⟨⟨some 40, none, .load1 (.t 39)⟩, [39]⟩]⟩,
  ⟨⟨⟨some 45, none, .append 1 24 (.t 40) (.t 44)⟩, [40, 44]⟩, [⟨⟨some 46, none, .faddr (.t 7) 5⟩, [7]⟩], []⟩,
  ⟨⟨⟨none, none, .store 1 (.t 46) (.t 45)⟩, [46, 45]⟩, [], []⟩]
def c36_28 : CC := .block 3 c36_27
def c36_29 : CC := .ops [⟨some 37, none, .mv (.t 8)⟩,
  ⟨some 38, none, .bin .add (.t 37) (.c (.int .i64 ((1 : Nat) : Int))) true .pint⟩,
  ⟨some 8, none, .mv (.t 38)⟩]
def c36_30 : CC := .seq c36_28 c36_29
def c36_31 : CC := .seq c36_26 c36_30
def c36_32 : CC := .loop c36_31
def c36_33 : CC := .block 2 c36_32
def c36_34 : CC := .seq c36_23 c36_33
def c36_35 : CC := .ops [⟨some 47, none, .loadN 11 (.t 7)⟩,
  ⟨none, none, .store 11 (.t 4) (.t 47)⟩,
  ⟨some 5, none, .mv (.c (.int .i64 ((0 : Nat) : Int)))⟩]
def c36_36 : CC := .seq c36_35 .ret
def c36_37 : CC := .seq c36_34 c36_36
def c36_38 : CC := .seq c36_22 c36_37
def c36_39 : CC := .seq c36_21 c36_38
def c36_40 : CC := .seq c36_5 c36_39
def c36_41 : CC := .seq c36_0 c36_40
def cf36 : CFn := ⟨48, [.cellN 4 11, .tmp 5], c36_41⟩

/-! 19: capsule/capsulelaw11.num -/
def c19_0 : CC := .ops [⟨some 2, none, .mv (.c (.int .i64 ((0 : Nat) : Int)))⟩]
def c19_1 : CC := .ops [⟨some 3, none, .mv (.t 0)⟩,
  ⟨some 2, none, .mv (.t 3)⟩]
def c19_2 : CC := .seq c19_1 .ret
def c19_3 : CC := .seq c19_0 c19_2
def cf19 : CFn := ⟨4, [.tmp 2], c19_3⟩

/-! 43: (*capsule/flash.Device).none -/
def c43_0 : CC := .ops [⟨some 2, none, .mv (.c (.bool false))⟩]
def c43_1 : CC := .ops [⟨some 3, none, .mv (.t 0)⟩,
  ⟨some 4, none, .bin .eql (.t 3) (.c (.nilp)) true .ptr⟩,
  ⟨some 5, none, .mv (.t 4)⟩,
  ⟨some 6, (some (5, false)), .mv (.t 0)⟩,
  ⟨some 7, (some (5, false)), .nilc (.t 6)⟩,
  ⟨some 8, (some (5, false)), .faddr (.t 7) 5⟩,
  ⟨some 9, (some (5, false)), .load1 (.t 8)⟩,
  ⟨some 10, (some (5, false)), .bin .eql (.t 9) (.c (.nils)) true .nilS⟩,
  ⟨some 11, none, .pick (.t 5) (.c (.bool true)) (.t 10)⟩,
  ⟨some 2, none, .mv (.t 11)⟩]
def c43_2 : CC := .seq c43_1 .ret
def c43_3 : CC := .seq c43_0 c43_2
def cf43 : CFn := ⟨12, [.tmp 2], c43_3⟩

/-! 10: (*capsule/flash.Device).Operations -/
def c10_0 : CC := .ops [⟨some 2, none, .mv (.c (.int .i64 ((0 : Nat) : Int)))⟩]
def c10_1 : CC := .ops [⟨some 3, none, .mv (.t 0)⟩,
  ⟨some 4, none, .callv (.c (.fn (.func 43) [] [])) [(.t 3)]⟩]
def c10_2 : CC := .ops [⟨some 2, none, .mv (.c (.int .i64 ((0 : Nat) : Int)))⟩]
def c10_3 : CC := .seq c10_2 .ret
def c10_4 : CC := .cond (.t 4) c10_3 .skip
def c10_5 : CC := .seq c10_1 c10_4
def c10_6 : CC := .ops [⟨some 5, none, .mv (.t 0)⟩,
  ⟨some 6, none, .nilc (.t 5)⟩,
  ⟨some 7, none, .faddr (.t 6) 6⟩,
  ⟨some 8, none, .load1 (.t 7)⟩,
  ⟨some 2, none, .mv (.t 8)⟩]
def c10_7 : CC := .seq c10_6 .ret
def c10_8 : CC := .seq c10_5 c10_7
def c10_9 : CC := .seq c10_0 c10_8
def cf10 : CFn := ⟨9, [.tmp 2], c10_9⟩

/-! 9: (*capsule/flash.Device).Cut -/
def c9_0 : CC := .ops [⟨some 6, none, .mv (.c (.int .i64 ((0 : Nat) : Int)))⟩]
def c9_1 : CC := .ops [⟨some 8, none, .mv (.t 0)⟩,
  ⟨some 9, none, .callv (.c (.fn (.func 43) [] [])) [(.t 8)]⟩,
  ⟨some 7, none, .mv (.t 9)⟩]
def c9_2 : CC := .ops [⟨some 6, none, .mv (.c (.int .i64 ((1 : Nat) : Int)))⟩]
def c9_3 : CC := .seq c9_2 .ret
def c9_4 : CC := .ops [⟨some 11, none, .mv (.t 1)⟩,
  ⟨some 12, none, .mv (.t 0)⟩,
  ⟨some 13, none, .nilc (.t 12)⟩,
  ⟨some 14, none, .faddr (.t 13) 6⟩,
  ⟨some 15, none, .load1 (.t 14)⟩,
  ⟨some 16, none, .bin .lss (.t 11) (.t 15) false .pint⟩,
  ⟨some 17, none, .mv (.t 16)⟩,
  ⟨some 18, (some (17, false)), .mv (.t 2)⟩,
  ⟨some 19, (some (17, false)), .bin .lss (.t 18) (.c (.int .i64 ((0 : Nat) : Int))) true .pint⟩,
  ⟨some 20, none, .pick (.t 17) (.c (.bool true)) (.t 19)⟩,
  ⟨some 21, none, .mv (.t 20)⟩,
  ⟨some 22, (some (21, false)), .mv (.t 2)⟩,
  ⟨some 23, (some (21, false)), .mv (.t 0)⟩,
  ⟨some 24, (some (21, false)), .nilc (.t 23)⟩,
  ⟨some 25, (some (21, false)), .faddr (.t 24) 0⟩,
  ⟨some 26, (some (21, false)), .faddr (.t 25) 2⟩,
  ⟨some 27, (some (21, false)), .load1 (.t 26)⟩,
  ⟨some 28, (some (21, false)), .bin .add (.t 27) (.c (.int .i64 ((64 : Nat) : Int))) true .pint⟩,
  ⟨some 29, (some (21, false)), .bin .gtr (.t 22) (.t 28) false .pint⟩,
  ⟨some 30, none, .pick (.t 21) (.c (.bool true)) (.t 29)⟩,
  ⟨some 10, none, .mv (.t 30)⟩]
def c9_5 : CC := .ops [⟨some 6, none, .mv (.c (.int .i64 ((2 : Nat) : Int)))⟩]
def c9_6 : CC := .seq c9_5 .ret
def c9_7 : CC := .ops [⟨some 32, none, .mv (.t 0)⟩,
  ⟨some 33, none, .nilc (.t 32)⟩,
  ⟨some 34, none, .faddr (.t 33) 9⟩,
  ⟨some 35, none, .load1 (.t 34)⟩,
  ⟨some 31, none, .mv (.t 35)⟩]
def c9_8 : CC := .ops [⟨some 6, none, .mv (.c (.int .i64 ((50 : Nat) : Int)))⟩]
def c9_9 : CC := .seq c9_8 .ret
def c9_10 : CC := .cond (.t 31) c9_9 .skip
def c9_11 : CC := .seq c9_7 c9_10
def c9_12 : CC := .cond (.t 10) c9_6 c9_11
def c9_13 : CC := .seq c9_4 c9_12
def c9_14 : CC := .cond (.t 7) c9_3 c9_13
def c9_15 : CC := .seq c9_1 c9_14
def c9_16 : CC := .block 0 c9_15
def c9_17 : CC := .ops [⟨some 36, none, .mv (.t 0)⟩,
  ⟨some 37, none, .mv (.t 0)⟩,
  ⟨some 38, none, .mv (.t 1)⟩,
  ⟨some 39, none, .mv (.t 2)⟩,
  ⟨some 40, none, .nilc (.t 36)⟩,
  ⟨some 41, none, .faddr (.t 40) 7⟩,
  ⟨none, none, .store 1 (.t 41) (.t 38)⟩,
  ⟨some 42, none, .nilc (.t 37)⟩,
  ⟨some 43, none, .faddr (.t 42) 8⟩,
  ⟨none, none, .store 1 (.t 43) (.t 39)⟩]
def c9_18 : CC := .ops [⟨some 6, none, .mv (.c (.int .i64 ((0 : Nat) : Int)))⟩]
def c9_19 : CC := .seq c9_18 .ret
def c9_20 : CC := .seq c9_17 c9_19
def c9_21 : CC := .seq c9_16 c9_20
def c9_22 : CC := .seq c9_0 c9_21
def cf9 : CFn := ⟨44, [.tmp 6], c9_22⟩

/-! 11: (capsule/capsuleref04.Device).Pend -/
def c11_0 : CC := .ops [⟨some 3, none, .box 11 (.t 0)⟩,
  ⟨some 6, none, .alloc [.int .i64 ((0 : Nat) : Int), .int .i64 ((0 : Nat) : Int), .int .i64 ((0 : Nat) : Int), .int .i64 ((0 : Nat) : Int), .nils, .nils, .nils, .int .i64 ((0 : Nat) : Int), .int .i64 ((0 : Nat) : Int), .int .i64 ((0 : Nat) : Int), .bool false]⟩,
  ⟨some 7, none, .mv (.c (.int .i64 ((0 : Nat) : Int)))⟩]
def c11_1 : CC := .ops [⟨some 8, none, .mv (.t 1)⟩,
  ⟨some 9, none, .faddr (.t 3) 7⟩,
  ⟨some 10, none, .load1 (.t 9)⟩,
  ⟨some 11, none, .bin .lss (.t 8) (.t 10) false .pint⟩,
  ⟨some 12, none, .mv (.t 11)⟩,
  ⟨some 13, (some (12, false)), .mv (.t 2)⟩,
  ⟨some 14, (some (12, false)), .bin .lss (.t 13) (.c (.int .i64 ((0 : Nat) : Int))) true .pint⟩,
  ⟨some 15, none, .pick (.t 12) (.c (.bool true)) (.t 14)⟩,
  ⟨some 16, none, .mv (.t 15)⟩,
  ⟨some 17, (some (16, false)), .mv (.t 2)⟩,
  ⟨some 18, (some (16, false)), .faddr (.t 3) 0⟩,
  ⟨some 19, (some (16, false)), .faddr (.t 18) 2⟩,
  ⟨some 20, (some (16, false)), .load1 (.t 19)⟩,
  ⟨some 21, (some (16, false)), .bin .add (.t 20) (.c (.int .i64 ((64 : Nat) : Int))) true .pint⟩,
  ⟨some 22, (some (16, false)), .bin .gtr (.t 17) (.t 21) false .pint⟩,
  ⟨some 23, none, .pick (.t 16) (.c (.bool true)) (.t 22)⟩]
def c11_2 : CC := .ops [⟨some 24, none, .loadN 11 (.t 3)⟩,
  ⟨none, none, .store 11 (.t 6) (.t 24)⟩,
  ⟨some 7, none, .mv (.c (.int .i64 ((2 : Nat) : Int)))⟩]
def c11_3 : CC := .seq c11_2 .ret
def c11_4 : CC := .cond (.t 23) c11_3 .skip
def c11_5 : CC := .seq c11_1 c11_4
def c11_6 : CC := .ops [⟨some 25, none, .faddr (.t 3) 10⟩,
  ⟨some 26, none, .load1 (.t 25)⟩]
def c11_7 : CC := .ops [⟨some 27, none, .loadN 11 (.t 3)⟩,
  ⟨none, none, .store 11 (.t 6) (.t 27)⟩,
  ⟨some 7, none, .mv (.c (.int .i64 ((50 : Nat) : Int)))⟩]
def c11_8 : CC := .seq c11_7 .ret
def c11_9 : CC := .cond (.t 26) c11_8 .skip
def c11_10 : CC := .seq c11_6 c11_9
def c11_11 : CC := .ops [⟨some 28, none, .mv (.t 1)⟩,
  ⟨some 29, none, .mv (.t 2)⟩,
  ⟨some 30, none, .faddr (.t 3) 8⟩,
  ⟨none, none, .store 1 (.t 30) (.t 28)⟩,
  ⟨some 31, none, .faddr (.t 3) 9⟩,
  ⟨none, none, .store 1 (.t 31) (.t 29)⟩]
def c11_12 : CC := .ops [⟨some 32, none, .loadN 11 (.t 3)⟩,
  ⟨none, none, .store 11 (.t 6) (.t 32)⟩,
  ⟨some 7, none, .mv (.c (.int .i64 ((0 : Nat) : Int)))⟩]
def c11_13 : CC := .seq c11_12 .ret
def c11_14 : CC := .seq c11_11 c11_13
def c11_15 : CC := .seq c11_10 c11_14
def c11_16 : CC := .seq c11_5 c11_15
def c11_17 : CC := .seq c11_0 c11_16
def cf11 : CFn := ⟨33, [.cellN 6 11, .tmp 7], c11_17⟩

/-! 46: (capsule/capsuleref04.Device).Exists -/
def c46_0 : CC := .ops [⟨some 2, none, .box 11 (.t 0)⟩,
  ⟨some 4, none, .mv (.c (.bool false))⟩]
def c46_1 : CC := .ops [⟨some 5, none, .mv (.t 1)⟩,
  ⟨some 6, none, .bin .geq (.t 5) (.c (.int .i64 ((0 : Nat) : Int))) true .pint⟩,
  ⟨some 7, none, .mv (.t 6)⟩,
  ⟨some 8, (some (7, true)), .mv (.t 1)⟩,
  ⟨some 9, (some (7, true)), .faddr (.t 2) 5⟩,
  ⟨some 10, (some (7, true)), .load1 (.t 9)⟩,
  ⟨some 11, (some (7, true)), .lenS (.t 10)⟩,
  ⟨some 12, (some (7, true)), .bin .lss (.t 8) (.t 11) false .pint⟩,
  ⟨some 13, none, .pick (.t 7) (.t 12) (.c (.bool false))⟩,
  ⟨some 4, none, .mv (.t 13)⟩]
def c46_2 : CC := .seq c46_1 .ret
def c46_3 : CC := .seq c46_0 c46_2
def cf46 : CFn := ⟨14, [.tmp 4], c46_3⟩

/-! 47: (capsule/capsuleref04.Device).fails -/
def c47_0 : CC := .ops [⟨some 1, none, .box 11 (.t 0)⟩,
  ⟨some 2, none, .mv (.c (.bool false))⟩]
def c47_1 : CC := .ops [⟨some 3, none, .mv (.c (.int .i64 ((0 : Nat) : Int)))⟩]
def c47_2 : CC := .ops [⟨some 4, none, .mv (.t 3)⟩,
  ⟨some 5, none, .faddr (.t 1) 4⟩,
  ⟨some 6, none, .load1 (.t 5)⟩,
  ⟨some 7, none, .lenS (.t 6)⟩,
  ⟨some 8, none, .bin .lss (.t 4) (.t 7) false .pint⟩]
def c47_3 : CC := .cond (.t 8) .skip (.exit 0)
def c47_4 : CC := .seq c47_2 c47_3
def c47_5 : CC := .drawn [⟨⟨some 11, none, .faddr (.t 1) 4⟩, [1]⟩,
  ⟨⟨some 12, none, .load1 (.t 11)⟩, [11]⟩,
  ⟨⟨some 13, none, .mv (.t 3)⟩, [3]⟩,
  ⟨⟨some 14, none, .iaddrS 1 (.t 12) (.t 13)⟩, [12, 13]⟩,
  ⟨⟨some 15, none, .load1 (.t 14)⟩, [14]⟩,
  ⟨⟨some 16, none, .faddr (.t 1) 7⟩, [1]⟩,
  ⟨⟨some 17, none, .load1 (.t 16)⟩, [16]⟩,
  ⟨⟨some 18, none, .bin .eql (.t 15) (.t 17) false .pint⟩, [15, 17]⟩]
  []
  []
def c47_6 : CC := .ops [⟨some 2, none, .mv (.c (.bool true))⟩]
def c47_7 : CC := .seq c47_6 .ret
def c47_8 : CC := .cond (.t 18) c47_7 .skip
def c47_9 : CC := .seq c47_5 c47_8
def c47_10 : CC := .block 1 c47_9
def c47_11 : CC := .ops [⟨some 9, none, .mv (.t 3)⟩,
  ⟨some 10, none, .bin .add (.t 9) (.c (.int .i64 ((1 : Nat) : Int))) true .pint⟩,
  ⟨some 3, none, .mv (.t 10)⟩]
def c47_12 : CC := .seq c47_10 c47_11
def c47_13 : CC := .seq c47_4 c47_12
def c47_14 : CC := .loop c47_13
def c47_15 : CC := .block 0 c47_14
def c47_16 : CC := .seq c47_1 c47_15
def c47_17 : CC := .ops [⟨some 2, none, .mv (.c (.bool false))⟩]
def c47_18 : CC := .seq c47_17 .ret
def c47_19 : CC := .seq c47_16 c47_18
def c47_20 : CC := .seq c47_0 c47_19
def cf47 : CFn := ⟨19, [.tmp 2], c47_20⟩

/-! 48: (capsule/capsuleref04.Device).with -/
def c48_0 : CC := .ops [⟨some 3, none, .box 11 (.t 0)⟩,
  ⟨some 6, none, .alloc [.int .i64 ((0 : Nat) : Int), .int .i64 ((0 : Nat) : Int), .int .i64 ((0 : Nat) : Int), .int .i64 ((0 : Nat) : Int), .nils, .nils, .nils, .int .i64 ((0 : Nat) : Int), .int .i64 ((0 : Nat) : Int), .int .i64 ((0 : Nat) : Int), .bool false]⟩]
def c48_1 : CC := .ops [⟨some 7, none, .bslice 0 [] []⟩,
  ⟨some 8, none, .faddr (.t 3) 5⟩,
  ⟨some 9, none, .load1 (.t 8)⟩,
  ⟨some 10, none, .append 1 24 (.t 7) (.t 9)⟩,
  ⟨some 11, none, .faddr (.t 3) 5⟩,
  ⟨none, none, .store 1 (.t 11) (.t 10)⟩]
def c48_2 : CC := .ops [⟨some 12, none, .faddr (.t 3) 5⟩,
  ⟨some 13, none, .load1 (.t 12)⟩,
  ⟨some 14, none, .mv (.t 1)⟩,
  ⟨some 15, none, .mv (.t 2)⟩,
  ⟨some 16, none, .iaddrS 1 (.t 13) (.t 14)⟩,
  ⟨none, none, .store 1 (.t 16) (.t 15)⟩]
def c48_3 : CC := .ops [⟨some 17, none, .loadN 11 (.t 3)⟩,
  ⟨none, none, .store 11 (.t 6) (.t 17)⟩]
def c48_4 : CC := .seq c48_3 .ret
def c48_5 : CC := .seq c48_2 c48_4
def c48_6 : CC := .seq c48_1 c48_5
def c48_7 : CC := .seq c48_0 c48_6
def cf48 : CFn := ⟨18, [.cellN 6 11], c48_7⟩

/-! 13: (capsule/capsuleref04.Device).Erase -/
def c13_0 : CC := .ops [⟨some 2, none, .box 11 (.t 0)⟩,
  ⟨some 4, none, .alloc [.int .i64 ((0 : Nat) : Int), .int .i64 ((0 : Nat) : Int), .int .i64 ((0 : Nat) : Int), .int .i64 ((0 : Nat) : Int), .nils, .nils, .nils, .int .i64 ((0 : Nat) : Int), .int .i64 ((0 : Nat) : Int), .int .i64 ((0 : Nat) : Int), .bool false]⟩,
  ⟨some 5, none, .mv (.c (.int .i64 ((0 : Nat) : Int)))⟩]
def c13_1 : CC := .ops [⟨some 8, none, .loadN 11 (.t 2)⟩,
  ⟨some 9, none, .mv (.t 1)⟩,
  ⟨some 10, none, .callv (.c (.fn (.func 46) [] [])) [(.t 8), (.t 9)]⟩,
  ⟨some 11, none, .un .not (.t 10)⟩]
def c13_2 : CC := .ops [⟨some 12, none, .loadN 11 (.t 2)⟩,
  ⟨none, none, .store 11 (.t 4) (.t 12)⟩,
  ⟨some 5, none, .mv (.c (.int .i64 ((2 : Nat) : Int)))⟩]
def c13_3 : CC := .seq c13_2 .ret
def c13_4 : CC := .cond (.t 11) c13_3 .skip
def c13_5 : CC := .seq c13_1 c13_4
def c13_6 : CC := .ops [⟨some 13, none, .faddr (.t 2) 10⟩,
  ⟨some 14, none, .load1 (.t 13)⟩]
def c13_7 : CC := .ops [⟨some 15, none, .loadN 11 (.t 2)⟩,
  ⟨none, none, .store 11 (.t 4) (.t 15)⟩,
  ⟨some 5, none, .mv (.c (.int .i64 ((50 : Nat) : Int)))⟩]
def c13_8 : CC := .seq c13_7 .ret
def c13_9 : CC := .cond (.t 14) c13_8 .skip
def c13_10 : CC := .seq c13_6 c13_9
def c13_11 : CC := .drawn [⟨⟨some 16, none, .faddr (.t 2) 6⟩, [2]⟩,
  ⟨⟨some 17, none, .load1 (.t 16)⟩, [16]⟩,
  ⟨⟨some 18, none, .mv (.t 1)⟩, [1]⟩,
  ⟨⟨some 19, none, .iaddrS 1 (.t 17) (.t 18)⟩, [17, 18]⟩,
  ⟨⟨some 20, none, .load1 (.t 19)⟩, [19]⟩,
  ⟨⟨some 21, none, .faddr (.t 2) 0⟩, [2]⟩,
  ⟨⟨some 22, none, .faddr (.t 21) 3⟩, [21]⟩,
  ⟨⟨some 23, none, .load1 (.t 22)⟩, [22]⟩,
  ⟨⟨some 24, none, .bin .geq (.t 20) (.t 23) false .pint⟩, [20, 23]⟩]
  []
  []
def c13_12 : CC := .ops [⟨some 25, none, .loadN 11 (.t 2)⟩,
  ⟨none, none, .store 11 (.t 4) (.t 25)⟩,
  ⟨some 5, none, .mv (.c (.int .i64 ((56 : Nat) : Int)))⟩]
def c13_13 : CC := .seq c13_12 .ret
def c13_14 : CC := .cond (.t 24) c13_13 .skip
def c13_15 : CC := .seq c13_11 c13_14
def c13_16 : CC := .ops [⟨some 6, none, .mv (.c (.int .i64 ((1 : Nat) : Int)))⟩,
  ⟨some 7, none, .mv (.c (.int .i64 ((0 : Nat) : Int)))⟩]
def c13_17 : CC := .ops [⟨some 26, none, .faddr (.t 2) 7⟩,
  ⟨some 27, none, .load1 (.t 26)⟩,
  ⟨some 28, none, .faddr (.t 2) 8⟩,
  ⟨some 29, none, .load1 (.t 28)⟩,
  ⟨some 30, none, .bin .eql (.t 27) (.t 29) false .pint⟩]
def c13_18 : CC := .ops [⟨some 6, none, .mv (.c (.int .i64 ((5 : Nat) : Int)))⟩,
  ⟨some 7, none, .mv (.c (.int .i64 ((50 : Nat) : Int)))⟩]
def c13_19 : CC := .ops [⟨some 31, none, .faddr (.t 2) 10⟩,
  ⟨none, none, .store 1 (.t 31) (.c (.bool true))⟩]
def c13_20 : CC := .seq c13_18 c13_19
def c13_21 : CC := .ops [⟨some 32, none, .loadN 11 (.t 2)⟩,
  ⟨some 33, none, .callv (.c (.fn (.func 47) [] [])) [(.t 32)]⟩]
def c13_22 : CC := .ops [⟨some 6, none, .mv (.c (.int .i64 ((5 : Nat) : Int)))⟩,
  ⟨some 7, none, .mv (.c (.int .i64 ((55 : Nat) : Int)))⟩]
def c13_23 : CC := .cond (.t 33) c13_22 .skip
def c13_24 : CC := .seq c13_21 c13_23
def c13_25 : CC := .cond (.t 30) c13_20 c13_24
def c13_26 : CC := .seq c13_17 c13_25
def c13_27 : CC := .drawn [⟨⟨some 34, none, .loadN 11 (.t 2)⟩, [2]⟩,
  ⟨⟨some 35, none, .mv (.t 1)⟩, [1]⟩,
  ⟨⟨some 36, none, .faddr (.t 2) 0⟩, [2]⟩,
  ⟨⟨some 37, none, .faddr (.t 36) 1⟩, [36]⟩,
  ⟨⟨some 38, none, .load1 (.t 37)⟩, [37]⟩,
  ⟨⟨some 39, none, .mv (.t 6)⟩, [6]⟩]
  []
  [⟨⟨⟨some 40, none, .callv (.c (.fn (.func 49) [] [])) [(.t 38), (.t 39)]⟩, [38, 39]⟩, [], [⟨⟨some 34, none, .loadN 11 (.t 2)⟩, [2]⟩, ⟨⟨some 35, none, .mv (.t 1)⟩, [1]⟩]⟩,
  ⟨⟨⟨some 41, none, .callv (.c (.fn (.func 48) [] [])) [(.t 34), (.t 35), (.t 40)]⟩, [34, 35, 40]⟩, [], []⟩,
  ⟨⟨⟨none, none, .store 11 (.t 2) (.t 41)⟩, [2, 41]⟩, [], []⟩]
def c13_28 : CC := .ops [⟨some 42, none, .bslice 0 [] []⟩,
  ⟨some 43, none, .faddr (.t 2) 6⟩,
  ⟨some 44, none, .load1 (.t 43)⟩,
  ⟨some 45, none, .append 1 8 (.t 42) (.t 44)⟩,
  ⟨some 46, none, .faddr (.t 2) 6⟩,
  ⟨none, none, .store 1 (.t 46) (.t 45)⟩]
def c13_29 : CC := .ops [⟨some 47, none, .faddr (.t 2) 6⟩,
  ⟨some 48, none, .load1 (.t 47)⟩,
  ⟨some 49, none, .mv (.t 1)⟩,
  ⟨some 50, none, .iaddrS 1 (.t 48) (.t 49)⟩,
  ⟨some 51, none, .load1 (.t 50)⟩,
  ⟨some 52, none, .bin .add (.t 51) (.c (.int .i64 ((1 : Nat) : Int))) true .pint⟩,
  ⟨some 53, none, .iaddrS 1 (.t 48) (.t 49)⟩,
  ⟨none, none, .store 1 (.t 53) (.t 52)⟩]
def c13_30 : CC := .ops [⟨some 54, none, .faddr (.t 2) 7⟩,
  ⟨some 55, none, .load1 (.t 54)⟩,
  ⟨some 56, none, .bin .add (.t 55) (.c (.int .i64 ((1 : Nat) : Int))) true .pint⟩,
  ⟨some 57, none, .faddr (.t 2) 7⟩,
  ⟨none, none, .store 1 (.t 57) (.t 56)⟩]
def c13_31 : CC := .ops [⟨some 58, none, .loadN 11 (.t 2)⟩,
  ⟨some 59, none, .mv (.t 7)⟩,
  ⟨none, none, .store 11 (.t 4) (.t 58)⟩,
  ⟨some 5, none, .mv (.t 59)⟩]
def c13_32 : CC := .seq c13_31 .ret
def c13_33 : CC := .seq c13_30 c13_32
def c13_34 : CC := .seq c13_29 c13_33
def c13_35 : CC := .seq c13_28 c13_34
def c13_36 : CC := .seq c13_27 c13_35
def c13_37 : CC := .seq c13_26 c13_36
def c13_38 : CC := .seq c13_16 c13_37
def c13_39 : CC := .seq c13_15 c13_38
def c13_40 : CC := .seq c13_10 c13_39
def c13_41 : CC := .seq c13_5 c13_40
def c13_42 : CC := .seq c13_0 c13_41
def cf13 : CFn := ⟨60, [.cellN 4 11, .tmp 5], c13_42⟩

/-! 44: (*capsule/flash.Device).has -/
def c44_0 : CC := .ops [⟨some 4, none, .mv (.c (.bool false))⟩]
def c44_1 : CC := .ops [⟨some 5, none, .mv (.t 1)⟩,
  ⟨some 6, none, .bin .geq (.t 5) (.c (.int .i64 ((0 : Nat) : Int))) true .pint⟩,
  ⟨some 7, none, .mv (.t 6)⟩,
  ⟨some 8, (some (7, true)), .mv (.t 1)⟩,
  ⟨some 9, (some (7, true)), .mv (.t 0)⟩,
  ⟨some 10, (some (7, true)), .nilc (.t 9)⟩,
  ⟨some 11, (some (7, true)), .faddr (.t 10) 5⟩,
  ⟨some 12, (some (7, true)), .load1 (.t 11)⟩,
  ⟨some 13, (some (7, true)), .lenS (.t 12)⟩,
  ⟨some 14, (some (7, true)), .bin .lss (.t 8) (.t 13) false .pint⟩,
  ⟨some 15, none, .pick (.t 7) (.t 14) (.c (.bool false))⟩,
  ⟨some 4, none, .mv (.t 15)⟩]
def c44_2 : CC := .seq c44_1 .ret
def c44_3 : CC := .seq c44_0 c44_2
def cf44 : CFn := ⟨16, [.tmp 4], c44_3⟩

/-! 105: (*capsule/flash.Device).erase$1 -/
def c105_0 : CC := .drawn [⟨⟨some 2, none, .load1 (.t 0)⟩, [0]⟩,
  ⟨⟨some 3, none, .load1 (.t 1)⟩, [1]⟩,
  ⟨⟨some 4, none, .nilc (.t 3)⟩, [3]⟩,
  ⟨⟨some 5, none, .faddr (.t 4) 0⟩, [4]⟩,
  ⟨⟨some 6, none, .faddr (.t 5) 1⟩, [5]⟩,
  ⟨⟨some 7, none, .load1 (.t 6)⟩, [6]⟩]
  []
  [⟨⟨⟨some 8, none, .callv (.c (.fn (.func 76) [] [])) [(.t 2), (.t 7), (.c (.int .i64 ((5 : Nat) : Int)))]⟩, [2, 7]⟩, [], []⟩]
def cf105 : CFn := ⟨9, [], c105_0⟩

/-! 107: (*capsule/flash.Device).erase$2 -/
def c107_0 : CC := .drawn [⟨⟨some 2, none, .load1 (.t 0)⟩, [0]⟩,
  ⟨⟨some 3, none, .load1 (.t 1)⟩, [1]⟩,
  ⟨⟨some 4, none, .nilc (.t 3)⟩, [3]⟩,
  ⟨⟨some 5, none, .faddr (.t 4) 0⟩, [4]⟩,
  ⟨⟨some 6, none, .faddr (.t 5) 1⟩, [5]⟩,
  ⟨⟨some 7, none, .load1 (.t 6)⟩, [6]⟩]
  []
  [⟨⟨⟨some 8, none, .callv (.c (.fn (.func 76) [] [])) [(.t 2), (.t 7), (.c (.int .i64 ((1 : Nat) : Int)))]⟩, [2, 7]⟩, [], []⟩]
def cf107 : CFn := ⟨9, [], c107_0⟩

/-! 106: (*capsule/flash.Device).execute -/
def c106_0 : CC := .ops [⟨some 10, none, .mv (.c (.int .i64 ((0 : Nat) : Int)))⟩]
def c106_1 : CC := .ops [⟨some 12, none, .mv (.t 0)⟩,
  ⟨some 13, none, .nilc (.t 12)⟩,
  ⟨some 14, none, .faddr (.t 13) 6⟩,
  ⟨some 15, none, .load1 (.t 14)⟩,
  ⟨some 11, none, .mv (.t 15)⟩]
def c106_2 : CC := .ops [⟨some 16, none, .mv (.t 0)⟩,
  ⟨some 17, none, .nilc (.t 16)⟩,
  ⟨some 18, none, .faddr (.t 17) 6⟩,
  ⟨some 19, none, .load1 (.t 18)⟩,
  ⟨some 20, none, .bin .add (.t 19) (.c (.int .i64 ((1 : Nat) : Int))) true .pint⟩,
  ⟨some 21, none, .nilc (.t 16)⟩,
  ⟨some 22, none, .faddr (.t 21) 6⟩,
  ⟨none, none, .store 1 (.t 22) (.t 20)⟩]
def c106_3 : CC := .ops [⟨some 24, none, .mv (.t 11)⟩,
  ⟨some 25, none, .mv (.t 0)⟩,
  ⟨some 26, none, .nilc (.t 25)⟩,
  ⟨some 27, none, .faddr (.t 26) 7⟩,
  ⟨some 28, none, .load1 (.t 27)⟩,
  ⟨some 29, none, .bin .eql (.t 24) (.t 28) false .pint⟩,
  ⟨some 23, none, .mv (.t 29)⟩]
def c106_4 : CC := .ops [⟨some 30, none, .mv (.t 0)⟩,
  ⟨some 31, none, .nilc (.t 30)⟩,
  ⟨some 32, none, .faddr (.t 31) 9⟩,
  ⟨none, none, .store 1 (.t 32) (.c (.bool true))⟩]
def c106_5 : CC := .ops [⟨some 33, none, .mv (.t 3)⟩,
  ⟨some 34, none, .callv (.t 33) []⟩]
def c106_6 : CC := .ops [⟨some 10, none, .mv (.c (.int .i64 ((50 : Nat) : Int)))⟩]
def c106_7 : CC := .seq c106_6 .ret
def c106_8 : CC := .seq c106_5 c106_7
def c106_9 : CC := .seq c106_4 c106_8
def c106_10 : CC := .ops [⟨some 36, none, .mv (.t 0)⟩,
  ⟨some 37, none, .nilc (.t 36)⟩,
  ⟨some 38, none, .faddr (.t 37) 4⟩,
  ⟨some 39, none, .load1 (.t 38)⟩,
  ⟨some 40, none, .mv (.t 11)⟩,
  ⟨some 41, none, .lookup .pint (.bool false) (.t 39) (.t 40) false⟩,
  ⟨some 35, none, .mv (.t 41)⟩]
def c106_11 : CC := .ops [⟨some 42, none, .mv (.t 2)⟩,
  ⟨some 43, none, .callv (.t 42) []⟩]
def c106_12 : CC := .ops [⟨some 44, none, .mv (.t 4)⟩,
  ⟨some 10, none, .mv (.t 44)⟩]
def c106_13 : CC := .seq c106_12 .ret
def c106_14 : CC := .seq c106_11 c106_13
def c106_15 : CC := .cond (.t 35) c106_14 .skip
def c106_16 : CC := .seq c106_10 c106_15
def c106_17 : CC := .cond (.t 23) c106_9 c106_16
def c106_18 : CC := .seq c106_3 c106_17
def c106_19 : CC := .block 0 c106_18
def c106_20 : CC := .ops [⟨some 45, none, .mv (.t 1)⟩,
  ⟨some 46, none, .callv (.t 45) []⟩]
def c106_21 : CC := .ops [⟨some 10, none, .mv (.c (.int .i64 ((0 : Nat) : Int)))⟩]
def c106_22 : CC := .seq c106_21 .ret
def c106_23 : CC := .seq c106_20 c106_22
def c106_24 : CC := .seq c106_19 c106_23
def c106_25 : CC := .seq c106_2 c106_24
def c106_26 : CC := .seq c106_1 c106_25
def c106_27 : CC := .seq c106_0 c106_26
def cf106 : CFn := ⟨47, [.tmp 10], c106_27⟩

/-! 45: (*capsule/flash.Device).erase -/
def c45_0 : CC := .ops [⟨some 2, none, .box 1 (.t 0)⟩,
  ⟨some 3, none, .box 1 (.t 1)⟩,
  ⟨some 4, none, .mv (.c (.int .i64 ((0 : Nat) : Int)))⟩]
def c45_1 : CC := .ops [⟨some 6, none, .load1 (.t 3)⟩,
  ⟨some 7, none, .nilc (.t 6)⟩,
  ⟨some 8, none, .faddr (.t 7) 2⟩,
  ⟨some 9, none, .load1 (.t 8)⟩,
  ⟨some 10, none, .bin .add (.t 9) (.c (.int .i64 ((1 : Nat) : Int))) true .pint⟩,
  ⟨some 11, none, .nilc (.t 6)⟩,
  ⟨some 12, none, .faddr (.t 11) 2⟩,
  ⟨none, none, .store 1 (.t 12) (.t 10)⟩]
def c45_2 : CC := .ops [⟨some 13, none, .mkfn (.func 105) [] [(.t 3), (.t 2)]⟩,
  ⟨some 5, none, .mv (.t 13)⟩]
def c45_3 : CC := .ops [⟨some 14, none, .load1 (.t 2)⟩,
  ⟨some 15, none, .mkfn (.func 107) [] [(.t 3), (.t 2)]⟩,
  ⟨some 16, none, .mv (.t 5)⟩,
  ⟨some 17, none, .mv (.t 5)⟩,
  ⟨some 18, none, .callv (.c (.fn (.func 106) [] [])) [(.t 14), (.t 15), (.t 16), (.t 17), (.c (.int .i64 ((55 : Nat) : Int)))]⟩,
  ⟨some 4, none, .mv (.t 18)⟩]
def c45_4 : CC := .seq c45_3 .ret
def c45_5 : CC := .seq c45_2 c45_4
def c45_6 : CC := .seq c45_1 c45_5
def c45_7 : CC := .seq c45_0 c45_6
def cf45 : CFn := ⟨19, [.tmp 4], c45_7⟩

/-! 12: (*capsule/flash.Device).Erase -/
def c12_0 : CC := .ops [⟨some 4, none, .mv (.c (.int .i64 ((0 : Nat) : Int)))⟩]
def c12_1 : CC := .ops [⟨some 4, none, .mv (.c (.int .i64 ((1 : Nat) : Int)))⟩]
def c12_2 : CC := .ops [⟨some 5, none, .mv (.t 0)⟩,
  ⟨some 6, none, .callv (.c (.fn (.func 43) [] [])) [(.t 5)]⟩]
def c12_3 : CC := .cond (.t 6) (.goto 0) .skip
def c12_4 : CC := .seq c12_2 c12_3
def c12_5 : CC := .seq c12_1 c12_4
def c12_6 : CC := .ops [⟨some 4, none, .mv (.c (.int .i64 ((2 : Nat) : Int)))⟩]
def c12_7 : CC := .ops [⟨some 7, none, .mv (.t 0)⟩,
  ⟨some 8, none, .mv (.t 1)⟩,
  ⟨some 9, none, .callv (.c (.fn (.func 44) [] [])) [(.t 7), (.t 8)]⟩,
  ⟨some 10, none, .un .not (.t 9)⟩]
def c12_8 : CC := .cond (.t 10) (.goto 0) .skip
def c12_9 : CC := .seq c12_7 c12_8
def c12_10 : CC := .seq c12_6 c12_9
def c12_11 : CC := .ops [⟨some 4, none, .mv (.c (.int .i64 ((50 : Nat) : Int)))⟩]
def c12_12 : CC := .ops [⟨some 11, none, .mv (.t 0)⟩,
  ⟨some 12, none, .nilc (.t 11)⟩,
  ⟨some 13, none, .faddr (.t 12) 9⟩,
  ⟨some 14, none, .load1 (.t 13)⟩]
def c12_13 : CC := .cond (.t 14) (.goto 0) .skip
def c12_14 : CC := .seq c12_12 c12_13
def c12_15 : CC := .seq c12_11 c12_14
def c12_16 : CC := .ops [⟨some 4, none, .mv (.c (.int .i64 ((56 : Nat) : Int)))⟩]
def c12_17 : CC := .drawn [⟨⟨some 15, none, .mv (.t 0)⟩, [0]⟩,
  ⟨⟨some 16, none, .nilc (.t 15)⟩, [15]⟩,
  ⟨⟨some 17, none, .faddr (.t 16) 5⟩, [16]⟩,
  ⟨⟨some 18, none, .load1 (.t 17)⟩, [17]⟩,
  ⟨⟨some 19, none, .mv (.t 1)⟩, [1]⟩,
  ⟨⟨some 20, none, .iaddrS 3 (.t 18) (.t 19)⟩, [18, 19]⟩,
  ⟨⟨some 21, none, .faddr (.t 20) 2⟩, [20]⟩,
  ⟨⟨some 22, none, .load1 (.t 21)⟩, [21]⟩,
  ⟨⟨some 23, none, .mv (.t 0)⟩, [0]⟩,
  ⟨⟨some 24, none, .nilc (.t 23)⟩, [23]⟩,
  ⟨⟨some 25, none, .faddr (.t 24) 0⟩, [24]⟩,
  ⟨⟨some 26, none, .faddr (.t 25) 3⟩, [25]⟩,
  ⟨⟨some 27, none, .load1 (.t 26)⟩, [26]⟩,
  ⟨⟨some 28, none, .bin .geq (.t 22) (.t 27) false .pint⟩, [22, 27]⟩]
  []
  []
def c12_18 : CC := .cond (.t 28) (.goto 0) .skip
def c12_19 : CC := .seq c12_17 c12_18
def c12_20 : CC := .seq c12_16 c12_19
def c12_21 : CC := .ops [⟨some 29, none, .mv (.t 0)⟩,
  ⟨some 30, none, .mv (.t 0)⟩,
  ⟨some 31, none, .nilc (.t 30)⟩,
  ⟨some 32, none, .faddr (.t 31) 5⟩,
  ⟨some 33, none, .load1 (.t 32)⟩,
  ⟨some 34, none, .mv (.t 1)⟩,
  ⟨some 35, none, .iaddrS 3 (.t 33) (.t 34)⟩,
  ⟨some 36, none, .callv (.c (.fn (.func 45) [] [])) [(.t 29), (.t 35)]⟩,
  ⟨some 4, none, .mv (.t 36)⟩]
def c12_22 : CC := .seq c12_21 .ret
def c12_23 : CC := .ops [⟨some 37, none, .mv (.t 4)⟩,
  ⟨some 4, none, .mv (.t 37)⟩]
def c12_24 : CC := .seq c12_23 .ret
def c12_25 : CC := .seq (.label 0) c12_24
def c12_26 : CC := .seq c12_22 c12_25
def c12_27 : CC := .seq c12_20 c12_26
def c12_28 : CC := .seq c12_15 c12_27
def c12_29 : CC := .seq c12_10 c12_28
def c12_30 : CC := .seq c12_5 c12_29
def c12_31 : CC := .scope c12_30
def c12_32 : CC := .seq c12_0 c12_31
def cf12 : CFn := ⟨38, [.tmp 4], c12_32⟩

/-! 34: capsule/capsulelaw11.filled -/
def c34_0 : CC := .ops [⟨some 4, none, .mv (.c (.nils))⟩]
def c34_1 : CC := .ops [⟨some 7, none, .mv (.t 0)⟩,
  ⟨some 8, none, .maxmin true (.c (.int .i64 ((0 : Nat) : Int))) (.t 7)⟩,
  ⟨some 9, none, .mkslice 1 [.int .u8 ((0 : Nat) : Int)] (.t 8) (.t 8)⟩,
  ⟨some 5, none, .mv (.t 9)⟩]
def c34_2 : CC := .ops [⟨some 6, none, .mv (.c (.int .i64 ((0 : Nat) : Int)))⟩]
def c34_3 : CC := .ops [⟨some 10, none, .mv (.t 6)⟩,
  ⟨some 11, none, .mv (.t 5)⟩,
  ⟨some 12, none, .lenS (.t 11)⟩,
  ⟨some 13, none, .bin .lss (.t 10) (.t 12) false .pint⟩]
def c34_4 : CC := .cond (.t 13) .skip (.exit 0)
def c34_5 : CC := .seq c34_3 c34_4
def c34_6 : CC := .ops [⟨some 16, none, .mv (.t 5)⟩,
  ⟨some 17, none, .mv (.t 6)⟩,
  ⟨some 18, none, .mv (.t 1)⟩,
  ⟨some 19, none, .iaddrS 1 (.t 16) (.t 17)⟩,
  ⟨none, none, .store 1 (.t 19) (.t 18)⟩]
def c34_7 : CC := .block 1 c34_6
def c34_8 : CC := .ops [⟨some 14, none, .mv (.t 6)⟩,
  ⟨some 15, none, .bin .add (.t 14) (.c (.int .i64 ((1 : Nat) : Int))) true .pint⟩,
  ⟨some 6, none, .mv (.t 15)⟩]
def c34_9 : CC := .seq c34_7 c34_8
def c34_10 : CC := .seq c34_5 c34_9
def c34_11 : CC := .loop c34_10
def c34_12 : CC := .block 0 c34_11
def c34_13 : CC := .seq c34_2 c34_12
def c34_14 : CC := .ops [⟨some 20, none, .mv (.t 5)⟩,
  ⟨some 4, none, .mv (.t 20)⟩]
def c34_15 : CC := .seq c34_14 .ret
def c34_16 : CC := .seq c34_13 c34_15
def c34_17 : CC := .seq c34_1 c34_16
def c34_18 : CC := .seq c34_0 c34_17
def cf34 : CFn := ⟨21, [.tmp 4], c34_18⟩

/-! 97: capsule/capsuleref08.Capacity -/
def c97_0 : CC := .ops [⟨some 2, none, .mv (.c (.int .i64 ((0 : Nat) : Int)))⟩]
def c97_1 : CC := .ops [⟨some 3, none, .mv (.t 0)⟩,
  ⟨some 4, none, .bin .lss (.t 3) (.c (.int .i64 ((12 : Nat) : Int))) true .pint⟩,
  ⟨some 5, none, .mv (.t 4)⟩,
  ⟨some 6, (some (5, false)), .mv (.t 0)⟩,
  ⟨some 7, (some (5, false)), .bin .gtr (.t 6) (.c (.int .i64 ((8192 : Nat) : Int))) true .pint⟩,
  ⟨some 8, none, .pick (.t 5) (.c (.bool true)) (.t 7)⟩]
def c97_2 : CC := .ops [⟨some 2, none, .mv (.c (.int .i64 ((0 : Nat) : Int)))⟩]
def c97_3 : CC := .seq c97_2 .ret
def c97_4 : CC := .cond (.t 8) c97_3 .skip
def c97_5 : CC := .seq c97_1 c97_4
def c97_6 : CC := .ops [⟨some 9, none, .mv (.t 0)⟩,
  ⟨some 10, none, .bin .sub (.t 9) (.c (.int .i64 ((4 : Nat) : Int))) true .pint⟩,
  ⟨some 11, none, .bin .quo (.t 10) (.c (.int .i64 ((8 : Nat) : Int))) true .pint⟩,
  ⟨some 2, none, .mv (.t 11)⟩]
def c97_7 : CC := .seq c97_6 .ret
def c97_8 : CC := .seq c97_5 c97_7
def c97_9 : CC := .seq c97_0 c97_8
def cf97 : CFn := ⟨12, [.tmp 2], c97_9⟩

/-! 98: capsule/capsuleref08.right -/
def c98_0 : CC := .ops [⟨some 2, none, .mv (.c (.bool false))⟩]
def c98_1 : CC := .ops [⟨some 3, none, .mv (.c (.int .i64 ((0 : Nat) : Int)))⟩]
def c98_2 : CC := .ops [⟨some 4, none, .mv (.t 3)⟩,
  ⟨some 5, none, .mv (.t 0)⟩,
  ⟨some 6, none, .lenS (.t 5)⟩,
  ⟨some 7, none, .bin .lss (.t 4) (.t 6) false .pint⟩]
def c98_3 : CC := .cond (.t 7) .skip (.exit 0)
def c98_4 : CC := .seq c98_2 c98_3
def c98_5 : CC := .ops [⟨some 10, none, .mv (.t 0)⟩,
  ⟨some 11, none, .mv (.t 3)⟩,
  ⟨some 12, none, .iaddrS 2 (.t 10) (.t 11)⟩,
  ⟨some 13, none, .faddr (.t 12) 0⟩,
  ⟨some 14, none, .load1 (.t 13)⟩,
  ⟨some 15, none, .bin .lss (.t 14) (.c (.int .i64 ((0 : Nat) : Int))) true .pint⟩,
  ⟨some 16, none, .mv (.t 15)⟩,
  ⟨some 17, (some (16, false)), .mv (.t 0)⟩,
  ⟨some 18, (some (16, false)), .mv (.t 3)⟩,
  ⟨some 19, (some (16, false)), .iaddrS 2 (.t 17) (.t 18)⟩,
  ⟨some 20, (some (16, false)), .faddr (.t 19) 0⟩,
  ⟨some 21, (some (16, false)), .load1 (.t 20)⟩,
  ⟨some 22, (some (16, false)), .bin .gtr (.t 21) (.c (.int .i64 ((4294967294 : Nat) : Int))) true .pint⟩,
  ⟨some 23, none, .pick (.t 16) (.c (.bool true)) (.t 22)⟩,
  ⟨some 24, none, .mv (.t 23)⟩,
  ⟨some 25, (some (24, false)), .mv (.t 0)⟩,
  ⟨some 26, (some (24, false)), .mv (.t 3)⟩,
  ⟨some 27, (some (24, false)), .iaddrS 2 (.t 25) (.t 26)⟩,
  ⟨some 28, (some (24, false)), .faddr (.t 27) 1⟩,
  ⟨some 29, (some (24, false)), .load1 (.t 28)⟩,
  ⟨some 30, (some (24, false)), .bin .lss (.t 29) (.c (.int .i64 (-1))) true .pint⟩,
  ⟨some 31, none, .pick (.t 24) (.c (.bool true)) (.t 30)⟩,
  ⟨some 32, none, .mv (.t 31)⟩,
  ⟨some 33, (some (32, false)), .mv (.t 0)⟩,
  ⟨some 34, (some (32, false)), .mv (.t 3)⟩,
  ⟨some 35, (some (32, false)), .iaddrS 2 (.t 33) (.t 34)⟩,
  ⟨some 36, (some (32, false)), .faddr (.t 35) 1⟩,
  ⟨some 37, (some (32, false)), .load1 (.t 36)⟩,
  ⟨some 38, (some (32, false)), .bin .gtr (.t 37) (.c (.int .i64 ((4294967294 : Nat) : Int))) true .pint⟩,
  ⟨some 39, none, .pick (.t 32) (.c (.bool true)) (.t 38)⟩]
def c98_6 : CC := .ops [⟨some 2, none, .mv (.c (.bool false))⟩]
def c98_7 : CC := .seq c98_6 .ret
def c98_8 : CC := .cond (.t 39) c98_7 .skip
def c98_9 : CC := .seq c98_5 c98_8
def c98_10 : CC := .block 1 c98_9
def c98_11 : CC := .ops [⟨some 8, none, .mv (.t 3)⟩,
  ⟨some 9, none, .bin .add (.t 8) (.c (.int .i64 ((1 : Nat) : Int))) true .pint⟩,
  ⟨some 3, none, .mv (.t 9)⟩]
def c98_12 : CC := .seq c98_10 c98_11
def c98_13 : CC := .seq c98_4 c98_12
def c98_14 : CC := .loop c98_13
def c98_15 : CC := .block 0 c98_14
def c98_16 : CC := .seq c98_1 c98_15
def c98_17 : CC := .ops [⟨some 2, none, .mv (.c (.bool true))⟩]
def c98_18 : CC := .seq c98_17 .ret
def c98_19 : CC := .seq c98_16 c98_18
def c98_20 : CC := .seq c98_0 c98_19
def cf98 : CFn := ⟨40, [.tmp 2], c98_20⟩

/-! 99: capsule/capsuleref08.put -/
def c99_0 : CC := .ops [⟨some 6, none, .mv (.c (.int .i64 ((0 : Nat) : Int)))⟩]
def c99_1 : CC := .ops [⟨some 7, none, .mv (.t 6)⟩,
  ⟨some 8, none, .bin .lss (.t 7) (.c (.int .i64 ((4 : Nat) : Int))) true .pint⟩]
def c99_2 : CC := .cond (.t 8) .skip (.exit 0)
def c99_3 : CC := .seq c99_1 c99_2
def c99_4 : CC := .ops [⟨some 11, none, .mv (.t 0)⟩,
  ⟨some 12, none, .mv (.t 1)⟩,
  ⟨some 13, none, .mv (.t 6)⟩,
  ⟨some 14, none, .bin .add (.t 12) (.t 13) false .pint⟩,
  ⟨some 15, none, .mv (.t 2)⟩,
  ⟨some 16, none, .bin .rem (.t 15) (.c (.int .i64 ((256 : Nat) : Int))) true .pint⟩,
  ⟨some 17, none, .conv .u8 (.t 16)⟩,
  ⟨some 18, none, .iaddrS 1 (.t 11) (.t 14)⟩,
  ⟨none, none, .store 1 (.t 18) (.t 17)⟩]
def c99_5 : CC := .ops [⟨some 19, none, .mv (.t 2)⟩,
  ⟨some 20, none, .bin .quo (.t 19) (.c (.int .i64 ((256 : Nat) : Int))) true .pint⟩,
  ⟨some 2, none, .mv (.t 20)⟩]
def c99_6 : CC := .seq c99_4 c99_5
def c99_7 : CC := .block 1 c99_6
def c99_8 : CC := .ops [⟨some 9, none, .mv (.t 6)⟩,
  ⟨some 10, none, .bin .add (.t 9) (.c (.int .i64 ((1 : Nat) : Int))) true .pint⟩,
  ⟨some 6, none, .mv (.t 10)⟩]
def c99_9 : CC := .seq c99_7 c99_8
def c99_10 : CC := .seq c99_3 c99_9
def c99_11 : CC := .loop c99_10
def c99_12 : CC := .block 0 c99_11
def c99_13 : CC := .seq c99_0 c99_12
def cf99 : CFn := ⟨21, [], c99_13⟩

/-! 37: capsule/capsuleref08.Encode -/
def c37_0 : CC := .ops [⟨some 4, none, .mv (.c (.nils))⟩,
  ⟨some 5, none, .mv (.c (.int .i64 ((0 : Nat) : Int)))⟩]
def c37_1 : CC := .ops [⟨some 8, none, .mv (.t 0)⟩,
  ⟨some 9, none, .callv (.c (.fn (.func 97) [] [])) [(.t 8)]⟩,
  ⟨some 10, none, .bin .eql (.t 9) (.c (.int .i64 ((0 : Nat) : Int))) true .pint⟩,
  ⟨some 11, none, .mv (.t 10)⟩,
  ⟨some 12, (some (11, false)), .mv (.t 1)⟩,
  ⟨some 13, (some (11, false)), .callv (.c (.fn (.func 98) [] [])) [(.t 12)]⟩,
  ⟨some 14, (some (11, false)), .un .not (.t 13)⟩,
  ⟨some 15, none, .pick (.t 11) (.c (.bool true)) (.t 14)⟩]
def c37_2 : CC := .ops [⟨some 4, none, .mv (.c (.nils))⟩,
  ⟨some 5, none, .mv (.c (.int .i64 ((2 : Nat) : Int)))⟩]
def c37_3 : CC := .seq c37_2 .ret
def c37_4 : CC := .cond (.t 15) c37_3 .skip
def c37_5 : CC := .seq c37_1 c37_4
def c37_6 : CC := .ops [⟨some 16, none, .mv (.t 1)⟩,
  ⟨some 17, none, .lenS (.t 16)⟩,
  ⟨some 18, none, .mv (.t 0)⟩,
  ⟨some 19, none, .callv (.c (.fn (.func 97) [] [])) [(.t 18)]⟩,
  ⟨some 20, none, .bin .gtr (.t 17) (.t 19) false .pint⟩]
def c37_7 : CC := .ops [⟨some 4, none, .mv (.c (.nils))⟩,
  ⟨some 5, none, .mv (.c (.int .i64 ((5 : Nat) : Int)))⟩]
def c37_8 : CC := .seq c37_7 .ret
def c37_9 : CC := .cond (.t 20) c37_8 .skip
def c37_10 : CC := .seq c37_6 c37_9
def c37_11 : CC := .ops [⟨some 21, none, .mv (.t 0)⟩,
  ⟨some 22, none, .mkslice 1 [.int .u8 ((0 : Nat) : Int)] (.t 21) (.t 21)⟩,
  ⟨some 6, none, .mv (.t 22)⟩]
def c37_12 : CC := .ops [⟨some 23, none, .mv (.t 6)⟩,
  ⟨some 24, none, .mv (.t 1)⟩,
  ⟨some 25, none, .lenS (.t 24)⟩,
  ⟨some 26, none, .callv (.c (.fn (.func 99) [] [])) [(.t 23), (.c (.int .i64 ((0 : Nat) : Int))), (.t 25)]⟩]
def c37_13 : CC := .ops [⟨some 7, none, .mv (.c (.int .i64 ((0 : Nat) : Int)))⟩]
def c37_14 : CC := .ops [⟨some 27, none, .mv (.t 7)⟩,
  ⟨some 28, none, .mv (.t 1)⟩,
  ⟨some 29, none, .lenS (.t 28)⟩,
  ⟨some 30, none, .bin .lss (.t 27) (.t 29) false .pint⟩]
def c37_15 : CC := .cond (.t 30) .skip (.exit 0)
def c37_16 : CC := .seq c37_14 c37_15
def c37_17 : CC := .ops [⟨some 33, none, .mv (.t 6)⟩,
  ⟨some 34, none, .mv (.t 7)⟩,
  ⟨some 35, none, .bin .mul (.c (.int .i64 ((8 : Nat) : Int))) (.t 34) true .pint⟩,
  ⟨some 36, none, .bin .add (.c (.int .i64 ((4 : Nat) : Int))) (.t 35) true .pint⟩,
  ⟨some 37, none, .mv (.t 1)⟩,
  ⟨some 38, none, .mv (.t 7)⟩,
  ⟨some 39, none, .iaddrS 2 (.t 37) (.t 38)⟩,
  ⟨some 40, none, .faddr (.t 39) 0⟩,
  ⟨some 41, none, .load1 (.t 40)⟩,
  ⟨some 42, none, .callv (.c (.fn (.func 99) [] [])) [(.t 33), (.t 36), (.t 41)]⟩]
def c37_18 : CC := .ops [⟨some 43, none, .mv (.t 6)⟩,
  ⟨some 44, none, .mv (.t 7)⟩,
  ⟨some 45, none, .bin .mul (.c (.int .i64 ((8 : Nat) : Int))) (.t 44) true .pint⟩,
  ⟨some 46, none, .bin .add (.c (.int .i64 ((8 : Nat) : Int))) (.t 45) true .pint⟩,
  ⟨some 47, none, .mv (.t 1)⟩,
  ⟨some 48, none, .mv (.t 7)⟩,
  ⟨some 49, none, .iaddrS 2 (.t 47) (.t 48)⟩,
  ⟨some 50, none, .faddr (.t 49) 1⟩,
  ⟨some 51, none, .load1 (.t 50)⟩,
  ⟨some 52, none, .bin .add (.t 51) (.c (.int .i64 ((1 : Nat) : Int))) true .pint⟩,
  ⟨some 53, none, .callv (.c (.fn (.func 99) [] [])) [(.t 43), (.t 46), (.t 52)]⟩]
def c37_19 : CC := .seq c37_17 c37_18
def c37_20 : CC := .block 1 c37_19
def c37_21 : CC := .ops [⟨some 31, none, .mv (.t 7)⟩,
  ⟨some 32, none, .bin .add (.t 31) (.c (.int .i64 ((1 : Nat) : Int))) true .pint⟩,
  ⟨some 7, none, .mv (.t 32)⟩]
def c37_22 : CC := .seq c37_20 c37_21
def c37_23 : CC := .seq c37_16 c37_22
def c37_24 : CC := .loop c37_23
def c37_25 : CC := .block 0 c37_24
def c37_26 : CC := .seq c37_13 c37_25
def c37_27 : CC := .ops [⟨some 54, none, .mv (.t 6)⟩,
  ⟨some 4, none, .mv (.t 54)⟩,
  ⟨some 5, none, .mv (.c (.int .i64 ((0 : Nat) : Int)))⟩]
def c37_28 : CC := .seq c37_27 .ret
def c37_29 : CC := .seq c37_26 c37_28
def c37_30 : CC := .seq c37_12 c37_29
def c37_31 : CC := .seq c37_11 c37_30
def c37_32 : CC := .seq c37_10 c37_31
def c37_33 : CC := .seq c37_5 c37_32
def c37_34 : CC := .seq c37_0 c37_33
def cf37 : CFn := ⟨55, [.tmp 4, .tmp 5], c37_34⟩

/-! 38: (capsule/capsuleref04.Device).Next -/
def c38_0 : CC := .ops [⟨some 2, none, .box 11 (.t 0)⟩,
  ⟨some 4, none, .mv (.c (.int .i64 ((0 : Nat) : Int)))⟩]
def c38_1 : CC := .ops [⟨some 6, none, .loadN 11 (.t 2)⟩,
  ⟨some 7, none, .mv (.t 1)⟩,
  ⟨some 8, none, .callv (.c (.fn (.func 46) [] [])) [(.t 6), (.t 7)]⟩,
  ⟨some 9, none, .un .not (.t 8)⟩]
def c38_2 : CC := .ops [⟨some 4, none, .mv (.c (.int .i64 ((0 : Nat) : Int)))⟩]
def c38_3 : CC := .seq c38_2 .ret
def c38_4 : CC := .cond (.t 9) c38_3 .skip
def c38_5 : CC := .seq c38_1 c38_4
def c38_6 : CC := .ops [⟨some 5, none, .mv (.c (.int .i64 ((0 : Nat) : Int)))⟩]
def c38_7 : CC := .ops [⟨some 10, none, .mv (.t 5)⟩,
  ⟨some 11, none, .faddr (.t 2) 0⟩,
  ⟨some 12, none, .faddr (.t 11) 1⟩,
  ⟨some 13, none, .load1 (.t 12)⟩,
  ⟨some 14, none, .bin .lss (.t 10) (.t 13) false .pint⟩]
def c38_8 : CC := .cond (.t 14) .skip (.exit 0)
def c38_9 : CC := .seq c38_7 c38_8
def c38_10 : CC := .ops [⟨some 17, none, .faddr (.t 2) 5⟩,
  ⟨some 18, none, .load1 (.t 17)⟩,
  ⟨some 19, none, .mv (.t 1)⟩,
  ⟨some 20, none, .iaddrS 1 (.t 18) (.t 19)⟩,
  ⟨some 21, none, .load1 (.t 20)⟩,
  ⟨some 22, none, .mv (.t 5)⟩,
  ⟨some 23, none, .iaddrS 2 (.t 21) (.t 22)⟩,
  ⟨some 24, none, .faddr (.t 23) 0⟩,
  ⟨some 25, none, .load1 (.t 24)⟩,
  ⟨some 26, none, .bin .eql (.t 25) (.c (.int .i64 ((1 : Nat) : Int))) true .pint⟩]
def c38_11 : CC := .ops [⟨some 27, none, .mv (.t 5)⟩,
  ⟨some 4, none, .mv (.t 27)⟩]
def c38_12 : CC := .seq c38_11 .ret
def c38_13 : CC := .cond (.t 26) c38_12 .skip
def c38_14 : CC := .seq c38_10 c38_13
def c38_15 : CC := .block 1 c38_14
def c38_16 : CC := .ops [⟨some 15, none, .mv (.t 5)⟩,
  ⟨some 16, none, .bin .add (.t 15) (.c (.int .i64 ((1 : Nat) : Int))) true .pint⟩,
  ⟨some 5, none, .mv (.t 16)⟩]
def c38_17 : CC := .seq c38_15 c38_16
def c38_18 : CC := .seq c38_9 c38_17
def c38_19 : CC := .loop c38_18
def c38_20 : CC := .block 0 c38_19
def c38_21 : CC := .seq c38_6 c38_20
def c38_22 : CC := .ops [⟨some 28, none, .faddr (.t 2) 0⟩,
  ⟨some 29, none, .faddr (.t 28) 1⟩,
  ⟨some 30, none, .load1 (.t 29)⟩,
  ⟨some 4, none, .mv (.t 30)⟩]
def c38_23 : CC := .seq c38_22 .ret
def c38_24 : CC := .seq c38_21 c38_23
def c38_25 : CC := .seq c38_5 c38_24
def c38_26 : CC := .seq c38_0 c38_25
def cf38 : CFn := ⟨31, [.tmp 4], c38_26⟩

/-! 100: capsule/capsuleref05.put -/
def c100_0 : CC := .ops [⟨some 8, none, .mv (.c (.int .i64 ((0 : Nat) : Int)))⟩]
def c100_1 : CC := .ops [⟨some 9, none, .mv (.t 8)⟩,
  ⟨some 10, none, .mv (.t 2)⟩,
  ⟨some 11, none, .bin .lss (.t 9) (.t 10) false .pint⟩]
def c100_2 : CC := .cond (.t 11) .skip (.exit 0)
def c100_3 : CC := .seq c100_1 c100_2
def c100_4 : CC := .ops [⟨some 14, none, .mv (.t 0)⟩,
  ⟨some 15, none, .mv (.t 1)⟩,
  ⟨some 16, none, .mv (.t 8)⟩,
  ⟨some 17, none, .bin .add (.t 15) (.t 16) false .pint⟩,
  ⟨some 18, none, .mv (.t 3)⟩,
  ⟨some 19, none, .mv (.t 8)⟩,
  ⟨some 20, none, .bin .mul (.c (.int .i64 ((8 : Nat) : Int))) (.t 19) true .pint⟩,
  ⟨some 21, none, .bin .shr (.t 18) (.t 20) false .pint⟩,
  ⟨some 22, none, .conv .u8 (.t 21)⟩,
  ⟨some 23, none, .iaddrS 1 (.t 14) (.t 17)⟩,
  ⟨none, none, .store 1 (.t 23) (.t 22)⟩]
def c100_5 : CC := .block 1 c100_4
def c100_6 : CC := .ops [⟨some 12, none, .mv (.t 8)⟩,
  ⟨some 13, none, .bin .add (.t 12) (.c (.int .i64 ((1 : Nat) : Int))) true .pint⟩,
  ⟨some 8, none, .mv (.t 13)⟩]
def c100_7 : CC := .seq c100_5 c100_6
def c100_8 : CC := .seq c100_3 c100_7
def c100_9 : CC := .loop c100_8
def c100_10 : CC := .block 0 c100_9
def c100_11 : CC := .seq c100_0 c100_10
def cf100 : CFn := ⟨24, [], c100_11⟩

/-! 177: capsule/capsuleref02.Update32 -/
def c177_0 : CC := .ops [⟨some 4, none, .mv (.c (.int .u32 ((0 : Nat) : Int)))⟩]
def c177_1 : CC := .ops [⟨some 5, none, .mv (.c (.int .i64 ((0 : Nat) : Int)))⟩]
def c177_2 : CC := .ops [⟨some 7, none, .mv (.t 5)⟩,
  ⟨some 8, none, .mv (.t 1)⟩,
  ⟨some 9, none, .lenS (.t 8)⟩,
  ⟨some 10, none, .bin .lss (.t 7) (.t 9) false .pint⟩]
def c177_3 : CC := .cond (.t 10) .skip (.exit 0)
def c177_4 : CC := .seq c177_2 c177_3
def c177_5 : CC := .ops [⟨some 13, none, .mv (.t 0)⟩,
  ⟨some 14, none, .mv (.t 1)⟩,
  ⟨some 15, none, .mv (.t 5)⟩,
  ⟨some 16, none, .iaddrS 1 (.t 14) (.t 15)⟩,
  ⟨some 17, none, .load1 (.t 16)⟩,
  ⟨some 18, none, .conv .u32 (.t 17)⟩,
  ⟨some 19, none, .bin .xor (.t 13) (.t 18) false .pint⟩,
  ⟨some 0, none, .mv (.t 19)⟩]
def c177_6 : CC := .ops [⟨some 6, none, .mv (.c (.int .i64 ((0 : Nat) : Int)))⟩]
def c177_7 : CC := .ops [⟨some 20, none, .mv (.t 6)⟩,
  ⟨some 21, none, .bin .lss (.t 20) (.c (.int .i64 ((8 : Nat) : Int))) true .pint⟩]
def c177_8 : CC := .cond (.t 21) .skip (.exit 2)
def c177_9 : CC := .seq c177_7 c177_8
def c177_10 : CC := .ops [⟨some 24, none, .mv (.t 0)⟩,
  ⟨some 25, none, .bin .rem (.t 24) (.c (.int .u32 ((2 : Nat) : Int))) true .pint⟩,
  ⟨some 26, none, .bin .eql (.t 25) (.c (.int .u32 ((1 : Nat) : Int))) true .pint⟩]
def c177_11 : CC := .ops [⟨some 27, none, .mv (.t 0)⟩,
  ⟨some 28, none, .bin .quo (.t 27) (.c (.int .u32 ((2 : Nat) : Int))) true .pint⟩,
  ⟨some 29, none, .bin .xor (.t 28) (.c (.int .u32 ((2197175160 : Nat) : Int))) true .pint⟩,
  ⟨some 0, none, .mv (.t 29)⟩]
def c177_12 : CC := .ops [⟨some 30, none, .mv (.t 0)⟩,
  ⟨some 31, none, .bin .quo (.t 30) (.c (.int .u32 ((2 : Nat) : Int))) true .pint⟩,
  ⟨some 0, none, .mv (.t 31)⟩]
def c177_13 : CC := .cond (.t 26) c177_11 c177_12
def c177_14 : CC := .seq c177_10 c177_13
def c177_15 : CC := .block 3 c177_14
def c177_16 : CC := .ops [⟨some 22, none, .mv (.t 6)⟩,
  ⟨some 23, none, .bin .add (.t 22) (.c (.int .i64 ((1 : Nat) : Int))) true .pint⟩,
  ⟨some 6, none, .mv (.t 23)⟩]
def c177_17 : CC := .seq c177_15 c177_16
def c177_18 : CC := .seq c177_9 c177_17
def c177_19 : CC := .loop c177_18
def c177_20 : CC := .block 2 c177_19
def c177_21 : CC := .seq c177_6 c177_20
def c177_22 : CC := .seq c177_5 c177_21
def c177_23 : CC := .block 1 c177_22
def c177_24 : CC := .ops [⟨some 11, none, .mv (.t 5)⟩,
  ⟨some 12, none, .bin .add (.t 11) (.c (.int .i64 ((1 : Nat) : Int))) true .pint⟩,
  ⟨some 5, none, .mv (.t 12)⟩]
def c177_25 : CC := .seq c177_23 c177_24
def c177_26 : CC := .seq c177_4 c177_25
def c177_27 : CC := .loop c177_26
def c177_28 : CC := .block 0 c177_27
def c177_29 : CC := .seq c177_1 c177_28
def c177_30 : CC := .ops [⟨some 32, none, .mv (.t 0)⟩,
  ⟨some 4, none, .mv (.t 32)⟩]
def c177_31 : CC := .seq c177_30 .ret
def c177_32 : CC := .seq c177_29 c177_31
def c177_33 : CC := .seq c177_0 c177_32
def cf177 : CFn := ⟨33, [.tmp 4], c177_33⟩

/-! 123: capsule/capsuleref02.CRC32C -/
def c123_0 : CC := .ops [⟨some 2, none, .mv (.c (.int .u32 ((0 : Nat) : Int)))⟩]
def c123_1 : CC := .ops [⟨some 3, none, .mv (.t 0)⟩,
  ⟨some 4, none, .callv (.c (.fn (.func 177) [] [])) [(.c (.int .u32 ((4294967295 : Nat) : Int))), (.t 3)]⟩,
  ⟨some 5, none, .bin .xor (.c (.int .u32 ((4294967295 : Nat) : Int))) (.t 4) true .pint⟩,
  ⟨some 2, none, .mv (.t 5)⟩]
def c123_2 : CC := .seq c123_1 .ret
def c123_3 : CC := .seq c123_0 c123_2
def cf123 : CFn := ⟨6, [.tmp 2], c123_3⟩

/-! 101: capsule/capsuleref05.Seal -/
def c101_0 : CC := .drawn [⟨⟨some 4, none, .mv (.t 0)⟩, [0]⟩,
  ⟨⟨some 5, none, .bslice 0 [] []⟩, []⟩,
  ⟨⟨some 6, none, .mv (.t 1)⟩, [1]⟩,
  ⟨⟨some 8, none, .mv (.t 0)⟩, [0]⟩,
  ⟨⟨some 9, none, .sliceS 1 (.t 8) none (some (.c (.int .i64 ((60 : Nat) : Int)))) none⟩, [8]⟩]
  []
  [⟨⟨⟨some 7, none, .append 1 1 (.t 5) (.t 6)⟩, [5, 6]⟩, [], [⟨⟨some 4, none, .mv (.t 0)⟩, [0]⟩, ⟨⟨some 8, none, .mv (.t 0)⟩, [0]⟩, ⟨⟨some 9, none, .sliceS 1 (.t 8) none (some (.c (.int .i64 ((60 : Nat) : Int)))) none⟩, [8]⟩]⟩,
  ⟨⟨⟨some 10, none, .append 1 1 (.t 7) (.t 9)⟩, [7, 9]⟩, [], [⟨⟨some 4, none, .mv (.t 0)⟩, [0]⟩]⟩,
  ⟨⟨⟨some 11, none, .callv (.c (.fn (.func 123) [] [])) [(.t 10)]⟩, [10]⟩, [⟨⟨some 12, none, .conv .u64 (.t 11)⟩, [11]⟩], [⟨⟨some 4, none, .mv (.t 0)⟩, [0]⟩]⟩,
  ⟨⟨⟨some 13, none, .callv (.c (.fn (.func 100) [] [])) [(.t 4), (.c (.int .i64 ((60 : Nat) : Int))), (.c (.int .i64 ((4 : Nat) : Int))), (.t 12)]⟩, [4, 12]⟩, [], []⟩]
def cf101 : CFn := ⟨14, [], c101_0⟩

/-! 39: capsule/capsuleref05.Raw -/
def c39_0 : CC := .ops [⟨some 2, none, .box 6 (.t 0)⟩,
  ⟨some 4, none, .mv (.c (.nils))⟩]
def c39_1 : CC := .ops [⟨some 6, none, .mkslice 1 [.int .u8 ((0 : Nat) : Int)] (.c (.int .i64 ((64 : Nat) : Int))) (.c (.int .i64 ((64 : Nat) : Int)))⟩,
  ⟨some 5, none, .mv (.t 6)⟩]
def c39_2 : CC := .ops [⟨some 7, none, .mv (.t 5)⟩,
  ⟨some 8, none, .faddr (.t 2) 0⟩,
  ⟨some 9, none, .load1 (.t 8)⟩,
  ⟨some 10, none, .bslice 5 [.int .u8 ((0 : Nat) : Int), .int .u8 ((0 : Nat) : Int), .int .u8 ((0 : Nat) : Int), .int .u8 ((0 : Nat) : Int), .int .u8 ((0 : Nat) : Int)] [(0, 1, (.c (.int .u8 ((67 : Nat) : Int)))), (1, 1, (.c (.int .u8 ((70 : Nat) : Int)))), (2, 1, (.c (.int .u8 ((84 : Nat) : Int)))), (3, 1, (.c (.int .u8 ((76 : Nat) : Int)))), (4, 1, (.t 9))]⟩,
  ⟨some 11, none, .copy 1 (.t 7) (.t 10)⟩]
def c39_3 : CC := .ops [⟨some 12, none, .mv (.t 5)⟩,
  ⟨some 13, none, .faddr (.t 2) 2⟩,
  ⟨some 14, none, .load1 (.t 13)⟩,
  ⟨some 15, none, .callv (.c (.fn (.func 100) [] [])) [(.t 12), (.c (.int .i64 ((8 : Nat) : Int))), (.c (.int .i64 ((8 : Nat) : Int))), (.t 14)]⟩]
def c39_4 : CC := .ops [⟨some 16, none, .mv (.t 5)⟩,
  ⟨some 17, none, .faddr (.t 2) 3⟩,
  ⟨some 18, none, .load1 (.t 17)⟩,
  ⟨some 19, none, .callv (.c (.fn (.func 100) [] [])) [(.t 16), (.c (.int .i64 ((16 : Nat) : Int))), (.c (.int .i64 ((8 : Nat) : Int))), (.t 18)]⟩]
def c39_5 : CC := .ops [⟨some 20, none, .mv (.t 5)⟩,
  ⟨some 21, none, .faddr (.t 2) 1⟩,
  ⟨some 22, none, .load1 (.t 21)⟩,
  ⟨some 23, none, .conv .u64 (.t 22)⟩,
  ⟨some 24, none, .callv (.c (.fn (.func 100) [] [])) [(.t 20), (.c (.int .i64 ((24 : Nat) : Int))), (.c (.int .i64 ((4 : Nat) : Int))), (.t 23)]⟩]
def c39_6 : CC := .ops [⟨some 25, none, .mv (.t 5)⟩,
  ⟨some 26, none, .faddr (.t 2) 4⟩,
  ⟨some 27, none, .load1 (.t 26)⟩,
  ⟨some 28, none, .conv .u64 (.t 27)⟩,
  ⟨some 29, none, .callv (.c (.fn (.func 100) [] [])) [(.t 25), (.c (.int .i64 ((28 : Nat) : Int))), (.c (.int .i64 ((4 : Nat) : Int))), (.t 28)]⟩]
def c39_7 : CC := .ops [⟨some 30, none, .mv (.t 5)⟩,
  ⟨some 31, none, .faddr (.t 2) 5⟩,
  ⟨some 32, none, .load1 (.t 31)⟩,
  ⟨some 33, none, .conv .u64 (.t 32)⟩,
  ⟨some 34, none, .callv (.c (.fn (.func 100) [] [])) [(.t 30), (.c (.int .i64 ((32 : Nat) : Int))), (.c (.int .i64 ((4 : Nat) : Int))), (.t 33)]⟩]
def c39_8 : CC := .ops [⟨some 35, none, .mv (.t 5)⟩,
  ⟨some 36, none, .mv (.t 1)⟩,
  ⟨some 37, none, .callv (.c (.fn (.func 101) [] [])) [(.t 35), (.t 36)]⟩]
def c39_9 : CC := .ops [⟨some 38, none, .mv (.t 5)⟩,
  ⟨some 4, none, .mv (.t 38)⟩]
def c39_10 : CC := .seq c39_9 .ret
def c39_11 : CC := .seq c39_8 c39_10
def c39_12 : CC := .seq c39_7 c39_11
def c39_13 : CC := .seq c39_6 c39_12
def c39_14 : CC := .seq c39_5 c39_13
def c39_15 : CC := .seq c39_4 c39_14
def c39_16 : CC := .seq c39_3 c39_15
def c39_17 : CC := .seq c39_2 c39_16
def c39_18 : CC := .seq c39_1 c39_17
def c39_19 : CC := .seq c39_0 c39_18
def cf39 : CFn := ⟨39, [.tmp 4], c39_19⟩

/-! 40: (capsule/capsuleref04.Device).Program -/
def c40_0 : CC := .ops [⟨some 5, none, .box 11 (.t 0)⟩,
  ⟨some 10, none, .alloc [.int .i64 ((0 : Nat) : Int), .int .i64 ((0 : Nat) : Int), .int .i64 ((0 : Nat) : Int), .int .i64 ((0 : Nat) : Int), .nils, .nils, .nils, .int .i64 ((0 : Nat) : Int), .int .i64 ((0 : Nat) : Int), .int .i64 ((0 : Nat) : Int), .bool false]⟩,
  ⟨some 11, none, .mv (.c (.int .i64 ((0 : Nat) : Int)))⟩]
def c40_1 : CC := .ops [⟨some 17, none, .loadN 11 (.t 5)⟩,
  ⟨some 18, none, .mv (.t 1)⟩,
  ⟨some 19, none, .callv (.c (.fn (.func 46) [] [])) [(.t 17), (.t 18)]⟩,
  ⟨some 20, none, .un .not (.t 19)⟩,
  ⟨some 21, none, .mv (.t 20)⟩,
  ⟨some 22, (some (21, false)), .mv (.t 2)⟩,
  ⟨some 23, (some (21, false)), .bin .lss (.t 22) (.c (.int .i64 ((0 : Nat) : Int))) true .pint⟩,
  ⟨some 24, none, .pick (.t 21) (.c (.bool true)) (.t 23)⟩,
  ⟨some 25, none, .mv (.t 24)⟩,
  ⟨some 26, (some (25, false)), .mv (.t 2)⟩,
  ⟨some 27, (some (25, false)), .faddr (.t 5) 0⟩,
  ⟨some 28, (some (25, false)), .faddr (.t 27) 1⟩,
  ⟨some 29, (some (25, false)), .load1 (.t 28)⟩,
  ⟨some 30, (some (25, false)), .bin .geq (.t 26) (.t 29) false .pint⟩,
  ⟨some 31, none, .pick (.t 25) (.c (.bool true)) (.t 30)⟩,
  ⟨some 32, none, .mv (.t 31)⟩,
  ⟨some 33, (some (32, false)), .mv (.t 3)⟩,
  ⟨some 34, (some (32, false)), .lenS (.t 33)⟩,
  ⟨some 35, (some (32, false)), .faddr (.t 5) 0⟩,
  ⟨some 36, (some (32, false)), .faddr (.t 35) 2⟩,
  ⟨some 37, (some (32, false)), .load1 (.t 36)⟩,
  ⟨some 38, (some (32, false)), .bin .neq (.t 34) (.t 37) false .pint⟩,
  ⟨some 39, none, .pick (.t 32) (.c (.bool true)) (.t 38)⟩,
  ⟨some 40, none, .mv (.t 39)⟩,
  ⟨some 41, (some (40, false)), .mv (.t 4)⟩,
  ⟨some 42, (some (40, false)), .lenS (.t 41)⟩,
  ⟨some 43, (some (40, false)), .bin .neq (.t 42) (.c (.int .i64 ((64 : Nat) : Int))) true .pint⟩,
  ⟨some 44, none, .pick (.t 40) (.c (.bool true)) (.t 43)⟩]
def c40_2 : CC := .ops [⟨some 45, none, .loadN 11 (.t 5)⟩,
  ⟨none, none, .store 11 (.t 10) (.t 45)⟩,
  ⟨some 11, none, .mv (.c (.int .i64 ((2 : Nat) : Int)))⟩]
def c40_3 : CC := .seq c40_2 .ret
def c40_4 : CC := .cond (.t 44) c40_3 .skip
def c40_5 : CC := .seq c40_1 c40_4
def c40_6 : CC := .ops [⟨some 46, none, .faddr (.t 5) 10⟩,
  ⟨some 47, none, .load1 (.t 46)⟩]
def c40_7 : CC := .ops [⟨some 48, none, .loadN 11 (.t 5)⟩,
  ⟨none, none, .store 11 (.t 10) (.t 48)⟩,
  ⟨some 11, none, .mv (.c (.int .i64 ((50 : Nat) : Int)))⟩]
def c40_8 : CC := .seq c40_7 .ret
def c40_9 : CC := .cond (.t 47) c40_8 .skip
def c40_10 : CC := .seq c40_6 c40_9
def c40_11 : CC := .ops [⟨some 49, none, .mv (.t 2)⟩,
  ⟨some 50, none, .loadN 11 (.t 5)⟩,
  ⟨some 51, none, .mv (.t 1)⟩,
  ⟨some 52, none, .callv (.c (.fn (.func 38) [] [])) [(.t 50), (.t 51)]⟩,
  ⟨some 53, none, .bin .neq (.t 49) (.t 52) false .pint⟩]
def c40_12 : CC := .ops [⟨some 54, none, .loadN 11 (.t 5)⟩,
  ⟨none, none, .store 11 (.t 10) (.t 54)⟩,
  ⟨some 11, none, .mv (.c (.int .i64 ((51 : Nat) : Int)))⟩]
def c40_13 : CC := .seq c40_12 .ret
def c40_14 : CC := .cond (.t 53) c40_13 .skip
def c40_15 : CC := .seq c40_11 c40_14
def c40_16 : CC := .ops [⟨some 55, none, .bslice 0 [] []⟩,
  ⟨some 56, none, .mv (.t 3)⟩,
  ⟨some 57, none, .append 1 1 (.t 55) (.t 56)⟩,
  ⟨some 58, none, .mv (.t 4)⟩,
  ⟨some 59, none, .append 1 1 (.t 57) (.t 58)⟩,
  ⟨some 12, none, .mv (.t 59)⟩]
def c40_17 : CC := .ops [⟨some 60, none, .mv (.t 12)⟩,
  ⟨some 61, none, .build [.int .i64 ((0 : Nat) : Int), .nils] [(0, 1, (.c (.int .i64 ((2 : Nat) : Int)))), (1, 1, (.t 60))]⟩,
  ⟨some 13, none, .alloc [.int .i64 ((0 : Nat) : Int), .nils]⟩,
  ⟨none, none, .store 2 (.t 13) (.t 61)⟩,
  ⟨some 14, none, .mv (.c (.int .i64 ((0 : Nat) : Int)))⟩]
def c40_18 : CC := .ops [⟨some 62, none, .faddr (.t 5) 7⟩,
  ⟨some 63, none, .load1 (.t 62)⟩,
  ⟨some 64, none, .faddr (.t 5) 8⟩,
  ⟨some 65, none, .load1 (.t 64)⟩,
  ⟨some 66, none, .bin .eql (.t 63) (.t 65) false .pint⟩]
def c40_19 : CC := .ops [⟨some 67, none, .faddr (.t 5) 9⟩,
  ⟨some 68, none, .load1 (.t 67)⟩,
  ⟨some 15, none, .mv (.t 68)⟩]
def c40_20 : CC := .ops [⟨some 69, none, .mv (.t 15)⟩,
  ⟨some 70, none, .mv (.t 12)⟩,
  ⟨some 71, none, .lenS (.t 70)⟩,
  ⟨some 72, none, .bin .lss (.t 69) (.t 71) false .pint⟩]
def c40_21 : CC := .cond (.t 72) .skip (.exit 0)
def c40_22 : CC := .seq c40_20 c40_21
def c40_23 : CC := .ops [⟨some 75, none, .mv (.t 12)⟩,
  ⟨some 76, none, .mv (.t 15)⟩,
  ⟨some 77, none, .iaddrS 1 (.t 75) (.t 76)⟩,
  ⟨none, none, .store 1 (.t 77) (.c (.int .u8 ((255 : Nat) : Int)))⟩]
def c40_24 : CC := .block 1 c40_23
def c40_25 : CC := .ops [⟨some 73, none, .mv (.t 15)⟩,
  ⟨some 74, none, .bin .add (.t 73) (.c (.int .i64 ((1 : Nat) : Int))) true .pint⟩,
  ⟨some 15, none, .mv (.t 74)⟩]
def c40_26 : CC := .seq c40_24 c40_25
def c40_27 : CC := .seq c40_22 c40_26
def c40_28 : CC := .loop c40_27
def c40_29 : CC := .block 0 c40_28
def c40_30 : CC := .seq c40_19 c40_29
def c40_31 : CC := .ops [⟨some 78, none, .faddr (.t 5) 9⟩,
  ⟨some 79, none, .load1 (.t 78)⟩,
  ⟨some 80, none, .mv (.t 12)⟩,
  ⟨some 81, none, .lenS (.t 80)⟩,
  ⟨some 82, none, .bin .lss (.t 79) (.t 81) false .pint⟩]
def c40_32 : CC := .ops [⟨some 83, none, .faddr (.t 13) 0⟩,
  ⟨none, none, .store 1 (.t 83) (.c (.int .i64 ((3 : Nat) : Int)))⟩]
def c40_33 : CC := .cond (.t 82) c40_32 .skip
def c40_34 : CC := .seq c40_31 c40_33
def c40_35 : CC := .ops [⟨some 84, none, .faddr (.t 5) 10⟩,
  ⟨none, none, .store 1 (.t 84) (.c (.bool true))⟩,
  ⟨some 14, none, .mv (.c (.int .i64 ((50 : Nat) : Int)))⟩]
def c40_36 : CC := .seq c40_34 c40_35
def c40_37 : CC := .seq c40_30 c40_36
def c40_38 : CC := .ops [⟨some 85, none, .loadN 11 (.t 5)⟩,
  ⟨some 86, none, .callv (.c (.fn (.func 47) [] [])) [(.t 85)]⟩]
def c40_39 : CC := .ops [⟨some 87, none, .build [.int .i64 ((0 : Nat) : Int), .nils] [(0, 1, (.c (.int .i64 ((4 : Nat) : Int))))]⟩,
  ⟨none, none, .store 2 (.t 13) (.t 87)⟩,
  ⟨some 14, none, .mv (.c (.int .i64 ((54 : Nat) : Int)))⟩]
def c40_40 : CC := .cond (.t 86) c40_39 .skip
def c40_41 : CC := .seq c40_38 c40_40
def c40_42 : CC := .cond (.t 66) c40_37 c40_41
def c40_43 : CC := .seq c40_18 c40_42
def c40_44 : CC := .ops [⟨some 88, none, .bslice 0 [] []⟩,
  ⟨some 89, none, .faddr (.t 5) 5⟩,
  ⟨some 90, none, .load1 (.t 89)⟩,
  ⟨some 91, none, .mv (.t 1)⟩,
  ⟨some 92, none, .iaddrS 1 (.t 90) (.t 91)⟩,
  ⟨some 93, none, .load1 (.t 92)⟩,
  ⟨some 94, none, .append 2 32 (.t 88) (.t 93)⟩,
  ⟨some 16, none, .mv (.t 94)⟩]
def c40_45 : CC := .ops [⟨some 95, none, .mv (.t 16)⟩,
  ⟨some 96, none, .mv (.t 2)⟩,
  ⟨some 97, none, .loadN 2 (.t 13)⟩,
  ⟨some 98, none, .iaddrS 2 (.t 95) (.t 96)⟩,
  ⟨none, none, .store 2 (.t 98) (.t 97)⟩]
def c40_46 : CC := .ops [⟨some 99, none, .loadN 11 (.t 5)⟩,
  ⟨some 100, none, .mv (.t 1)⟩,
  ⟨some 101, none, .mv (.t 16)⟩,
  ⟨some 102, none, .callv (.c (.fn (.func 48) [] [])) [(.t 99), (.t 100), (.t 101)]⟩,
  ⟨none, none, .store 11 (.t 5) (.t 102)⟩]
def c40_47 : CC := .ops [⟨some 103, none, .faddr (.t 5) 7⟩,
  ⟨some 104, none, .load1 (.t 103)⟩,
  ⟨some 105, none, .bin .add (.t 104) (.c (.int .i64 ((1 : Nat) : Int))) true .pint⟩,
  ⟨some 106, none, .faddr (.t 5) 7⟩,
  ⟨none, none, .store 1 (.t 106) (.t 105)⟩]
def c40_48 : CC := .ops [⟨some 107, none, .loadN 11 (.t 5)⟩,
  ⟨some 108, none, .mv (.t 14)⟩,
  ⟨none, none, .store 11 (.t 10) (.t 107)⟩,
  ⟨some 11, none, .mv (.t 108)⟩]
def c40_49 : CC := .seq c40_48 .ret
def c40_50 : CC := .seq c40_47 c40_49
def c40_51 : CC := .seq c40_46 c40_50
def c40_52 : CC := .seq c40_45 c40_51
def c40_53 : CC := .seq c40_44 c40_52
def c40_54 : CC := .seq c40_43 c40_53
def c40_55 : CC := .seq c40_17 c40_54
def c40_56 : CC := .seq c40_16 c40_55
def c40_57 : CC := .seq c40_15 c40_56
def c40_58 : CC := .seq c40_10 c40_57
def c40_59 : CC := .seq c40_5 c40_58
def c40_60 : CC := .seq c40_0 c40_59
def cf40 : CFn := ⟨109, [.cellN 10 11, .tmp 11], c40_60⟩

/-! 102: (*capsule/flash.Device).hasPage -/
def c102_0 : CC := .ops [⟨some 6, none, .mv (.c (.bool false))⟩]
def c102_1 : CC := .ops [⟨some 7, none, .mv (.t 0)⟩,
  ⟨some 8, none, .mv (.t 1)⟩,
  ⟨some 9, none, .callv (.c (.fn (.func 44) [] [])) [(.t 7), (.t 8)]⟩,
  ⟨some 10, none, .mv (.t 9)⟩,
  ⟨some 11, (some (10, true)), .mv (.t 2)⟩,
  ⟨some 12, (some (10, true)), .bin .geq (.t 11) (.c (.int .i64 ((0 : Nat) : Int))) true .pint⟩,
  ⟨some 13, none, .pick (.t 10) (.t 12) (.c (.bool false))⟩,
  ⟨some 14, none, .mv (.t 13)⟩,
  ⟨some 15, (some (14, true)), .mv (.t 2)⟩,
  ⟨some 16, (some (14, true)), .mv (.t 0)⟩,
  ⟨some 17, (some (14, true)), .nilc (.t 16)⟩,
  ⟨some 18, (some (14, true)), .faddr (.t 17) 0⟩,
  ⟨some 19, (some (14, true)), .faddr (.t 18) 1⟩,
  ⟨some 20, (some (14, true)), .load1 (.t 19)⟩,
  ⟨some 21, (some (14, true)), .bin .lss (.t 15) (.t 20) false .pint⟩,
  ⟨some 22, none, .pick (.t 14) (.t 21) (.c (.bool false))⟩,
  ⟨some 6, none, .mv (.t 22)⟩]
def c102_2 : CC := .seq c102_1 .ret
def c102_3 : CC := .seq c102_0 c102_2
def cf102 : CFn := ⟨23, [.tmp 6], c102_3⟩

/-! 148: slices.Grow[[]byte,byte] -/
def c148_0 : CC := .ops [⟨some 4, none, .mv (.c (.nils))⟩]
def c148_1 : CC := .ops [⟨some 5, none, .mv (.t 1)⟩,
  ⟨some 6, none, .bin .lss (.t 5) (.c (.int .i64 ((0 : Nat) : Int))) true .pint⟩]
def c148_2 : CC := .ops [⟨some 7, none, .mkif 9 (.c (.str [99, 97, 110, 110, 111, 116, 32, 98, 101, 32, 110, 101, 103, 97, 116, 105, 118, 101]))⟩,
  ⟨none, none, .panic (.t 7)⟩]
def c148_3 : CC := .cond (.t 6) c148_2 .skip
def c148_4 : CC := .seq c148_1 c148_3
def c148_5 : CC := .ops [⟨some 8, none, .mv (.t 1)⟩,
  ⟨some 9, none, .mv (.t 0)⟩,
  ⟨some 10, none, .capS (.t 9)⟩,
  ⟨some 11, none, .mv (.t 0)⟩,
  ⟨some 12, none, .lenS (.t 11)⟩,
  ⟨some 13, none, .bin .sub (.t 10) (.t 12) false .pint⟩,
  ⟨some 14, none, .bin .sub (.t 8) (.t 13) false .pint⟩,
  ⟨some 1, none, .mv (.t 14)⟩]
def c148_6 : CC := .ops [⟨some 15, none, .mv (.t 1)⟩,
  ⟨some 16, none, .bin .gtr (.t 15) (.c (.int .i64 ((0 : Nat) : Int))) true .pint⟩]
def c148_7 : CC := .ops [⟨some 17, none, .mv (.t 0)⟩,
  ⟨some 18, none, .mv (.t 0)⟩,
  ⟨some 19, none, .capS (.t 18)⟩,
  ⟨some 20, none, .sliceS 1 (.t 17) none (some (.t 19)) none⟩,
  ⟨some 21, none, .mv (.t 1)⟩,
  ⟨some 22, none, .appendZ 1 [.int .u8 ((0 : Nat) : Int)] (.t 20) (.t 21)⟩,
  ⟨some 23, none, .mv (.t 0)⟩,
  ⟨some 24, none, .lenS (.t 23)⟩,
  ⟨some 25, none, .sliceS 1 (.t 22) none (some (.t 24)) none⟩,
  ⟨some 0, none, .mv (.t 25)⟩]
def c148_8 : CC := .cond (.t 16) c148_7 .skip
def c148_9 : CC := .seq c148_6 c148_8
def c148_10 : CC := .seq c148_5 c148_9
def c148_11 : CC := .ops [⟨some 26, none, .mv (.t 0)⟩,
  ⟨some 4, none, .mv (.t 26)⟩]
def c148_12 : CC := .seq c148_11 .ret
def c148_13 : CC := .seq c148_10 c148_12
def c148_14 : CC := .seq c148_4 c148_13
def c148_15 : CC := .seq c148_0 c148_14
def cf148 : CFn := ⟨27, [.tmp 4], c148_15⟩

/-! 104: slices.Concat[[]byte,byte] -/
def c104_0 : CC := .ops [⟨some 2, none, .mv (.c (.nils))⟩]
def c104_1 : CC := .ops [⟨some 3, none, .mv (.c (.int .i64 ((0 : Nat) : Int)))⟩]
def c104_2 : CC := .ops [⟨some 9, none, .mv (.t 0)⟩,
  ⟨some 10, none, .lenS (.t 9)⟩,
  ⟨some 11, none, .mv (.c (.int .i64 ((0 : Nat) : Int)))⟩]
def c104_3 : CC := .ops [⟨some 12, none, .bin .lss (.t 11) (.t 10) false .pint⟩]
def c104_4 : CC := .cond (.t 12) .skip (.exit 0)
def c104_5 : CC := .ops [⟨some 13, none, .iaddrS 1 (.t 9) (.t 11)⟩,
  ⟨some 14, none, .load1 (.t 13)⟩,
  ⟨some 5, none, .mv (.t 14)⟩]
def c104_6 : CC := .ops [⟨some 15, none, .mv (.t 3)⟩,
  ⟨some 16, none, .mv (.t 5)⟩,
  ⟨some 17, none, .lenS (.t 16)⟩,
  ⟨some 18, none, .bin .add (.t 15) (.t 17) false .pint⟩,
  ⟨some 3, none, .mv (.t 18)⟩]
def c104_7 : CC := .ops [⟨some 19, none, .mv (.t 3)⟩,
  ⟨some 20, none, .bin .lss (.t 19) (.c (.int .i64 ((0 : Nat) : Int))) true .pint⟩]
def c104_8 : CC := .ops [⟨some 21, none, .mkif 9 (.c (.str [108, 101, 110, 32, 111, 117, 116, 32, 111, 102, 32, 114, 97, 110, 103, 101]))⟩,
  ⟨none, none, .panic (.t 21)⟩]
def c104_9 : CC := .cond (.t 20) c104_8 .skip
def c104_10 : CC := .seq c104_7 c104_9
def c104_11 : CC := .seq c104_6 c104_10
def c104_12 : CC := .seq c104_5 c104_11
def c104_13 : CC := .block 1 c104_12
def c104_14 : CC := .ops [⟨some 22, none, .bin .add (.t 11) (.c (.int .i64 ((1 : Nat) : Int))) true .pint⟩,
  ⟨some 11, none, .mv (.t 22)⟩]
def c104_15 : CC := .seq c104_13 c104_14
def c104_16 : CC := .seq c104_4 c104_15
def c104_17 : CC := .seq c104_3 c104_16
def c104_18 : CC := .loop c104_17
def c104_19 : CC := .block 0 c104_18
def c104_20 : CC := .seq c104_2 c104_19
def c104_21 : CC := .ops [⟨some 23, none, .mv (.t 3)⟩,
  ⟨some 24, none, .callv (.c (.fn (.func 148) [] [])) [(.c (.nils)), (.t 23)]⟩,
  ⟨some 6, none, .mv (.t 24)⟩]
def c104_22 : CC := .ops [⟨some 25, none, .mv (.t 0)⟩,
  ⟨some 26, none, .lenS (.t 25)⟩,
  ⟨some 27, none, .mv (.c (.int .i64 ((0 : Nat) : Int)))⟩]
def c104_23 : CC := .ops [⟨some 28, none, .bin .lss (.t 27) (.t 26) false .pint⟩]
def c104_24 : CC := .cond (.t 28) .skip (.exit 2)
def c104_25 : CC := .ops [⟨some 29, none, .iaddrS 1 (.t 25) (.t 27)⟩,
  ⟨some 30, none, .load1 (.t 29)⟩,
  ⟨some 8, none, .mv (.t 30)⟩]
def c104_26 : CC := .ops [⟨some 31, none, .mv (.t 6)⟩,
  ⟨some 32, none, .mv (.t 8)⟩,
  ⟨some 33, none, .append 1 1 (.t 31) (.t 32)⟩,
  ⟨some 6, none, .mv (.t 33)⟩]
def c104_27 : CC := .seq c104_25 c104_26
def c104_28 : CC := .block 3 c104_27
def c104_29 : CC := .ops [⟨some 34, none, .bin .add (.t 27) (.c (.int .i64 ((1 : Nat) : Int))) true .pint⟩,
  ⟨some 27, none, .mv (.t 34)⟩]
def c104_30 : CC := .seq c104_28 c104_29
def c104_31 : CC := .seq c104_24 c104_30
def c104_32 : CC := .seq c104_23 c104_31
def c104_33 : CC := .loop c104_32
def c104_34 : CC := .block 2 c104_33
def c104_35 : CC := .seq c104_22 c104_34
def c104_36 : CC := .ops [⟨some 35, none, .mv (.t 6)⟩,
  ⟨some 2, none, .mv (.t 35)⟩]
def c104_37 : CC := .seq c104_36 .ret
def c104_38 : CC := .seq c104_35 c104_37
def c104_39 : CC := .seq c104_21 c104_38
def c104_40 : CC := .seq c104_20 c104_39
def c104_41 : CC := .seq c104_1 c104_40
def c104_42 : CC := .seq c104_0 c104_41
def cf104 : CFn := ⟨36, [.tmp 2], c104_42⟩

/-! 145: (*capsule/flash.Device).program$1 -/
def c145_0 : CC := .ops [⟨some 2, none, .load1 (.t 1)⟩,
  ⟨some 3, none, .load1 (.t 0)⟩,
  ⟨some 4, none, .build [.nils] [(0, 1, (.t 3))]⟩,
  ⟨some 5, none, .build [.nils, .int .i64 ((0 : Nat) : Int)] [(0, 1, (.t 4)), (1, 1, (.c (.int .i64 ((2 : Nat) : Int))))]⟩,
  ⟨some 6, none, .nilc (.t 2)⟩,
  ⟨none, none, .store 2 (.t 6) (.t 5)⟩]
def cf145 : CFn := ⟨7, [], c145_0⟩

/-! 146: (*capsule/flash.Device).program$2 -/
def c146_0 : CC := .ops [⟨some 1, none, .load1 (.t 0)⟩,
  ⟨some 2, none, .build [.nils, .int .i64 ((0 : Nat) : Int)] [(1, 1, (.c (.int .i64 ((4 : Nat) : Int))))]⟩,
  ⟨some 3, none, .nilc (.t 1)⟩,
  ⟨none, none, .store 2 (.t 3) (.t 2)⟩]
def cf146 : CFn := ⟨4, [], c146_0⟩

/-! 147: (*capsule/flash.Device).program$3 -/
def c147_0 : CC := .ops [⟨some 4, none, .load1 (.t 1)⟩,
  ⟨some 5, none, .load1 (.t 0)⟩,
  ⟨some 6, none, .build [.nils] [(0, 1, (.t 5))]⟩,
  ⟨some 7, none, .build [.nils, .int .i64 ((0 : Nat) : Int)] [(0, 1, (.t 6)), (1, 1, (.c (.int .i64 ((3 : Nat) : Int))))]⟩,
  ⟨some 8, none, .nilc (.t 4)⟩,
  ⟨none, none, .store 2 (.t 8) (.t 7)⟩]
def c147_1 : CC := .drawn [⟨⟨some 9, none, .load1 (.t 2)⟩, [2]⟩,
  ⟨⟨some 10, none, .nilc (.t 9)⟩, [9]⟩,
  ⟨⟨some 11, none, .faddr (.t 10) 8⟩, [10]⟩,
  ⟨⟨some 12, none, .load1 (.t 11)⟩, [11]⟩,
  ⟨⟨some 13, none, .load1 (.t 0)⟩, [0]⟩,
  ⟨⟨some 14, none, .lenS (.t 13)⟩, [13]⟩,
  ⟨⟨some 15, none, .bin .eql (.t 12) (.t 14) false .pint⟩, [12, 14]⟩]
  []
  []
def c147_2 : CC := .ops [⟨some 16, none, .load1 (.t 1)⟩,
  ⟨some 17, none, .nilc (.t 16)⟩,
  ⟨some 18, none, .faddr (.t 17) 1⟩,
  ⟨none, none, .store 1 (.t 18) (.c (.int .i64 ((2 : Nat) : Int)))⟩]
def c147_3 : CC := .cond (.t 15) c147_2 .skip
def c147_4 : CC := .seq c147_1 c147_3
def c147_5 : CC := .drawn [⟨⟨some 19, none, .load1 (.t 0)⟩, [0]⟩,
  ⟨⟨some 20, none, .load1 (.t 2)⟩, [2]⟩,
  ⟨⟨some 21, none, .nilc (.t 20)⟩, [20]⟩,
  ⟨⟨some 22, none, .faddr (.t 21) 8⟩, [21]⟩,
  ⟨⟨some 23, none, .load1 (.t 22)⟩, [22]⟩,
  ⟨⟨some 24, none, .sliceS 1 (.t 19) (some (.t 23)) none none⟩, [19, 23]⟩,
  ⟨⟨some 25, none, .lenS (.t 24)⟩, [24]⟩,
  ⟨⟨some 26, none, .mv (.c (.int .i64 ((0 : Nat) : Int)))⟩, []⟩]
  []
  []
def c147_6 : CC := .ops [⟨some 27, none, .bin .lss (.t 26) (.t 25) false .pint⟩]
def c147_7 : CC := .cond (.t 27) .skip (.exit 0)
def c147_8 : CC := .ops [⟨some 28, none, .mv (.t 26)⟩,
  ⟨some 3, none, .mv (.t 28)⟩]
def c147_9 : CC := .drawn [⟨⟨some 29, none, .load1 (.t 0)⟩, [0]⟩,
  ⟨⟨some 30, none, .load1 (.t 2)⟩, [2]⟩,
  ⟨⟨some 31, none, .nilc (.t 30)⟩, [30]⟩,
  ⟨⟨some 32, none, .faddr (.t 31) 8⟩, [31]⟩,
  ⟨⟨some 33, none, .load1 (.t 32)⟩, [32]⟩,
  ⟨⟨some 34, none, .mv (.t 3)⟩, [3]⟩,
  ⟨⟨some 35, none, .bin .add (.t 33) (.t 34) false .pint⟩, [33, 34]⟩,
  ⟨⟨some 36, none, .iaddrS 1 (.t 29) (.t 35)⟩, [29, 35]⟩]
  []
  [⟨⟨⟨none, none, .store 1 (.t 36) (.c (.int .u8 ((255 : Nat) : Int)))⟩, [36]⟩, [], []⟩]
def c147_10 : CC := .seq c147_8 c147_9
def c147_11 : CC := .block 1 c147_10
def c147_12 : CC := .ops [⟨some 37, none, .bin .add (.t 26) (.c (.int .i64 ((1 : Nat) : Int))) true .pint⟩,
  ⟨some 26, none, .mv (.t 37)⟩]
def c147_13 : CC := .seq c147_11 c147_12
def c147_14 : CC := .seq c147_7 c147_13
def c147_15 : CC := .seq c147_6 c147_14
def c147_16 : CC := .loop c147_15
def c147_17 : CC := .block 0 c147_16
def c147_18 : CC := .seq c147_5 c147_17
def c147_19 : CC := .seq c147_4 c147_18
def c147_20 : CC := .seq c147_0 c147_19
def cf147 : CFn := ⟨38, [], c147_20⟩

/-! 103: (*capsule/flash.Device).program -/
def c103_0 : CC := .ops [⟨some 4, none, .box 1 (.t 0)⟩,
  ⟨some 7, none, .box 1 (.t 3)⟩,
  ⟨some 8, none, .mv (.c (.int .i64 ((0 : Nat) : Int)))⟩]
def c103_1 : CC := .ops [⟨some 11, none, .load1 (.t 4)⟩,
  ⟨some 12, none, .nilc (.t 11)⟩,
  ⟨some 13, none, .faddr (.t 12) 5⟩,
  ⟨some 14, none, .load1 (.t 13)⟩,
  ⟨some 15, none, .mv (.t 1)⟩,
  ⟨some 16, none, .iaddrS 3 (.t 14) (.t 15)⟩,
  ⟨some 9, none, .mv (.t 16)⟩]
def c103_2 : CC := .ops [⟨some 17, none, .mv (.t 9)⟩,
  ⟨some 18, none, .nilc (.t 17)⟩,
  ⟨some 19, none, .faddr (.t 18) 1⟩,
  ⟨some 20, none, .load1 (.t 19)⟩,
  ⟨some 21, none, .bin .add (.t 20) (.c (.int .i64 ((1 : Nat) : Int))) true .pint⟩,
  ⟨some 22, none, .nilc (.t 17)⟩,
  ⟨some 23, none, .faddr (.t 22) 1⟩,
  ⟨none, none, .store 1 (.t 23) (.t 21)⟩]
def c103_3 : CC := .ops [⟨some 24, none, .mv (.t 9)⟩,
  ⟨some 25, none, .nilc (.t 24)⟩,
  ⟨some 26, none, .faddr (.t 25) 0⟩,
  ⟨some 27, none, .load1 (.t 26)⟩,
  ⟨some 28, none, .mv (.t 2)⟩,
  ⟨some 29, none, .iaddrS 2 (.t 27) (.t 28)⟩,
  ⟨some 10, none, .alloc [.nilp]⟩,
  ⟨none, none, .store 1 (.t 10) (.t 29)⟩]
def c103_4 : CC := .ops [⟨some 30, none, .load1 (.t 4)⟩,
  ⟨some 31, none, .mkfn (.func 145) [] [(.t 7), (.t 10)]⟩,
  ⟨some 32, none, .mkfn (.func 146) [] [(.t 10)]⟩,
  ⟨some 33, none, .mkfn (.func 147) [] [(.t 7), (.t 10), (.t 4)]⟩,
  ⟨some 34, none, .callv (.c (.fn (.func 106) [] [])) [(.t 30), (.t 31), (.t 32), (.t 33), (.c (.int .i64 ((54 : Nat) : Int)))]⟩,
  ⟨some 8, none, .mv (.t 34)⟩]
def c103_5 : CC := .seq c103_4 .ret
def c103_6 : CC := .seq c103_3 c103_5
def c103_7 : CC := .seq c103_2 c103_6
def c103_8 : CC := .seq c103_1 c103_7
def c103_9 : CC := .seq c103_0 c103_8
def cf103 : CFn := ⟨35, [.tmp 8], c103_9⟩

/-! 41: (*capsule/flash.Device).Program -/
def c41_0 : CC := .ops [⟨some 10, none, .mv (.c (.int .i64 ((0 : Nat) : Int)))⟩]
def c41_1 : CC := .ops [⟨some 10, none, .mv (.c (.int .i64 ((1 : Nat) : Int)))⟩]
def c41_2 : CC := .ops [⟨some 11, none, .mv (.t 0)⟩,
  ⟨some 12, none, .callv (.c (.fn (.func 43) [] [])) [(.t 11)]⟩]
def c41_3 : CC := .cond (.t 12) (.goto 0) .skip
def c41_4 : CC := .seq c41_2 c41_3
def c41_5 : CC := .seq c41_1 c41_4
def c41_6 : CC := .ops [⟨some 10, none, .mv (.c (.int .i64 ((2 : Nat) : Int)))⟩]
def c41_7 : CC := .ops [⟨some 13, none, .mv (.t 0)⟩,
  ⟨some 14, none, .mv (.t 1)⟩,
  ⟨some 15, none, .mv (.t 2)⟩,
  ⟨some 16, none, .callv (.c (.fn (.func 102) [] [])) [(.t 13), (.t 14), (.t 15)]⟩,
  ⟨some 17, none, .un .not (.t 16)⟩,
  ⟨some 18, none, .mv (.t 17)⟩,
  ⟨some 19, (some (18, false)), .mv (.t 3)⟩,
  ⟨some 20, (some (18, false)), .lenS (.t 19)⟩,
  ⟨some 21, (some (18, false)), .mv (.t 0)⟩,
  ⟨some 22, (some (18, false)), .nilc (.t 21)⟩,
  ⟨some 23, (some (18, false)), .faddr (.t 22) 0⟩,
  ⟨some 24, (some (18, false)), .faddr (.t 23) 2⟩,
  ⟨some 25, (some (18, false)), .load1 (.t 24)⟩,
  ⟨some 26, (some (18, false)), .bin .neq (.t 20) (.t 25) false .pint⟩,
  ⟨some 27, none, .pick (.t 18) (.c (.bool true)) (.t 26)⟩,
  ⟨some 28, none, .mv (.t 27)⟩,
  ⟨some 29, (some (28, false)), .mv (.t 4)⟩,
  ⟨some 30, (some (28, false)), .lenS (.t 29)⟩,
  ⟨some 31, (some (28, false)), .bin .neq (.t 30) (.c (.int .i64 ((64 : Nat) : Int))) true .pint⟩,
  ⟨some 32, none, .pick (.t 28) (.c (.bool true)) (.t 31)⟩]
def c41_8 : CC := .cond (.t 32) (.goto 0) .skip
def c41_9 : CC := .seq c41_7 c41_8
def c41_10 : CC := .seq c41_6 c41_9
def c41_11 : CC := .ops [⟨some 10, none, .mv (.c (.int .i64 ((50 : Nat) : Int)))⟩]
def c41_12 : CC := .ops [⟨some 33, none, .mv (.t 0)⟩,
  ⟨some 34, none, .nilc (.t 33)⟩,
  ⟨some 35, none, .faddr (.t 34) 9⟩,
  ⟨some 36, none, .load1 (.t 35)⟩]
def c41_13 : CC := .cond (.t 36) (.goto 0) .skip
def c41_14 : CC := .seq c41_12 c41_13
def c41_15 : CC := .seq c41_11 c41_14
def c41_16 : CC := .ops [⟨some 10, none, .mv (.c (.int .i64 ((51 : Nat) : Int)))⟩]
def c41_17 : CC := .ops [⟨some 37, none, .mv (.t 2)⟩,
  ⟨some 38, none, .mv (.t 0)⟩,
  ⟨some 39, none, .nilc (.t 38)⟩,
  ⟨some 40, none, .faddr (.t 39) 5⟩,
  ⟨some 41, none, .load1 (.t 40)⟩,
  ⟨some 42, none, .mv (.t 1)⟩,
  ⟨some 43, none, .iaddrS 3 (.t 41) (.t 42)⟩,
  ⟨some 44, none, .faddr (.t 43) 1⟩,
  ⟨some 45, none, .load1 (.t 44)⟩,
  ⟨some 46, none, .bin .neq (.t 37) (.t 45) false .pint⟩]
def c41_18 : CC := .cond (.t 46) (.goto 0) .skip
def c41_19 : CC := .seq c41_17 c41_18
def c41_20 : CC := .seq c41_16 c41_19
def c41_21 : CC := .ops [⟨some 47, none, .mv (.t 0)⟩,
  ⟨some 48, none, .mv (.t 1)⟩,
  ⟨some 49, none, .mv (.t 2)⟩,
  ⟨some 50, none, .mv (.t 3)⟩,
  ⟨some 51, none, .mv (.t 4)⟩,
  ⟨some 52, none, .bslice 2 [.nils, .nils] [(0, 1, (.t 50)), (1, 1, (.t 51))]⟩,
  ⟨some 53, none, .callv (.c (.fn (.func 104) [] [])) [(.t 52)]⟩,
  ⟨some 54, none, .callv (.c (.fn (.func 103) [] [])) [(.t 47), (.t 48), (.t 49), (.t 53)]⟩,
  ⟨some 10, none, .mv (.t 54)⟩]
def c41_22 : CC := .seq c41_21 .ret
def c41_23 : CC := .ops [⟨some 55, none, .mv (.t 10)⟩,
  ⟨some 10, none, .mv (.t 55)⟩]
def c41_24 : CC := .seq c41_23 .ret
def c41_25 : CC := .seq (.label 0) c41_24
def c41_26 : CC := .seq c41_22 c41_25
def c41_27 : CC := .seq c41_20 c41_26
def c41_28 : CC := .seq c41_15 c41_27
def c41_29 : CC := .seq c41_10 c41_28
def c41_30 : CC := .seq c41_5 c41_29
def c41_31 : CC := .scope c41_30
def c41_32 : CC := .seq c41_0 c41_31
def cf41 : CFn := ⟨56, [.tmp 10], c41_32⟩

/-! 29: (*capsule/flash.Device).Restart -/
def c29_0 : CC := .ops [⟨some 2, none, .mv (.c (.int .i64 ((0 : Nat) : Int)))⟩]
def c29_1 : CC := .ops [⟨some 3, none, .mv (.t 0)⟩,
  ⟨some 4, none, .callv (.c (.fn (.func 43) [] [])) [(.t 3)]⟩]
def c29_2 : CC := .ops [⟨some 2, none, .mv (.c (.int .i64 ((1 : Nat) : Int)))⟩]
def c29_3 : CC := .seq c29_2 .ret
def c29_4 : CC := .cond (.t 4) c29_3 .skip
def c29_5 : CC := .seq c29_1 c29_4
def c29_6 : CC := .ops [⟨some 5, none, .mv (.t 0)⟩,
  ⟨some 6, none, .mv (.t 0)⟩,
  ⟨some 7, none, .nilc (.t 5)⟩,
  ⟨some 8, none, .faddr (.t 7) 7⟩,
  ⟨none, none, .store 1 (.t 8) (.c (.int .i64 (-1)))⟩,
  ⟨some 9, none, .nilc (.t 6)⟩,
  ⟨some 10, none, .faddr (.t 9) 9⟩,
  ⟨none, none, .store 1 (.t 10) (.c (.bool false))⟩]
def c29_7 : CC := .ops [⟨some 2, none, .mv (.c (.int .i64 ((0 : Nat) : Int)))⟩]
def c29_8 : CC := .seq c29_7 .ret
def c29_9 : CC := .seq c29_6 c29_8
def c29_10 : CC := .seq c29_5 c29_9
def c29_11 : CC := .seq c29_0 c29_10
def cf29 : CFn := ⟨11, [.tmp 2], c29_11⟩

/-! 42: (capsule/capsuleref04.Device).Restart -/
def c42_0 : CC := .ops [⟨some 1, none, .box 11 (.t 0)⟩,
  ⟨some 2, none, .alloc [.int .i64 ((0 : Nat) : Int), .int .i64 ((0 : Nat) : Int), .int .i64 ((0 : Nat) : Int), .int .i64 ((0 : Nat) : Int), .nils, .nils, .nils, .int .i64 ((0 : Nat) : Int), .int .i64 ((0 : Nat) : Int), .int .i64 ((0 : Nat) : Int), .bool false]⟩]
def c42_1 : CC := .ops [⟨some 3, none, .faddr (.t 1) 8⟩,
  ⟨none, none, .store 1 (.t 3) (.c (.int .i64 (-1)))⟩,
  ⟨some 4, none, .faddr (.t 1) 10⟩,
  ⟨none, none, .store 1 (.t 4) (.c (.bool false))⟩]
def c42_2 : CC := .ops [⟨some 5, none, .loadN 11 (.t 1)⟩,
  ⟨none, none, .store 11 (.t 2) (.t 5)⟩]
def c42_3 : CC := .seq c42_2 .ret
def c42_4 : CC := .seq c42_1 c42_3
def c42_5 : CC := .seq c42_0 c42_4
def cf42 : CFn := ⟨6, [.cellN 2 11], c42_5⟩

/-! 8: capsule/capsulelaw11.build -/
def c8_0 : CC := .ops [⟨some 2, none, .box 4 (.t 0)⟩,
  ⟨some 4, none, .mv (.c (.nilp))⟩,
  ⟨some 5, none, .alloc [.int .i64 ((0 : Nat) : Int), .int .i64 ((0 : Nat) : Int), .int .i64 ((0 : Nat) : Int), .int .i64 ((0 : Nat) : Int), .nils, .nils, .nils, .int .i64 ((0 : Nat) : Int), .int .i64 ((0 : Nat) : Int), .int .i64 ((0 : Nat) : Int), .bool false]⟩,
  ⟨some 6, none, .mv (.c (.bool false))⟩]
def c8_1 : CC := .ops [⟨some 19, none, .loadN 4 (.t 2)⟩,
  ⟨some 20, none, .callv (.c (.fn (.func 23) [] [])) [(.t 19), (.c (.nils))]⟩,
  ⟨some 18, none, .mv (.t 20)⟩,
  ⟨some 21, none, .extract (.t 18) 0⟩,
  ⟨some 22, none, .extract (.t 18) 1⟩,
  ⟨some 7, none, .mv (.t 21)⟩,
  ⟨some 8, none, .mv (.t 22)⟩]
def c8_2 : CC := .ops [⟨some 24, none, .loadN 4 (.t 2)⟩,
  ⟨some 25, none, .callv (.c (.fn (.func 36) [] [])) [(.t 24), (.c (.nils))]⟩,
  ⟨some 23, none, .mv (.t 25)⟩,
  ⟨some 26, none, .extract (.t 23) 0⟩,
  ⟨some 27, none, .extract (.t 23) 1⟩,
  ⟨some 9, none, .alloc [.int .i64 ((0 : Nat) : Int), .int .i64 ((0 : Nat) : Int), .int .i64 ((0 : Nat) : Int), .int .i64 ((0 : Nat) : Int), .nils, .nils, .nils, .int .i64 ((0 : Nat) : Int), .int .i64 ((0 : Nat) : Int), .int .i64 ((0 : Nat) : Int), .bool false]⟩,
  ⟨none, none, .store 11 (.t 9) (.t 26)⟩,
  ⟨some 10, none, .mv (.t 27)⟩]
def c8_3 : CC := .ops [⟨some 28, none, .mv (.t 8)⟩,
  ⟨some 29, none, .callv (.c (.fn (.func 19) [] [])) [(.t 28)]⟩,
  ⟨some 30, none, .bin .neq (.t 29) (.c (.int .i64 ((0 : Nat) : Int))) true .pint⟩,
  ⟨some 31, none, .mv (.t 30)⟩,
  ⟨some 32, (some (31, false)), .mv (.t 10)⟩,
  ⟨some 33, (some (31, false)), .bin .neq (.t 32) (.c (.int .i64 ((0 : Nat) : Int))) true .pint⟩,
  ⟨some 34, none, .pick (.t 31) (.c (.bool true)) (.t 33)⟩]
def c8_4 : CC := .drawn [⟨⟨some 35, none, .loadN 11 (.t 9)⟩, [9]⟩,
  ⟨⟨some 4, none, .mv (.c (.nilp))⟩, []⟩]
  []
  [⟨⟨⟨none, none, .store 11 (.t 5) (.t 35)⟩, [5, 35]⟩, [⟨⟨some 6, none, .mv (.c (.bool false))⟩, []⟩], []⟩]
def c8_5 : CC := .seq c8_4 .ret
def c8_6 : CC := .cond (.t 34) c8_5 .skip
def c8_7 : CC := .seq c8_3 c8_6
def c8_8 : CC := .ops [⟨some 11, none, .mv (.c (.int .i64 ((0 : Nat) : Int)))⟩]
def c8_9 : CC := .ops [⟨some 36, none, .mv (.t 11)⟩,
  ⟨some 37, none, .mv (.t 1)⟩,
  ⟨some 38, none, .lenS (.t 37)⟩,
  ⟨some 39, none, .bin .lss (.t 36) (.t 38) false .pint⟩]
def c8_10 : CC := .cond (.t 39) .skip (.exit 0)
def c8_11 : CC := .seq c8_9 c8_10
def c8_12 : CC := .ops [⟨some 42, none, .mv (.t 1)⟩,
  ⟨some 43, none, .mv (.t 11)⟩,
  ⟨some 44, none, .iaddrS 12 (.t 42) (.t 43)⟩,
  ⟨some 45, none, .loadN 12 (.t 44)⟩,
  ⟨some 12, none, .alloc [.int .i64 ((0 : Nat) : Int), .bool false, .bool false, .int .i64 ((0 : Nat) : Int), .int .u8 ((0 : Nat) : Int), .int .i64 ((0 : Nat) : Int), .int .u64 ((0 : Nat) : Int), .int .u64 ((0 : Nat) : Int), .int .i64 ((0 : Nat) : Int), .int .i64 ((0 : Nat) : Int), .int .u8 ((0 : Nat) : Int), .nils]⟩,
  ⟨none, none, .store 12 (.t 12) (.t 45)⟩]
def c8_13 : CC := .ops [⟨some 46, none, .faddr (.t 12) 2⟩,
  ⟨some 47, none, .load1 (.t 46)⟩,
  ⟨some 48, none, .mv (.t 47)⟩,
  ⟨some 49, (some (48, true)), .faddr (.t 12) 3⟩,
  ⟨some 50, (some (48, true)), .load1 (.t 49)⟩,
  ⟨some 51, (some (48, true)), .bin .geq (.t 50) (.c (.int .i64 ((0 : Nat) : Int))) true .pint⟩,
  ⟨some 52, none, .pick (.t 48) (.t 51) (.c (.bool false))⟩,
  ⟨some 53, none, .mv (.t 52)⟩,
  ⟨some 54, (some (53, true)), .faddr (.t 12) 3⟩,
  ⟨some 55, (some (53, true)), .load1 (.t 54)⟩,
  ⟨some 56, (some (53, true)), .faddr (.t 2) 2⟩,
  ⟨some 57, (some (53, true)), .load1 (.t 56)⟩,
  ⟨some 58, (some (53, true)), .bin .add (.t 57) (.c (.int .i64 ((64 : Nat) : Int))) true .pint⟩,
  ⟨some 59, (some (53, true)), .bin .leq (.t 55) (.t 58) false .pint⟩,
  ⟨some 60, none, .pick (.t 53) (.t 59) (.c (.bool false))⟩]
def c8_14 : CC := .drawn [⟨⟨some 61, none, .mv (.t 7)⟩, [7]⟩,
  ⟨⟨some 62, none, .mv (.t 7)⟩, [7]⟩,
  ⟨⟨some 64, none, .faddr (.t 12) 3⟩, [12]⟩,
  ⟨⟨some 65, none, .load1 (.t 64)⟩, [64]⟩]
  []
  [⟨⟨⟨some 63, none, .callv (.c (.fn (.func 10) [] [])) [(.t 62)]⟩, [62]⟩, [], [⟨⟨some 61, none, .mv (.t 7)⟩, [7]⟩, ⟨⟨some 64, none, .faddr (.t 12) 3⟩, [12]⟩, ⟨⟨some 65, none, .load1 (.t 64)⟩, [64]⟩]⟩,
  ⟨⟨⟨some 66, none, .callv (.c (.fn (.func 9) [] [])) [(.t 61), (.t 63), (.t 65)]⟩, [61, 63, 65]⟩, [], []⟩]
def c8_15 : CC := .ops [⟨some 68, none, .loadN 11 (.t 9)⟩,
  ⟨some 69, none, .faddr (.t 9) 7⟩,
  ⟨some 70, none, .load1 (.t 69)⟩,
  ⟨some 71, none, .faddr (.t 12) 3⟩,
  ⟨some 72, none, .load1 (.t 71)⟩,
  ⟨some 73, none, .callv (.c (.fn (.func 11) [] [])) [(.t 68), (.t 70), (.t 72)]⟩,
  ⟨some 67, none, .mv (.t 73)⟩,
  ⟨some 74, none, .extract (.t 67) 0⟩,
  ⟨some 75, none, .extract (.t 67) 1⟩,
  ⟨none, none, .store 11 (.t 9) (.t 74)⟩]
def c8_16 : CC := .seq c8_14 c8_15
def c8_17 : CC := .cond (.t 60) c8_16 .skip
def c8_18 : CC := .seq c8_13 c8_17
def c8_19 : CC := .ops [⟨some 76, none, .faddr (.t 12) 1⟩,
  ⟨some 77, none, .load1 (.t 76)⟩]
def c8_20 : CC := .ops [⟨some 79, none, .loadN 11 (.t 9)⟩,
  ⟨some 80, none, .faddr (.t 12) 0⟩,
  ⟨some 81, none, .load1 (.t 80)⟩,
  ⟨some 82, none, .callv (.c (.fn (.func 13) [] [])) [(.t 79), (.t 81)]⟩,
  ⟨some 78, none, .mv (.t 82)⟩,
  ⟨some 83, none, .extract (.t 78) 0⟩,
  ⟨some 84, none, .extract (.t 78) 1⟩,
  ⟨none, none, .store 11 (.t 9) (.t 83)⟩,
  ⟨some 10, none, .mv (.t 84)⟩]
def c8_21 : CC := .ops [⟨some 85, none, .mv (.t 7)⟩,
  ⟨some 86, none, .faddr (.t 12) 0⟩,
  ⟨some 87, none, .load1 (.t 86)⟩,
  ⟨some 88, none, .callv (.c (.fn (.func 12) [] [])) [(.t 85), (.t 87)]⟩,
  ⟨some 8, none, .mv (.t 88)⟩]
def c8_22 : CC := .seq c8_20 c8_21
def c8_23 : CC := .ops [⟨some 89, none, .faddr (.t 2) 2⟩,
  ⟨some 90, none, .load1 (.t 89)⟩,
  ⟨some 91, none, .faddr (.t 12) 10⟩,
  ⟨some 92, none, .load1 (.t 91)⟩,
  ⟨some 93, none, .callv (.c (.fn (.func 34) [] [])) [(.t 90), (.t 92)]⟩,
  ⟨some 13, none, .mv (.t 93)⟩]
def c8_24 : CC := .ops [⟨some 94, none, .faddr (.t 12) 4⟩,
  ⟨some 95, none, .faddr (.t 94) 0⟩,
  ⟨some 96, none, .load1 (.t 95)⟩,
  ⟨some 97, none, .bin .neq (.t 96) (.c (.int .u8 ((1 : Nat) : Int))) true .pint⟩]
def c8_25 : CC := .ops [⟨some 99, none, .faddr (.t 2) 2⟩,
  ⟨some 100, none, .load1 (.t 99)⟩,
  ⟨some 101, none, .faddr (.t 12) 11⟩,
  ⟨some 102, none, .load1 (.t 101)⟩,
  ⟨some 103, none, .callv (.c (.fn (.func 37) [] [])) [(.t 100), (.t 102)]⟩,
  ⟨some 98, none, .mv (.t 103)⟩,
  ⟨some 104, none, .extract (.t 98) 0⟩,
  ⟨some 105, none, .extract (.t 98) 1⟩,
  ⟨some 14, none, .mv (.t 104)⟩,
  ⟨some 15, none, .mv (.t 105)⟩]
def c8_26 : CC := .ops [⟨some 106, none, .mv (.t 15)⟩,
  ⟨some 107, none, .bin .eql (.t 106) (.c (.int .i64 ((0 : Nat) : Int))) true .pint⟩]
def c8_27 : CC := .ops [⟨some 108, none, .mv (.t 14)⟩,
  ⟨some 13, none, .mv (.t 108)⟩]
def c8_28 : CC := .cond (.t 107) c8_27 .skip
def c8_29 : CC := .seq c8_26 c8_28
def c8_30 : CC := .seq c8_25 c8_29
def c8_31 : CC := .cond (.t 97) c8_30 .skip
def c8_32 : CC := .seq c8_24 c8_31
def c8_33 : CC := .ops [⟨some 109, none, .loadN 11 (.t 9)⟩,
  ⟨some 110, none, .faddr (.t 12) 0⟩,
  ⟨some 111, none, .load1 (.t 110)⟩,
  ⟨some 112, none, .callv (.c (.fn (.func 38) [] [])) [(.t 109), (.t 111)]⟩,
  ⟨some 16, none, .mv (.t 112)⟩]
def c8_34 : CC := .ops [⟨some 113, none, .faddr (.t 12) 4⟩,
  ⟨some 114, none, .loadN 6 (.t 113)⟩,
  ⟨some 115, none, .mv (.t 13)⟩,
  ⟨some 116, none, .callv (.c (.fn (.func 39) [] [])) [(.t 114), (.t 115)]⟩,
  ⟨some 17, none, .mv (.t 116)⟩]
def c8_35 : CC := .ops [⟨some 118, none, .loadN 11 (.t 9)⟩,
  ⟨some 119, none, .faddr (.t 12) 0⟩,
  ⟨some 120, none, .load1 (.t 119)⟩,
  ⟨some 121, none, .mv (.t 16)⟩,
  ⟨some 122, none, .mv (.t 13)⟩,
  ⟨some 123, none, .mv (.t 17)⟩,
  ⟨some 124, none, .callv (.c (.fn (.func 40) [] [])) [(.t 118), (.t 120), (.t 121), (.t 122), (.t 123)]⟩,
  ⟨some 117, none, .mv (.t 124)⟩,
  ⟨some 125, none, .extract (.t 117) 0⟩,
  ⟨some 126, none, .extract (.t 117) 1⟩,
  ⟨none, none, .store 11 (.t 9) (.t 125)⟩,
  ⟨some 10, none, .mv (.t 126)⟩]
def c8_36 : CC := .ops [⟨some 127, none, .mv (.t 7)⟩,
  ⟨some 128, none, .faddr (.t 12) 0⟩,
  ⟨some 129, none, .load1 (.t 128)⟩,
  ⟨some 130, none, .mv (.t 16)⟩,
  ⟨some 131, none, .mv (.t 13)⟩,
  ⟨some 132, none, .mv (.t 17)⟩,
  ⟨some 133, none, .callv (.c (.fn (.func 41) [] [])) [(.t 127), (.t 129), (.t 130), (.t 131), (.t 132)]⟩,
  ⟨some 8, none, .mv (.t 133)⟩]
def c8_37 : CC := .seq c8_35 c8_36
def c8_38 : CC := .seq c8_34 c8_37
def c8_39 : CC := .seq c8_33 c8_38
def c8_40 : CC := .seq c8_32 c8_39
def c8_41 : CC := .seq c8_23 c8_40
def c8_42 : CC := .cond (.t 77) c8_22 c8_41
def c8_43 : CC := .seq c8_19 c8_42
def c8_44 : CC := .ops [⟨some 134, none, .mv (.t 8)⟩,
  ⟨some 135, none, .callv (.c (.fn (.func 19) [] [])) [(.t 134)]⟩,
  ⟨some 136, none, .mv (.t 10)⟩,
  ⟨some 137, none, .bin .neq (.t 135) (.t 136) false .pint⟩]
def c8_45 : CC := .drawn [⟨⟨some 138, none, .loadN 11 (.t 9)⟩, [9]⟩,
  ⟨⟨some 4, none, .mv (.c (.nilp))⟩, []⟩]
  []
  [⟨⟨⟨none, none, .store 11 (.t 5) (.t 138)⟩, [5, 138]⟩, [⟨⟨some 6, none, .mv (.c (.bool false))⟩, []⟩], []⟩]
def c8_46 : CC := .seq c8_45 .ret
def c8_47 : CC := .cond (.t 137) c8_46 .skip
def c8_48 : CC := .seq c8_44 c8_47
def c8_49 : CC := .ops [⟨some 139, none, .mv (.t 7)⟩,
  ⟨some 140, none, .callv (.c (.fn (.func 29) [] [])) [(.t 139)]⟩]
def c8_50 : CC := .ops [⟨some 141, none, .loadN 11 (.t 9)⟩,
  ⟨some 142, none, .callv (.c (.fn (.func 42) [] [])) [(.t 141)]⟩,
  ⟨none, none, .store 11 (.t 9) (.t 142)⟩]
def c8_51 : CC := .seq c8_49 c8_50
def c8_52 : CC := .seq c8_48 c8_51
def c8_53 : CC := .seq c8_43 c8_52
def c8_54 : CC := .seq c8_18 c8_53
def c8_55 : CC := .seq c8_12 c8_54
def c8_56 : CC := .block 1 c8_55
def c8_57 : CC := .ops [⟨some 40, none, .mv (.t 11)⟩,
  ⟨some 41, none, .bin .add (.t 40) (.c (.int .i64 ((1 : Nat) : Int))) true .pint⟩,
  ⟨some 11, none, .mv (.t 41)⟩]
def c8_58 : CC := .seq c8_56 c8_57
def c8_59 : CC := .seq c8_11 c8_58
def c8_60 : CC := .loop c8_59
def c8_61 : CC := .block 0 c8_60
def c8_62 : CC := .seq c8_8 c8_61
def c8_63 : CC := .drawn [⟨⟨some 143, none, .mv (.t 7)⟩, [7]⟩,
  ⟨⟨some 144, none, .loadN 11 (.t 9)⟩, [9]⟩,
  ⟨⟨some 4, none, .mv (.t 143)⟩, [143]⟩]
  []
  [⟨⟨⟨none, none, .store 11 (.t 5) (.t 144)⟩, [5, 144]⟩, [⟨⟨some 6, none, .mv (.c (.bool true))⟩, []⟩], []⟩]
def c8_64 : CC := .seq c8_63 .ret
def c8_65 : CC := .seq c8_62 c8_64
def c8_66 : CC := .seq c8_7 c8_65
def c8_67 : CC := .seq c8_2 c8_66
def c8_68 : CC := .seq c8_1 c8_67
def c8_69 : CC := .seq c8_0 c8_68
def cf8 : CFn := ⟨145, [.tmp 4, .cellN 5 11, .tmp 6], c8_69⟩

/-! 51: (*capsule/flash.Device).Geometry -/
def c51_0 : CC := .ops [⟨some 2, none, .alloc [.int .i64 ((0 : Nat) : Int), .int .i64 ((0 : Nat) : Int), .int .i64 ((0 : Nat) : Int), .int .i64 ((0 : Nat) : Int)]⟩]
def c51_1 : CC := .ops [⟨some 3, none, .mv (.t 0)⟩,
  ⟨some 4, none, .callv (.c (.fn (.func 43) [] [])) [(.t 3)]⟩]
def c51_2 : CC := .ops [⟨some 5, none, .build [.int .i64 ((0 : Nat) : Int), .int .i64 ((0 : Nat) : Int), .int .i64 ((0 : Nat) : Int), .int .i64 ((0 : Nat) : Int)] []⟩,
  ⟨none, none, .store 4 (.t 2) (.t 5)⟩]
def c51_3 : CC := .seq c51_2 .ret
def c51_4 : CC := .cond (.t 4) c51_3 .skip
def c51_5 : CC := .seq c51_1 c51_4
def c51_6 : CC := .ops [⟨some 6, none, .mv (.t 0)⟩,
  ⟨some 7, none, .nilc (.t 6)⟩,
  ⟨some 8, none, .faddr (.t 7) 0⟩,
  ⟨some 9, none, .loadN 4 (.t 8)⟩,
  ⟨none, none, .store 4 (.t 2) (.t 9)⟩]
def c51_7 : CC := .seq c51_6 .ret
def c51_8 : CC := .seq c51_5 c51_7
def c51_9 : CC := .seq c51_0 c51_8
def cf51 : CFn := ⟨10, [.cellN 2 4], c51_9⟩

/-! 61: (*capsule/flash.Device).Next -/
def c61_0 : CC := .ops [⟨some 4, none, .mv (.c (.int .i64 ((0 : Nat) : Int)))⟩]
def c61_1 : CC := .ops [⟨some 5, none, .mv (.t 0)⟩,
  ⟨some 6, none, .callv (.c (.fn (.func 43) [] [])) [(.t 5)]⟩,
  ⟨some 7, none, .mv (.t 6)⟩,
  ⟨some 8, (some (7, false)), .mv (.t 0)⟩,
  ⟨some 9, (some (7, false)), .mv (.t 1)⟩,
  ⟨some 10, (some (7, false)), .callv (.c (.fn (.func 44) [] [])) [(.t 8), (.t 9)]⟩,
  ⟨some 11, (some (7, false)), .un .not (.t 10)⟩,
  ⟨some 12, none, .pick (.t 7) (.c (.bool true)) (.t 11)⟩]
def c61_2 : CC := .ops [⟨some 4, none, .mv (.c (.int .i64 ((0 : Nat) : Int)))⟩]
def c61_3 : CC := .seq c61_2 .ret
def c61_4 : CC := .cond (.t 12) c61_3 .skip
def c61_5 : CC := .seq c61_1 c61_4
def c61_6 : CC := .ops [⟨some 13, none, .mv (.t 0)⟩,
  ⟨some 14, none, .nilc (.t 13)⟩,
  ⟨some 15, none, .faddr (.t 14) 5⟩,
  ⟨some 16, none, .load1 (.t 15)⟩,
  ⟨some 17, none, .mv (.t 1)⟩,
  ⟨some 18, none, .iaddrS 3 (.t 16) (.t 17)⟩,
  ⟨some 19, none, .faddr (.t 18) 1⟩,
  ⟨some 20, none, .load1 (.t 19)⟩,
  ⟨some 4, none, .mv (.t 20)⟩]
def c61_7 : CC := .seq c61_6 .ret
def c61_8 : CC := .seq c61_5 c61_7
def c61_9 : CC := .seq c61_0 c61_8
def cf61 : CFn := ⟨21, [.tmp 4], c61_9⟩

/-! 149: slices.Clone[[]byte,byte] -/
def c149_0 : CC := .ops [⟨some 2, none, .mv (.c (.nils))⟩]
def c149_1 : CC := .ops [⟨some 3, none, .mv (.t 0)⟩,
  ⟨some 4, none, .bin .eql (.t 3) (.c (.nils)) true .nilS⟩]
def c149_2 : CC := .ops [⟨some 2, none, .mv (.c (.nils))⟩]
def c149_3 : CC := .seq c149_2 .ret
def c149_4 : CC := .cond (.t 4) c149_3 .skip
def c149_5 : CC := .seq c149_1 c149_4
def c149_6 : CC := .ops [⟨some 5, none, .bslice 0 [] []⟩,
  ⟨some 6, none, .mv (.t 0)⟩,
  ⟨some 7, none, .append 1 1 (.t 5) (.t 6)⟩,
  ⟨some 2, none, .mv (.t 7)⟩]
def c149_7 : CC := .seq c149_6 .ret
def c149_8 : CC := .seq c149_5 c149_7
def c149_9 : CC := .seq c149_0 c149_8
def cf149 : CFn := ⟨8, [.tmp 2], c149_9⟩

/-! 108: (*capsule/flash.Device).Read -/
def c108_0 : CC := .ops [⟨some 6, none, .mv (.c (.nils))⟩,
  ⟨some 7, none, .mv (.c (.nils))⟩,
  ⟨some 8, none, .mv (.c (.int .i64 ((0 : Nat) : Int)))⟩]
def c108_1 : CC := .ops [⟨some 12, none, .mv (.t 0)⟩,
  ⟨some 13, none, .callv (.c (.fn (.func 43) [] [])) [(.t 12)]⟩,
  ⟨some 11, none, .mv (.t 13)⟩]
def c108_2 : CC := .ops [⟨some 6, none, .mv (.c (.nils))⟩,
  ⟨some 7, none, .mv (.c (.nils))⟩,
  ⟨some 8, none, .mv (.c (.int .i64 ((1 : Nat) : Int)))⟩]
def c108_3 : CC := .seq c108_2 .ret
def c108_4 : CC := .ops [⟨some 15, none, .mv (.t 0)⟩,
  ⟨some 16, none, .mv (.t 1)⟩,
  ⟨some 17, none, .mv (.t 2)⟩,
  ⟨some 18, none, .callv (.c (.fn (.func 102) [] [])) [(.t 15), (.t 16), (.t 17)]⟩,
  ⟨some 19, none, .un .not (.t 18)⟩,
  ⟨some 14, none, .mv (.t 19)⟩]
def c108_5 : CC := .ops [⟨some 6, none, .mv (.c (.nils))⟩,
  ⟨some 7, none, .mv (.c (.nils))⟩,
  ⟨some 8, none, .mv (.c (.int .i64 ((2 : Nat) : Int)))⟩]
def c108_6 : CC := .seq c108_5 .ret
def c108_7 : CC := .ops [⟨some 21, none, .mv (.t 0)⟩,
  ⟨some 22, none, .nilc (.t 21)⟩,
  ⟨some 23, none, .faddr (.t 22) 9⟩,
  ⟨some 24, none, .load1 (.t 23)⟩,
  ⟨some 20, none, .mv (.t 24)⟩]
def c108_8 : CC := .ops [⟨some 6, none, .mv (.c (.nils))⟩,
  ⟨some 7, none, .mv (.c (.nils))⟩,
  ⟨some 8, none, .mv (.c (.int .i64 ((50 : Nat) : Int)))⟩]
def c108_9 : CC := .seq c108_8 .ret
def c108_10 : CC := .cond (.t 20) c108_9 .skip
def c108_11 : CC := .seq c108_7 c108_10
def c108_12 : CC := .cond (.t 14) c108_6 c108_11
def c108_13 : CC := .seq c108_4 c108_12
def c108_14 : CC := .cond (.t 11) c108_3 c108_13
def c108_15 : CC := .seq c108_1 c108_14
def c108_16 : CC := .block 0 c108_15
def c108_17 : CC := .ops [⟨some 25, none, .mv (.t 0)⟩,
  ⟨some 26, none, .nilc (.t 25)⟩,
  ⟨some 27, none, .faddr (.t 26) 5⟩,
  ⟨some 28, none, .load1 (.t 27)⟩,
  ⟨some 29, none, .mv (.t 1)⟩,
  ⟨some 30, none, .iaddrS 3 (.t 28) (.t 29)⟩,
  ⟨some 31, none, .faddr (.t 30) 0⟩,
  ⟨some 32, none, .load1 (.t 31)⟩,
  ⟨some 33, none, .mv (.t 2)⟩,
  ⟨some 34, none, .iaddrS 2 (.t 32) (.t 33)⟩,
  ⟨some 35, none, .loadN 2 (.t 34)⟩,
  ⟨some 9, none, .alloc [.nils, .int .i64 ((0 : Nat) : Int)]⟩,
  ⟨none, none, .store 2 (.t 9) (.t 35)⟩]
def c108_18 : CC := .ops [⟨some 36, none, .faddr (.t 9) 1⟩,
  ⟨some 37, none, .load1 (.t 36)⟩]
def c108_19 : CC := .ops [⟨some 39, none, .bin .eql (.t 37) (.c (.int .i64 ((1 : Nat) : Int))) true .pint⟩,
  ⟨some 38, none, .mv (.t 39)⟩]
def c108_20 : CC := .ops [⟨some 6, none, .mv (.c (.nils))⟩,
  ⟨some 7, none, .mv (.c (.nils))⟩,
  ⟨some 8, none, .mv (.c (.int .i64 ((52 : Nat) : Int)))⟩]
def c108_21 : CC := .seq c108_20 .ret
def c108_22 : CC := .ops [⟨some 41, none, .bin .eql (.t 37) (.c (.int .i64 ((4 : Nat) : Int))) true .pint⟩,
  ⟨some 40, none, .mv (.t 41)⟩]
def c108_23 : CC := .ops [⟨some 42, none, .bin .eql (.t 37) (.c (.int .i64 ((5 : Nat) : Int))) true .pint⟩,
  ⟨some 40, none, .mv (.t 42)⟩]
def c108_24 : CC := .cond (.t 40) .skip c108_23
def c108_25 : CC := .seq c108_22 c108_24
def c108_26 : CC := .ops [⟨some 6, none, .mv (.c (.nils))⟩,
  ⟨some 7, none, .mv (.c (.nils))⟩,
  ⟨some 8, none, .mv (.c (.int .i64 ((53 : Nat) : Int)))⟩]
def c108_27 : CC := .seq c108_26 .ret
def c108_28 : CC := .cond (.t 40) c108_27 .skip
def c108_29 : CC := .seq c108_25 c108_28
def c108_30 : CC := .cond (.t 38) c108_21 c108_29
def c108_31 : CC := .seq c108_19 c108_30
def c108_32 : CC := .block 1 c108_31
def c108_33 : CC := .seq c108_18 c108_32
def c108_34 : CC := .ops [⟨some 43, none, .mv (.t 0)⟩,
  ⟨some 44, none, .nilc (.t 43)⟩,
  ⟨some 45, none, .faddr (.t 44) 0⟩,
  ⟨some 46, none, .faddr (.t 45) 2⟩,
  ⟨some 47, none, .load1 (.t 46)⟩,
  ⟨some 10, none, .mv (.t 47)⟩]
def c108_35 : CC := .drawn [⟨⟨some 48, none, .faddr (.t 9) 0⟩, [9]⟩,
  ⟨⟨some 49, none, .faddr (.t 48) 0⟩, [48]⟩,
  ⟨⟨some 50, none, .load1 (.t 49)⟩, [49]⟩,
  ⟨⟨some 51, none, .mv (.t 10)⟩, [10]⟩,
  ⟨⟨some 52, none, .mv (.t 10)⟩, [10]⟩,
  ⟨⟨some 53, none, .sliceS 1 (.t 50) none (some (.t 51)) (some (.t 52))⟩, [50, 51, 52]⟩,
  ⟨⟨some 55, none, .faddr (.t 9) 0⟩, [9]⟩,
  ⟨⟨some 56, none, .faddr (.t 55) 0⟩, [55]⟩,
  ⟨⟨some 57, none, .load1 (.t 56)⟩, [56]⟩,
  ⟨⟨some 58, none, .mv (.t 10)⟩, [10]⟩,
  ⟨⟨some 59, none, .sliceS 1 (.t 57) (some (.t 58)) none none⟩, [57, 58]⟩]
  []
  [⟨⟨⟨some 54, none, .callv (.c (.fn (.func 149) [] [])) [(.t 53)]⟩, [53]⟩, [], [⟨⟨some 55, none, .faddr (.t 9) 0⟩, [9]⟩, ⟨⟨some 56, none, .faddr (.t 55) 0⟩, [55]⟩, ⟨⟨some 57, none, .load1 (.t 56)⟩, [56]⟩, ⟨⟨some 58, none, .mv (.t 10)⟩, [10]⟩, ⟨⟨some 59, none, .sliceS 1 (.t 57) (some (.t 58)) none none⟩, [57, 58]⟩]⟩,
  ⟨⟨⟨some 60, none, .callv (.c (.fn (.func 149) [] [])) [(.t 59)]⟩, [59]⟩, [⟨⟨some 6, none, .mv (.t 54)⟩, [54]⟩, ⟨⟨some 7, none, .mv (.t 60)⟩, [60]⟩, ⟨⟨some 8, none, .mv (.c (.int .i64 ((0 : Nat) : Int)))⟩, []⟩], []⟩]
def c108_36 : CC := .seq c108_35 .ret
def c108_37 : CC := .seq c108_34 c108_36
def c108_38 : CC := .seq c108_33 c108_37
def c108_39 : CC := .seq c108_17 c108_38
def c108_40 : CC := .seq c108_16 c108_39
def c108_41 : CC := .seq c108_0 c108_40
def cf108 : CFn := ⟨61, [.tmp 6, .tmp 7, .tmp 8], c108_41⟩

/-! 150: capsule/spare.Decode$1 -/
def c150_0 : CC := .ops [⟨some 3, none, .recover⟩,
  ⟨some 2, none, .mv (.t 3)⟩]
def c150_1 : CC := .ops [⟨some 4, none, .mv (.t 2)⟩,
  ⟨some 5, none, .bin .neq (.t 4) (.c (.nili)) true .iface⟩]
def c150_2 : CC := .drawn [⟨⟨some 6, none, .build [.int .u8 ((0 : Nat) : Int), .int .i64 ((0 : Nat) : Int), .int .u64 ((0 : Nat) : Int), .int .u64 ((0 : Nat) : Int), .int .i64 ((0 : Nat) : Int), .int .i64 ((0 : Nat) : Int)] []⟩, []⟩,
  ⟨⟨some 7, none, .mv (.t 2)⟩, [2]⟩,
  ⟨⟨some 8, none, .tassert (.t 7) 34 (.int .i64 ((0 : Nat) : Int)) false⟩, [7]⟩]
  []
  [⟨⟨⟨none, none, .store 6 (.t 0) (.t 6)⟩, [0, 6]⟩, [], [⟨⟨some 7, none, .mv (.t 2)⟩, [2]⟩, ⟨⟨some 8, none, .tassert (.t 7) 34 (.int .i64 ((0 : Nat) : Int)) false⟩, [7]⟩]⟩,
  ⟨⟨⟨none, none, .store 1 (.t 1) (.t 8)⟩, [1, 8]⟩, [], []⟩]
def c150_3 : CC := .cond (.t 5) c150_2 .skip
def c150_4 : CC := .seq c150_1 c150_3
def c150_5 : CC := .seq c150_0 c150_4
def cf150 : CFn := ⟨9, [], c150_5⟩

/-! 151: capsule/spare.must -/
def c151_0 : CC := .ops [⟨some 4, none, .mv (.t 0)⟩,
  ⟨some 5, none, .un .not (.t 4)⟩]
def c151_1 : CC := .ops [⟨some 6, none, .mv (.t 1)⟩,
  ⟨some 7, none, .mkif 34 (.t 6)⟩,
  ⟨none, none, .panic (.t 7)⟩]
def c151_2 : CC := .cond (.t 5) c151_1 .skip
def c151_3 : CC := .seq c151_0 c151_2
def cf151 : CFn := ⟨8, [], c151_3⟩

/-! 152: capsule/wire.NewReader -/
def c152_0 : CC := .ops [⟨some 2, none, .mv (.c (.nilp))⟩]
def c152_1 : CC := .ops [⟨some 3, none, .mv (.t 0)⟩,
  ⟨some 4, none, .callv (.c (.fn (.func 149) [] [])) [(.t 3)]⟩,
  ⟨some 5, none, .build [.nils, .int .i64 ((0 : Nat) : Int)] [(0, 1, (.t 4))]⟩,
  ⟨some 6, none, .build [.nils, .int .i64 ((0 : Nat) : Int)] [(0, 2, (.t 5))]⟩,
  ⟨some 7, none, .box 2 (.t 6)⟩,
  ⟨some 2, none, .mv (.t 7)⟩]
def c152_2 : CC := .seq c152_1 .ret
def c152_3 : CC := .seq c152_0 c152_2
def cf152 : CFn := ⟨8, [.tmp 2], c152_3⟩

/-! 202: (*capsule/wire.Reader).state -/
def c202_0 : CC := .ops [⟨some 2, none, .mv (.c (.nilp))⟩]
def c202_1 : CC := .ops [⟨some 3, none, .mv (.t 0)⟩,
  ⟨some 4, none, .bin .eql (.t 3) (.c (.nilp)) true .ptr⟩]
def c202_2 : CC := .ops [⟨some 5, none, .build [.nils, .int .i64 ((0 : Nat) : Int)] []⟩,
  ⟨some 6, none, .box 2 (.t 5)⟩,
  ⟨some 2, none, .mv (.t 6)⟩]
def c202_3 : CC := .seq c202_2 .ret
def c202_4 : CC := .cond (.t 4) c202_3 .skip
def c202_5 : CC := .seq c202_1 c202_4
def c202_6 : CC := .ops [⟨some 7, none, .mv (.t 0)⟩,
  ⟨some 8, none, .nilc (.t 7)⟩,
  ⟨some 9, none, .faddr (.t 8) 0⟩,
  ⟨some 2, none, .mv (.t 9)⟩]
def c202_7 : CC := .seq c202_6 .ret
def c202_8 : CC := .seq c202_5 c202_7
def c202_9 : CC := .seq c202_0 c202_8
def cf202 : CFn := ⟨10, [.tmp 2], c202_9⟩

/-! 203: (*capsule/wire.rest).take -/
def c203_0 : CC := .ops [⟨some 4, none, .mv (.c (.nils))⟩,
  ⟨some 5, none, .mv (.c (.int .i64 ((0 : Nat) : Int)))⟩]
def c203_1 : CC := .ops [⟨some 8, none, .mv (.t 1)⟩,
  ⟨some 9, none, .bin .lss (.t 8) (.c (.int .i64 ((0 : Nat) : Int))) true .pint⟩,
  ⟨some 7, none, .mv (.t 9)⟩]
def c203_2 : CC := .ops [⟨some 4, none, .mv (.c (.nils))⟩,
  ⟨some 5, none, .mv (.c (.int .i64 ((2 : Nat) : Int)))⟩]
def c203_3 : CC := .seq c203_2 .ret
def c203_4 : CC := .ops [⟨some 11, none, .mv (.t 1)⟩,
  ⟨some 12, none, .mv (.t 0)⟩,
  ⟨some 13, none, .nilc (.t 12)⟩,
  ⟨some 14, none, .faddr (.t 13) 0⟩,
  ⟨some 15, none, .load1 (.t 14)⟩,
  ⟨some 16, none, .lenS (.t 15)⟩,
  ⟨some 17, none, .bin .gtr (.t 11) (.t 16) false .pint⟩,
  ⟨some 10, none, .mv (.t 17)⟩]
def c203_5 : CC := .ops [⟨some 4, none, .mv (.c (.nils))⟩,
  ⟨some 5, none, .mv (.c (.int .i64 ((4 : Nat) : Int)))⟩]
def c203_6 : CC := .seq c203_5 .ret
def c203_7 : CC := .cond (.t 10) c203_6 .skip
def c203_8 : CC := .seq c203_4 c203_7
def c203_9 : CC := .cond (.t 7) c203_3 c203_8
def c203_10 : CC := .seq c203_1 c203_9
def c203_11 : CC := .block 0 c203_10
def c203_12 : CC := .ops [⟨some 18, none, .mv (.t 0)⟩,
  ⟨some 19, none, .nilc (.t 18)⟩,
  ⟨some 20, none, .faddr (.t 19) 0⟩,
  ⟨some 21, none, .load1 (.t 20)⟩,
  ⟨some 22, none, .mv (.t 1)⟩,
  ⟨some 23, none, .mv (.t 1)⟩,
  ⟨some 24, none, .sliceS 1 (.t 21) none (some (.t 22)) (some (.t 23))⟩,
  ⟨some 6, none, .mv (.t 24)⟩]
def c203_13 : CC := .drawn [⟨⟨some 25, none, .mv (.t 0)⟩, [0]⟩,
  ⟨⟨some 26, none, .mv (.t 0)⟩, [0]⟩,
  ⟨⟨some 27, none, .mv (.t 0)⟩, [0]⟩,
  ⟨⟨some 28, none, .nilc (.t 27)⟩, [27]⟩,
  ⟨⟨some 29, none, .faddr (.t 28) 0⟩, [28]⟩,
  ⟨⟨some 30, none, .load1 (.t 29)⟩, [29]⟩,
  ⟨⟨some 31, none, .mv (.t 1)⟩, [1]⟩,
  ⟨⟨some 32, none, .sliceS 1 (.t 30) (some (.t 31)) none none⟩, [30, 31]⟩,
  ⟨⟨some 33, none, .mv (.t 0)⟩, [0]⟩,
  ⟨⟨some 34, none, .nilc (.t 33)⟩, [33]⟩,
  ⟨⟨some 35, none, .faddr (.t 34) 1⟩, [34]⟩,
  ⟨⟨some 36, none, .load1 (.t 35)⟩, [35]⟩,
  ⟨⟨some 37, none, .mv (.t 1)⟩, [1]⟩,
  ⟨⟨some 38, none, .bin .add (.t 36) (.t 37) false .pint⟩, [36, 37]⟩,
  ⟨⟨some 39, none, .nilc (.t 25)⟩, [25]⟩,
  ⟨⟨some 40, none, .faddr (.t 39) 0⟩, [39]⟩]
  []
  [⟨⟨⟨none, none, .store 1 (.t 40) (.t 32)⟩, [40, 32]⟩, [⟨⟨some 41, none, .nilc (.t 26)⟩, [26]⟩, ⟨⟨some 42, none, .faddr (.t 41) 1⟩, [41]⟩], [⟨⟨some 26, none, .mv (.t 0)⟩, [0]⟩, ⟨⟨some 37, none, .mv (.t 1)⟩, [1]⟩, ⟨⟨some 38, none, .bin .add (.t 36) (.t 37) false .pint⟩, [36, 37]⟩]⟩,
  ⟨⟨⟨none, none, .store 1 (.t 42) (.t 38)⟩, [42, 38]⟩, [], []⟩]
def c203_14 : CC := .ops [⟨some 43, none, .mv (.t 6)⟩,
  ⟨some 4, none, .mv (.t 43)⟩,
  ⟨some 5, none, .mv (.c (.int .i64 ((0 : Nat) : Int)))⟩]
def c203_15 : CC := .seq c203_14 .ret
def c203_16 : CC := .seq c203_13 c203_15
def c203_17 : CC := .seq c203_12 c203_16
def c203_18 : CC := .seq c203_11 c203_17
def c203_19 : CC := .seq c203_0 c203_18
def cf203 : CFn := ⟨44, [.tmp 4, .tmp 5], c203_19⟩

/-! 156: capsule/wire.Get -/
def c156_0 : CC := .ops [⟨some 2, none, .mv (.c (.int .u64 ((0 : Nat) : Int)))⟩,
  ⟨some 3, none, .mv (.c (.int .i64 ((0 : Nat) : Int)))⟩]
def c156_1 : CC := .ops [⟨some 6, none, .mv (.t 0)⟩,
  ⟨some 7, none, .lenS (.t 6)⟩,
  ⟨some 8, none, .bin .lss (.t 7) (.c (.int .i64 ((1 : Nat) : Int))) true .pint⟩,
  ⟨some 9, none, .mv (.t 8)⟩,
  ⟨some 10, (some (9, false)), .mv (.t 0)⟩,
  ⟨some 11, (some (9, false)), .lenS (.t 10)⟩,
  ⟨some 12, (some (9, false)), .bin .gtr (.t 11) (.c (.int .i64 ((8 : Nat) : Int))) true .pint⟩,
  ⟨some 13, none, .pick (.t 9) (.c (.bool true)) (.t 12)⟩]
def c156_2 : CC := .ops [⟨some 2, none, .mv (.c (.int .u64 ((0 : Nat) : Int)))⟩,
  ⟨some 3, none, .mv (.c (.int .i64 ((2 : Nat) : Int)))⟩]
def c156_3 : CC := .seq c156_2 .ret
def c156_4 : CC := .cond (.t 13) c156_3 .skip
def c156_5 : CC := .seq c156_1 c156_4
def c156_6 : CC := .ops [⟨some 14, none, .mv (.t 0)⟩,
  ⟨some 15, none, .lenS (.t 14)⟩,
  ⟨some 16, none, .mv (.c (.int .i64 ((0 : Nat) : Int)))⟩]
def c156_7 : CC := .ops [⟨some 17, none, .bin .lss (.t 16) (.t 15) false .pint⟩]
def c156_8 : CC := .cond (.t 17) .skip (.exit 0)
def c156_9 : CC := .ops [⟨some 18, none, .mv (.t 16)⟩,
  ⟨some 19, none, .iaddrS 1 (.t 14) (.t 16)⟩,
  ⟨some 20, none, .load1 (.t 19)⟩,
  ⟨some 4, none, .mv (.t 18)⟩,
  ⟨some 5, none, .mv (.t 20)⟩]
def c156_10 : CC := .ops [⟨some 21, none, .mv (.t 2)⟩,
  ⟨some 22, none, .mv (.t 5)⟩,
  ⟨some 23, none, .conv .u64 (.t 22)⟩,
  ⟨some 24, none, .mv (.t 4)⟩,
  ⟨some 25, none, .bin .mul (.c (.int .i64 ((8 : Nat) : Int))) (.t 24) true .pint⟩,
  ⟨some 26, none, .bin .shl (.t 23) (.t 25) false .pint⟩,
  ⟨some 27, none, .bin .or (.t 21) (.t 26) false .pint⟩,
  ⟨some 2, none, .mv (.t 27)⟩]
def c156_11 : CC := .seq c156_9 c156_10
def c156_12 : CC := .block 1 c156_11
def c156_13 : CC := .ops [⟨some 28, none, .bin .add (.t 16) (.c (.int .i64 ((1 : Nat) : Int))) true .pint⟩,
  ⟨some 16, none, .mv (.t 28)⟩]
def c156_14 : CC := .seq c156_12 c156_13
def c156_15 : CC := .seq c156_8 c156_14
def c156_16 : CC := .seq c156_7 c156_15
def c156_17 : CC := .loop c156_16
def c156_18 : CC := .block 0 c156_17
def c156_19 : CC := .seq c156_6 c156_18
def c156_20 : CC := .ops [⟨some 29, none, .mv (.t 2)⟩,
  ⟨some 2, none, .mv (.t 29)⟩,
  ⟨some 3, none, .mv (.c (.int .i64 ((0 : Nat) : Int)))⟩]
def c156_21 : CC := .seq c156_20 .ret
def c156_22 : CC := .seq c156_19 c156_21
def c156_23 : CC := .seq c156_5 c156_22
def c156_24 : CC := .seq c156_0 c156_23
def cf156 : CFn := ⟨30, [.tmp 2, .tmp 3], c156_24⟩

/-! 223: (*capsule/wire.rest).field -/
def c223_0 : CC := .ops [⟨some 4, none, .mv (.c (.nils))⟩,
  ⟨some 5, none, .mv (.c (.int .i64 ((0 : Nat) : Int)))⟩]
def c223_1 : CC := .ops [⟨some 9, none, .mv (.t 1)⟩,
  ⟨some 10, none, .bin .lss (.t 9) (.c (.int .i64 ((1 : Nat) : Int))) true .pint⟩,
  ⟨some 11, none, .mv (.t 10)⟩,
  ⟨some 12, (some (11, false)), .mv (.t 1)⟩,
  ⟨some 13, (some (11, false)), .bin .gtr (.t 12) (.c (.int .i64 ((8 : Nat) : Int))) true .pint⟩,
  ⟨some 14, none, .pick (.t 11) (.c (.bool true)) (.t 13)⟩]
def c223_2 : CC := .ops [⟨some 4, none, .mv (.c (.nils))⟩,
  ⟨some 5, none, .mv (.c (.int .i64 ((2 : Nat) : Int)))⟩]
def c223_3 : CC := .seq c223_2 .ret
def c223_4 : CC := .cond (.t 14) c223_3 .skip
def c223_5 : CC := .seq c223_1 c223_4
def c223_6 : CC := .ops [⟨some 16, none, .mv (.t 0)⟩,
  ⟨some 17, none, .mv (.t 1)⟩,
  ⟨some 18, none, .callv (.c (.fn (.func 203) [] [])) [(.t 16), (.t 17)]⟩,
  ⟨some 15, none, .mv (.t 18)⟩,
  ⟨some 19, none, .extract (.t 15) 0⟩,
  ⟨some 20, none, .extract (.t 15) 1⟩,
  ⟨some 6, none, .mv (.t 19)⟩,
  ⟨some 7, none, .mv (.t 20)⟩]
def c223_7 : CC := .ops [⟨some 21, none, .mv (.t 7)⟩,
  ⟨some 22, none, .bin .neq (.t 21) (.c (.int .i64 ((0 : Nat) : Int))) true .pint⟩]
def c223_8 : CC := .ops [⟨some 23, none, .mv (.t 7)⟩,
  ⟨some 4, none, .mv (.c (.nils))⟩,
  ⟨some 5, none, .mv (.t 23)⟩]
def c223_9 : CC := .seq c223_8 .ret
def c223_10 : CC := .cond (.t 22) c223_9 .skip
def c223_11 : CC := .seq c223_7 c223_10
def c223_12 : CC := .ops [⟨some 25, none, .mv (.t 6)⟩,
  ⟨some 26, none, .callv (.c (.fn (.func 156) [] [])) [(.t 25)]⟩,
  ⟨some 24, none, .mv (.t 26)⟩,
  ⟨some 27, none, .extract (.t 24) 0⟩,
  ⟨some 28, none, .extract (.t 24) 1⟩,
  ⟨some 8, none, .mv (.t 27)⟩,
  ⟨some 7, none, .mv (.t 28)⟩]
def c223_13 : CC := .ops [⟨some 29, none, .mv (.t 8)⟩,
  ⟨some 30, none, .bslice 1 [.int .u64 ((0 : Nat) : Int)] [(0, 1, (.t 29))]⟩,
  ⟨some 31, none, .mv (.t 7)⟩,
  ⟨some 4, none, .mv (.t 30)⟩,
  ⟨some 5, none, .mv (.t 31)⟩]
def c223_14 : CC := .seq c223_13 .ret
def c223_15 : CC := .seq c223_12 c223_14
def c223_16 : CC := .seq c223_11 c223_15
def c223_17 : CC := .seq c223_6 c223_16
def c223_18 : CC := .seq c223_5 c223_17
def c223_19 : CC := .seq c223_0 c223_18
def cf223 : CFn := ⟨32, [.tmp 4, .tmp 5], c223_19⟩

/-! 222: capsule/wire.each[int,uint64] -/
def c222_0 : CC := .ops [⟨some 4, none, .mv (.c (.nils))⟩,
  ⟨some 5, none, .mv (.c (.int .i64 ((0 : Nat) : Int)))⟩]
def c222_1 : CC := .ops [⟨some 10, none, .mv (.t 0)⟩,
  ⟨some 11, none, .lenS (.t 10)⟩,
  ⟨some 12, none, .mv (.c (.int .i64 ((0 : Nat) : Int)))⟩]
def c222_2 : CC := .ops [⟨some 13, none, .bin .lss (.t 12) (.t 11) false .pint⟩]
def c222_3 : CC := .cond (.t 13) .skip (.exit 0)
def c222_4 : CC := .ops [⟨some 14, none, .iaddrS 1 (.t 10) (.t 12)⟩,
  ⟨some 15, none, .load1 (.t 14)⟩,
  ⟨some 7, none, .mv (.t 15)⟩]
def c222_5 : CC := .ops [⟨some 17, none, .mv (.t 1)⟩,
  ⟨some 18, none, .mv (.t 7)⟩,
  ⟨some 19, none, .callv (.t 17) [(.t 18)]⟩,
  ⟨some 16, none, .mv (.t 19)⟩,
  ⟨some 20, none, .extract (.t 16) 0⟩,
  ⟨some 21, none, .extract (.t 16) 1⟩,
  ⟨some 8, none, .mv (.t 20)⟩,
  ⟨some 9, none, .mv (.t 21)⟩]
def c222_6 : CC := .ops [⟨some 22, none, .mv (.t 9)⟩,
  ⟨some 23, none, .bin .neq (.t 22) (.c (.int .i64 ((0 : Nat) : Int))) true .pint⟩]
def c222_7 : CC := .ops [⟨some 24, none, .mv (.t 9)⟩,
  ⟨some 4, none, .mv (.c (.nils))⟩,
  ⟨some 5, none, .mv (.t 24)⟩]
def c222_8 : CC := .seq c222_7 .ret
def c222_9 : CC := .cond (.t 23) c222_8 .skip
def c222_10 : CC := .seq c222_6 c222_9
def c222_11 : CC := .ops [⟨some 25, none, .mv (.t 4)⟩,
  ⟨some 26, none, .mv (.t 8)⟩,
  ⟨some 27, none, .append 1 8 (.t 25) (.t 26)⟩,
  ⟨some 4, none, .mv (.t 27)⟩]
def c222_12 : CC := .seq c222_10 c222_11
def c222_13 : CC := .seq c222_5 c222_12
def c222_14 : CC := .seq c222_4 c222_13
def c222_15 : CC := .block 1 c222_14
def c222_16 : CC := .ops [⟨some 28, none, .bin .add (.t 12) (.c (.int .i64 ((1 : Nat) : Int))) true .pint⟩,
  ⟨some 12, none, .mv (.t 28)⟩]
def c222_17 : CC := .seq c222_15 c222_16
def c222_18 : CC := .seq c222_3 c222_17
def c222_19 : CC := .seq c222_2 c222_18
def c222_20 : CC := .loop c222_19
def c222_21 : CC := .block 0 c222_20
def c222_22 : CC := .seq c222_1 c222_21
def c222_23 : CC := .ops [⟨some 29, none, .mv (.t 4)⟩,
  ⟨some 4, none, .mv (.t 29)⟩,
  ⟨some 5, none, .mv (.c (.int .i64 ((0 : Nat) : Int)))⟩]
def c222_24 : CC := .seq c222_23 .ret
def c222_25 : CC := .seq c222_22 c222_24
def c222_26 : CC := .seq c222_0 c222_25
def cf222 : CFn := ⟨30, [.tmp 4, .tmp 5], c222_26⟩

/-! 200: (*capsule/wire.Reader).All -/
def c200_0 : CC := .ops [⟨some 4, none, .mv (.c (.nils))⟩,
  ⟨some 5, none, .mv (.c (.int .i64 ((0 : Nat) : Int)))⟩]
def c200_1 : CC := .ops [⟨some 9, none, .mv (.t 0)⟩,
  ⟨some 10, none, .callv (.c (.fn (.func 202) [] [])) [(.t 9)]⟩,
  ⟨some 11, none, .nilc (.t 10)⟩,
  ⟨some 12, none, .loadN 2 (.t 11)⟩,
  ⟨some 13, none, .build [.nils, .int .i64 ((0 : Nat) : Int)] [(0, 2, (.t 12))]⟩,
  ⟨some 6, none, .alloc [.nils, .int .i64 ((0 : Nat) : Int)]⟩,
  ⟨none, none, .store 2 (.t 6) (.t 13)⟩]
def c200_2 : CC := .ops [⟨some 15, none, .mv (.t 1)⟩,
  ⟨some 16, none, .faddr (.t 6) 0⟩,
  ⟨some 17, none, .mkfn (.func 223) [(.t 16)] []⟩,
  ⟨some 18, none, .callv (.c (.fn (.func 222) [] [])) [(.t 15), (.t 17)]⟩,
  ⟨some 14, none, .mv (.t 18)⟩,
  ⟨some 19, none, .extract (.t 14) 0⟩,
  ⟨some 20, none, .extract (.t 14) 1⟩,
  ⟨some 7, none, .mv (.t 19)⟩,
  ⟨some 8, none, .mv (.t 20)⟩]
def c200_3 : CC := .ops [⟨some 21, none, .mv (.t 8)⟩,
  ⟨some 22, none, .bin .eql (.t 21) (.c (.int .i64 ((0 : Nat) : Int))) true .pint⟩,
  ⟨some 23, none, .mv (.t 22)⟩,
  ⟨some 24, (some (23, true)), .mv (.t 0)⟩,
  ⟨some 25, (some (23, true)), .bin .neq (.t 24) (.c (.nilp)) true .ptr⟩,
  ⟨some 26, none, .pick (.t 23) (.t 25) (.c (.bool false))⟩]
def c200_4 : CC := .ops [⟨some 27, none, .mv (.t 0)⟩,
  ⟨some 28, none, .loadN 2 (.t 6)⟩,
  ⟨some 29, none, .nilc (.t 27)⟩,
  ⟨none, none, .store 2 (.t 29) (.t 28)⟩]
def c200_5 : CC := .cond (.t 26) c200_4 .skip
def c200_6 : CC := .seq c200_3 c200_5
def c200_7 : CC := .ops [⟨some 30, none, .mv (.t 7)⟩,
  ⟨some 31, none, .mv (.t 8)⟩,
  ⟨some 4, none, .mv (.t 30)⟩,
  ⟨some 5, none, .mv (.t 31)⟩]
def c200_8 : CC := .seq c200_7 .ret
def c200_9 : CC := .seq c200_6 c200_8
def c200_10 : CC := .seq c200_2 c200_9
def c200_11 : CC := .seq c200_1 c200_10
def c200_12 : CC := .seq c200_0 c200_11
def cf200 : CFn := ⟨32, [.tmp 4, .tmp 5], c200_12⟩

/-! 154: (*capsule/wire.Reader).Next -/
def c154_0 : CC := .ops [⟨some 4, none, .mv (.c (.int .u64 ((0 : Nat) : Int)))⟩,
  ⟨some 5, none, .mv (.c (.int .i64 ((0 : Nat) : Int)))⟩]
def c154_1 : CC := .ops [⟨some 9, none, .mv (.t 0)⟩,
  ⟨some 10, none, .mv (.t 1)⟩,
  ⟨some 11, none, .bslice 1 [.int .i64 ((0 : Nat) : Int)] [(0, 1, (.t 10))]⟩,
  ⟨some 12, none, .callv (.c (.fn (.func 200) [] [])) [(.t 9), (.t 11)]⟩,
  ⟨some 8, none, .mv (.t 12)⟩,
  ⟨some 13, none, .extract (.t 8) 0⟩,
  ⟨some 14, none, .extract (.t 8) 1⟩,
  ⟨some 6, none, .mv (.t 13)⟩,
  ⟨some 7, none, .mv (.t 14)⟩]
def c154_2 : CC := .ops [⟨some 15, none, .mv (.t 7)⟩,
  ⟨some 16, none, .bin .neq (.t 15) (.c (.int .i64 ((0 : Nat) : Int))) true .pint⟩]
def c154_3 : CC := .ops [⟨some 17, none, .mv (.t 7)⟩,
  ⟨some 4, none, .mv (.c (.int .u64 ((0 : Nat) : Int)))⟩,
  ⟨some 5, none, .mv (.t 17)⟩]
def c154_4 : CC := .seq c154_3 .ret
def c154_5 : CC := .cond (.t 16) c154_4 .skip
def c154_6 : CC := .seq c154_2 c154_5
def c154_7 : CC := .ops [⟨some 18, none, .mv (.t 6)⟩,
  ⟨some 19, none, .iaddrS 1 (.t 18) (.c (.int .i64 ((0 : Nat) : Int)))⟩,
  ⟨some 20, none, .load1 (.t 19)⟩,
  ⟨some 4, none, .mv (.t 20)⟩,
  ⟨some 5, none, .mv (.c (.int .i64 ((0 : Nat) : Int)))⟩]
def c154_8 : CC := .seq c154_7 .ret
def c154_9 : CC := .seq c154_6 c154_8
def c154_10 : CC := .seq c154_1 c154_9
def c154_11 : CC := .seq c154_0 c154_10
def cf154 : CFn := ⟨21, [.tmp 4, .tmp 5], c154_11⟩

/-! 153: capsule/spare.Decode$2 -/
def c153_0 : CC := .ops [⟨some 3, none, .mv (.c (.int .i64 ((0 : Nat) : Int)))⟩]
def c153_1 : CC := .ops [⟨some 7, none, .load1 (.t 1)⟩,
  ⟨some 8, none, .mv (.t 0)⟩,
  ⟨some 9, none, .callv (.c (.fn (.func 154) [] [])) [(.t 7), (.t 8)]⟩,
  ⟨some 6, none, .mv (.t 9)⟩,
  ⟨some 10, none, .extract (.t 6) 0⟩,
  ⟨some 11, none, .extract (.t 6) 1⟩,
  ⟨some 4, none, .mv (.t 10)⟩,
  ⟨some 5, none, .mv (.t 11)⟩]
def c153_2 : CC := .ops [⟨some 12, none, .mv (.t 5)⟩,
  ⟨some 13, none, .bin .eql (.t 12) (.c (.int .i64 ((0 : Nat) : Int))) true .pint⟩,
  ⟨some 14, none, .callv (.c (.fn (.func 151) [] [])) [(.t 13), (.c (.int .i64 ((6 : Nat) : Int)))]⟩]
def c153_3 : CC := .ops [⟨some 15, none, .mv (.t 4)⟩,
  ⟨some 16, none, .conv .i64 (.t 15)⟩,
  ⟨some 3, none, .mv (.t 16)⟩]
def c153_4 : CC := .seq c153_3 .ret
def c153_5 : CC := .seq c153_2 c153_4
def c153_6 : CC := .seq c153_1 c153_5
def c153_7 : CC := .seq c153_0 c153_6
def cf153 : CFn := ⟨17, [.tmp 3], c153_7⟩

/-! 155: capsule/spare.Decode$3 -/
def c155_0 : CC := .ops [⟨some 1, none, .mv (.c (.int .u64 ((0 : Nat) : Int)))⟩]
def c155_1 : CC := .ops [⟨some 5, none, .load1 (.t 0)⟩,
  ⟨some 6, none, .callv (.c (.fn (.func 154) [] [])) [(.t 5), (.c (.int .i64 ((8 : Nat) : Int)))]⟩,
  ⟨some 4, none, .mv (.t 6)⟩,
  ⟨some 7, none, .extract (.t 4) 0⟩,
  ⟨some 8, none, .extract (.t 4) 1⟩,
  ⟨some 2, none, .mv (.t 7)⟩,
  ⟨some 3, none, .mv (.t 8)⟩]
def c155_2 : CC := .ops [⟨some 9, none, .mv (.t 3)⟩,
  ⟨some 10, none, .bin .eql (.t 9) (.c (.int .i64 ((0 : Nat) : Int))) true .pint⟩,
  ⟨some 11, none, .callv (.c (.fn (.func 151) [] [])) [(.t 10), (.c (.int .i64 ((6 : Nat) : Int)))]⟩]
def c155_3 : CC := .ops [⟨some 12, none, .mv (.t 2)⟩,
  ⟨some 1, none, .mv (.t 12)⟩]
def c155_4 : CC := .seq c155_3 .ret
def c155_5 : CC := .seq c155_2 c155_4
def c155_6 : CC := .seq c155_1 c155_5
def c155_7 : CC := .seq c155_0 c155_6
def cf155 : CFn := ⟨13, [.tmp 1], c155_7⟩

/-! 256: capsule/digest.right -/
def c256_0 : CC := .ops [⟨some 2, none, .mv (.c (.int .u32 ((0 : Nat) : Int)))⟩]
def c256_1 : CC := .ops [⟨some 3, none, .mv (.c (.int .i64 ((0 : Nat) : Int)))⟩]
def c256_2 : CC := .ops [⟨some 4, none, .bin .lss (.t 3) (.c (.int .i64 ((8 : Nat) : Int))) true .pint⟩]
def c256_3 : CC := .cond (.t 4) .skip (.exit 0)
def c256_4 : CC := .ops [⟨some 5, none, .mv (.t 0)⟩,
  ⟨some 6, none, .bin .shr (.t 5) (.c (.int .u64 ((1 : Nat) : Int))) true .pint⟩,
  ⟨some 7, none, .mv (.t 0)⟩,
  ⟨some 8, none, .bin .and (.t 7) (.c (.int .u32 ((1 : Nat) : Int))) true .pint⟩,
  ⟨some 9, none, .bin .mul (.t 8) (.c (.int .u32 ((2197175160 : Nat) : Int))) true .pint⟩,
  ⟨some 10, none, .bin .xor (.t 6) (.t 9) false .pint⟩,
  ⟨some 0, none, .mv (.t 10)⟩]
def c256_5 : CC := .block 1 c256_4
def c256_6 : CC := .ops [⟨some 11, none, .bin .add (.t 3) (.c (.int .i64 ((1 : Nat) : Int))) true .pint⟩,
  ⟨some 3, none, .mv (.t 11)⟩]
def c256_7 : CC := .seq c256_5 c256_6
def c256_8 : CC := .seq c256_3 c256_7
def c256_9 : CC := .seq c256_2 c256_8
def c256_10 : CC := .loop c256_9
def c256_11 : CC := .block 0 c256_10
def c256_12 : CC := .seq c256_1 c256_11
def c256_13 : CC := .ops [⟨some 12, none, .mv (.t 0)⟩,
  ⟨some 2, none, .mv (.t 12)⟩]
def c256_14 : CC := .seq c256_13 .ret
def c256_15 : CC := .seq c256_12 c256_14
def c256_16 : CC := .seq c256_0 c256_15
def cf256 : CFn := ⟨13, [.tmp 2], c256_16⟩

/-! 258: capsule/digest.update32$2 -/
def c258_0 : CC := .ops [⟨some 5, none, .mv (.c (.int .u32 ((0 : Nat) : Int)))⟩]
def c258_1 : CC := .ops [⟨some 6, none, .mv (.t 0)⟩,
  ⟨some 7, none, .bin .shr (.t 6) (.c (.int .u64 ((8 : Nat) : Int))) true .pint⟩,
  ⟨some 8, none, .mv (.t 0)⟩,
  ⟨some 9, none, .conv .u8 (.t 8)⟩,
  ⟨some 10, none, .mv (.t 1)⟩,
  ⟨some 11, none, .bin .xor (.t 9) (.t 10) false .pint⟩,
  ⟨some 12, none, .iaddrA 256 1 (.t 2) (.t 11)⟩,
  ⟨some 13, none, .load1 (.t 12)⟩,
  ⟨some 14, none, .bin .xor (.t 7) (.t 13) false .pint⟩,
  ⟨some 5, none, .mv (.t 14)⟩]
def c258_2 : CC := .seq c258_1 .ret
def c258_3 : CC := .seq c258_0 c258_2
def cf258 : CFn := ⟨15, [.tmp 5], c258_3⟩

/-! 257: capsule/digest.updated[uint32] -/
def c257_0 : CC := .ops [⟨some 6, none, .mv (.c (.int .u32 ((0 : Nat) : Int)))⟩]
def c257_1 : CC := .ops [⟨some 11, none, .mv (.t 1)⟩,
  ⟨some 12, none, .lenS (.t 11)⟩,
  ⟨some 13, none, .mv (.c (.int .i64 ((0 : Nat) : Int)))⟩]
def c257_2 : CC := .ops [⟨some 14, none, .bin .lss (.t 13) (.t 12) false .pint⟩]
def c257_3 : CC := .cond (.t 14) .skip (.exit 0)
def c257_4 : CC := .ops [⟨some 15, none, .iaddrS 1 (.t 11) (.t 13)⟩,
  ⟨some 16, none, .load1 (.t 15)⟩,
  ⟨some 8, none, .mv (.t 16)⟩]
def c257_5 : CC := .ops [⟨some 17, none, .mv (.t 8)⟩,
  ⟨some 18, none, .lenS (.t 17)⟩,
  ⟨some 19, none, .mv (.c (.int .i64 ((0 : Nat) : Int)))⟩]
def c257_6 : CC := .ops [⟨some 20, none, .bin .lss (.t 19) (.t 18) false .pint⟩]
def c257_7 : CC := .cond (.t 20) .skip (.exit 2)
def c257_8 : CC := .ops [⟨some 21, none, .iaddrS 1 (.t 17) (.t 19)⟩,
  ⟨some 22, none, .load1 (.t 21)⟩,
  ⟨some 10, none, .mv (.t 22)⟩]
def c257_9 : CC := .ops [⟨some 23, none, .mv (.t 2)⟩,
  ⟨some 24, none, .mv (.t 0)⟩,
  ⟨some 25, none, .mv (.t 10)⟩,
  ⟨some 26, none, .callv (.t 23) [(.t 24), (.t 25)]⟩,
  ⟨some 0, none, .mv (.t 26)⟩]
def c257_10 : CC := .seq c257_8 c257_9
def c257_11 : CC := .block 3 c257_10
def c257_12 : CC := .ops [⟨some 27, none, .bin .add (.t 19) (.c (.int .i64 ((1 : Nat) : Int))) true .pint⟩,
  ⟨some 19, none, .mv (.t 27)⟩]
def c257_13 : CC := .seq c257_11 c257_12
def c257_14 : CC := .seq c257_7 c257_13
def c257_15 : CC := .seq c257_6 c257_14
def c257_16 : CC := .loop c257_15
def c257_17 : CC := .block 2 c257_16
def c257_18 : CC := .seq c257_5 c257_17
def c257_19 : CC := .seq c257_4 c257_18
def c257_20 : CC := .block 1 c257_19
def c257_21 : CC := .ops [⟨some 28, none, .bin .add (.t 13) (.c (.int .i64 ((1 : Nat) : Int))) true .pint⟩,
  ⟨some 13, none, .mv (.t 28)⟩]
def c257_22 : CC := .seq c257_20 c257_21
def c257_23 : CC := .seq c257_3 c257_22
def c257_24 : CC := .seq c257_2 c257_23
def c257_25 : CC := .loop c257_24
def c257_26 : CC := .block 0 c257_25
def c257_27 : CC := .seq c257_1 c257_26
def c257_28 : CC := .ops [⟨some 29, none, .mv (.t 0)⟩,
  ⟨some 6, none, .mv (.t 29)⟩]
def c257_29 : CC := .seq c257_28 .ret
def c257_30 : CC := .seq c257_27 c257_29
def c257_31 : CC := .seq c257_0 c257_30
def cf257 : CFn := ⟨30, [.tmp 6], c257_31⟩

/-! 243: capsule/digest.update32 -/
def c243_0 : CC := .ops [⟨some 4, none, .mv (.c (.int .u32 ((0 : Nat) : Int)))⟩]
def c243_1 : CC := .ops [⟨some 6, none, .callv (.c (.fn (.func 254) [] [])) [(.c (.fn (.func 255) [] []))]⟩,
  ⟨some 5, none, .alloc [.int .u32 ((0 : Nat) : Int), .int .u32 ((0 : Nat) : Int), .int .u32 ((0 : Nat) : Int), .int .u32 ((0 : Nat) : Int), .int .u32 ((0 : Nat) : Int), .int .u32 ((0 : Nat) : Int), .int .u32 ((0 : Nat) : Int), .int .u32 ((0 : Nat) : Int), .int .u32 ((0 : Nat) : Int), .int .u32 ((0 : Nat) : Int), .int .u32 ((0 : Nat) : Int), .int .u32 ((0 : Nat) : Int), .int .u32 ((0 : Nat) : Int), .int .u32 ((0 : Nat) : Int), .int .u32 ((0 : Nat) : Int), .int .u32 ((0 : Nat) : Int), .int .u32 ((0 : Nat) : Int), .int .u32 ((0 : Nat) : Int), .int .u32 ((0 : Nat) : Int), .int .u32 ((0 : Nat) : Int), .int .u32 ((0 : Nat) : Int), .int .u32 ((0 : Nat) : Int), .int .u32 ((0 : Nat) : Int), .int .u32 ((0 : Nat) : Int), .int .u32 ((0 : Nat) : Int), .int .u32 ((0 : Nat) : Int), .int .u32 ((0 : Nat) : Int), .int .u32 ((0 : Nat) : Int), .int .u32 ((0 : Nat) : Int), .int .u32 ((0 : Nat) : Int), .int .u32 ((0 : Nat) : Int), .int .u32 ((0 : Nat) : Int), .int .u32 ((0 : Nat) : Int), .int .u32 ((0 : Nat) : Int), .int .u32 ((0 : Nat) : Int), .int .u32 ((0 : Nat) : Int), .int .u32 ((0 : Nat) : Int), .int .u32 ((0 : Nat) : Int), .int .u32 ((0 : Nat) : Int), .int .u32 ((0 : Nat) : Int), .int .u32 ((0 : Nat) : Int), .int .u32 ((0 : Nat) : Int), .int .u32 ((0 : Nat) : Int), .int .u32 ((0 : Nat) : Int), .int .u32 ((0 : Nat) : Int), .int .u32 ((0 : Nat) : Int), .int .u32 ((0 : Nat) : Int), .int .u32 ((0 : Nat) : Int), .int .u32 ((0 : Nat) : Int), .int .u32 ((0 : Nat) : Int), .int .u32 ((0 : Nat) : Int), .int .u32 ((0 : Nat) : Int), .int .u32 ((0 : Nat) : Int), .int .u32 ((0 : Nat) : Int), .int .u32 ((0 : Nat) : Int), .int .u32 ((0 : Nat) : Int), .int .u32 ((0 : Nat) : Int), .int .u32 ((0 : Nat) : Int), .int .u32 ((0 : Nat) : Int), .int .u32 ((0 : Nat) : Int), .int .u32 ((0 : Nat) : Int), .int .u32 ((0 : Nat) : Int), .int .u32 ((0 : Nat) : Int), .int .u32 ((0 : Nat) : Int), .int .u32 ((0 : Nat) : Int), .int .u32 ((0 : Nat) : Int), .int .u32 ((0 : Nat) : Int), .int .u32 ((0 : Nat) : Int), .int .u32 ((0 : Nat) : Int), .int .u32 ((0 : Nat) : Int), .int .u32 ((0 : Nat) : Int), .int .u32 ((0 : Nat) : Int), .int .u32 ((0 : Nat) : Int), .int .u32 ((0 : Nat) : Int), .int .u32 ((0 : Nat) : Int), .int .u32 ((0 : Nat) : Int), .int .u32 ((0 : Nat) : Int), .int .u32 ((0 : Nat) : Int), .int .u32 ((0 : Nat) : Int), .int .u32 ((0 : Nat) : Int), .int .u32 ((0 : Nat) : Int), .int .u32 ((0 : Nat) : Int), .int .u32 ((0 : Nat) : Int), .int .u32 ((0 : Nat) : Int), .int .u32 ((0 : Nat) : Int), .int .u32 ((0 : Nat) : Int), .int .u32 ((0 : Nat) : Int), .int .u32 ((0 : Nat) : Int), .int .u32 ((0 : Nat) : Int), .int .u32 ((0 : Nat) : Int), .int .u32 ((0 : Nat) : Int), .int .u32 ((0 : Nat) : Int), .int .u32 ((0 : Nat) : Int), .int .u32 ((0 : Nat) : Int), .int .u32 ((0 : Nat) : Int), .int .u32 ((0 : Nat) : Int), .int .u32 ((0 : Nat) : Int), .int .u32 ((0 : Nat) : Int), .int .u32 ((0 : Nat) : Int), .int .u32 ((0 : Nat) : Int), .int .u32 ((0 : Nat) : Int), .int .u32 ((0 : Nat) : Int), .int .u32 ((0 : Nat) : Int), .int .u32 ((0 : Nat) : Int), .int .u32 ((0 : Nat) : Int), .int .u32 ((0 : Nat) : Int), .int .u32 ((0 : Nat) : Int), .int .u32 ((0 : Nat) : Int), .int .u32 ((0 : Nat) : Int), .int .u32 ((0 : Nat) : Int), .int .u32 ((0 : Nat) : Int), .int .u32 ((0 : Nat) : Int), .int .u32 ((0 : Nat) : Int), .int .u32 ((0 : Nat) : Int), .int .u32 ((0 : Nat) : Int), .int .u32 ((0 : Nat) : Int), .int .u32 ((0 : Nat) : Int), .int .u32 ((0 : Nat) : Int), .int .u32 ((0 : Nat) : Int), .int .u32 ((0 : Nat) : Int), .int .u32 ((0 : Nat) : Int), .int .u32 ((0 : Nat) : Int), .int .u32 ((0 : Nat) : Int), .int .u32 ((0 : Nat) : Int), .int .u32 ((0 : Nat) : Int), .int .u32 ((0 : Nat) : Int), .int .u32 ((0 : Nat) : Int), .int .u32 ((0 : Nat) : Int), .int .u32 ((0 : Nat) : Int), .int .u32 ((0 : Nat) : Int), .int .u32 ((0 : Nat) : Int), .int .u32 ((0 : Nat) : Int), .int .u32 ((0 : Nat) : Int), .int .u32 ((0 : Nat) : Int), .int .u32 ((0 : Nat) : Int), .int .u32 ((0 : Nat) : Int), .int .u32 ((0 : Nat) : Int), .int .u32 ((0 : Nat) : Int), .int .u32 ((0 : Nat) : Int), .int .u32 ((0 : Nat) : Int), .int .u32 ((0 : Nat) : Int), .int .u32 ((0 : Nat) : Int), .int .u32 ((0 : Nat) : Int), .int .u32 ((0 : Nat) : Int), .int .u32 ((0 : Nat) : Int), .int .u32 ((0 : Nat) : Int), .int .u32 ((0 : Nat) : Int), .int .u32 ((0 : Nat) : Int), .int .u32 ((0 : Nat) : Int), .int .u32 ((0 : Nat) : Int), .int .u32 ((0 : Nat) : Int), .int .u32 ((0 : Nat) : Int), .int .u32 ((0 : Nat) : Int), .int .u32 ((0 : Nat) : Int), .int .u32 ((0 : Nat) : Int), .int .u32 ((0 : Nat) : Int), .int .u32 ((0 : Nat) : Int), .int .u32 ((0 : Nat) : Int), .int .u32 ((0 : Nat) : Int), .int .u32 ((0 : Nat) : Int), .int .u32 ((0 : Nat) : Int), .int .u32 ((0 : Nat) : Int), .int .u32 ((0 : Nat) : Int), .int .u32 ((0 : Nat) : Int), .int .u32 ((0 : Nat) : Int), .int .u32 ((0 : Nat) : Int), .int .u32 ((0 : Nat) : Int), .int .u32 ((0 : Nat) : Int), .int .u32 ((0 : Nat) : Int), .int .u32 ((0 : Nat) : Int), .int .u32 ((0 : Nat) : Int), .int .u32 ((0 : Nat) : Int), .int .u32 ((0 : Nat) : Int), .int .u32 ((0 : Nat) : Int), .int .u32 ((0 : Nat) : Int), .int .u32 ((0 : Nat) : Int), .int .u32 ((0 : Nat) : Int), .int .u32 ((0 : Nat) : Int), .int .u32 ((0 : Nat) : Int), .int .u32 ((0 : Nat) : Int), .int .u32 ((0 : Nat) : Int), .int .u32 ((0 : Nat) : Int), .int .u32 ((0 : Nat) : Int), .int .u32 ((0 : Nat) : Int), .int .u32 ((0 : Nat) : Int), .int .u32 ((0 : Nat) : Int), .int .u32 ((0 : Nat) : Int), .int .u32 ((0 : Nat) : Int), .int .u32 ((0 : Nat) : Int), .int .u32 ((0 : Nat) : Int), .int .u32 ((0 : Nat) : Int), .int .u32 ((0 : Nat) : Int), .int .u32 ((0 : Nat) : Int), .int .u32 ((0 : Nat) : Int), .int .u32 ((0 : Nat) : Int), .int .u32 ((0 : Nat) : Int), .int .u32 ((0 : Nat) : Int), .int .u32 ((0 : Nat) : Int), .int .u32 ((0 : Nat) : Int), .int .u32 ((0 : Nat) : Int), .int .u32 ((0 : Nat) : Int), .int .u32 ((0 : Nat) : Int), .int .u32 ((0 : Nat) : Int), .int .u32 ((0 : Nat) : Int), .int .u32 ((0 : Nat) : Int), .int .u32 ((0 : Nat) : Int), .int .u32 ((0 : Nat) : Int), .int .u32 ((0 : Nat) : Int), .int .u32 ((0 : Nat) : Int), .int .u32 ((0 : Nat) : Int), .int .u32 ((0 : Nat) : Int), .int .u32 ((0 : Nat) : Int), .int .u32 ((0 : Nat) : Int), .int .u32 ((0 : Nat) : Int), .int .u32 ((0 : Nat) : Int), .int .u32 ((0 : Nat) : Int), .int .u32 ((0 : Nat) : Int), .int .u32 ((0 : Nat) : Int), .int .u32 ((0 : Nat) : Int), .int .u32 ((0 : Nat) : Int), .int .u32 ((0 : Nat) : Int), .int .u32 ((0 : Nat) : Int), .int .u32 ((0 : Nat) : Int), .int .u32 ((0 : Nat) : Int), .int .u32 ((0 : Nat) : Int), .int .u32 ((0 : Nat) : Int), .int .u32 ((0 : Nat) : Int), .int .u32 ((0 : Nat) : Int), .int .u32 ((0 : Nat) : Int), .int .u32 ((0 : Nat) : Int), .int .u32 ((0 : Nat) : Int), .int .u32 ((0 : Nat) : Int), .int .u32 ((0 : Nat) : Int), .int .u32 ((0 : Nat) : Int), .int .u32 ((0 : Nat) : Int), .int .u32 ((0 : Nat) : Int), .int .u32 ((0 : Nat) : Int), .int .u32 ((0 : Nat) : Int), .int .u32 ((0 : Nat) : Int), .int .u32 ((0 : Nat) : Int), .int .u32 ((0 : Nat) : Int), .int .u32 ((0 : Nat) : Int), .int .u32 ((0 : Nat) : Int), .int .u32 ((0 : Nat) : Int), .int .u32 ((0 : Nat) : Int), .int .u32 ((0 : Nat) : Int), .int .u32 ((0 : Nat) : Int), .int .u32 ((0 : Nat) : Int), .int .u32 ((0 : Nat) : Int), .int .u32 ((0 : Nat) : Int), .int .u32 ((0 : Nat) : Int), .int .u32 ((0 : Nat) : Int), .int .u32 ((0 : Nat) : Int), .int .u32 ((0 : Nat) : Int), .int .u32 ((0 : Nat) : Int), .int .u32 ((0 : Nat) : Int)]⟩,
  ⟨none, none, .store 256 (.t 5) (.t 6)⟩]
def c243_2 : CC := .ops [⟨some 7, none, .mv (.t 0)⟩,
  ⟨some 8, none, .mv (.t 1)⟩,
  ⟨some 9, none, .mkfn (.func 258) [] [(.t 5)]⟩,
  ⟨some 10, none, .callv (.c (.fn (.func 257) [] [])) [(.t 7), (.t 8), (.t 9)]⟩,
  ⟨some 4, none, .mv (.t 10)⟩]
def c243_3 : CC := .seq c243_2 .ret
def c243_4 : CC := .seq c243_1 c243_3
def c243_5 : CC := .seq c243_0 c243_4
def cf243 : CFn := ⟨11, [.tmp 4], c243_5⟩

/-! 224: capsule/digest.Sum32 -/
def c224_0 : CC := .ops [⟨some 2, none, .mv (.c (.int .u32 ((0 : Nat) : Int)))⟩]
def c224_1 : CC := .ops [⟨some 3, none, .mv (.t 0)⟩,
  ⟨some 4, none, .callv (.c (.fn (.func 243) [] [])) [(.c (.int .u32 ((4294967295 : Nat) : Int))), (.t 3)]⟩,
  ⟨some 5, none, .un .xor (.t 4)⟩,
  ⟨some 2, none, .mv (.t 5)⟩]
def c224_2 : CC := .seq c224_1 .ret
def c224_3 : CC := .seq c224_0 c224_2
def cf224 : CFn := ⟨6, [.tmp 2], c224_3⟩

/-! 201: capsule/digest.CRC32C -/
def c201_0 : CC := .ops [⟨some 2, none, .mv (.c (.int .u32 ((0 : Nat) : Int)))⟩]
def c201_1 : CC := .ops [⟨some 3, none, .mv (.t 0)⟩,
  ⟨some 4, none, .bslice 1 [.nils] [(0, 1, (.t 3))]⟩,
  ⟨some 5, none, .callv (.c (.fn (.func 224) [] [])) [(.t 4)]⟩,
  ⟨some 2, none, .mv (.t 5)⟩]
def c201_2 : CC := .seq c201_1 .ret
def c201_3 : CC := .seq c201_0 c201_2
def cf201 : CFn := ⟨6, [.tmp 2], c201_3⟩

/-! 157: capsule/spare.check -/
def c157_0 : CC := .ops [⟨some 4, none, .mv (.c (.int .u64 ((0 : Nat) : Int)))⟩]
def c157_1 : CC := .ops [⟨some 5, none, .mv (.t 0)⟩,
  ⟨some 6, none, .mv (.t 1)⟩,
  ⟨some 7, none, .sliceS 1 (.t 6) none (some (.c (.int .i64 ((60 : Nat) : Int)))) none⟩,
  ⟨some 8, none, .bslice 2 [.nils, .nils] [(0, 1, (.t 5)), (1, 1, (.t 7))]⟩,
  ⟨some 9, none, .callv (.c (.fn (.func 104) [] [])) [(.t 8)]⟩,
  ⟨some 10, none, .callv (.c (.fn (.func 201) [] [])) [(.t 9)]⟩,
  ⟨some 11, none, .conv .u64 (.t 10)⟩,
  ⟨some 4, none, .mv (.t 11)⟩]
def c157_2 : CC := .seq c157_1 .ret
def c157_3 : CC := .seq c157_0 c157_2
def cf157 : CFn := ⟨12, [.tmp 4], c157_3⟩

/-! 225: slices.IndexFunc[[]byte,byte] -/
def c225_0 : CC := .ops [⟨some 4, none, .mv (.c (.int .i64 ((0 : Nat) : Int)))⟩]
def c225_1 : CC := .ops [⟨some 6, none, .mv (.t 0)⟩,
  ⟨some 7, none, .lenS (.t 6)⟩,
  ⟨some 8, none, .mv (.c (.int .i64 ((0 : Nat) : Int)))⟩]
def c225_2 : CC := .ops [⟨some 9, none, .bin .lss (.t 8) (.t 7) false .pint⟩]
def c225_3 : CC := .cond (.t 9) .skip (.exit 0)
def c225_4 : CC := .ops [⟨some 10, none, .mv (.t 8)⟩,
  ⟨some 5, none, .mv (.t 10)⟩]
def c225_5 : CC := .ops [⟨some 11, none, .mv (.t 1)⟩,
  ⟨some 12, none, .mv (.t 0)⟩,
  ⟨some 13, none, .mv (.t 5)⟩,
  ⟨some 14, none, .iaddrS 1 (.t 12) (.t 13)⟩,
  ⟨some 15, none, .load1 (.t 14)⟩,
  ⟨some 16, none, .callv (.t 11) [(.t 15)]⟩]
def c225_6 : CC := .ops [⟨some 17, none, .mv (.t 5)⟩,
  ⟨some 4, none, .mv (.t 17)⟩]
def c225_7 : CC := .seq c225_6 .ret
def c225_8 : CC := .cond (.t 16) c225_7 .skip
def c225_9 : CC := .seq c225_5 c225_8
def c225_10 : CC := .seq c225_4 c225_9
def c225_11 : CC := .block 1 c225_10
def c225_12 : CC := .ops [⟨some 18, none, .bin .add (.t 8) (.c (.int .i64 ((1 : Nat) : Int))) true .pint⟩,
  ⟨some 8, none, .mv (.t 18)⟩]
def c225_13 : CC := .seq c225_11 c225_12
def c225_14 : CC := .seq c225_3 c225_13
def c225_15 : CC := .seq c225_2 c225_14
def c225_16 : CC := .loop c225_15
def c225_17 : CC := .block 0 c225_16
def c225_18 : CC := .seq c225_1 c225_17
def c225_19 : CC := .ops [⟨some 4, none, .mv (.c (.int .i64 (-1)))⟩]
def c225_20 : CC := .seq c225_19 .ret
def c225_21 : CC := .seq c225_18 c225_20
def c225_22 : CC := .seq c225_0 c225_21
def cf225 : CFn := ⟨19, [.tmp 4], c225_22⟩

/-! 204: slices.ContainsFunc[[]byte,byte] -/
def c204_0 : CC := .ops [⟨some 4, none, .mv (.c (.bool false))⟩]
def c204_1 : CC := .ops [⟨some 5, none, .mv (.t 0)⟩,
  ⟨some 6, none, .mv (.t 1)⟩,
  ⟨some 7, none, .callv (.c (.fn (.func 225) [] [])) [(.t 5), (.t 6)]⟩,
  ⟨some 8, none, .bin .geq (.t 7) (.c (.int .i64 ((0 : Nat) : Int))) true .pint⟩,
  ⟨some 4, none, .mv (.t 8)⟩]
def c204_2 : CC := .seq c204_1 .ret
def c204_3 : CC := .seq c204_0 c204_2
def cf204 : CFn := ⟨9, [.tmp 4], c204_3⟩

/-! 205: (*capsule/wire.Reader).Zeros$1 -/
def c205_0 : CC := .ops [⟨some 2, none, .mv (.c (.bool false))⟩]
def c205_1 : CC := .ops [⟨some 3, none, .mv (.t 0)⟩,
  ⟨some 4, none, .bin .neq (.t 3) (.c (.int .u8 ((0 : Nat) : Int))) true .pint⟩,
  ⟨some 2, none, .mv (.t 4)⟩]
def c205_2 : CC := .seq c205_1 .ret
def c205_3 : CC := .seq c205_0 c205_2
def cf205 : CFn := ⟨5, [.tmp 2], c205_3⟩

/-! 158: (*capsule/wire.Reader).Zeros -/
def c158_0 : CC := .ops [⟨some 4, none, .mv (.c (.int .i64 ((0 : Nat) : Int)))⟩]
def c158_1 : CC := .ops [⟨some 8, none, .mv (.t 0)⟩,
  ⟨some 9, none, .callv (.c (.fn (.func 202) [] [])) [(.t 8)]⟩,
  ⟨some 10, none, .nilc (.t 9)⟩,
  ⟨some 11, none, .loadN 2 (.t 10)⟩,
  ⟨some 12, none, .build [.nils, .int .i64 ((0 : Nat) : Int)] [(0, 2, (.t 11))]⟩,
  ⟨some 5, none, .alloc [.nils, .int .i64 ((0 : Nat) : Int)]⟩,
  ⟨none, none, .store 2 (.t 5) (.t 12)⟩]
def c158_2 : CC := .ops [⟨some 14, none, .faddr (.t 5) 0⟩,
  ⟨some 15, none, .mv (.t 1)⟩,
  ⟨some 16, none, .callv (.c (.fn (.func 203) [] [])) [(.t 14), (.t 15)]⟩,
  ⟨some 13, none, .mv (.t 16)⟩,
  ⟨some 17, none, .extract (.t 13) 0⟩,
  ⟨some 18, none, .extract (.t 13) 1⟩,
  ⟨some 6, none, .mv (.t 17)⟩,
  ⟨some 7, none, .mv (.t 18)⟩]
def c158_3 : CC := .ops [⟨some 20, none, .mv (.t 7)⟩,
  ⟨some 21, none, .bin .neq (.t 20) (.c (.int .i64 ((0 : Nat) : Int))) true .pint⟩,
  ⟨some 19, none, .mv (.t 21)⟩]
def c158_4 : CC := .ops [⟨some 22, none, .mv (.t 7)⟩,
  ⟨some 4, none, .mv (.t 22)⟩]
def c158_5 : CC := .seq c158_4 .ret
def c158_6 : CC := .ops [⟨some 24, none, .mv (.t 6)⟩,
  ⟨some 25, none, .callv (.c (.fn (.func 204) [] [])) [(.t 24), (.c (.fn (.func 205) [] []))]⟩,
  ⟨some 23, none, .mv (.t 25)⟩]
def c158_7 : CC := .ops [⟨some 4, none, .mv (.c (.int .i64 ((6 : Nat) : Int)))⟩]
def c158_8 : CC := .seq c158_7 .ret
def c158_9 : CC := .ops [⟨some 27, none, .mv (.t 0)⟩,
  ⟨some 28, none, .bin .neq (.t 27) (.c (.nilp)) true .ptr⟩,
  ⟨some 26, none, .mv (.t 28)⟩]
def c158_10 : CC := .ops [⟨some 29, none, .mv (.t 0)⟩,
  ⟨some 30, none, .loadN 2 (.t 5)⟩,
  ⟨some 31, none, .nilc (.t 29)⟩,
  ⟨none, none, .store 2 (.t 31) (.t 30)⟩]
def c158_11 : CC := .cond (.t 26) c158_10 .skip
def c158_12 : CC := .seq c158_9 c158_11
def c158_13 : CC := .cond (.t 23) c158_8 c158_12
def c158_14 : CC := .seq c158_6 c158_13
def c158_15 : CC := .cond (.t 19) c158_5 c158_14
def c158_16 : CC := .seq c158_3 c158_15
def c158_17 : CC := .block 0 c158_16
def c158_18 : CC := .ops [⟨some 4, none, .mv (.c (.int .i64 ((0 : Nat) : Int)))⟩]
def c158_19 : CC := .seq c158_18 .ret
def c158_20 : CC := .seq c158_17 c158_19
def c158_21 : CC := .seq c158_2 c158_20
def c158_22 : CC := .seq c158_1 c158_21
def c158_23 : CC := .seq c158_0 c158_22
def cf158 : CFn := ⟨32, [.tmp 4], c158_23⟩

/-! 159: (*capsule/wire.Reader).At -/
def c159_0 : CC := .ops [⟨some 2, none, .mv (.c (.int .i64 ((0 : Nat) : Int)))⟩]
def c159_1 : CC := .ops [⟨some 3, none, .mv (.t 0)⟩,
  ⟨some 4, none, .callv (.c (.fn (.func 202) [] [])) [(.t 3)]⟩,
  ⟨some 5, none, .nilc (.t 4)⟩,
  ⟨some 6, none, .faddr (.t 5) 1⟩,
  ⟨some 7, none, .load1 (.t 6)⟩,
  ⟨some 2, none, .mv (.t 7)⟩]
def c159_2 : CC := .seq c159_1 .ret
def c159_3 : CC := .seq c159_0 c159_2
def cf159 : CFn := ⟨8, [.tmp 2], c159_3⟩

/-! 160: capsule/spare.Valid -/
def c160_0 : CC := .ops [⟨some 1, none, .box 6 (.t 0)⟩,
  ⟨some 2, none, .mv (.c (.bool false))⟩]
def c160_1 : CC := .ops [⟨some 4, none, .faddr (.t 1) 2⟩,
  ⟨some 5, none, .load1 (.t 4)⟩,
  ⟨some 6, none, .bin .lss (.t 5) (.c (.int .u64 ((1 : Nat) : Int))) true .pint⟩,
  ⟨some 7, none, .mv (.t 6)⟩,
  ⟨some 8, (some (7, false)), .faddr (.t 1) 5⟩,
  ⟨some 9, (some (7, false)), .load1 (.t 8)⟩,
  ⟨some 10, (some (7, false)), .bin .lss (.t 9) (.c (.int .i64 ((1 : Nat) : Int))) true .pint⟩,
  ⟨some 11, none, .pick (.t 7) (.c (.bool true)) (.t 10)⟩,
  ⟨some 12, none, .mv (.t 11)⟩,
  ⟨some 13, (some (12, false)), .faddr (.t 1) 5⟩,
  ⟨some 14, (some (12, false)), .load1 (.t 13)⟩,
  ⟨some 15, (some (12, false)), .bin .gtr (.t 14) (.c (.int .i64 ((65535 : Nat) : Int))) true .pint⟩,
  ⟨some 16, none, .pick (.t 12) (.c (.bool true)) (.t 15)⟩,
  ⟨some 17, none, .mv (.t 16)⟩,
  ⟨some 18, (some (17, false)), .faddr (.t 1) 4⟩,
  ⟨some 19, (some (17, false)), .load1 (.t 18)⟩,
  ⟨some 20, (some (17, false)), .bin .lss (.t 19) (.c (.int .i64 ((0 : Nat) : Int))) true .pint⟩,
  ⟨some 21, none, .pick (.t 17) (.c (.bool true)) (.t 20)⟩,
  ⟨some 22, none, .mv (.t 21)⟩,
  ⟨some 23, (some (22, false)), .faddr (.t 1) 4⟩,
  ⟨some 24, (some (22, false)), .load1 (.t 23)⟩,
  ⟨some 25, (some (22, false)), .faddr (.t 1) 5⟩,
  ⟨some 26, (some (22, false)), .load1 (.t 25)⟩,
  ⟨some 27, (some (22, false)), .bin .geq (.t 24) (.t 26) false .pint⟩,
  ⟨some 28, none, .pick (.t 22) (.c (.bool true)) (.t 27)⟩,
  ⟨some 3, none, .mv (.t 28)⟩]
def c160_2 : CC := .ops [⟨some 2, none, .mv (.c (.bool false))⟩]
def c160_3 : CC := .seq c160_2 .ret
def c160_4 : CC := .ops [⟨some 30, none, .faddr (.t 1) 0⟩,
  ⟨some 31, none, .load1 (.t 30)⟩,
  ⟨some 32, none, .bin .eql (.t 31) (.c (.int .u8 ((1 : Nat) : Int))) true .pint⟩,
  ⟨some 29, none, .mv (.t 32)⟩]
def c160_5 : CC := .ops [⟨some 33, none, .faddr (.t 1) 1⟩,
  ⟨some 34, none, .load1 (.t 33)⟩,
  ⟨some 35, none, .bin .geq (.t 34) (.c (.int .i64 ((0 : Nat) : Int))) true .pint⟩,
  ⟨some 36, none, .mv (.t 35)⟩,
  ⟨some 37, (some (36, true)), .faddr (.t 1) 1⟩,
  ⟨some 38, (some (36, true)), .load1 (.t 37)⟩,
  ⟨some 39, (some (36, true)), .bin .leq (.t 38) (.c (.int .i64 ((4294967294 : Nat) : Int))) true .pint⟩,
  ⟨some 40, none, .pick (.t 36) (.t 39) (.c (.bool false))⟩,
  ⟨some 41, none, .mv (.t 40)⟩,
  ⟨some 42, (some (41, true)), .faddr (.t 1) 3⟩,
  ⟨some 43, (some (41, true)), .load1 (.t 42)⟩,
  ⟨some 44, (some (41, true)), .bin .eql (.t 43) (.c (.int .u64 ((0 : Nat) : Int))) true .pint⟩,
  ⟨some 45, none, .pick (.t 41) (.t 44) (.c (.bool false))⟩,
  ⟨some 46, none, .mv (.t 45)⟩,
  ⟨some 47, (some (46, true)), .faddr (.t 1) 5⟩,
  ⟨some 48, (some (46, true)), .load1 (.t 47)⟩,
  ⟨some 49, (some (46, true)), .bin .eql (.t 48) (.c (.int .i64 ((1 : Nat) : Int))) true .pint⟩,
  ⟨some 50, none, .pick (.t 46) (.t 49) (.c (.bool false))⟩,
  ⟨some 2, none, .mv (.t 50)⟩]
def c160_6 : CC := .seq c160_5 .ret
def c160_7 : CC := .ops [⟨some 52, none, .faddr (.t 1) 0⟩,
  ⟨some 53, none, .load1 (.t 52)⟩,
  ⟨some 54, none, .bin .neq (.t 53) (.c (.int .u8 ((2 : Nat) : Int))) true .pint⟩,
  ⟨some 55, none, .mv (.t 54)⟩,
  ⟨some 56, (some (55, true)), .faddr (.t 1) 0⟩,
  ⟨some 57, (some (55, true)), .load1 (.t 56)⟩,
  ⟨some 58, (some (55, true)), .bin .neq (.t 57) (.c (.int .u8 ((3 : Nat) : Int))) true .pint⟩,
  ⟨some 59, none, .pick (.t 55) (.t 58) (.c (.bool false))⟩,
  ⟨some 51, none, .mv (.t 59)⟩]
def c160_8 : CC := .ops [⟨some 2, none, .mv (.c (.bool false))⟩]
def c160_9 : CC := .seq c160_8 .ret
def c160_10 : CC := .cond (.t 51) c160_9 .skip
def c160_11 : CC := .seq c160_7 c160_10
def c160_12 : CC := .cond (.t 29) c160_6 c160_11
def c160_13 : CC := .seq c160_4 c160_12
def c160_14 : CC := .cond (.t 3) c160_3 c160_13
def c160_15 : CC := .seq c160_1 c160_14
def c160_16 : CC := .block 0 c160_15
def c160_17 : CC := .ops [⟨some 60, none, .faddr (.t 1) 1⟩,
  ⟨some 61, none, .load1 (.t 60)⟩,
  ⟨some 62, none, .bin .eql (.t 61) (.c (.int .i64 ((0 : Nat) : Int))) true .pint⟩,
  ⟨some 63, none, .mv (.t 62)⟩,
  ⟨some 64, (some (63, true)), .faddr (.t 1) 3⟩,
  ⟨some 65, (some (63, true)), .load1 (.t 64)⟩,
  ⟨some 66, (some (63, true)), .faddr (.t 1) 2⟩,
  ⟨some 67, (some (63, true)), .load1 (.t 66)⟩,
  ⟨some 68, (some (63, true)), .bin .lss (.t 65) (.t 67) false .pint⟩,
  ⟨some 69, none, .pick (.t 63) (.t 68) (.c (.bool false))⟩,
  ⟨some 70, none, .mv (.t 69)⟩,
  ⟨some 71, (some (70, true)), .faddr (.t 1) 4⟩,
  ⟨some 72, (some (70, true)), .load1 (.t 71)⟩,
  ⟨some 73, (some (70, true)), .conv .u64 (.t 72)⟩,
  ⟨some 74, (some (70, true)), .faddr (.t 1) 2⟩,
  ⟨some 75, (some (70, true)), .load1 (.t 74)⟩,
  ⟨some 76, (some (70, true)), .faddr (.t 1) 3⟩,
  ⟨some 77, (some (70, true)), .load1 (.t 76)⟩,
  ⟨some 78, (some (70, true)), .bin .sub (.t 75) (.t 77) false .pint⟩,
  ⟨some 79, (some (70, true)), .bin .lss (.t 73) (.t 78) false .pint⟩,
  ⟨some 80, none, .pick (.t 70) (.t 79) (.c (.bool false))⟩,
  ⟨some 2, none, .mv (.t 80)⟩]
def c160_18 : CC := .seq c160_17 .ret
def c160_19 : CC := .seq c160_16 c160_18
def c160_20 : CC := .seq c160_0 c160_19
def cf160 : CFn := ⟨81, [.tmp 2], c160_20⟩

/-! 109: capsule/spare.Decode -/
def c109_0 : CC := .ops [⟨some 4, none, .alloc [.int .u8 ((0 : Nat) : Int), .int .i64 ((0 : Nat) : Int), .int .u64 ((0 : Nat) : Int), .int .u64 ((0 : Nat) : Int), .int .i64 ((0 : Nat) : Int), .int .i64 ((0 : Nat) : Int)]⟩,
  ⟨some 5, none, .alloc [.int .i64 ((0 : Nat) : Int)]⟩]
def c109_1 : CC := .ops [⟨some 16, none, .mkfn (.func 150) [] [(.t 4), (.t 5)]⟩,
  ⟨none, none, .defer (.t 16) []⟩]
def c109_2 : CC := .ops [⟨some 17, none, .mv (.t 0)⟩,
  ⟨some 18, none, .lenS (.t 17)⟩,
  ⟨some 19, none, .bin .eql (.t 18) (.c (.int .i64 ((64 : Nat) : Int))) true .pint⟩,
  ⟨some 20, none, .callv (.c (.fn (.func 151) [] [])) [(.t 19), (.c (.int .i64 ((2 : Nat) : Int)))]⟩]
def c109_3 : CC := .ops [⟨some 21, none, .mv (.t 0)⟩,
  ⟨some 22, none, .callv (.c (.fn (.func 152) [] [])) [(.t 21)]⟩,
  ⟨some 6, none, .alloc [.nilp]⟩,
  ⟨none, none, .store 1 (.t 6) (.t 22)⟩]
def c109_4 : CC := .ops [⟨some 23, none, .mkfn (.func 153) [] [(.t 6)]⟩,
  ⟨some 7, none, .mv (.t 23)⟩]
def c109_5 : CC := .ops [⟨some 24, none, .mkfn (.func 155) [] [(.t 6)]⟩,
  ⟨some 8, none, .mv (.t 24)⟩]
def c109_6 : CC := .ops [⟨some 26, none, .mv (.t 0)⟩,
  ⟨some 27, none, .sliceS 1 (.t 26) (some (.c (.int .i64 ((60 : Nat) : Int)))) none none⟩,
  ⟨some 28, none, .callv (.c (.fn (.func 156) [] [])) [(.t 27)]⟩,
  ⟨some 25, none, .mv (.t 28)⟩,
  ⟨some 29, none, .extract (.t 25) 0⟩,
  ⟨some 30, none, .extract (.t 25) 1⟩,
  ⟨some 9, none, .mv (.t 29)⟩,
  ⟨some 10, none, .mv (.t 30)⟩]
def c109_7 : CC := .ops [⟨some 31, none, .mv (.t 10)⟩,
  ⟨some 32, none, .bin .eql (.t 31) (.c (.int .i64 ((0 : Nat) : Int))) true .pint⟩,
  ⟨some 33, none, .mv (.t 32)⟩,
  ⟨some 34, (some (33, true)), .mv (.t 9)⟩,
  ⟨some 35, (some (33, true)), .mv (.t 1)⟩,
  ⟨some 36, (some (33, true)), .mv (.t 0)⟩,
  ⟨some 37, (some (33, true)), .callv (.c (.fn (.func 157) [] [])) [(.t 35), (.t 36)]⟩,
  ⟨some 38, (some (33, true)), .bin .eql (.t 34) (.t 37) false .pint⟩,
  ⟨some 39, none, .pick (.t 33) (.t 38) (.c (.bool false))⟩,
  ⟨some 40, none, .callv (.c (.fn (.func 151) [] [])) [(.t 39), (.c (.int .i64 ((10 : Nat) : Int)))]⟩]
def c109_8 : CC := .ops [⟨some 41, none, .mv (.t 7)⟩,
  ⟨some 42, none, .callv (.t 41) [(.c (.int .i64 ((4 : Nat) : Int)))]⟩,
  ⟨some 43, none, .bin .eql (.t 42) (.c (.int .i64 ((1280591427 : Nat) : Int))) true .pint⟩,
  ⟨some 44, none, .callv (.c (.fn (.func 151) [] [])) [(.t 43), (.c (.int .i64 ((6 : Nat) : Int)))]⟩]
def c109_9 : CC := .ops [⟨some 45, none, .mv (.t 7)⟩,
  ⟨some 46, none, .callv (.t 45) [(.c (.int .i64 ((1 : Nat) : Int)))]⟩,
  ⟨some 47, none, .conv .u8 (.t 46)⟩,
  ⟨some 48, none, .faddr (.t 4) 0⟩,
  ⟨none, none, .store 1 (.t 48) (.t 47)⟩]
def c109_10 : CC := .ops [⟨some 49, none, .load1 (.t 6)⟩,
  ⟨some 50, none, .callv (.c (.fn (.func 158) [] [])) [(.t 49), (.c (.int .i64 ((3 : Nat) : Int)))]⟩,
  ⟨some 51, none, .bin .eql (.t 50) (.c (.int .i64 ((0 : Nat) : Int))) true .pint⟩,
  ⟨some 52, none, .callv (.c (.fn (.func 151) [] [])) [(.t 51), (.c (.int .i64 ((6 : Nat) : Int)))]⟩]
def c109_11 : CC := .ops [⟨some 53, none, .faddr (.t 4) 2⟩,
  ⟨some 54, none, .faddr (.t 4) 3⟩,
  ⟨some 55, none, .bslice 2 [.nilp, .nilp] [(0, 1, (.t 53)), (1, 1, (.t 54))]⟩,
  ⟨some 56, none, .lenS (.t 55)⟩,
  ⟨some 57, none, .mv (.c (.int .i64 ((0 : Nat) : Int)))⟩]
def c109_12 : CC := .ops [⟨some 58, none, .bin .lss (.t 57) (.t 56) false .pint⟩]
def c109_13 : CC := .cond (.t 58) .skip (.exit 0)
def c109_14 : CC := .ops [⟨some 59, none, .mv (.t 57)⟩,
  ⟨some 60, none, .iaddrS 1 (.t 55) (.t 57)⟩,
  ⟨some 61, none, .load1 (.t 60)⟩,
  ⟨some 11, none, .mv (.t 59)⟩,
  ⟨some 12, none, .mv (.t 61)⟩]
def c109_15 : CC := .ops [⟨some 62, none, .load1 (.t 6)⟩,
  ⟨some 63, none, .callv (.c (.fn (.func 159) [] [])) [(.t 62)]⟩,
  ⟨some 64, none, .mv (.t 11)⟩,
  ⟨some 65, none, .bin .mul (.c (.int .i64 ((8 : Nat) : Int))) (.t 64) true .pint⟩,
  ⟨some 66, none, .bin .add (.c (.int .i64 ((8 : Nat) : Int))) (.t 65) true .pint⟩,
  ⟨some 67, none, .bin .eql (.t 63) (.t 66) false .pint⟩,
  ⟨some 68, none, .callv (.c (.fn (.func 151) [] [])) [(.t 67), (.c (.int .i64 ((6 : Nat) : Int)))]⟩]
def c109_16 : CC := .ops [⟨some 69, none, .mv (.t 12)⟩,
  ⟨some 70, none, .mv (.t 8)⟩,
  ⟨some 71, none, .callv (.t 70) []⟩,
  ⟨some 72, none, .nilc (.t 69)⟩,
  ⟨none, none, .store 1 (.t 72) (.t 71)⟩]
def c109_17 : CC := .seq c109_15 c109_16
def c109_18 : CC := .seq c109_14 c109_17
def c109_19 : CC := .block 1 c109_18
def c109_20 : CC := .ops [⟨some 73, none, .bin .add (.t 57) (.c (.int .i64 ((1 : Nat) : Int))) true .pint⟩,
  ⟨some 57, none, .mv (.t 73)⟩]
def c109_21 : CC := .seq c109_19 c109_20
def c109_22 : CC := .seq c109_13 c109_21
def c109_23 : CC := .seq c109_12 c109_22
def c109_24 : CC := .loop c109_23
def c109_25 : CC := .block 0 c109_24
def c109_26 : CC := .seq c109_11 c109_25
def c109_27 : CC := .ops [⟨some 74, none, .faddr (.t 4) 1⟩,
  ⟨some 75, none, .faddr (.t 4) 4⟩,
  ⟨some 76, none, .faddr (.t 4) 5⟩,
  ⟨some 77, none, .bslice 3 [.nilp, .nilp, .nilp] [(0, 1, (.t 74)), (1, 1, (.t 75)), (2, 1, (.t 76))]⟩,
  ⟨some 78, none, .lenS (.t 77)⟩,
  ⟨some 79, none, .mv (.c (.int .i64 ((0 : Nat) : Int)))⟩]
def c109_28 : CC := .ops [⟨some 80, none, .bin .lss (.t 79) (.t 78) false .pint⟩]
def c109_29 : CC := .cond (.t 80) .skip (.exit 2)
def c109_30 : CC := .ops [⟨some 81, none, .iaddrS 1 (.t 77) (.t 79)⟩,
  ⟨some 82, none, .load1 (.t 81)⟩,
  ⟨some 14, none, .mv (.t 82)⟩]
def c109_31 : CC := .ops [⟨some 83, none, .mv (.t 14)⟩,
  ⟨some 84, none, .mv (.t 7)⟩,
  ⟨some 85, none, .callv (.t 84) [(.c (.int .i64 ((4 : Nat) : Int)))]⟩,
  ⟨some 86, none, .nilc (.t 83)⟩,
  ⟨none, none, .store 1 (.t 86) (.t 85)⟩]
def c109_32 : CC := .seq c109_30 c109_31
def c109_33 : CC := .block 3 c109_32
def c109_34 : CC := .ops [⟨some 87, none, .bin .add (.t 79) (.c (.int .i64 ((1 : Nat) : Int))) true .pint⟩,
  ⟨some 79, none, .mv (.t 87)⟩]
def c109_35 : CC := .seq c109_33 c109_34
def c109_36 : CC := .seq c109_29 c109_35
def c109_37 : CC := .seq c109_28 c109_36
def c109_38 : CC := .loop c109_37
def c109_39 : CC := .block 2 c109_38
def c109_40 : CC := .seq c109_27 c109_39
def c109_41 : CC := .ops [⟨some 88, none, .load1 (.t 6)⟩,
  ⟨some 89, none, .mkfn (.func 158) [(.t 88)] []⟩,
  ⟨some 15, none, .mv (.t 89)⟩]
def c109_42 : CC := .ops [⟨some 90, none, .mv (.t 15)⟩,
  ⟨some 91, none, .load1 (.t 6)⟩,
  ⟨some 92, none, .callv (.c (.fn (.func 159) [] [])) [(.t 91)]⟩,
  ⟨some 93, none, .bin .sub (.c (.int .i64 ((60 : Nat) : Int))) (.t 92) true .pint⟩,
  ⟨some 94, none, .callv (.t 90) [(.t 93)]⟩,
  ⟨some 95, none, .bin .eql (.t 94) (.c (.int .i64 ((0 : Nat) : Int))) true .pint⟩,
  ⟨some 96, none, .mv (.t 95)⟩,
  ⟨some 97, (some (96, true)), .loadN 6 (.t 4)⟩,
  ⟨some 98, (some (96, true)), .callv (.c (.fn (.func 160) [] [])) [(.t 97)]⟩,
  ⟨some 99, none, .pick (.t 96) (.t 98) (.c (.bool false))⟩,
  ⟨some 100, none, .callv (.c (.fn (.func 151) [] [])) [(.t 99), (.c (.int .i64 ((6 : Nat) : Int)))]⟩]
def c109_43 : CC := .ops [⟨some 101, none, .loadN 6 (.t 4)⟩,
  ⟨none, none, .store 6 (.t 4) (.t 101)⟩,
  ⟨none, none, .store 1 (.t 5) (.c (.int .i64 ((0 : Nat) : Int)))⟩]
def c109_44 : CC := .seq c109_43 .ret
def c109_45 : CC := .seq c109_42 c109_44
def c109_46 : CC := .seq c109_41 c109_45
def c109_47 : CC := .seq c109_40 c109_46
def c109_48 : CC := .seq c109_26 c109_47
def c109_49 : CC := .seq c109_10 c109_48
def c109_50 : CC := .seq c109_9 c109_49
def c109_51 : CC := .seq c109_8 c109_50
def c109_52 : CC := .seq c109_7 c109_51
def c109_53 : CC := .seq c109_6 c109_52
def c109_54 : CC := .seq c109_5 c109_53
def c109_55 : CC := .seq c109_4 c109_54
def c109_56 : CC := .seq c109_3 c109_55
def c109_57 : CC := .seq c109_2 c109_56
def c109_58 : CC := .seq c109_1 c109_57
def c109_59 : CC := .seq c109_0 c109_58
def cf109 : CFn := ⟨102, [.cellN 4 6, .cell1 5], c109_59⟩

/-! 54: capsule/recovery.pages -/
def c54_0 : CC := .ops [⟨some 2, none, .mv (.c (.nils))⟩]
def c54_1 : CC := .ops [⟨some 11, none, .mv (.t 0)⟩,
  ⟨some 12, none, .callv (.c (.fn (.func 51) [] [])) [(.t 11)]⟩,
  ⟨some 3, none, .alloc [.int .i64 ((0 : Nat) : Int), .int .i64 ((0 : Nat) : Int), .int .i64 ((0 : Nat) : Int), .int .i64 ((0 : Nat) : Int)]⟩,
  ⟨none, none, .store 4 (.t 3) (.t 12)⟩]
def c54_2 : CC := .ops [⟨some 13, none, .faddr (.t 3) 0⟩,
  ⟨some 14, none, .load1 (.t 13)⟩,
  ⟨some 15, none, .mv (.c (.int .i64 ((0 : Nat) : Int)))⟩]
def c54_3 : CC := .ops [⟨some 16, none, .bin .lss (.t 15) (.t 14) false .pint⟩]
def c54_4 : CC := .cond (.t 16) .skip (.exit 0)
def c54_5 : CC := .ops [⟨some 17, none, .mv (.t 15)⟩,
  ⟨some 4, none, .mv (.t 17)⟩]
def c54_6 : CC := .ops [⟨some 18, none, .mv (.t 0)⟩,
  ⟨some 19, none, .mv (.t 4)⟩,
  ⟨some 20, none, .callv (.c (.fn (.func 61) [] [])) [(.t 18), (.t 19)]⟩,
  ⟨some 21, none, .mv (.c (.int .i64 ((0 : Nat) : Int)))⟩]
def c54_7 : CC := .ops [⟨some 22, none, .bin .lss (.t 21) (.t 20) false .pint⟩]
def c54_8 : CC := .cond (.t 22) .skip (.exit 2)
def c54_9 : CC := .ops [⟨some 23, none, .mv (.t 21)⟩,
  ⟨some 5, none, .mv (.t 23)⟩]
def c54_10 : CC := .ops [⟨some 25, none, .mv (.t 0)⟩,
  ⟨some 26, none, .mv (.t 4)⟩,
  ⟨some 27, none, .mv (.t 5)⟩,
  ⟨some 28, none, .callv (.c (.fn (.func 108) [] [])) [(.t 25), (.t 26), (.t 27)]⟩,
  ⟨some 24, none, .mv (.t 28)⟩,
  ⟨some 29, none, .extract (.t 24) 0⟩,
  ⟨some 30, none, .extract (.t 24) 1⟩,
  ⟨some 31, none, .extract (.t 24) 2⟩,
  ⟨some 6, none, .mv (.t 29)⟩,
  ⟨some 7, none, .mv (.t 30)⟩,
  ⟨some 8, none, .mv (.t 31)⟩]
def c54_11 : CC := .ops [⟨some 32, none, .mv (.t 8)⟩,
  ⟨some 33, none, .bin .neq (.t 32) (.c (.int .i64 ((0 : Nat) : Int))) true .pint⟩]
def c54_12 : CC := .cond (.t 33) (.exit 3) .skip
def c54_13 : CC := .seq c54_11 c54_12
def c54_14 : CC := .ops [⟨some 35, none, .mv (.t 7)⟩,
  ⟨some 36, none, .mv (.t 6)⟩,
  ⟨some 37, none, .callv (.c (.fn (.func 109) [] [])) [(.t 35), (.t 36)]⟩,
  ⟨some 34, none, .mv (.t 37)⟩,
  ⟨some 38, none, .extract (.t 34) 0⟩,
  ⟨some 39, none, .extract (.t 34) 1⟩,
  ⟨some 9, none, .alloc [.int .u8 ((0 : Nat) : Int), .int .i64 ((0 : Nat) : Int), .int .u64 ((0 : Nat) : Int), .int .u64 ((0 : Nat) : Int), .int .i64 ((0 : Nat) : Int), .int .i64 ((0 : Nat) : Int)]⟩,
  ⟨none, none, .store 6 (.t 9) (.t 38)⟩,
  ⟨some 10, none, .mv (.t 39)⟩]
def c54_15 : CC := .ops [⟨some 40, none, .mv (.t 10)⟩,
  ⟨some 41, none, .bin .eql (.t 40) (.c (.int .i64 ((0 : Nat) : Int))) true .pint⟩]
def c54_16 : CC := .ops [⟨some 42, none, .mv (.t 2)⟩,
  ⟨some 43, none, .loadN 6 (.t 9)⟩,
  ⟨some 44, none, .mv (.t 4)⟩,
  ⟨some 45, none, .faddr (.t 3) 1⟩,
  ⟨some 46, none, .load1 (.t 45)⟩,
  ⟨some 47, none, .bin .mul (.t 44) (.t 46) false .pint⟩,
  ⟨some 48, none, .mv (.t 5)⟩,
  ⟨some 49, none, .bin .add (.t 47) (.t 48) false .pint⟩,
  ⟨some 50, none, .mv (.t 6)⟩,
  ⟨some 51, none, .build [.int .u8 ((0 : Nat) : Int), .int .i64 ((0 : Nat) : Int), .int .u64 ((0 : Nat) : Int), .int .u64 ((0 : Nat) : Int), .int .i64 ((0 : Nat) : Int), .int .i64 ((0 : Nat) : Int), .int .i64 ((0 : Nat) : Int), .nils] [(0, 6, (.t 43)), (6, 1, (.t 49)), (7, 1, (.t 50))]⟩,
  ⟨some 52, none, .bslice 1 [.int .u8 ((0 : Nat) : Int), .int .i64 ((0 : Nat) : Int), .int .u64 ((0 : Nat) : Int), .int .u64 ((0 : Nat) : Int), .int .i64 ((0 : Nat) : Int), .int .i64 ((0 : Nat) : Int), .int .i64 ((0 : Nat) : Int), .nils] [(0, 8, (.t 51))]⟩,
  ⟨some 53, none, .append 8 80 (.t 42) (.t 52)⟩,
  ⟨some 2, none, .mv (.t 53)⟩]
def c54_17 : CC := .cond (.t 41) c54_16 .skip
def c54_18 : CC := .seq c54_15 c54_17
def c54_19 : CC := .seq c54_14 c54_18
def c54_20 : CC := .seq c54_13 c54_19
def c54_21 : CC := .seq c54_10 c54_20
def c54_22 : CC := .seq c54_9 c54_21
def c54_23 : CC := .block 3 c54_22
def c54_24 : CC := .ops [⟨some 54, none, .bin .add (.t 21) (.c (.int .i64 ((1 : Nat) : Int))) true .pint⟩,
  ⟨some 21, none, .mv (.t 54)⟩]
def c54_25 : CC := .seq c54_23 c54_24
def c54_26 : CC := .seq c54_8 c54_25
def c54_27 : CC := .seq c54_7 c54_26
def c54_28 : CC := .loop c54_27
def c54_29 : CC := .block 2 c54_28
def c54_30 : CC := .seq c54_6 c54_29
def c54_31 : CC := .seq c54_5 c54_30
def c54_32 : CC := .block 1 c54_31
def c54_33 : CC := .ops [⟨some 55, none, .bin .add (.t 15) (.c (.int .i64 ((1 : Nat) : Int))) true .pint⟩,
  ⟨some 15, none, .mv (.t 55)⟩]
def c54_34 : CC := .seq c54_32 c54_33
def c54_35 : CC := .seq c54_4 c54_34
def c54_36 : CC := .seq c54_3 c54_35
def c54_37 : CC := .loop c54_36
def c54_38 : CC := .block 0 c54_37
def c54_39 : CC := .seq c54_2 c54_38
def c54_40 : CC := .ops [⟨some 56, none, .mv (.t 2)⟩,
  ⟨some 2, none, .mv (.t 56)⟩]
def c54_41 : CC := .seq c54_40 .ret
def c54_42 : CC := .seq c54_39 c54_41
def c54_43 : CC := .seq c54_1 c54_42
def c54_44 : CC := .seq c54_0 c54_43
def cf54 : CFn := ⟨57, [.tmp 2], c54_44⟩

/-! 70: capsule/recovery.Pages$1 -/
def c70_0 : CC := .ops [⟨some 5, none, .load1 (.t 1)⟩,
  ⟨some 6, none, .lenS (.t 5)⟩,
  ⟨some 7, none, .mv (.c (.int .i64 ((0 : Nat) : Int)))⟩]
def c70_1 : CC := .ops [⟨some 8, none, .bin .lss (.t 7) (.t 6) false .pint⟩]
def c70_2 : CC := .cond (.t 8) .skip (.exit 0)
def c70_3 : CC := .ops [⟨some 9, none, .iaddrS 8 (.t 5) (.t 7)⟩,
  ⟨some 10, none, .loadN 8 (.t 9)⟩,
  ⟨some 4, none, .alloc [.int .u8 ((0 : Nat) : Int), .int .i64 ((0 : Nat) : Int), .int .u64 ((0 : Nat) : Int), .int .u64 ((0 : Nat) : Int), .int .i64 ((0 : Nat) : Int), .int .i64 ((0 : Nat) : Int), .int .i64 ((0 : Nat) : Int), .nils]⟩,
  ⟨none, none, .store 8 (.t 4) (.t 10)⟩]
def c70_4 : CC := .ops [⟨some 11, none, .mv (.t 0)⟩,
  ⟨some 12, none, .faddr (.t 4) 6⟩,
  ⟨some 13, none, .load1 (.t 12)⟩,
  ⟨some 14, none, .faddr (.t 4) 0⟩,
  ⟨some 15, none, .loadN 6 (.t 14)⟩,
  ⟨some 16, none, .callv (.t 11) [(.t 13), (.t 15)]⟩,
  ⟨some 17, none, .un .not (.t 16)⟩]
def c70_5 : CC := .cond (.t 17) (.exit 0) .skip
def c70_6 : CC := .seq c70_4 c70_5
def c70_7 : CC := .seq c70_3 c70_6
def c70_8 : CC := .block 1 c70_7
def c70_9 : CC := .ops [⟨some 18, none, .bin .add (.t 7) (.c (.int .i64 ((1 : Nat) : Int))) true .pint⟩,
  ⟨some 7, none, .mv (.t 18)⟩]
def c70_10 : CC := .seq c70_8 c70_9
def c70_11 : CC := .seq c70_2 c70_10
def c70_12 : CC := .seq c70_1 c70_11
def c70_13 : CC := .loop c70_12
def c70_14 : CC := .block 0 c70_13
def c70_15 : CC := .seq c70_0 c70_14
def c70_16 : CC := .seq (.label 0) c70_15
def c70_17 : CC := .scope c70_16
def cf70 : CFn := ⟨19, [], c70_17⟩

/-! 20: capsule/recovery.Pages -/
def c20_0 : CC := .ops [⟨some 2, none, .mv (.c (.nilf))⟩]
def c20_1 : CC := .ops [⟨some 4, none, .mv (.t 0)⟩,
  ⟨some 5, none, .callv (.c (.fn (.func 54) [] [])) [(.t 4)]⟩,
  ⟨some 3, none, .alloc [.nils]⟩,
  ⟨none, none, .store 1 (.t 3) (.t 5)⟩]
def c20_2 : CC := .ops [⟨some 6, none, .mkfn (.func 70) [] [(.t 3)]⟩,
  ⟨some 2, none, .mv (.t 6)⟩]
def c20_3 : CC := .seq c20_2 .ret
def c20_4 : CC := .seq c20_1 c20_3
def c20_5 : CC := .seq c20_0 c20_4
def cf20 : CFn := ⟨7, [.tmp 2], c20_5⟩

/-! 67: (capsule/capsuleref04.Device).State -/
def c67_0 : CC := .ops [⟨some 3, none, .box 11 (.t 0)⟩,
  ⟨some 6, none, .mv (.c (.int .i64 ((0 : Nat) : Int)))⟩]
def c67_1 : CC := .ops [⟨some 7, none, .loadN 11 (.t 3)⟩,
  ⟨some 8, none, .mv (.t 1)⟩,
  ⟨some 9, none, .callv (.c (.fn (.func 46) [] [])) [(.t 7), (.t 8)]⟩,
  ⟨some 10, none, .un .not (.t 9)⟩,
  ⟨some 11, none, .mv (.t 10)⟩,
  ⟨some 12, (some (11, false)), .mv (.t 2)⟩,
  ⟨some 13, (some (11, false)), .bin .lss (.t 12) (.c (.int .i64 ((0 : Nat) : Int))) true .pint⟩,
  ⟨some 14, none, .pick (.t 11) (.c (.bool true)) (.t 13)⟩,
  ⟨some 15, none, .mv (.t 14)⟩,
  ⟨some 16, (some (15, false)), .mv (.t 2)⟩,
  ⟨some 17, (some (15, false)), .faddr (.t 3) 0⟩,
  ⟨some 18, (some (15, false)), .faddr (.t 17) 1⟩,
  ⟨some 19, (some (15, false)), .load1 (.t 18)⟩,
  ⟨some 20, (some (15, false)), .bin .geq (.t 16) (.t 19) false .pint⟩,
  ⟨some 21, none, .pick (.t 15) (.c (.bool true)) (.t 20)⟩]
def c67_2 : CC := .ops [⟨some 6, none, .mv (.c (.int .i64 ((0 : Nat) : Int)))⟩]
def c67_3 : CC := .seq c67_2 .ret
def c67_4 : CC := .cond (.t 21) c67_3 .skip
def c67_5 : CC := .seq c67_1 c67_4
def c67_6 : CC := .ops [⟨some 22, none, .faddr (.t 3) 5⟩,
  ⟨some 23, none, .load1 (.t 22)⟩,
  ⟨some 24, none, .mv (.t 1)⟩,
  ⟨some 25, none, .iaddrS 1 (.t 23) (.t 24)⟩,
  ⟨some 26, none, .load1 (.t 25)⟩,
  ⟨some 27, none, .mv (.t 2)⟩,
  ⟨some 28, none, .iaddrS 2 (.t 26) (.t 27)⟩,
  ⟨some 29, none, .faddr (.t 28) 0⟩,
  ⟨some 30, none, .load1 (.t 29)⟩,
  ⟨some 6, none, .mv (.t 30)⟩]
def c67_7 : CC := .seq c67_6 .ret
def c67_8 : CC := .seq c67_5 c67_7
def c67_9 : CC := .seq c67_0 c67_8
def cf67 : CFn := ⟨31, [.tmp 6], c67_9⟩

/-! 71: (capsule/capsuleref04.Device).Read -/
def c71_0 : CC := .ops [⟨some 3, none, .box 11 (.t 0)⟩,
  ⟨some 6, none, .mv (.c (.nils))⟩,
  ⟨some 7, none, .mv (.c (.nils))⟩,
  ⟨some 8, none, .mv (.c (.int .i64 ((0 : Nat) : Int)))⟩]
def c71_1 : CC := .ops [⟨some 11, none, .loadN 11 (.t 3)⟩,
  ⟨some 12, none, .mv (.t 1)⟩,
  ⟨some 13, none, .mv (.t 2)⟩,
  ⟨some 14, none, .callv (.c (.fn (.func 67) [] [])) [(.t 11), (.t 12), (.t 13)]⟩,
  ⟨some 9, none, .mv (.t 14)⟩]
def c71_2 : CC := .ops [⟨some 15, none, .mv (.t 9)⟩,
  ⟨some 16, none, .bin .eql (.t 15) (.c (.int .i64 ((0 : Nat) : Int))) true .pint⟩]
def c71_3 : CC := .ops [⟨some 6, none, .mv (.c (.nils))⟩,
  ⟨some 7, none, .mv (.c (.nils))⟩,
  ⟨some 8, none, .mv (.c (.int .i64 ((2 : Nat) : Int)))⟩]
def c71_4 : CC := .seq c71_3 .ret
def c71_5 : CC := .cond (.t 16) c71_4 .skip
def c71_6 : CC := .seq c71_2 c71_5
def c71_7 : CC := .ops [⟨some 17, none, .faddr (.t 3) 10⟩,
  ⟨some 18, none, .load1 (.t 17)⟩]
def c71_8 : CC := .ops [⟨some 6, none, .mv (.c (.nils))⟩,
  ⟨some 7, none, .mv (.c (.nils))⟩,
  ⟨some 8, none, .mv (.c (.int .i64 ((50 : Nat) : Int)))⟩]
def c71_9 : CC := .seq c71_8 .ret
def c71_10 : CC := .cond (.t 18) c71_9 .skip
def c71_11 : CC := .seq c71_7 c71_10
def c71_12 : CC := .ops [⟨some 19, none, .mv (.t 9)⟩,
  ⟨some 20, none, .bin .eql (.t 19) (.c (.int .i64 ((1 : Nat) : Int))) true .pint⟩]
def c71_13 : CC := .ops [⟨some 6, none, .mv (.c (.nils))⟩,
  ⟨some 7, none, .mv (.c (.nils))⟩,
  ⟨some 8, none, .mv (.c (.int .i64 ((52 : Nat) : Int)))⟩]
def c71_14 : CC := .seq c71_13 .ret
def c71_15 : CC := .cond (.t 20) c71_14 .skip
def c71_16 : CC := .seq c71_12 c71_15
def c71_17 : CC := .ops [⟨some 21, none, .mv (.t 9)⟩,
  ⟨some 22, none, .bin .eql (.t 21) (.c (.int .i64 ((4 : Nat) : Int))) true .pint⟩,
  ⟨some 23, none, .mv (.t 22)⟩,
  ⟨some 24, (some (23, false)), .mv (.t 9)⟩,
  ⟨some 25, (some (23, false)), .bin .eql (.t 24) (.c (.int .i64 ((5 : Nat) : Int))) true .pint⟩,
  ⟨some 26, none, .pick (.t 23) (.c (.bool true)) (.t 25)⟩]
def c71_18 : CC := .ops [⟨some 6, none, .mv (.c (.nils))⟩,
  ⟨some 7, none, .mv (.c (.nils))⟩,
  ⟨some 8, none, .mv (.c (.int .i64 ((53 : Nat) : Int)))⟩]
def c71_19 : CC := .seq c71_18 .ret
def c71_20 : CC := .cond (.t 26) c71_19 .skip
def c71_21 : CC := .seq c71_17 c71_20
def c71_22 : CC := .ops [⟨some 27, none, .faddr (.t 3) 5⟩,
  ⟨some 28, none, .load1 (.t 27)⟩,
  ⟨some 29, none, .mv (.t 1)⟩,
  ⟨some 30, none, .iaddrS 1 (.t 28) (.t 29)⟩,
  ⟨some 31, none, .load1 (.t 30)⟩,
  ⟨some 32, none, .mv (.t 2)⟩,
  ⟨some 33, none, .iaddrS 2 (.t 31) (.t 32)⟩,
  ⟨some 34, none, .faddr (.t 33) 1⟩,
  ⟨some 35, none, .load1 (.t 34)⟩,
  ⟨some 10, none, .mv (.t 35)⟩]
def c71_23 : CC := .drawn [⟨⟨some 36, none, .mv (.t 10)⟩, [10]⟩,
  ⟨⟨some 37, none, .faddr (.t 3) 0⟩, [3]⟩,
  ⟨⟨some 38, none, .faddr (.t 37) 2⟩, [37]⟩,
  ⟨⟨some 39, none, .load1 (.t 38)⟩, [38]⟩,
  ⟨⟨some 40, none, .sliceS 1 (.t 36) none (some (.t 39)) none⟩, [36, 39]⟩,
  ⟨⟨some 41, none, .mv (.t 10)⟩, [10]⟩,
  ⟨⟨some 42, none, .faddr (.t 3) 0⟩, [3]⟩,
  ⟨⟨some 43, none, .faddr (.t 42) 2⟩, [42]⟩,
  ⟨⟨some 44, none, .load1 (.t 43)⟩, [43]⟩,
  ⟨⟨some 45, none, .sliceS 1 (.t 41) (some (.t 44)) none none⟩, [41, 44]⟩,
  ⟨⟨some 6, none, .mv (.t 40)⟩, [40]⟩,
  ⟨⟨some 7, none, .mv (.t 45)⟩, [45]⟩,
  ⟨⟨some 8, none, .mv (.c (.int .i64 ((0 : Nat) : Int)))⟩, []⟩]
  []
  []
def c71_24 : CC := .seq c71_23 .ret
def c71_25 : CC := .seq c71_22 c71_24
def c71_26 : CC := .seq c71_21 c71_25
def c71_27 : CC := .seq c71_16 c71_26
def c71_28 : CC := .seq c71_11 c71_27
def c71_29 : CC := .seq c71_6 c71_28
def c71_30 : CC := .seq c71_1 c71_29
def c71_31 : CC := .seq c71_0 c71_30
def cf71 : CFn := ⟨46, [.tmp 6, .tmp 7, .tmp 8], c71_31⟩

/-! 122: capsule/capsuleref05.get -/
def c122_0 : CC := .ops [⟨some 6, none, .mv (.c (.int .u64 ((0 : Nat) : Int)))⟩]
def c122_1 : CC := .ops [⟨some 7, none, .mv (.c (.int .u64 ((0 : Nat) : Int)))⟩]
def c122_2 : CC := .ops [⟨some 9, none, .mv (.t 2)⟩,
  ⟨some 10, none, .bin .sub (.t 9) (.c (.int .i64 ((1 : Nat) : Int))) true .pint⟩,
  ⟨some 8, none, .mv (.t 10)⟩]
def c122_3 : CC := .ops [⟨some 11, none, .mv (.t 8)⟩,
  ⟨some 12, none, .bin .geq (.t 11) (.c (.int .i64 ((0 : Nat) : Int))) true .pint⟩]
def c122_4 : CC := .cond (.t 12) .skip (.exit 0)
def c122_5 : CC := .seq c122_3 c122_4
def c122_6 : CC := .ops [⟨some 15, none, .mv (.t 7)⟩,
  ⟨some 16, none, .bin .shl (.t 15) (.c (.int .u64 ((8 : Nat) : Int))) true .pint⟩,
  ⟨some 17, none, .mv (.t 0)⟩,
  ⟨some 18, none, .mv (.t 1)⟩,
  ⟨some 19, none, .mv (.t 8)⟩,
  ⟨some 20, none, .bin .add (.t 18) (.t 19) false .pint⟩,
  ⟨some 21, none, .iaddrS 1 (.t 17) (.t 20)⟩,
  ⟨some 22, none, .load1 (.t 21)⟩,
  ⟨some 23, none, .conv .u64 (.t 22)⟩,
  ⟨some 24, none, .bin .or (.t 16) (.t 23) false .pint⟩,
  ⟨some 7, none, .mv (.t 24)⟩]
def c122_7 : CC := .block 1 c122_6
def c122_8 : CC := .ops [⟨some 13, none, .mv (.t 8)⟩,
  ⟨some 14, none, .bin .sub (.t 13) (.c (.int .i64 ((1 : Nat) : Int))) true .pint⟩,
  ⟨some 8, none, .mv (.t 14)⟩]
def c122_9 : CC := .seq c122_7 c122_8
def c122_10 : CC := .seq c122_5 c122_9
def c122_11 : CC := .loop c122_10
def c122_12 : CC := .block 0 c122_11
def c122_13 : CC := .seq c122_2 c122_12
def c122_14 : CC := .ops [⟨some 25, none, .mv (.t 7)⟩,
  ⟨some 6, none, .mv (.t 25)⟩]
def c122_15 : CC := .seq c122_14 .ret
def c122_16 : CC := .seq c122_13 c122_15
def c122_17 : CC := .seq c122_1 c122_16
def c122_18 : CC := .seq c122_0 c122_17
def cf122 : CFn := ⟨26, [.tmp 6], c122_18⟩

/-! 124: capsule/capsuleref05.Valid -/
def c124_0 : CC := .ops [⟨some 1, none, .box 6 (.t 0)⟩,
  ⟨some 2, none, .mv (.c (.bool false))⟩]
def c124_1 : CC := .ops [⟨some 3, none, .faddr (.t 1) 2⟩,
  ⟨some 4, none, .load1 (.t 3)⟩,
  ⟨some 5, none, .bin .lss (.t 4) (.c (.int .u64 ((1 : Nat) : Int))) true .pint⟩,
  ⟨some 6, none, .mv (.t 5)⟩,
  ⟨some 7, (some (6, false)), .faddr (.t 1) 5⟩,
  ⟨some 8, (some (6, false)), .load1 (.t 7)⟩,
  ⟨some 9, (some (6, false)), .bin .lss (.t 8) (.c (.int .i64 ((1 : Nat) : Int))) true .pint⟩,
  ⟨some 10, none, .pick (.t 6) (.c (.bool true)) (.t 9)⟩,
  ⟨some 11, none, .mv (.t 10)⟩,
  ⟨some 12, (some (11, false)), .faddr (.t 1) 5⟩,
  ⟨some 13, (some (11, false)), .load1 (.t 12)⟩,
  ⟨some 14, (some (11, false)), .bin .gtr (.t 13) (.c (.int .i64 ((65535 : Nat) : Int))) true .pint⟩,
  ⟨some 15, none, .pick (.t 11) (.c (.bool true)) (.t 14)⟩,
  ⟨some 16, none, .mv (.t 15)⟩,
  ⟨some 17, (some (16, false)), .faddr (.t 1) 4⟩,
  ⟨some 18, (some (16, false)), .load1 (.t 17)⟩,
  ⟨some 19, (some (16, false)), .bin .lss (.t 18) (.c (.int .i64 ((0 : Nat) : Int))) true .pint⟩,
  ⟨some 20, none, .pick (.t 16) (.c (.bool true)) (.t 19)⟩,
  ⟨some 21, none, .mv (.t 20)⟩,
  ⟨some 22, (some (21, false)), .faddr (.t 1) 4⟩,
  ⟨some 23, (some (21, false)), .load1 (.t 22)⟩,
  ⟨some 24, (some (21, false)), .faddr (.t 1) 5⟩,
  ⟨some 25, (some (21, false)), .load1 (.t 24)⟩,
  ⟨some 26, (some (21, false)), .bin .geq (.t 23) (.t 25) false .pint⟩,
  ⟨some 27, none, .pick (.t 21) (.c (.bool true)) (.t 26)⟩]
def c124_2 : CC := .ops [⟨some 2, none, .mv (.c (.bool false))⟩]
def c124_3 : CC := .seq c124_2 .ret
def c124_4 : CC := .cond (.t 27) c124_3 .skip
def c124_5 : CC := .seq c124_1 c124_4
def c124_6 : CC := .ops [⟨some 28, none, .faddr (.t 1) 0⟩,
  ⟨some 29, none, .load1 (.t 28)⟩,
  ⟨some 30, none, .bin .eql (.t 29) (.c (.int .u8 ((1 : Nat) : Int))) true .pint⟩]
def c124_7 : CC := .ops [⟨some 31, none, .faddr (.t 1) 1⟩,
  ⟨some 32, none, .load1 (.t 31)⟩,
  ⟨some 33, none, .bin .geq (.t 32) (.c (.int .i64 ((0 : Nat) : Int))) true .pint⟩,
  ⟨some 34, none, .mv (.t 33)⟩,
  ⟨some 35, (some (34, true)), .faddr (.t 1) 1⟩,
  ⟨some 36, (some (34, true)), .load1 (.t 35)⟩,
  ⟨some 37, (some (34, true)), .bin .leq (.t 36) (.c (.int .i64 ((4294967294 : Nat) : Int))) true .pint⟩,
  ⟨some 38, none, .pick (.t 34) (.t 37) (.c (.bool false))⟩,
  ⟨some 39, none, .mv (.t 38)⟩,
  ⟨some 40, (some (39, true)), .faddr (.t 1) 3⟩,
  ⟨some 41, (some (39, true)), .load1 (.t 40)⟩,
  ⟨some 42, (some (39, true)), .bin .eql (.t 41) (.c (.int .u64 ((0 : Nat) : Int))) true .pint⟩,
  ⟨some 43, none, .pick (.t 39) (.t 42) (.c (.bool false))⟩,
  ⟨some 44, none, .mv (.t 43)⟩,
  ⟨some 45, (some (44, true)), .faddr (.t 1) 5⟩,
  ⟨some 46, (some (44, true)), .load1 (.t 45)⟩,
  ⟨some 47, (some (44, true)), .bin .eql (.t 46) (.c (.int .i64 ((1 : Nat) : Int))) true .pint⟩,
  ⟨some 48, none, .pick (.t 44) (.t 47) (.c (.bool false))⟩,
  ⟨some 2, none, .mv (.t 48)⟩]
def c124_8 : CC := .seq c124_7 .ret
def c124_9 : CC := .cond (.t 30) c124_8 .skip
def c124_10 : CC := .seq c124_6 c124_9
def c124_11 : CC := .ops [⟨some 49, none, .faddr (.t 1) 0⟩,
  ⟨some 50, none, .load1 (.t 49)⟩,
  ⟨some 51, none, .bin .eql (.t 50) (.c (.int .u8 ((2 : Nat) : Int))) true .pint⟩,
  ⟨some 52, none, .mv (.t 51)⟩,
  ⟨some 53, (some (52, false)), .faddr (.t 1) 0⟩,
  ⟨some 54, (some (52, false)), .load1 (.t 53)⟩,
  ⟨some 55, (some (52, false)), .bin .eql (.t 54) (.c (.int .u8 ((3 : Nat) : Int))) true .pint⟩,
  ⟨some 56, none, .pick (.t 52) (.c (.bool true)) (.t 55)⟩,
  ⟨some 57, none, .mv (.t 56)⟩,
  ⟨some 58, (some (57, true)), .faddr (.t 1) 1⟩,
  ⟨some 59, (some (57, true)), .load1 (.t 58)⟩,
  ⟨some 60, (some (57, true)), .bin .eql (.t 59) (.c (.int .i64 ((0 : Nat) : Int))) true .pint⟩,
  ⟨some 61, none, .pick (.t 57) (.t 60) (.c (.bool false))⟩,
  ⟨some 62, none, .mv (.t 61)⟩,
  ⟨some 63, (some (62, true)), .faddr (.t 1) 3⟩,
  ⟨some 64, (some (62, true)), .load1 (.t 63)⟩,
  ⟨some 65, (some (62, true)), .faddr (.t 1) 2⟩,
  ⟨some 66, (some (62, true)), .load1 (.t 65)⟩,
  ⟨some 67, (some (62, true)), .bin .lss (.t 64) (.t 66) false .pint⟩,
  ⟨some 68, none, .pick (.t 62) (.t 67) (.c (.bool false))⟩,
  ⟨some 69, none, .mv (.t 68)⟩,
  ⟨some 70, (some (69, true)), .faddr (.t 1) 4⟩,
  ⟨some 71, (some (69, true)), .load1 (.t 70)⟩,
  ⟨some 72, (some (69, true)), .conv .u64 (.t 71)⟩,
  ⟨some 73, (some (69, true)), .faddr (.t 1) 2⟩,
  ⟨some 74, (some (69, true)), .load1 (.t 73)⟩,
  ⟨some 75, (some (69, true)), .faddr (.t 1) 3⟩,
  ⟨some 76, (some (69, true)), .load1 (.t 75)⟩,
  ⟨some 77, (some (69, true)), .bin .sub (.t 74) (.t 76) false .pint⟩,
  ⟨some 78, (some (69, true)), .bin .lss (.t 72) (.t 77) false .pint⟩,
  ⟨some 79, none, .pick (.t 69) (.t 78) (.c (.bool false))⟩,
  ⟨some 2, none, .mv (.t 79)⟩]
def c124_12 : CC := .seq c124_11 .ret
def c124_13 : CC := .seq c124_10 c124_12
def c124_14 : CC := .seq c124_5 c124_13
def c124_15 : CC := .seq c124_0 c124_14
def cf124 : CFn := ⟨80, [.tmp 2], c124_15⟩

/-! 72: capsule/capsuleref05.Decode -/
def c72_0 : CC := .ops [⟨some 4, none, .alloc [.int .u8 ((0 : Nat) : Int), .int .i64 ((0 : Nat) : Int), .int .u64 ((0 : Nat) : Int), .int .u64 ((0 : Nat) : Int), .int .i64 ((0 : Nat) : Int), .int .i64 ((0 : Nat) : Int)]⟩,
  ⟨some 5, none, .mv (.c (.int .i64 ((0 : Nat) : Int)))⟩]
def c72_1 : CC := .ops [⟨some 7, none, .mv (.t 0)⟩,
  ⟨some 8, none, .lenS (.t 7)⟩,
  ⟨some 9, none, .bin .neq (.t 8) (.c (.int .i64 ((64 : Nat) : Int))) true .pint⟩]
def c72_2 : CC := .ops [⟨some 10, none, .build [.int .u8 ((0 : Nat) : Int), .int .i64 ((0 : Nat) : Int), .int .u64 ((0 : Nat) : Int), .int .u64 ((0 : Nat) : Int), .int .i64 ((0 : Nat) : Int), .int .i64 ((0 : Nat) : Int)] []⟩,
  ⟨none, none, .store 6 (.t 4) (.t 10)⟩,
  ⟨some 5, none, .mv (.c (.int .i64 ((2 : Nat) : Int)))⟩]
def c72_3 : CC := .seq c72_2 .ret
def c72_4 : CC := .cond (.t 9) c72_3 .skip
def c72_5 : CC := .seq c72_1 c72_4
def c72_6 : CC := .alts [⟨[⟨⟨some 11, none, .mv (.t 0)⟩, [0]⟩, ⟨⟨some 13, none, .bslice 0 [] []⟩, []⟩, ⟨⟨some 14, none, .mv (.t 1)⟩, [1]⟩, ⟨⟨some 16, none, .mv (.t 0)⟩, [0]⟩, ⟨⟨some 17, none, .sliceS 1 (.t 16) none (some (.c (.int .i64 ((60 : Nat) : Int)))) none⟩, [16]⟩], [], [⟨⟨⟨some 12, none, .callv (.c (.fn (.func 122) [] [])) [(.t 11), (.c (.int .i64 ((60 : Nat) : Int))), (.c (.int .i64 ((4 : Nat) : Int)))]⟩, [11]⟩, [], [⟨⟨some 14, none, .mv (.t 1)⟩, [1]⟩, ⟨⟨some 16, none, .mv (.t 0)⟩, [0]⟩, ⟨⟨some 17, none, .sliceS 1 (.t 16) none (some (.c (.int .i64 ((60 : Nat) : Int)))) none⟩, [16]⟩]⟩, ⟨⟨⟨some 15, none, .append 1 1 (.t 13) (.t 14)⟩, [13, 14]⟩, [], [⟨⟨some 16, none, .mv (.t 0)⟩, [0]⟩, ⟨⟨some 17, none, .sliceS 1 (.t 16) none (some (.c (.int .i64 ((60 : Nat) : Int)))) none⟩, [16]⟩]⟩, ⟨⟨⟨some 18, none, .append 1 1 (.t 15) (.t 17)⟩, [15, 17]⟩, [], []⟩, ⟨⟨⟨some 19, none, .callv (.c (.fn (.func 123) [] [])) [(.t 18)]⟩, [18]⟩, [⟨⟨some 20, none, .conv .u64 (.t 19)⟩, [19]⟩, ⟨⟨some 21, none, .bin .neq (.t 12) (.t 20) false .pint⟩, [12, 20]⟩], []⟩]⟩,
  ⟨[⟨⟨some 11, none, .mv (.t 0)⟩, [0]⟩, ⟨⟨some 14, none, .mv (.t 1)⟩, [1]⟩, ⟨⟨some 16, none, .mv (.t 0)⟩, [0]⟩, ⟨⟨some 17, none, .sliceS 1 (.t 16) none (some (.c (.int .i64 ((60 : Nat) : Int)))) none⟩, [16]⟩], [], [⟨⟨⟨some 12, none, .callv (.c (.fn (.func 122) [] [])) [(.t 11), (.c (.int .i64 ((60 : Nat) : Int))), (.c (.int .i64 ((4 : Nat) : Int)))]⟩, [11]⟩, [⟨⟨some 13, none, .bslice 0 [] []⟩, []⟩], [⟨⟨some 14, none, .mv (.t 1)⟩, [1]⟩, ⟨⟨some 16, none, .mv (.t 0)⟩, [0]⟩, ⟨⟨some 17, none, .sliceS 1 (.t 16) none (some (.c (.int .i64 ((60 : Nat) : Int)))) none⟩, [16]⟩]⟩, ⟨⟨⟨some 15, none, .append 1 1 (.t 13) (.t 14)⟩, [13, 14]⟩, [], [⟨⟨some 16, none, .mv (.t 0)⟩, [0]⟩, ⟨⟨some 17, none, .sliceS 1 (.t 16) none (some (.c (.int .i64 ((60 : Nat) : Int)))) none⟩, [16]⟩]⟩, ⟨⟨⟨some 18, none, .append 1 1 (.t 15) (.t 17)⟩, [15, 17]⟩, [], []⟩, ⟨⟨⟨some 19, none, .callv (.c (.fn (.func 123) [] [])) [(.t 18)]⟩, [18]⟩, [⟨⟨some 20, none, .conv .u64 (.t 19)⟩, [19]⟩, ⟨⟨some 21, none, .bin .neq (.t 12) (.t 20) false .pint⟩, [12, 20]⟩], []⟩]⟩]
def c72_7 : CC := .ops [⟨some 22, none, .build [.int .u8 ((0 : Nat) : Int), .int .i64 ((0 : Nat) : Int), .int .u64 ((0 : Nat) : Int), .int .u64 ((0 : Nat) : Int), .int .i64 ((0 : Nat) : Int), .int .i64 ((0 : Nat) : Int)] []⟩,
  ⟨none, none, .store 6 (.t 4) (.t 22)⟩,
  ⟨some 5, none, .mv (.c (.int .i64 ((10 : Nat) : Int)))⟩]
def c72_8 : CC := .seq c72_7 .ret
def c72_9 : CC := .cond (.t 21) c72_8 .skip
def c72_10 : CC := .seq c72_6 c72_9
def c72_11 : CC := .alts [⟨[⟨⟨some 23, none, .mv (.t 0)⟩, [0]⟩, ⟨⟨some 24, none, .iaddrS 1 (.t 23) (.c (.int .i64 ((4 : Nat) : Int)))⟩, [23]⟩, ⟨⟨some 25, none, .load1 (.t 24)⟩, [24]⟩, ⟨⟨some 26, none, .mv (.t 0)⟩, [0]⟩, ⟨⟨some 29, none, .mv (.t 0)⟩, [0]⟩, ⟨⟨some 31, none, .mv (.t 0)⟩, [0]⟩, ⟨⟨some 33, none, .mv (.t 0)⟩, [0]⟩, ⟨⟨some 36, none, .mv (.t 0)⟩, [0]⟩, ⟨⟨some 6, none, .alloc [.int .u8 ((0 : Nat) : Int), .int .i64 ((0 : Nat) : Int), .int .u64 ((0 : Nat) : Int), .int .u64 ((0 : Nat) : Int), .int .i64 ((0 : Nat) : Int), .int .i64 ((0 : Nat) : Int)]⟩, []⟩], [⟨⟨some 25, none, .load1 (.t 24)⟩, [24]⟩], [⟨⟨⟨some 27, none, .callv (.c (.fn (.func 122) [] [])) [(.t 26), (.c (.int .i64 ((24 : Nat) : Int))), (.c (.int .i64 ((4 : Nat) : Int)))]⟩, [26]⟩, [⟨⟨some 28, none, .conv .i64 (.t 27)⟩, [27]⟩], [⟨⟨some 23, none, .mv (.t 0)⟩, [0]⟩, ⟨⟨some 24, none, .iaddrS 1 (.t 23) (.c (.int .i64 ((4 : Nat) : Int)))⟩, [23]⟩, ⟨⟨some 25, none, .load1 (.t 24)⟩, [24]⟩, ⟨⟨some 29, none, .mv (.t 0)⟩, [0]⟩, ⟨⟨some 31, none, .mv (.t 0)⟩, [0]⟩, ⟨⟨some 33, none, .mv (.t 0)⟩, [0]⟩, ⟨⟨some 36, none, .mv (.t 0)⟩, [0]⟩]⟩, ⟨⟨⟨some 30, none, .callv (.c (.fn (.func 122) [] [])) [(.t 29), (.c (.int .i64 ((8 : Nat) : Int))), (.c (.int .i64 ((8 : Nat) : Int)))]⟩, [29]⟩, [], [⟨⟨some 23, none, .mv (.t 0)⟩, [0]⟩, ⟨⟨some 24, none, .iaddrS 1 (.t 23) (.c (.int .i64 ((4 : Nat) : Int)))⟩, [23]⟩, ⟨⟨some 25, none, .load1 (.t 24)⟩, [24]⟩, ⟨⟨some 28, none, .conv .i64 (.t 27)⟩, [27]⟩, ⟨⟨some 31, none, .mv (.t 0)⟩, [0]⟩, ⟨⟨some 33, none, .mv (.t 0)⟩, [0]⟩, ⟨⟨some 36, none, .mv (.t 0)⟩, [0]⟩]⟩, ⟨⟨⟨some 32, none, .callv (.c (.fn (.func 122) [] [])) [(.t 31), (.c (.int .i64 ((16 : Nat) : Int))), (.c (.int .i64 ((8 : Nat) : Int)))]⟩, [31]⟩, [], [⟨⟨some 23, none, .mv (.t 0)⟩, [0]⟩, ⟨⟨some 24, none, .iaddrS 1 (.t 23) (.c (.int .i64 ((4 : Nat) : Int)))⟩, [23]⟩, ⟨⟨some 25, none, .load1 (.t 24)⟩, [24]⟩, ⟨⟨some 28, none, .conv .i64 (.t 27)⟩, [27]⟩, ⟨⟨some 33, none, .mv (.t 0)⟩, [0]⟩, ⟨⟨some 36, none, .mv (.t 0)⟩, [0]⟩]⟩, ⟨⟨⟨some 34, none, .callv (.c (.fn (.func 122) [] [])) [(.t 33), (.c (.int .i64 ((28 : Nat) : Int))), (.c (.int .i64 ((4 : Nat) : Int)))]⟩, [33]⟩, [⟨⟨some 35, none, .conv .i64 (.t 34)⟩, [34]⟩], [⟨⟨some 23, none, .mv (.t 0)⟩, [0]⟩, ⟨⟨some 24, none, .iaddrS 1 (.t 23) (.c (.int .i64 ((4 : Nat) : Int)))⟩, [23]⟩, ⟨⟨some 25, none, .load1 (.t 24)⟩, [24]⟩, ⟨⟨some 28, none, .conv .i64 (.t 27)⟩, [27]⟩, ⟨⟨some 36, none, .mv (.t 0)⟩, [0]⟩]⟩, ⟨⟨⟨some 37, none, .callv (.c (.fn (.func 122) [] [])) [(.t 36), (.c (.int .i64 ((32 : Nat) : Int))), (.c (.int .i64 ((4 : Nat) : Int)))]⟩, [36]⟩, [⟨⟨some 38, none, .conv .i64 (.t 37)⟩, [37]⟩, ⟨⟨some 39, none, .build [.int .u8 ((0 : Nat) : Int), .int .i64 ((0 : Nat) : Int), .int .u64 ((0 : Nat) : Int), .int .u64 ((0 : Nat) : Int), .int .i64 ((0 : Nat) : Int), .int .i64 ((0 : Nat) : Int)] [(0, 1, (.t 25)), (1, 1, (.t 28)), (2, 1, (.t 30)), (3, 1, (.t 32)), (4, 1, (.t 35)), (5, 1, (.t 38))]⟩, [25, 28, 30, 32, 35, 38]⟩], [⟨⟨some 23, none, .mv (.t 0)⟩, [0]⟩, ⟨⟨some 24, none, .iaddrS 1 (.t 23) (.c (.int .i64 ((4 : Nat) : Int)))⟩, [23]⟩, ⟨⟨some 25, none, .load1 (.t 24)⟩, [24]⟩, ⟨⟨some 28, none, .conv .i64 (.t 27)⟩, [27]⟩, ⟨⟨some 35, none, .conv .i64 (.t 34)⟩, [34]⟩]⟩, ⟨⟨⟨none, none, .store 6 (.t 6) (.t 39)⟩, [6, 39]⟩, [], []⟩]⟩,
  ⟨[⟨⟨some 23, none, .mv (.t 0)⟩, [0]⟩, ⟨⟨some 24, none, .iaddrS 1 (.t 23) (.c (.int .i64 ((4 : Nat) : Int)))⟩, [23]⟩, ⟨⟨some 25, none, .load1 (.t 24)⟩, [24]⟩, ⟨⟨some 26, none, .mv (.t 0)⟩, [0]⟩, ⟨⟨some 29, none, .mv (.t 0)⟩, [0]⟩, ⟨⟨some 31, none, .mv (.t 0)⟩, [0]⟩, ⟨⟨some 33, none, .mv (.t 0)⟩, [0]⟩, ⟨⟨some 36, none, .mv (.t 0)⟩, [0]⟩], [], [⟨⟨⟨some 27, none, .callv (.c (.fn (.func 122) [] [])) [(.t 26), (.c (.int .i64 ((24 : Nat) : Int))), (.c (.int .i64 ((4 : Nat) : Int)))]⟩, [26]⟩, [⟨⟨some 28, none, .conv .i64 (.t 27)⟩, [27]⟩, ⟨⟨some 6, none, .alloc [.int .u8 ((0 : Nat) : Int), .int .i64 ((0 : Nat) : Int), .int .u64 ((0 : Nat) : Int), .int .u64 ((0 : Nat) : Int), .int .i64 ((0 : Nat) : Int), .int .i64 ((0 : Nat) : Int)]⟩, []⟩], [⟨⟨some 23, none, .mv (.t 0)⟩, [0]⟩, ⟨⟨some 24, none, .iaddrS 1 (.t 23) (.c (.int .i64 ((4 : Nat) : Int)))⟩, [23]⟩, ⟨⟨some 25, none, .load1 (.t 24)⟩, [24]⟩, ⟨⟨some 29, none, .mv (.t 0)⟩, [0]⟩, ⟨⟨some 31, none, .mv (.t 0)⟩, [0]⟩, ⟨⟨some 33, none, .mv (.t 0)⟩, [0]⟩, ⟨⟨some 36, none, .mv (.t 0)⟩, [0]⟩]⟩, ⟨⟨⟨some 30, none, .callv (.c (.fn (.func 122) [] [])) [(.t 29), (.c (.int .i64 ((8 : Nat) : Int))), (.c (.int .i64 ((8 : Nat) : Int)))]⟩, [29]⟩, [], [⟨⟨some 23, none, .mv (.t 0)⟩, [0]⟩, ⟨⟨some 24, none, .iaddrS 1 (.t 23) (.c (.int .i64 ((4 : Nat) : Int)))⟩, [23]⟩, ⟨⟨some 25, none, .load1 (.t 24)⟩, [24]⟩, ⟨⟨some 28, none, .conv .i64 (.t 27)⟩, [27]⟩, ⟨⟨some 31, none, .mv (.t 0)⟩, [0]⟩, ⟨⟨some 33, none, .mv (.t 0)⟩, [0]⟩, ⟨⟨some 36, none, .mv (.t 0)⟩, [0]⟩]⟩, ⟨⟨⟨some 32, none, .callv (.c (.fn (.func 122) [] [])) [(.t 31), (.c (.int .i64 ((16 : Nat) : Int))), (.c (.int .i64 ((8 : Nat) : Int)))]⟩, [31]⟩, [], [⟨⟨some 23, none, .mv (.t 0)⟩, [0]⟩, ⟨⟨some 24, none, .iaddrS 1 (.t 23) (.c (.int .i64 ((4 : Nat) : Int)))⟩, [23]⟩, ⟨⟨some 25, none, .load1 (.t 24)⟩, [24]⟩, ⟨⟨some 28, none, .conv .i64 (.t 27)⟩, [27]⟩, ⟨⟨some 33, none, .mv (.t 0)⟩, [0]⟩, ⟨⟨some 36, none, .mv (.t 0)⟩, [0]⟩]⟩, ⟨⟨⟨some 34, none, .callv (.c (.fn (.func 122) [] [])) [(.t 33), (.c (.int .i64 ((28 : Nat) : Int))), (.c (.int .i64 ((4 : Nat) : Int)))]⟩, [33]⟩, [⟨⟨some 35, none, .conv .i64 (.t 34)⟩, [34]⟩], [⟨⟨some 23, none, .mv (.t 0)⟩, [0]⟩, ⟨⟨some 24, none, .iaddrS 1 (.t 23) (.c (.int .i64 ((4 : Nat) : Int)))⟩, [23]⟩, ⟨⟨some 25, none, .load1 (.t 24)⟩, [24]⟩, ⟨⟨some 28, none, .conv .i64 (.t 27)⟩, [27]⟩, ⟨⟨some 36, none, .mv (.t 0)⟩, [0]⟩]⟩, ⟨⟨⟨some 37, none, .callv (.c (.fn (.func 122) [] [])) [(.t 36), (.c (.int .i64 ((32 : Nat) : Int))), (.c (.int .i64 ((4 : Nat) : Int)))]⟩, [36]⟩, [⟨⟨some 38, none, .conv .i64 (.t 37)⟩, [37]⟩, ⟨⟨some 39, none, .build [.int .u8 ((0 : Nat) : Int), .int .i64 ((0 : Nat) : Int), .int .u64 ((0 : Nat) : Int), .int .u64 ((0 : Nat) : Int), .int .i64 ((0 : Nat) : Int), .int .i64 ((0 : Nat) : Int)] [(0, 1, (.t 25)), (1, 1, (.t 28)), (2, 1, (.t 30)), (3, 1, (.t 32)), (4, 1, (.t 35)), (5, 1, (.t 38))]⟩, [25, 28, 30, 32, 35, 38]⟩], [⟨⟨some 23, none, .mv (.t 0)⟩, [0]⟩, ⟨⟨some 24, none, .iaddrS 1 (.t 23) (.c (.int .i64 ((4 : Nat) : Int)))⟩, [23]⟩, ⟨⟨some 25, none, .load1 (.t 24)⟩, [24]⟩, ⟨⟨some 28, none, .conv .i64 (.t 27)⟩, [27]⟩, ⟨⟨some 35, none, .conv .i64 (.t 34)⟩, [34]⟩]⟩, ⟨⟨⟨none, none, .store 6 (.t 6) (.t 39)⟩, [6, 39]⟩, [], []⟩]⟩,
  ⟨[⟨⟨some 23, none, .mv (.t 0)⟩, [0]⟩, ⟨⟨some 24, none, .iaddrS 1 (.t 23) (.c (.int .i64 ((4 : Nat) : Int)))⟩, [23]⟩, ⟨⟨some 25, none, .load1 (.t 24)⟩, [24]⟩, ⟨⟨some 26, none, .mv (.t 0)⟩, [0]⟩, ⟨⟨some 29, none, .mv (.t 0)⟩, [0]⟩, ⟨⟨some 31, none, .mv (.t 0)⟩, [0]⟩, ⟨⟨some 33, none, .mv (.t 0)⟩, [0]⟩, ⟨⟨some 36, none, .mv (.t 0)⟩, [0]⟩], [], [⟨⟨⟨some 27, none, .callv (.c (.fn (.func 122) [] [])) [(.t 26), (.c (.int .i64 ((24 : Nat) : Int))), (.c (.int .i64 ((4 : Nat) : Int)))]⟩, [26]⟩, [⟨⟨some 28, none, .conv .i64 (.t 27)⟩, [27]⟩], [⟨⟨some 23, none, .mv (.t 0)⟩, [0]⟩, ⟨⟨some 24, none, .iaddrS 1 (.t 23) (.c (.int .i64 ((4 : Nat) : Int)))⟩, [23]⟩, ⟨⟨some 25, none, .load1 (.t 24)⟩, [24]⟩, ⟨⟨some 29, none, .mv (.t 0)⟩, [0]⟩, ⟨⟨some 31, none, .mv (.t 0)⟩, [0]⟩, ⟨⟨some 33, none, .mv (.t 0)⟩, [0]⟩, ⟨⟨some 36, none, .mv (.t 0)⟩, [0]⟩]⟩, ⟨⟨⟨some 30, none, .callv (.c (.fn (.func 122) [] [])) [(.t 29), (.c (.int .i64 ((8 : Nat) : Int))), (.c (.int .i64 ((8 : Nat) : Int)))]⟩, [29]⟩, [⟨⟨some 6, none, .alloc [.int .u8 ((0 : Nat) : Int), .int .i64 ((0 : Nat) : Int), .int .u64 ((0 : Nat) : Int), .int .u64 ((0 : Nat) : Int), .int .i64 ((0 : Nat) : Int), .int .i64 ((0 : Nat) : Int)]⟩, []⟩], [⟨⟨some 23, none, .mv (.t 0)⟩, [0]⟩, ⟨⟨some 24, none, .iaddrS 1 (.t 23) (.c (.int .i64 ((4 : Nat) : Int)))⟩, [23]⟩, ⟨⟨some 25, none, .load1 (.t 24)⟩, [24]⟩, ⟨⟨some 28, none, .conv .i64 (.t 27)⟩, [27]⟩, ⟨⟨some 31, none, .mv (.t 0)⟩, [0]⟩, ⟨⟨some 33, none, .mv (.t 0)⟩, [0]⟩, ⟨⟨some 36, none, .mv (.t 0)⟩, [0]⟩]⟩, ⟨⟨⟨some 32, none, .callv (.c (.fn (.func 122) [] [])) [(.t 31), (.c (.int .i64 ((16 : Nat) : Int))), (.c (.int .i64 ((8 : Nat) : Int)))]⟩, [31]⟩, [], [⟨⟨some 23, none, .mv (.t 0)⟩, [0]⟩, ⟨⟨some 24, none, .iaddrS 1 (.t 23) (.c (.int .i64 ((4 : Nat) : Int)))⟩, [23]⟩, ⟨⟨some 25, none, .load1 (.t 24)⟩, [24]⟩, ⟨⟨some 28, none, .conv .i64 (.t 27)⟩, [27]⟩, ⟨⟨some 33, none, .mv (.t 0)⟩, [0]⟩, ⟨⟨some 36, none, .mv (.t 0)⟩, [0]⟩]⟩, ⟨⟨⟨some 34, none, .callv (.c (.fn (.func 122) [] [])) [(.t 33), (.c (.int .i64 ((28 : Nat) : Int))), (.c (.int .i64 ((4 : Nat) : Int)))]⟩, [33]⟩, [⟨⟨some 35, none, .conv .i64 (.t 34)⟩, [34]⟩], [⟨⟨some 23, none, .mv (.t 0)⟩, [0]⟩, ⟨⟨some 24, none, .iaddrS 1 (.t 23) (.c (.int .i64 ((4 : Nat) : Int)))⟩, [23]⟩, ⟨⟨some 25, none, .load1 (.t 24)⟩, [24]⟩, ⟨⟨some 28, none, .conv .i64 (.t 27)⟩, [27]⟩, ⟨⟨some 36, none, .mv (.t 0)⟩, [0]⟩]⟩, ⟨⟨⟨some 37, none, .callv (.c (.fn (.func 122) [] [])) [(.t 36), (.c (.int .i64 ((32 : Nat) : Int))), (.c (.int .i64 ((4 : Nat) : Int)))]⟩, [36]⟩, [⟨⟨some 38, none, .conv .i64 (.t 37)⟩, [37]⟩, ⟨⟨some 39, none, .build [.int .u8 ((0 : Nat) : Int), .int .i64 ((0 : Nat) : Int), .int .u64 ((0 : Nat) : Int), .int .u64 ((0 : Nat) : Int), .int .i64 ((0 : Nat) : Int), .int .i64 ((0 : Nat) : Int)] [(0, 1, (.t 25)), (1, 1, (.t 28)), (2, 1, (.t 30)), (3, 1, (.t 32)), (4, 1, (.t 35)), (5, 1, (.t 38))]⟩, [25, 28, 30, 32, 35, 38]⟩], [⟨⟨some 23, none, .mv (.t 0)⟩, [0]⟩, ⟨⟨some 24, none, .iaddrS 1 (.t 23) (.c (.int .i64 ((4 : Nat) : Int)))⟩, [23]⟩, ⟨⟨some 25, none, .load1 (.t 24)⟩, [24]⟩, ⟨⟨some 28, none, .conv .i64 (.t 27)⟩, [27]⟩, ⟨⟨some 35, none, .conv .i64 (.t 34)⟩, [34]⟩]⟩, ⟨⟨⟨none, none, .store 6 (.t 6) (.t 39)⟩, [6, 39]⟩, [], []⟩]⟩,
  ⟨[⟨⟨some 23, none, .mv (.t 0)⟩, [0]⟩, ⟨⟨some 24, none, .iaddrS 1 (.t 23) (.c (.int .i64 ((4 : Nat) : Int)))⟩, [23]⟩, ⟨⟨some 25, none, .load1 (.t 24)⟩, [24]⟩, ⟨⟨some 26, none, .mv (.t 0)⟩, [0]⟩, ⟨⟨some 29, none, .mv (.t 0)⟩, [0]⟩, ⟨⟨some 31, none, .mv (.t 0)⟩, [0]⟩, ⟨⟨some 33, none, .mv (.t 0)⟩, [0]⟩, ⟨⟨some 36, none, .mv (.t 0)⟩, [0]⟩], [], [⟨⟨⟨some 27, none, .callv (.c (.fn (.func 122) [] [])) [(.t 26), (.c (.int .i64 ((24 : Nat) : Int))), (.c (.int .i64 ((4 : Nat) : Int)))]⟩, [26]⟩, [⟨⟨some 28, none, .conv .i64 (.t 27)⟩, [27]⟩], [⟨⟨some 23, none, .mv (.t 0)⟩, [0]⟩, ⟨⟨some 24, none, .iaddrS 1 (.t 23) (.c (.int .i64 ((4 : Nat) : Int)))⟩, [23]⟩, ⟨⟨some 25, none, .load1 (.t 24)⟩, [24]⟩, ⟨⟨some 29, none, .mv (.t 0)⟩, [0]⟩, ⟨⟨some 31, none, .mv (.t 0)⟩, [0]⟩, ⟨⟨some 33, none, .mv (.t 0)⟩, [0]⟩, ⟨⟨some 36, none, .mv (.t 0)⟩, [0]⟩]⟩, ⟨⟨⟨some 30, none, .callv (.c (.fn (.func 122) [] [])) [(.t 29), (.c (.int .i64 ((8 : Nat) : Int))), (.c (.int .i64 ((8 : Nat) : Int)))]⟩, [29]⟩, [], [⟨⟨some 23, none, .mv (.t 0)⟩, [0]⟩, ⟨⟨some 24, none, .iaddrS 1 (.t 23) (.c (.int .i64 ((4 : Nat) : Int)))⟩, [23]⟩, ⟨⟨some 25, none, .load1 (.t 24)⟩, [24]⟩, ⟨⟨some 28, none, .conv .i64 (.t 27)⟩, [27]⟩, ⟨⟨some 31, none, .mv (.t 0)⟩, [0]⟩, ⟨⟨some 33, none, .mv (.t 0)⟩, [0]⟩, ⟨⟨some 36, none, .mv (.t 0)⟩, [0]⟩]⟩, ⟨⟨⟨some 32, none, .callv (.c (.fn (.func 122) [] [])) [(.t 31), (.c (.int .i64 ((16 : Nat) : Int))), (.c (.int .i64 ((8 : Nat) : Int)))]⟩, [31]⟩, [⟨⟨some 6, none, .alloc [.int .u8 ((0 : Nat) : Int), .int .i64 ((0 : Nat) : Int), .int .u64 ((0 : Nat) : Int), .int .u64 ((0 : Nat) : Int), .int .i64 ((0 : Nat) : Int), .int .i64 ((0 : Nat) : Int)]⟩, []⟩], [⟨⟨some 23, none, .mv (.t 0)⟩, [0]⟩, ⟨⟨some 24, none, .iaddrS 1 (.t 23) (.c (.int .i64 ((4 : Nat) : Int)))⟩, [23]⟩, ⟨⟨some 25, none, .load1 (.t 24)⟩, [24]⟩, ⟨⟨some 28, none, .conv .i64 (.t 27)⟩, [27]⟩, ⟨⟨some 33, none, .mv (.t 0)⟩, [0]⟩, ⟨⟨some 36, none, .mv (.t 0)⟩, [0]⟩]⟩, ⟨⟨⟨some 34, none, .callv (.c (.fn (.func 122) [] [])) [(.t 33), (.c (.int .i64 ((28 : Nat) : Int))), (.c (.int .i64 ((4 : Nat) : Int)))]⟩, [33]⟩, [⟨⟨some 35, none, .conv .i64 (.t 34)⟩, [34]⟩], [⟨⟨some 23, none, .mv (.t 0)⟩, [0]⟩, ⟨⟨some 24, none, .iaddrS 1 (.t 23) (.c (.int .i64 ((4 : Nat) : Int)))⟩, [23]⟩, ⟨⟨some 25, none, .load1 (.t 24)⟩, [24]⟩, ⟨⟨some 28, none, .conv .i64 (.t 27)⟩, [27]⟩, ⟨⟨some 36, none, .mv (.t 0)⟩, [0]⟩]⟩, ⟨⟨⟨some 37, none, .callv (.c (.fn (.func 122) [] [])) [(.t 36), (.c (.int .i64 ((32 : Nat) : Int))), (.c (.int .i64 ((4 : Nat) : Int)))]⟩, [36]⟩, [⟨⟨some 38, none, .conv .i64 (.t 37)⟩, [37]⟩, ⟨⟨some 39, none, .build [.int .u8 ((0 : Nat) : Int), .int .i64 ((0 : Nat) : Int), .int .u64 ((0 : Nat) : Int), .int .u64 ((0 : Nat) : Int), .int .i64 ((0 : Nat) : Int), .int .i64 ((0 : Nat) : Int)] [(0, 1, (.t 25)), (1, 1, (.t 28)), (2, 1, (.t 30)), (3, 1, (.t 32)), (4, 1, (.t 35)), (5, 1, (.t 38))]⟩, [25, 28, 30, 32, 35, 38]⟩], [⟨⟨some 23, none, .mv (.t 0)⟩, [0]⟩, ⟨⟨some 24, none, .iaddrS 1 (.t 23) (.c (.int .i64 ((4 : Nat) : Int)))⟩, [23]⟩, ⟨⟨some 25, none, .load1 (.t 24)⟩, [24]⟩, ⟨⟨some 28, none, .conv .i64 (.t 27)⟩, [27]⟩, ⟨⟨some 35, none, .conv .i64 (.t 34)⟩, [34]⟩]⟩, ⟨⟨⟨none, none, .store 6 (.t 6) (.t 39)⟩, [6, 39]⟩, [], []⟩]⟩,
  ⟨[⟨⟨some 23, none, .mv (.t 0)⟩, [0]⟩, ⟨⟨some 24, none, .iaddrS 1 (.t 23) (.c (.int .i64 ((4 : Nat) : Int)))⟩, [23]⟩, ⟨⟨some 25, none, .load1 (.t 24)⟩, [24]⟩, ⟨⟨some 26, none, .mv (.t 0)⟩, [0]⟩, ⟨⟨some 29, none, .mv (.t 0)⟩, [0]⟩, ⟨⟨some 31, none, .mv (.t 0)⟩, [0]⟩, ⟨⟨some 33, none, .mv (.t 0)⟩, [0]⟩, ⟨⟨some 36, none, .mv (.t 0)⟩, [0]⟩], [], [⟨⟨⟨some 27, none, .callv (.c (.fn (.func 122) [] [])) [(.t 26), (.c (.int .i64 ((24 : Nat) : Int))), (.c (.int .i64 ((4 : Nat) : Int)))]⟩, [26]⟩, [⟨⟨some 28, none, .conv .i64 (.t 27)⟩, [27]⟩], [⟨⟨some 23, none, .mv (.t 0)⟩, [0]⟩, ⟨⟨some 24, none, .iaddrS 1 (.t 23) (.c (.int .i64 ((4 : Nat) : Int)))⟩, [23]⟩, ⟨⟨some 25, none, .load1 (.t 24)⟩, [24]⟩, ⟨⟨some 29, none, .mv (.t 0)⟩, [0]⟩, ⟨⟨some 31, none, .mv (.t 0)⟩, [0]⟩, ⟨⟨some 33, none, .mv (.t 0)⟩, [0]⟩, ⟨⟨some 36, none, .mv (.t 0)⟩, [0]⟩]⟩, ⟨⟨⟨some 30, none, .callv (.c (.fn (.func 122) [] [])) [(.t 29), (.c (.int .i64 ((8 : Nat) : Int))), (.c (.int .i64 ((8 : Nat) : Int)))]⟩, [29]⟩, [], [⟨⟨some 23, none, .mv (.t 0)⟩, [0]⟩, ⟨⟨some 24, none, .iaddrS 1 (.t 23) (.c (.int .i64 ((4 : Nat) : Int)))⟩, [23]⟩, ⟨⟨some 25, none, .load1 (.t 24)⟩, [24]⟩, ⟨⟨some 28, none, .conv .i64 (.t 27)⟩, [27]⟩, ⟨⟨some 31, none, .mv (.t 0)⟩, [0]⟩, ⟨⟨some 33, none, .mv (.t 0)⟩, [0]⟩, ⟨⟨some 36, none, .mv (.t 0)⟩, [0]⟩]⟩, ⟨⟨⟨some 32, none, .callv (.c (.fn (.func 122) [] [])) [(.t 31), (.c (.int .i64 ((16 : Nat) : Int))), (.c (.int .i64 ((8 : Nat) : Int)))]⟩, [31]⟩, [], [⟨⟨some 23, none, .mv (.t 0)⟩, [0]⟩, ⟨⟨some 24, none, .iaddrS 1 (.t 23) (.c (.int .i64 ((4 : Nat) : Int)))⟩, [23]⟩, ⟨⟨some 25, none, .load1 (.t 24)⟩, [24]⟩, ⟨⟨some 28, none, .conv .i64 (.t 27)⟩, [27]⟩, ⟨⟨some 33, none, .mv (.t 0)⟩, [0]⟩, ⟨⟨some 36, none, .mv (.t 0)⟩, [0]⟩]⟩, ⟨⟨⟨some 34, none, .callv (.c (.fn (.func 122) [] [])) [(.t 33), (.c (.int .i64 ((28 : Nat) : Int))), (.c (.int .i64 ((4 : Nat) : Int)))]⟩, [33]⟩, [⟨⟨some 35, none, .conv .i64 (.t 34)⟩, [34]⟩, ⟨⟨some 6, none, .alloc [.int .u8 ((0 : Nat) : Int), .int .i64 ((0 : Nat) : Int), .int .u64 ((0 : Nat) : Int), .int .u64 ((0 : Nat) : Int), .int .i64 ((0 : Nat) : Int), .int .i64 ((0 : Nat) : Int)]⟩, []⟩], [⟨⟨some 23, none, .mv (.t 0)⟩, [0]⟩, ⟨⟨some 24, none, .iaddrS 1 (.t 23) (.c (.int .i64 ((4 : Nat) : Int)))⟩, [23]⟩, ⟨⟨some 25, none, .load1 (.t 24)⟩, [24]⟩, ⟨⟨some 28, none, .conv .i64 (.t 27)⟩, [27]⟩, ⟨⟨some 36, none, .mv (.t 0)⟩, [0]⟩]⟩, ⟨⟨⟨some 37, none, .callv (.c (.fn (.func 122) [] [])) [(.t 36), (.c (.int .i64 ((32 : Nat) : Int))), (.c (.int .i64 ((4 : Nat) : Int)))]⟩, [36]⟩, [⟨⟨some 38, none, .conv .i64 (.t 37)⟩, [37]⟩, ⟨⟨some 39, none, .build [.int .u8 ((0 : Nat) : Int), .int .i64 ((0 : Nat) : Int), .int .u64 ((0 : Nat) : Int), .int .u64 ((0 : Nat) : Int), .int .i64 ((0 : Nat) : Int), .int .i64 ((0 : Nat) : Int)] [(0, 1, (.t 25)), (1, 1, (.t 28)), (2, 1, (.t 30)), (3, 1, (.t 32)), (4, 1, (.t 35)), (5, 1, (.t 38))]⟩, [25, 28, 30, 32, 35, 38]⟩], [⟨⟨some 23, none, .mv (.t 0)⟩, [0]⟩, ⟨⟨some 24, none, .iaddrS 1 (.t 23) (.c (.int .i64 ((4 : Nat) : Int)))⟩, [23]⟩, ⟨⟨some 25, none, .load1 (.t 24)⟩, [24]⟩, ⟨⟨some 28, none, .conv .i64 (.t 27)⟩, [27]⟩, ⟨⟨some 35, none, .conv .i64 (.t 34)⟩, [34]⟩]⟩, ⟨⟨⟨none, none, .store 6 (.t 6) (.t 39)⟩, [6, 39]⟩, [], []⟩]⟩,
  ⟨[⟨⟨some 23, none, .mv (.t 0)⟩, [0]⟩, ⟨⟨some 24, none, .iaddrS 1 (.t 23) (.c (.int .i64 ((4 : Nat) : Int)))⟩, [23]⟩, ⟨⟨some 25, none, .load1 (.t 24)⟩, [24]⟩, ⟨⟨some 26, none, .mv (.t 0)⟩, [0]⟩, ⟨⟨some 29, none, .mv (.t 0)⟩, [0]⟩, ⟨⟨some 31, none, .mv (.t 0)⟩, [0]⟩, ⟨⟨some 33, none, .mv (.t 0)⟩, [0]⟩, ⟨⟨some 36, none, .mv (.t 0)⟩, [0]⟩], [], [⟨⟨⟨some 27, none, .callv (.c (.fn (.func 122) [] [])) [(.t 26), (.c (.int .i64 ((24 : Nat) : Int))), (.c (.int .i64 ((4 : Nat) : Int)))]⟩, [26]⟩, [⟨⟨some 28, none, .conv .i64 (.t 27)⟩, [27]⟩], [⟨⟨some 23, none, .mv (.t 0)⟩, [0]⟩, ⟨⟨some 24, none, .iaddrS 1 (.t 23) (.c (.int .i64 ((4 : Nat) : Int)))⟩, [23]⟩, ⟨⟨some 25, none, .load1 (.t 24)⟩, [24]⟩, ⟨⟨some 29, none, .mv (.t 0)⟩, [0]⟩, ⟨⟨some 31, none, .mv (.t 0)⟩, [0]⟩, ⟨⟨some 33, none, .mv (.t 0)⟩, [0]⟩, ⟨⟨some 36, none, .mv (.t 0)⟩, [0]⟩]⟩, ⟨⟨⟨some 30, none, .callv (.c (.fn (.func 122) [] [])) [(.t 29), (.c (.int .i64 ((8 : Nat) : Int))), (.c (.int .i64 ((8 : Nat) : Int)))]⟩, [29]⟩, [], [⟨⟨some 23, none, .mv (.t 0)⟩, [0]⟩, ⟨⟨some 24, none, .iaddrS 1 (.t 23) (.c (.int .i64 ((4 : Nat) : Int)))⟩, [23]⟩, ⟨⟨some 25, none, .load1 (.t 24)⟩, [24]⟩, ⟨⟨some 28, none, .conv .i64 (.t 27)⟩, [27]⟩, ⟨⟨some 31, none, .mv (.t 0)⟩, [0]⟩, ⟨⟨some 33, none, .mv (.t 0)⟩, [0]⟩, ⟨⟨some 36, none, .mv (.t 0)⟩, [0]⟩]⟩, ⟨⟨⟨some 32, none, .callv (.c (.fn (.func 122) [] [])) [(.t 31), (.c (.int .i64 ((16 : Nat) : Int))), (.c (.int .i64 ((8 : Nat) : Int)))]⟩, [31]⟩, [], [⟨⟨some 23, none, .mv (.t 0)⟩, [0]⟩, ⟨⟨some 24, none, .iaddrS 1 (.t 23) (.c (.int .i64 ((4 : Nat) : Int)))⟩, [23]⟩, ⟨⟨some 25, none, .load1 (.t 24)⟩, [24]⟩, ⟨⟨some 28, none, .conv .i64 (.t 27)⟩, [27]⟩, ⟨⟨some 33, none, .mv (.t 0)⟩, [0]⟩, ⟨⟨some 36, none, .mv (.t 0)⟩, [0]⟩]⟩, ⟨⟨⟨some 34, none, .callv (.c (.fn (.func 122) [] [])) [(.t 33), (.c (.int .i64 ((28 : Nat) : Int))), (.c (.int .i64 ((4 : Nat) : Int)))]⟩, [33]⟩, [⟨⟨some 35, none, .conv .i64 (.t 34)⟩, [34]⟩], [⟨⟨some 23, none, .mv (.t 0)⟩, [0]⟩, ⟨⟨some 24, none, .iaddrS 1 (.t 23) (.c (.int .i64 ((4 : Nat) : Int)))⟩, [23]⟩, ⟨⟨some 25, none, .load1 (.t 24)⟩, [24]⟩, ⟨⟨some 28, none, .conv .i64 (.t 27)⟩, [27]⟩, ⟨⟨some 36, none, .mv (.t 0)⟩, [0]⟩]⟩, ⟨⟨⟨some 37, none, .callv (.c (.fn (.func 122) [] [])) [(.t 36), (.c (.int .i64 ((32 : Nat) : Int))), (.c (.int .i64 ((4 : Nat) : Int)))]⟩, [36]⟩, [⟨⟨some 38, none, .conv .i64 (.t 37)⟩, [37]⟩, ⟨⟨some 39, none, .build [.int .u8 ((0 : Nat) : Int), .int .i64 ((0 : Nat) : Int), .int .u64 ((0 : Nat) : Int), .int .u64 ((0 : Nat) : Int), .int .i64 ((0 : Nat) : Int), .int .i64 ((0 : Nat) : Int)] [(0, 1, (.t 25)), (1, 1, (.t 28)), (2, 1, (.t 30)), (3, 1, (.t 32)), (4, 1, (.t 35)), (5, 1, (.t 38))]⟩, [25, 28, 30, 32, 35, 38]⟩, ⟨⟨some 6, none, .alloc [.int .u8 ((0 : Nat) : Int), .int .i64 ((0 : Nat) : Int), .int .u64 ((0 : Nat) : Int), .int .u64 ((0 : Nat) : Int), .int .i64 ((0 : Nat) : Int), .int .i64 ((0 : Nat) : Int)]⟩, []⟩], [⟨⟨some 23, none, .mv (.t 0)⟩, [0]⟩, ⟨⟨some 24, none, .iaddrS 1 (.t 23) (.c (.int .i64 ((4 : Nat) : Int)))⟩, [23]⟩, ⟨⟨some 25, none, .load1 (.t 24)⟩, [24]⟩, ⟨⟨some 28, none, .conv .i64 (.t 27)⟩, [27]⟩, ⟨⟨some 35, none, .conv .i64 (.t 34)⟩, [34]⟩]⟩, ⟨⟨⟨none, none, .store 6 (.t 6) (.t 39)⟩, [6, 39]⟩, [], []⟩]⟩]
def c72_12 : CC := .drawn [⟨⟨some 40, none, .loadN 6 (.t 6)⟩, [6]⟩]
  []
  [⟨⟨⟨some 41, none, .callv (.c (.fn (.func 124) [] [])) [(.t 40)]⟩, [40]⟩, [⟨⟨some 42, none, .un .not (.t 41)⟩, [41]⟩, ⟨⟨some 43, none, .mv (.t 42)⟩, [42]⟩, ⟨⟨some 44, (some (43, false)), .loadN 6 (.t 6)⟩, [43, 6]⟩, ⟨⟨some 45, (some (43, false)), .mv (.t 1)⟩, [43, 1]⟩, ⟨⟨some 48, (some (43, false)), .mv (.t 0)⟩, [43, 0]⟩, ⟨⟨some 49, (some (43, false)), .b2s (.t 48)⟩, [43, 48]⟩], []⟩,
  ⟨⟨⟨some 46, (some (43, false)), .callv (.c (.fn (.func 39) [] [])) [(.t 44), (.t 45)]⟩, [43, 44, 45]⟩, [⟨⟨some 47, (some (43, false)), .b2s (.t 46)⟩, [43, 46]⟩, ⟨⟨some 50, (some (43, false)), .bin .neq (.t 47) (.t 49) false .pstr⟩, [43, 47, 49]⟩, ⟨⟨some 51, none, .pick (.t 43) (.c (.bool true)) (.t 50)⟩, [43, 50]⟩], [⟨⟨some 48, (some (43, false)), .mv (.t 0)⟩, [43, 0]⟩, ⟨⟨some 49, (some (43, false)), .b2s (.t 48)⟩, [43, 48]⟩]⟩]
def c72_13 : CC := .ops [⟨some 52, none, .build [.int .u8 ((0 : Nat) : Int), .int .i64 ((0 : Nat) : Int), .int .u64 ((0 : Nat) : Int), .int .u64 ((0 : Nat) : Int), .int .i64 ((0 : Nat) : Int), .int .i64 ((0 : Nat) : Int)] []⟩,
  ⟨none, none, .store 6 (.t 4) (.t 52)⟩,
  ⟨some 5, none, .mv (.c (.int .i64 ((6 : Nat) : Int)))⟩]
def c72_14 : CC := .seq c72_13 .ret
def c72_15 : CC := .cond (.t 51) c72_14 .skip
def c72_16 : CC := .seq c72_12 c72_15
def c72_17 : CC := .ops [⟨some 53, none, .loadN 6 (.t 6)⟩,
  ⟨none, none, .store 6 (.t 4) (.t 53)⟩,
  ⟨some 5, none, .mv (.c (.int .i64 ((0 : Nat) : Int)))⟩]
def c72_18 : CC := .seq c72_17 .ret
def c72_19 : CC := .seq c72_16 c72_18
def c72_20 : CC := .seq c72_11 c72_19
def c72_21 : CC := .seq c72_10 c72_20
def c72_22 : CC := .seq c72_5 c72_21
def c72_23 : CC := .seq c72_0 c72_22
def cf72 : CFn := ⟨54, [.cellN 4 6, .tmp 5], c72_23⟩

/-! 21: capsule/capsuleref11.Pages -/
def c21_0 : CC := .ops [⟨some 1, none, .box 11 (.t 0)⟩,
  ⟨some 2, none, .mv (.c (.nils))⟩]
def c21_1 : CC := .ops [⟨some 3, none, .mv (.c (.nils))⟩]
def c21_2 : CC := .ops [⟨some 10, none, .faddr (.t 1) 10⟩,
  ⟨some 11, none, .load1 (.t 10)⟩]
def c21_3 : CC := .ops [⟨some 2, none, .mv (.c (.nils))⟩]
def c21_4 : CC := .seq c21_3 .ret
def c21_5 : CC := .cond (.t 11) c21_4 .skip
def c21_6 : CC := .seq c21_2 c21_5
def c21_7 : CC := .ops [⟨some 4, none, .mv (.c (.int .i64 ((0 : Nat) : Int)))⟩]
def c21_8 : CC := .ops [⟨some 12, none, .mv (.t 4)⟩,
  ⟨some 13, none, .faddr (.t 1) 0⟩,
  ⟨some 14, none, .faddr (.t 13) 0⟩,
  ⟨some 15, none, .load1 (.t 14)⟩,
  ⟨some 16, none, .bin .lss (.t 12) (.t 15) false .pint⟩]
def c21_9 : CC := .cond (.t 16) .skip (.exit 0)
def c21_10 : CC := .seq c21_8 c21_9
def c21_11 : CC := .ops [⟨some 5, none, .mv (.c (.int .i64 ((0 : Nat) : Int)))⟩]
def c21_12 : CC := .ops [⟨some 19, none, .mv (.t 5)⟩,
  ⟨some 20, none, .faddr (.t 1) 0⟩,
  ⟨some 21, none, .faddr (.t 20) 1⟩,
  ⟨some 22, none, .load1 (.t 21)⟩,
  ⟨some 23, none, .bin .lss (.t 19) (.t 22) false .pint⟩]
def c21_13 : CC := .cond (.t 23) .skip (.exit 2)
def c21_14 : CC := .seq c21_12 c21_13
def c21_15 : CC := .ops [⟨some 27, none, .loadN 11 (.t 1)⟩,
  ⟨some 28, none, .mv (.t 4)⟩,
  ⟨some 29, none, .mv (.t 5)⟩,
  ⟨some 30, none, .callv (.c (.fn (.func 71) [] [])) [(.t 27), (.t 28), (.t 29)]⟩,
  ⟨some 26, none, .mv (.t 30)⟩,
  ⟨some 31, none, .extract (.t 26) 0⟩,
  ⟨some 32, none, .extract (.t 26) 1⟩,
  ⟨some 33, none, .extract (.t 26) 2⟩,
  ⟨some 6, none, .mv (.t 31)⟩,
  ⟨some 7, none, .mv (.t 32)⟩,
  ⟨some 8, none, .mv (.t 33)⟩]
def c21_16 : CC := .ops [⟨some 34, none, .mv (.t 8)⟩,
  ⟨some 35, none, .bin .neq (.t 34) (.c (.int .i64 ((0 : Nat) : Int))) true .pint⟩]
def c21_17 : CC := .cond (.t 35) (.exit 3) .skip
def c21_18 : CC := .seq c21_16 c21_17
def c21_19 : CC := .ops [⟨some 37, none, .mv (.t 7)⟩,
  ⟨some 38, none, .mv (.t 6)⟩,
  ⟨some 39, none, .callv (.c (.fn (.func 72) [] [])) [(.t 37), (.t 38)]⟩,
  ⟨some 36, none, .mv (.t 39)⟩,
  ⟨some 40, none, .extract (.t 36) 0⟩,
  ⟨some 41, none, .extract (.t 36) 1⟩,
  ⟨some 9, none, .alloc [.int .u8 ((0 : Nat) : Int), .int .i64 ((0 : Nat) : Int), .int .u64 ((0 : Nat) : Int), .int .u64 ((0 : Nat) : Int), .int .i64 ((0 : Nat) : Int), .int .i64 ((0 : Nat) : Int)]⟩,
  ⟨none, none, .store 6 (.t 9) (.t 40)⟩,
  ⟨some 8, none, .mv (.t 41)⟩]
def c21_20 : CC := .ops [⟨some 42, none, .mv (.t 8)⟩,
  ⟨some 43, none, .bin .eql (.t 42) (.c (.int .i64 ((0 : Nat) : Int))) true .pint⟩]
def c21_21 : CC := .ops [⟨some 44, none, .mv (.t 3)⟩,
  ⟨some 45, none, .mv (.t 4)⟩,
  ⟨some 46, none, .faddr (.t 1) 0⟩,
  ⟨some 47, none, .faddr (.t 46) 1⟩,
  ⟨some 48, none, .load1 (.t 47)⟩,
  ⟨some 49, none, .bin .mul (.t 45) (.t 48) false .pint⟩,
  ⟨some 50, none, .mv (.t 5)⟩,
  ⟨some 51, none, .bin .add (.t 49) (.t 50) false .pint⟩,
  ⟨some 52, none, .loadN 6 (.t 9)⟩,
  ⟨some 53, none, .mv (.t 6)⟩,
  ⟨some 54, none, .build [.int .i64 ((0 : Nat) : Int), .int .u8 ((0 : Nat) : Int), .int .i64 ((0 : Nat) : Int), .int .u64 ((0 : Nat) : Int), .int .u64 ((0 : Nat) : Int), .int .i64 ((0 : Nat) : Int), .int .i64 ((0 : Nat) : Int), .nils] [(0, 1, (.t 51)), (1, 6, (.t 52)), (7, 1, (.t 53))]⟩,
  ⟨some 55, none, .bslice 1 [.int .i64 ((0 : Nat) : Int), .int .u8 ((0 : Nat) : Int), .int .i64 ((0 : Nat) : Int), .int .u64 ((0 : Nat) : Int), .int .u64 ((0 : Nat) : Int), .int .i64 ((0 : Nat) : Int), .int .i64 ((0 : Nat) : Int), .nils] [(0, 8, (.t 54))]⟩,
  ⟨some 56, none, .append 8 80 (.t 44) (.t 55)⟩,
  ⟨some 3, none, .mv (.t 56)⟩]
def c21_22 : CC := .cond (.t 43) c21_21 .skip
def c21_23 : CC := .seq c21_20 c21_22
def c21_24 : CC := .seq c21_19 c21_23
def c21_25 : CC := .seq c21_18 c21_24
def c21_26 : CC := .seq c21_15 c21_25
def c21_27 : CC := .block 3 c21_26
def c21_28 : CC := .ops [⟨some 24, none, .mv (.t 5)⟩,
  ⟨some 25, none, .bin .add (.t 24) (.c (.int .i64 ((1 : Nat) : Int))) true .pint⟩,
  ⟨some 5, none, .mv (.t 25)⟩]
def c21_29 : CC := .seq c21_27 c21_28
def c21_30 : CC := .seq c21_14 c21_29
def c21_31 : CC := .loop c21_30
def c21_32 : CC := .block 2 c21_31
def c21_33 : CC := .seq c21_11 c21_32
def c21_34 : CC := .block 1 c21_33
def c21_35 : CC := .ops [⟨some 17, none, .mv (.t 4)⟩,
  ⟨some 18, none, .bin .add (.t 17) (.c (.int .i64 ((1 : Nat) : Int))) true .pint⟩,
  ⟨some 4, none, .mv (.t 18)⟩]
def c21_36 : CC := .seq c21_34 c21_35
def c21_37 : CC := .seq c21_10 c21_36
def c21_38 : CC := .loop c21_37
def c21_39 : CC := .block 0 c21_38
def c21_40 : CC := .seq c21_7 c21_39
def c21_41 : CC := .ops [⟨some 57, none, .mv (.t 3)⟩,
  ⟨some 2, none, .mv (.t 57)⟩]
def c21_42 : CC := .seq c21_41 .ret
def c21_43 : CC := .seq c21_40 c21_42
def c21_44 : CC := .seq c21_6 c21_43
def c21_45 : CC := .seq c21_1 c21_44
def c21_46 : CC := .seq c21_0 c21_45
def cf21 : CFn := ⟨58, [.tmp 2], c21_46⟩

/-! 4: capsule/capsulelaw11.RecoveryPages -/
def c4_0 : CC := .ops [⟨some 3, none, .box 4 (.t 0)⟩,
  ⟨some 5, none, .box 1 (.t 2)⟩,
  ⟨some 6, none, .alloc [.bool false]⟩]
def c4_1 : CC := .ops [⟨some 16, none, .loadN 4 (.t 3)⟩,
  ⟨some 17, none, .mv (.t 1)⟩,
  ⟨some 18, none, .callv (.c (.fn (.func 6) [] [])) [(.t 16), (.t 17)]⟩,
  ⟨some 19, none, .un .not (.t 18)⟩]
def c4_2 : CC := .ops [⟨some 20, none, .callv (.c (.fn (.func 7) [] [])) []⟩,
  ⟨none, none, .store 1 (.t 6) (.t 20)⟩]
def c4_3 : CC := .seq c4_2 .ret
def c4_4 : CC := .cond (.t 19) c4_3 .skip
def c4_5 : CC := .seq c4_1 c4_4
def c4_6 : CC := .ops [⟨some 22, none, .loadN 4 (.t 3)⟩,
  ⟨some 23, none, .mv (.t 1)⟩,
  ⟨some 24, none, .callv (.c (.fn (.func 8) [] [])) [(.t 22), (.t 23)]⟩,
  ⟨some 21, none, .mv (.t 24)⟩,
  ⟨some 25, none, .extract (.t 21) 0⟩,
  ⟨some 26, none, .extract (.t 21) 1⟩,
  ⟨some 27, none, .extract (.t 21) 2⟩,
  ⟨some 8, none, .alloc [.int .i64 ((0 : Nat) : Int), .int .i64 ((0 : Nat) : Int), .int .i64 ((0 : Nat) : Int), .int .i64 ((0 : Nat) : Int), .nils, .nils, .nils, .int .i64 ((0 : Nat) : Int), .int .i64 ((0 : Nat) : Int), .int .i64 ((0 : Nat) : Int), .bool false]⟩,
  ⟨some 7, none, .mv (.t 25)⟩,
  ⟨none, none, .store 11 (.t 8) (.t 26)⟩,
  ⟨some 9, none, .mv (.t 27)⟩]
def c4_7 : CC := .ops [⟨some 28, none, .mv (.t 9)⟩,
  ⟨some 29, none, .un .not (.t 28)⟩]
def c4_8 : CC := .ops [⟨none, none, .store 1 (.t 6) (.c (.bool false))⟩]
def c4_9 : CC := .seq c4_8 .ret
def c4_10 : CC := .cond (.t 29) c4_9 .skip
def c4_11 : CC := .seq c4_7 c4_10
def c4_12 : CC := .ops [⟨some 30, none, .mv (.t 7)⟩,
  ⟨some 31, none, .callv (.c (.fn (.func 20) [] [])) [(.t 30)]⟩,
  ⟨some 10, none, .mv (.t 31)⟩]
def c4_13 : CC := .ops [⟨some 32, none, .mv (.t 10)⟩,
  ⟨some 33, none, .bin .eql (.t 32) (.c (.nilf)) true .nilF⟩]
def c4_14 : CC := .ops [⟨none, none, .store 1 (.t 6) (.c (.bool false))⟩]
def c4_15 : CC := .seq c4_14 .ret
def c4_16 : CC := .cond (.t 33) c4_15 .skip
def c4_17 : CC := .seq c4_13 c4_16
def c4_18 : CC := .ops [⟨some 34, none, .loadN 11 (.t 8)⟩,
  ⟨some 35, none, .callv (.c (.fn (.func 21) [] [])) [(.t 34)]⟩,
  ⟨some 11, none, .alloc [.nils]⟩,
  ⟨none, none, .store 1 (.t 11) (.t 35)⟩]
def c4_19 : CC := .ops [⟨some 36, none, .mv (.t 7)⟩,
  ⟨some 37, none, .callv (.c (.fn (.func 12) [] [])) [(.t 36), (.c (.int .i64 ((0 : Nat) : Int)))]⟩]
def c4_20 : CC := .ops [⟨some 12, none, .alloc [.int .i64 ((0 : Nat) : Int)]⟩,
  ⟨none, none, .store 1 (.t 12) (.c (.int .i64 ((0 : Nat) : Int)))⟩]
def c4_21 : CC := .ops [⟨some 38, none, .load1 (.t 12)⟩,
  ⟨some 39, none, .bin .lss (.t 38) (.c (.int .i64 ((2 : Nat) : Int))) true .pint⟩]
def c4_22 : CC := .cond (.t 39) .skip (.exit 0)
def c4_23 : CC := .seq c4_21 c4_22
def c4_24 : CC := .ops [⟨some 13, none, .alloc [.int .i64 ((0 : Nat) : Int)]⟩,
  ⟨none, none, .store 1 (.t 13) (.c (.int .i64 ((0 : Nat) : Int)))⟩]
def c4_25 : CC := .ops [⟨some 42, none, .mv (.t 10)⟩]
def c4_26 : CC := .ops [⟨some 14, none, .mv (.t 43)⟩]
def c4_27 : CC := .ops [⟨some 15, none, .alloc [.int .u8 ((0 : Nat) : Int), .int .i64 ((0 : Nat) : Int), .int .u64 ((0 : Nat) : Int), .int .u64 ((0 : Nat) : Int), .int .i64 ((0 : Nat) : Int), .int .i64 ((0 : Nat) : Int)]⟩,
  ⟨none, none, .store 6 (.t 15) (.t 44)⟩]
def c4_28 : CC := .seq c4_26 c4_27
def c4_29 : CC := .drawn [⟨⟨some 45, none, .load1 (.t 13)⟩, [13]⟩,
  ⟨⟨some 46, none, .load1 (.t 11)⟩, [11]⟩,
  ⟨⟨some 47, none, .lenS (.t 46)⟩, [46]⟩,
  ⟨⟨some 48, none, .bin .geq (.t 45) (.t 47) false .pint⟩, [45, 47]⟩,
  ⟨⟨some 49, none, .mv (.t 48)⟩, [48]⟩,
  ⟨⟨some 50, (some (49, false)), .mv (.t 14)⟩, [49, 14]⟩,
  ⟨⟨some 51, (some (49, false)), .load1 (.t 11)⟩, [49, 11]⟩,
  ⟨⟨some 52, (some (49, false)), .load1 (.t 13)⟩, [49, 13]⟩,
  ⟨⟨some 53, (some (49, false)), .iaddrS 8 (.t 51) (.t 52)⟩, [49, 51, 52]⟩,
  ⟨⟨some 54, (some (49, false)), .faddr (.t 53) 0⟩, [49, 53]⟩,
  ⟨⟨some 55, (some (49, false)), .load1 (.t 54)⟩, [49, 54]⟩,
  ⟨⟨some 56, (some (49, false)), .bin .neq (.t 50) (.t 55) false .pint⟩, [49, 50, 55]⟩,
  ⟨⟨some 57, none, .pick (.t 49) (.c (.bool true)) (.t 56)⟩, [49, 56]⟩,
  ⟨⟨some 58, none, .mv (.t 57)⟩, [57]⟩,
  ⟨⟨some 59, (some (58, false)), .loadN 6 (.t 15)⟩, [58, 15]⟩,
  ⟨⟨some 60, (some (58, false)), .load1 (.t 11)⟩, [58, 11]⟩,
  ⟨⟨some 61, (some (58, false)), .load1 (.t 13)⟩, [58, 13]⟩,
  ⟨⟨some 62, (some (58, false)), .iaddrS 8 (.t 60) (.t 61)⟩, [58, 60, 61]⟩,
  ⟨⟨some 63, (some (58, false)), .faddr (.t 62) 1⟩, [58, 62]⟩,
  ⟨⟨some 64, (some (58, false)), .loadN 6 (.t 63)⟩, [58, 63]⟩,
  ⟨⟨some 65, (some (58, false)), .bin .neq (.t 59) (.t 64) false (.agg [(0, 0, .pint), (1, 0, .pint), (2, 0, .pint), (3, 0, .pint), (4, 0, .pint), (5, 0, .pint)])⟩, [58, 59, 64]⟩,
  ⟨⟨some 66, none, .pick (.t 58) (.c (.bool true)) (.t 65)⟩, [58, 65]⟩]
  []
  []
def c4_30 : CC := .ops [⟨none, none, .store 1 (.t 6) (.c (.bool false))⟩]
def c4_31 : CC := .seq c4_30 .ret
def c4_32 : CC := .cond (.t 66) c4_31 .skip
def c4_33 : CC := .seq c4_29 c4_32
def c4_34 : CC := .ops [⟨some 67, none, .load1 (.t 13)⟩,
  ⟨some 68, none, .bin .add (.t 67) (.c (.int .i64 ((1 : Nat) : Int))) true .pint⟩,
  ⟨none, none, .store 1 (.t 13) (.t 68)⟩]
def c4_35 : CC := .ops [⟨some 69, none, .load1 (.t 12)⟩,
  ⟨some 70, none, .bin .eql (.t 69) (.c (.int .i64 ((0 : Nat) : Int))) true .pint⟩,
  ⟨some 71, none, .mv (.t 70)⟩,
  ⟨some 72, (some (71, true)), .load1 (.t 13)⟩,
  ⟨some 73, (some (71, true)), .load1 (.t 5)⟩,
  ⟨some 74, (some (71, true)), .bin .geq (.t 72) (.t 73) false .pint⟩,
  ⟨some 75, none, .pick (.t 71) (.t 74) (.c (.bool false))⟩]
def c4_36 : CC := .cond (.t 75) (.exit 2) .skip
def c4_37 : CC := .seq c4_35 c4_36
def c4_38 : CC := .seq c4_34 c4_37
def c4_39 : CC := .seq c4_33 c4_38
def c4_40 : CC := .block 3 c4_39
def c4_41 : CC := .rangeFunc (.t 42) [43, 44] c4_28 c4_40
def c4_42 : CC := .block 2 c4_41
def c4_43 : CC := .seq c4_25 c4_42
def c4_44 : CC := .ops [⟨some 76, none, .load1 (.t 12)⟩,
  ⟨some 77, none, .bin .eql (.t 76) (.c (.int .i64 ((0 : Nat) : Int))) true .pint⟩,
  ⟨some 78, none, .mv (.t 77)⟩,
  ⟨some 79, (some (78, true)), .load1 (.t 13)⟩,
  ⟨some 80, (some (78, true)), .load1 (.t 11)⟩,
  ⟨some 81, (some (78, true)), .lenS (.t 80)⟩,
  ⟨some 82, (some (78, true)), .load1 (.t 5)⟩,
  ⟨some 83, (some (78, true)), .maxmin true (.c (.int .i64 ((1 : Nat) : Int))) (.t 82)⟩,
  ⟨some 84, (some (78, true)), .maxmin false (.t 81) (.t 83)⟩,
  ⟨some 85, (some (78, true)), .bin .neq (.t 79) (.t 84) false .pint⟩,
  ⟨some 86, none, .pick (.t 78) (.t 85) (.c (.bool false))⟩,
  ⟨some 87, none, .mv (.t 86)⟩,
  ⟨some 88, (some (87, false)), .load1 (.t 12)⟩,
  ⟨some 89, (some (87, false)), .bin .eql (.t 88) (.c (.int .i64 ((1 : Nat) : Int))) true .pint⟩,
  ⟨some 90, (some (87, false)), .mv (.t 89)⟩,
  ⟨some 91, (some (90, true)), .load1 (.t 13)⟩,
  ⟨some 92, (some (90, true)), .load1 (.t 11)⟩,
  ⟨some 93, (some (90, true)), .lenS (.t 92)⟩,
  ⟨some 94, (some (90, true)), .bin .neq (.t 91) (.t 93) false .pint⟩,
  ⟨some 95, (some (87, false)), .pick (.t 90) (.t 94) (.c (.bool false))⟩,
  ⟨some 96, none, .pick (.t 87) (.c (.bool true)) (.t 95)⟩]
def c4_45 : CC := .ops [⟨none, none, .store 1 (.t 6) (.c (.bool false))⟩]
def c4_46 : CC := .seq c4_45 .ret
def c4_47 : CC := .cond (.t 96) c4_46 .skip
def c4_48 : CC := .seq c4_44 c4_47
def c4_49 : CC := .seq c4_43 c4_48
def c4_50 : CC := .seq c4_24 c4_49
def c4_51 : CC := .block 1 c4_50
def c4_52 : CC := .ops [⟨some 97, none, .load1 (.t 12)⟩]
def c4_53 : CC := .ops [⟨some 12, none, .alloc [.int .i64 ((0 : Nat) : Int)]⟩,
  ⟨none, none, .store 1 (.t 12) (.t 97)⟩]
def c4_54 : CC := .seq c4_52 c4_53
def c4_55 : CC := .ops [⟨some 40, none, .load1 (.t 12)⟩,
  ⟨some 41, none, .bin .add (.t 40) (.c (.int .i64 ((1 : Nat) : Int))) true .pint⟩,
  ⟨none, none, .store 1 (.t 12) (.t 41)⟩]
def c4_56 : CC := .seq c4_54 c4_55
def c4_57 : CC := .seq c4_51 c4_56
def c4_58 : CC := .seq c4_23 c4_57
def c4_59 : CC := .loop c4_58
def c4_60 : CC := .block 0 c4_59
def c4_61 : CC := .seq c4_20 c4_60
def c4_62 : CC := .ops [⟨some 98, none, .callv (.c (.fn (.func 7) [] [])) []⟩,
  ⟨none, none, .store 1 (.t 6) (.t 98)⟩]
def c4_63 : CC := .seq c4_62 .ret
def c4_64 : CC := .seq c4_61 c4_63
def c4_65 : CC := .seq c4_19 c4_64
def c4_66 : CC := .seq c4_18 c4_65
def c4_67 : CC := .seq c4_17 c4_66
def c4_68 : CC := .seq c4_12 c4_67
def c4_69 : CC := .seq c4_11 c4_68
def c4_70 : CC := .seq c4_6 c4_69
def c4_71 : CC := .seq c4_5 c4_70
def c4_72 : CC := .seq c4_0 c4_71
def cf4 : CFn := ⟨99, [.cell1 6], c4_72⟩
structure Fx (F : T CFn) (K : T (List AV × AV)) : Prop where
  f4 : T.get F 4 = some cf4
  k4 : T.get K 4 = none
  f6 : T.get F 6 = some cf6
  k6 : T.get K 6 = none
  f8 : T.get F 8 = some cf8
  k8 : T.get K 8 = none
  f9 : T.get F 9 = some cf9
  k9 : T.get K 9 = none
  f10 : T.get F 10 = some cf10
  k10 : T.get K 10 = none
  f11 : T.get F 11 = some cf11
  k11 : T.get K 11 = none
  f12 : T.get F 12 = some cf12
  k12 : T.get K 12 = none
  f13 : T.get F 13 = some cf13
  k13 : T.get K 13 = none
  f19 : T.get F 19 = some cf19
  k19 : T.get K 19 = none
  f20 : T.get F 20 = some cf20
  k20 : T.get K 20 = none
  f21 : T.get F 21 = some cf21
  k21 : T.get K 21 = none
  f23 : T.get F 23 = some cf23
  k23 : T.get K 23 = none
  f29 : T.get F 29 = some cf29
  k29 : T.get K 29 = none
  f34 : T.get F 34 = some cf34
  k34 : T.get K 34 = none
  f36 : T.get F 36 = some cf36
  k36 : T.get K 36 = none
  f37 : T.get F 37 = some cf37
  k37 : T.get K 37 = none
  f38 : T.get F 38 = some cf38
  k38 : T.get K 38 = none
  f39 : T.get F 39 = some cf39
  k39 : T.get K 39 = none
  f40 : T.get F 40 = some cf40
  k40 : T.get K 40 = none
  f41 : T.get F 41 = some cf41
  k41 : T.get K 41 = none
  f42 : T.get F 42 = some cf42
  k42 : T.get K 42 = none
  f43 : T.get F 43 = some cf43
  k43 : T.get K 43 = none
  f44 : T.get F 44 = some cf44
  k44 : T.get K 44 = none
  f45 : T.get F 45 = some cf45
  k45 : T.get K 45 = none
  f46 : T.get F 46 = some cf46
  k46 : T.get K 46 = none
  f47 : T.get F 47 = some cf47
  k47 : T.get K 47 = none
  f48 : T.get F 48 = some cf48
  k48 : T.get K 48 = none
  f49 : T.get F 49 = some cf49
  k49 : T.get K 49 = none
  f51 : T.get F 51 = some cf51
  k51 : T.get K 51 = none
  f54 : T.get F 54 = some cf54
  k54 : T.get K 54 = none
  f61 : T.get F 61 = some cf61
  k61 : T.get K 61 = none
  f67 : T.get F 67 = some cf67
  k67 : T.get K 67 = none
  f70 : T.get F 70 = some cf70
  k70 : T.get K 70 = none
  f71 : T.get F 71 = some cf71
  k71 : T.get K 71 = none
  f72 : T.get F 72 = some cf72
  k72 : T.get K 72 = none
  f73 : T.get F 73 = some cf73
  k73 : T.get K 73 = none
  f74 : T.get F 74 = some cf74
  k74 : T.get K 74 = none
  f75 : T.get F 75 = some cf75
  k75 : T.get K 75 = none
  f76 : T.get F 76 = some cf76
  k76 : T.get K 76 = none
  f96 : T.get F 96 = some cf96
  k96 : T.get K 96 = none
  f97 : T.get F 97 = some cf97
  k97 : T.get K 97 = none
  f98 : T.get F 98 = some cf98
  k98 : T.get K 98 = none
  f99 : T.get F 99 = some cf99
  k99 : T.get K 99 = none
  f100 : T.get F 100 = some cf100
  k100 : T.get K 100 = none
  f101 : T.get F 101 = some cf101
  k101 : T.get K 101 = none
  f102 : T.get F 102 = some cf102
  k102 : T.get K 102 = none
  f103 : T.get F 103 = some cf103
  k103 : T.get K 103 = none
  f104 : T.get F 104 = some cf104
  k104 : T.get K 104 = none
  f105 : T.get F 105 = some cf105
  k105 : T.get K 105 = none
  f106 : T.get F 106 = some cf106
  k106 : T.get K 106 = none
  f107 : T.get F 107 = some cf107
  k107 : T.get K 107 = none
  f108 : T.get F 108 = some cf108
  k108 : T.get K 108 = none
  f109 : T.get F 109 = some cf109
  k109 : T.get K 109 = none
  f122 : T.get F 122 = some cf122
  k122 : T.get K 122 = none
  f123 : T.get F 123 = some cf123
  k123 : T.get K 123 = none
  f124 : T.get F 124 = some cf124
  k124 : T.get K 124 = none
  f125 : T.get F 125 = some cf125
  k125 : T.get K 125 = none
  f126 : T.get F 126 = some cf126
  k126 : T.get K 126 = none
  f145 : T.get F 145 = some cf145
  k145 : T.get K 145 = none
  f146 : T.get F 146 = some cf146
  k146 : T.get K 146 = none
  f147 : T.get F 147 = some cf147
  k147 : T.get K 147 = none
  f148 : T.get F 148 = some cf148
  k148 : T.get K 148 = none
  f149 : T.get F 149 = some cf149
  k149 : T.get K 149 = none
  f150 : T.get F 150 = some cf150
  k150 : T.get K 150 = none
  f151 : T.get F 151 = some cf151
  k151 : T.get K 151 = none
  f152 : T.get F 152 = some cf152
  k152 : T.get K 152 = none
  f153 : T.get F 153 = some cf153
  k153 : T.get K 153 = none
  f154 : T.get F 154 = some cf154
  k154 : T.get K 154 = none
  f155 : T.get F 155 = some cf155
  k155 : T.get K 155 = none
  f156 : T.get F 156 = some cf156
  k156 : T.get K 156 = none
  f157 : T.get F 157 = some cf157
  k157 : T.get K 157 = none
  f158 : T.get F 158 = some cf158
  k158 : T.get K 158 = none
  f159 : T.get F 159 = some cf159
  k159 : T.get K 159 = none
  f160 : T.get F 160 = some cf160
  k160 : T.get K 160 = none
  f177 : T.get F 177 = some cf177
  k177 : T.get K 177 = none
  f200 : T.get F 200 = some cf200
  k200 : T.get K 200 = none
  f201 : T.get F 201 = some cf201
  k201 : T.get K 201 = none
  f202 : T.get F 202 = some cf202
  k202 : T.get K 202 = none
  f203 : T.get F 203 = some cf203
  k203 : T.get K 203 = none
  f204 : T.get F 204 = some cf204
  k204 : T.get K 204 = none
  f205 : T.get F 205 = some cf205
  k205 : T.get K 205 = none
  f222 : T.get F 222 = some cf222
  k222 : T.get K 222 = none
  f223 : T.get F 223 = some cf223
  k223 : T.get K 223 = none
  f224 : T.get F 224 = some cf224
  k224 : T.get K 224 = none
  f225 : T.get F 225 = some cf225
  k225 : T.get K 225 = none
  f243 : T.get F 243 = some cf243
  k243 : T.get K 243 = none
  f256 : T.get F 256 = some cf256
  k256 : T.get K 256 = none
  f257 : T.get F 257 = some cf257
  k257 : T.get K 257 = none
  f258 : T.get F 258 = some cf258
  k258 : T.get K 258 = none
end Go.Ev

