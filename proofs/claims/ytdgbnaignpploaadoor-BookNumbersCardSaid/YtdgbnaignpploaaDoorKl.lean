/- PRINTED BY symgen.py: the compiled code of functions 6 14 15 51 52 54 24. -/
import Derived.Test.YtdgbnaignpploaaDoorChecked
import Derived.Test.YtdgbnaignpploaaDoorSy
namespace Go.Proofs.YtdgbnaignpploaaDoor.k
open Go.Sym
set_option linter.unusedVariables false
set_option maxRecDepth 100000

@[reducible] def c6r0 : List J := [⟨none, (some 3), false, (.box 47 (.tmp 0))⟩, ⟨none, (some 6), false, (.mov (.const (.bool false)))⟩]
@[reducible] def c6s1 : C := (.ops c6r0 (some [1, 2, 3]))
@[reducible] def c6r2 : List J := [⟨none, (some 17), false, (.call (.func 14) [])⟩, ⟨none, (some 7), false, (.mov (.tmp 17))⟩]
@[reducible] def c6s3 : C := (.ops c6r2 (some [1, 2, 3, 7]))
@[reducible] def c6r4 : List J := [⟨none, (some 18), false, (.faddr 0 (.tmp 3))⟩, ⟨none, (some 19), false, (.ld1 (.tmp 18))⟩, ⟨none, (some 20), false, (.len (.tmp 19))⟩, ⟨none, (some 21), false, (.cmp .gtr (.tmp 20) (.const (.int .i64 80)))⟩, ⟨none, (some 22), false, (.mov (.tmp 21))⟩, ⟨(some ((some 22), false)), (some 23), false, (.faddr 1 (.tmp 3))⟩, ⟨(some ((some 22), false)), (some 24), false, (.ld1 (.tmp 23))⟩, ⟨(some ((some 22), false)), (some 25), false, (.len (.tmp 24))⟩, ⟨(some ((some 22), false)), (some 26), false, (.cmp .gtr (.tmp 25) (.const (.int .i64 8)))⟩, ⟨none, (some 27), false, (.pick (.tmp 22) (.const (.bool true)) (.tmp 26))⟩, ⟨none, (some 28), false, (.mov (.tmp 27))⟩, ⟨(some ((some 28), false)), (some 29), false, (.faddr 2 (.tmp 3))⟩, ⟨(some ((some 28), false)), (some 30), false, (.ld1 (.tmp 29))⟩, ⟨(some ((some 28), false)), (some 31), false, (.len (.tmp 30))⟩, ⟨(some ((some 28), false)), (some 32), false, (.cmp .gtr (.tmp 31) (.const (.int .i64 8)))⟩, ⟨none, (some 33), false, (.pick (.tmp 28) (.const (.bool true)) (.tmp 32))⟩, ⟨none, (some 34), false, (.mov (.tmp 33))⟩, ⟨(some ((some 34), false)), (some 35), false, (.mov (.tmp 1))⟩, ⟨(some ((some 34), false)), (some 36), false, (.len (.tmp 35))⟩, ⟨(some ((some 34), false)), (some 37), false, (.cmp .gtr (.tmp 36) (.const (.int .i64 400)))⟩, ⟨none, (some 38), false, (.pick (.tmp 34) (.const (.bool true)) (.tmp 37))⟩, ⟨none, (some 39), false, (.mov (.tmp 38))⟩, ⟨(some ((some 39), false)), (some 40), false, (.mov (.tmp 2))⟩, ⟨(some ((some 39), false)), (some 41), false, (.len (.tmp 40))⟩, ⟨(some ((some 39), false)), (some 42), false, (.cmp .gtr (.tmp 41) (.const (.int .i64 400)))⟩, ⟨none, (some 43), false, (.pick (.tmp 39) (.const (.bool true)) (.tmp 42))⟩]
@[reducible] def c6s5 : C := (.ops c6r4 (some [1, 2, 3, 7, 43]))
@[reducible] def c6r6 : List J := [⟨none, (some 44), false, (.mov (.tmp 7))⟩, ⟨none, (some 6), false, (.mov (.tmp 44))⟩]
@[reducible] def c6s7 : C := (.ops c6r6 (some [6]))
@[reducible] def c6s8 : C := (.seq c6s7 .ret)
@[reducible] def c6s9 : C := (.cond (.tmp 43) c6s8 .skip)
@[reducible] def c6s10 : C := (.seq c6s5 c6s9)
@[reducible] def c6r11 : List J := [⟨none, (some 46), false, (.ldN 3 (.tmp 3))⟩, ⟨none, (some 47), false, (.mov (.tmp 1))⟩, ⟨none, (some 48), false, (.call (.func 15) [(.tmp 46), (.tmp 47)])⟩, ⟨none, (some 45), false, (.mov (.tmp 48))⟩, ⟨none, (some 49), false, (.ext 0 (.tmp 45))⟩, ⟨none, (some 50), false, (.ext 1 (.tmp 45))⟩, ⟨none, (some 8), false, (.mov (.tmp 49))⟩, ⟨none, (some 9), false, (.mov (.tmp 50))⟩]
@[reducible] def c6s12 : C := (.ops c6r11 (some [2, 3, 7, 8, 9]))
@[reducible] def c6r13 : List J := [⟨none, (some 52), false, (.ldN 3 (.tmp 3))⟩, ⟨none, (some 53), false, (.mov (.tmp 2))⟩, ⟨none, (some 54), false, (.call (.func 15) [(.tmp 52), (.tmp 53)])⟩, ⟨none, (some 51), false, (.mov (.tmp 54))⟩, ⟨none, (some 55), false, (.ext 0 (.tmp 51))⟩, ⟨none, (some 56), false, (.ext 1 (.tmp 51))⟩, ⟨none, (some 10), false, (.mov (.tmp 55))⟩, ⟨none, (some 11), false, (.mov (.tmp 56))⟩]
@[reducible] def c6s14 : C := (.ops c6r13 (some [3, 7, 8, 9, 10, 11]))
@[reducible] def c6r15 : List J := [⟨none, (some 57), false, (.mov (.tmp 9))⟩, ⟨none, (some 58), false, (.cmp .gtr (.tmp 57) (.const (.int .i64 0)))⟩, ⟨none, (some 59), false, (.mov (.tmp 58))⟩, ⟨(some ((some 59), false)), (some 60), false, (.mov (.tmp 11))⟩, ⟨(some ((some 59), false)), (some 61), false, (.cmp .gtr (.tmp 60) (.const (.int .i64 0)))⟩, ⟨none, (some 62), false, (.pick (.tmp 59) (.const (.bool true)) (.tmp 61))⟩]
@[reducible] def c6s16 : C := (.ops c6r15 (some [3, 7, 8, 10, 62]))
@[reducible] def c6r17 : List J := [⟨none, (some 63), false, (.mov (.tmp 7))⟩, ⟨none, (some 6), false, (.mov (.tmp 63))⟩]
@[reducible] def c6s18 : C := (.ops c6r17 (some [6]))
@[reducible] def c6s19 : C := (.seq c6s18 .ret)
@[reducible] def c6s20 : C := (.cond (.tmp 62) c6s19 .skip)
@[reducible] def c6s21 : C := (.seq c6s16 c6s20)
@[reducible] def c6r22 : List (J × Bool) := [(⟨none, (some 64), false, (.mov (.tmp 8))⟩, false), (⟨none, (some 65), false, (.mov (.tmp 10))⟩, false), (⟨none, (some 66), false, (.call (.func 29) [(.tmp 64), (.tmp 65)])⟩, true), (⟨none, (some 67), false, (.un .not (.tmp 66))⟩, false), (⟨none, (some 68), false, (.mov (.tmp 67))⟩, false), (⟨(some ((some 68), false)), (some 69), false, (.mov (.tmp 10))⟩, false), (⟨(some ((some 68), false)), (some 70), false, (.mov (.tmp 8))⟩, false), (⟨(some ((some 68), false)), (some 71), false, (.call (.func 29) [(.tmp 69), (.tmp 70)])⟩, true), (⟨(some ((some 68), false)), (some 72), false, (.un .not (.tmp 71))⟩, false), (⟨none, (some 73), false, (.pick (.tmp 68) (.const (.bool true)) (.tmp 72))⟩, false), (⟨none, (some 74), false, (.mov (.tmp 73))⟩, false), (⟨(some ((some 74), false)), (some 75), false, (.mov (.tmp 8))⟩, false), (⟨(some ((some 74), false)), (some 77), false, (.faddr 0 (.tmp 3))⟩, false), (⟨(some ((some 74), false)), (some 78), false, (.ld1 (.tmp 77))⟩, false), (⟨(some ((some 74), false)), (some 79), false, (.len (.tmp 78))⟩, false), (⟨(some ((some 74), false)), (some 76), false, (.call (.func 18) [(.tmp 75)])⟩, true)]
@[reducible] def c6r23 : List J := [⟨(some ((some 74), false)), (some 80), false, (.cmp .neq (.tmp 76) (.tmp 79))⟩, ⟨none, (some 81), false, (.pick (.tmp 74) (.const (.bool true)) (.tmp 80))⟩]
@[reducible] def c6s24 : C := (.plan c6r22 c6r23 (some [3, 7, 8, 10, 81]))
@[reducible] def c6r25 : List J := [⟨none, (some 6), false, (.mov (.const (.bool false)))⟩]
@[reducible] def c6s26 : C := (.ops c6r25 (some [6]))
@[reducible] def c6s27 : C := (.seq c6s26 .ret)
@[reducible] def c6s28 : C := (.cond (.tmp 81) c6s27 .skip)
@[reducible] def c6s29 : C := (.seq c6s24 c6s28)
@[reducible] def c6r30 : List J := [⟨none, (some 82), false, (.mov (.tmp 8))⟩, ⟨none, (some 83), false, (.call (.func 16) [(.tmp 82)])⟩, ⟨none, (some 84), false, (.mov (.tmp 10))⟩, ⟨none, (some 85), false, (.call (.func 16) [(.tmp 84)])⟩, ⟨none, (some 86), false, (.cmp .neq (.tmp 83) (.tmp 85))⟩, ⟨none, (some 87), false, (.mov (.tmp 86))⟩, ⟨(some ((some 87), false)), (some 88), false, (.mov (.tmp 8))⟩, ⟨(some ((some 87), false)), (some 89), false, (.mov (.tmp 10))⟩, ⟨(some ((some 87), false)), (some 90), false, (.call (.func 29) [(.tmp 88), (.tmp 89)])⟩, ⟨(some ((some 87), false)), (some 91), false, (.un .not (.tmp 90))⟩, ⟨none, (some 92), false, (.pick (.tmp 87) (.const (.bool true)) (.tmp 91))⟩]
@[reducible] def c6s31 : C := (.ops c6r30 (some [3, 7, 8, 10, 92]))
@[reducible] def c6r32 : List J := [⟨none, (some 6), false, (.mov (.const (.bool false)))⟩]
@[reducible] def c6s33 : C := (.ops c6r32 (some [6]))
@[reducible] def c6s34 : C := (.seq c6s33 .ret)
@[reducible] def c6s35 : C := (.cond (.tmp 92) c6s34 .skip)
@[reducible] def c6s36 : C := (.seq c6s31 c6s35)
@[reducible] def c6r37 : List J := [⟨none, (some 12), false, (.mov (.const (.int .i64 0)))⟩]
@[reducible] def c6s38 : C := (.ops c6r37 (some [3, 7, 8, 10, 12]))
@[reducible] def c6r39 : List J := [⟨none, (some 93), false, (.mov (.tmp 12))⟩, ⟨none, (some 94), false, (.faddr 0 (.tmp 3))⟩, ⟨none, (some 95), false, (.ld1 (.tmp 94))⟩, ⟨none, (some 96), false, (.len (.tmp 95))⟩, ⟨none, (some 97), false, (.cmp .lss (.tmp 93) (.tmp 96))⟩]
@[reducible] def c6s40 : C := (.ops c6r39 (some [3, 7, 8, 10, 12, 97]))
@[reducible] def c6s41 : C := (.cond (.tmp 97) .skip (.exit 0))
@[reducible] def c6s42 : C := (.seq c6s40 c6s41)
@[reducible] def c6r43 : List J := [⟨none, (some 101), false, (.mov (.tmp 8))⟩, ⟨none, (some 102), false, (.faddr 0 (.tmp 3))⟩, ⟨none, (some 103), false, (.ld1 (.tmp 102))⟩, ⟨none, (some 104), false, (.mov (.tmp 12))⟩, ⟨none, (some 105), false, (.ixs 9 (.tmp 103) (.tmp 104))⟩, ⟨none, (some 106), false, (.faddr 0 (.tmp 105))⟩, ⟨none, (some 107), false, (.ld1 (.tmp 106))⟩, ⟨none, (some 108), false, (.call (.func 23) [(.tmp 101), (.tmp 107)])⟩, ⟨none, (some 100), false, (.mov (.tmp 108))⟩, ⟨none, (some 109), false, (.ext 0 (.tmp 100))⟩, ⟨none, (some 110), false, (.ext 1 (.tmp 100))⟩, ⟨none, (some 13), false, (.mov (.tmp 109))⟩, ⟨none, (some 14), false, (.mov (.tmp 110))⟩]
@[reducible] def c6s44 : C := (.ops c6r43 (some [3, 7, 8, 10, 12, 13, 14]))
@[reducible] def c6r45 : List J := [⟨none, (some 112), false, (.mov (.tmp 10))⟩, ⟨none, (some 113), false, (.faddr 0 (.tmp 3))⟩, ⟨none, (some 114), false, (.ld1 (.tmp 113))⟩, ⟨none, (some 115), false, (.mov (.tmp 12))⟩, ⟨none, (some 116), false, (.ixs 9 (.tmp 114) (.tmp 115))⟩, ⟨none, (some 117), false, (.faddr 0 (.tmp 116))⟩, ⟨none, (some 118), false, (.ld1 (.tmp 117))⟩, ⟨none, (some 119), false, (.call (.func 23) [(.tmp 112), (.tmp 118)])⟩, ⟨none, (some 111), false, (.mov (.tmp 119))⟩, ⟨none, (some 120), false, (.ext 0 (.tmp 111))⟩, ⟨none, (some 121), false, (.ext 1 (.tmp 111))⟩, ⟨none, (some 15), false, (.mov (.tmp 120))⟩, ⟨none, (some 16), false, (.mov (.tmp 121))⟩]
@[reducible] def c6s46 : C := (.ops c6r45 (some [3, 7, 8, 10, 12, 13, 14, 15, 16]))
@[reducible] def c6r47 : List J := [⟨none, (some 122), false, (.mov (.tmp 13))⟩, ⟨none, (some 123), false, (.mov (.tmp 15))⟩, ⟨none, (some 124), false, (.cmp .neq (.tmp 122) (.tmp 123))⟩, ⟨none, (some 125), false, (.mov (.tmp 124))⟩, ⟨(some ((some 125), false)), (some 126), false, (.mov (.tmp 14))⟩, ⟨(some ((some 125), false)), (some 127), false, (.mov (.tmp 16))⟩, ⟨(some ((some 125), false)), (some 128), false, (.cmp .neq (.tmp 126) (.tmp 127))⟩, ⟨none, (some 129), false, (.pick (.tmp 125) (.const (.bool true)) (.tmp 128))⟩, ⟨none, (some 130), false, (.mov (.tmp 129))⟩, ⟨(some ((some 130), false)), (some 131), false, (.mov (.tmp 8))⟩, ⟨(some ((some 130), false)), (some 132), false, (.call (.func 17) [(.tmp 131)])⟩, ⟨(some ((some 130), false)), (some 133), false, (.mov (.tmp 132))⟩, ⟨(some ((some 133), true)), (some 134), false, (.mov (.tmp 14))⟩, ⟨(some ((some 133), true)), (some 135), false, (.cmp .neq (.tmp 134) (.const (.int .i64 0)))⟩, ⟨(some ((some 133), true)), (some 136), false, (.mov (.tmp 135))⟩, ⟨(some ((some 136), false)), (some 137), false, (.mov (.tmp 13))⟩, ⟨(some ((some 136), false)), (some 138), false, (.cmp .lss (.tmp 137) (.const (.int .i64 1)))⟩, ⟨(some ((some 133), true)), (some 139), false, (.pick (.tmp 136) (.const (.bool true)) (.tmp 138))⟩, ⟨(some ((some 130), false)), (some 140), false, (.pick (.tmp 133) (.tmp 139) (.const (.bool false)))⟩, ⟨none, (some 141), false, (.pick (.tmp 130) (.const (.bool true)) (.tmp 140))⟩]
@[reducible] def c6s48 : C := (.ops c6r47 (some [3, 7, 8, 10, 12, 141]))
@[reducible] def c6r49 : List J := [⟨none, (some 6), false, (.mov (.const (.bool false)))⟩]
@[reducible] def c6s50 : C := (.ops c6r49 (some [6]))
@[reducible] def c6s51 : C := (.seq c6s50 .ret)
@[reducible] def c6s52 : C := (.cond (.tmp 141) c6s51 .skip)
@[reducible] def c6s53 : C := (.seq c6s48 c6s52)
@[reducible] def c6s54 : C := (.seq c6s46 c6s53)
@[reducible] def c6s55 : C := (.seq c6s44 c6s54)
@[reducible] def c6s56 : C := (.block 1 c6s55)
@[reducible] def c6r57 : List J := [⟨none, (some 98), false, (.mov (.tmp 12))⟩, ⟨none, (some 99), false, (.arith .add (.tmp 98) (.const (.int .i64 1)))⟩, ⟨none, (some 12), false, (.mov (.tmp 99))⟩]
@[reducible] def c6s58 : C := (.ops c6r57 (some [3, 7, 8, 10, 12]))
@[reducible] def c6s59 : C := (.seq c6s56 c6s58)
@[reducible] def c6s60 : C := (.seq c6s42 c6s59)
@[reducible] def c6s61 : C := (.loop c6s60)
@[reducible] def c6s62 : C := (.block 0 c6s61)
@[reducible] def c6s63 : C := (.seq c6s38 c6s62)
@[reducible] def c6r64 : List J := [⟨none, (some 142), false, (.mov (.tmp 7))⟩, ⟨none, (some 6), false, (.mov (.tmp 142))⟩]
@[reducible] def c6s65 : C := (.ops c6r64 (some [6]))
@[reducible] def c6s66 : C := (.seq c6s65 .ret)
@[reducible] def c6s67 : C := (.seq c6s63 c6s66)
@[reducible] def c6s68 : C := (.seq c6s36 c6s67)
@[reducible] def c6s69 : C := (.seq c6s29 c6s68)
@[reducible] def c6s70 : C := (.seq c6s21 c6s69)
@[reducible] def c6s71 : C := (.seq c6s14 c6s70)
@[reducible] def c6s72 : C := (.seq c6s12 c6s71)
@[reducible] def c6s73 : C := (.seq c6s10 c6s72)
@[reducible] def c6s74 : C := (.seq c6s3 c6s73)
@[reducible] def c6 : C := (.seq c6s1 c6s74)
theorem f6 : compF Go.Proofs.Tryd.prog 6 = some ⟨143, strip c6, [(.tmp 6)]⟩ := by kernel_rfl
theorem o6 : okC 143 c6 = true := by kernel_rfl

@[reducible] def c14r0 : List J := [⟨none, (some 0), false, (.mov (.const (.bool false)))⟩]
@[reducible] def c14s1 : C := (.ops c14r0 (some []))
@[reducible] def c14r2 : List J := [⟨none, (some 8), false, (.call (.func 33) [])⟩, ⟨none, (some 1), false, (.mov (.tmp 8))⟩]
@[reducible] def c14s3 : C := (.ops c14r2 (some [1]))
@[reducible] def c14r4 : List J := [⟨none, (some 9), false, (.mov (.tmp 1))⟩, ⟨none, (some 10), false, (.call (.func 51) [])⟩, ⟨none, (some 11), false, (.call (.func 19) [(.tmp 9), (.tmp 10)])⟩, ⟨none, (some 12), false, (.cmp .neq (.tmp 11) (.const (.int .i64 0)))⟩, ⟨none, (some 13), false, (.mov (.tmp 12))⟩, ⟨(some ((some 13), false)), (some 14), false, (.mov (.tmp 1))⟩, ⟨(some ((some 13), false)), (some 15), false, (.call (.func 52) [])⟩, ⟨(some ((some 13), false)), (some 16), false, (.call (.func 19) [(.tmp 14), (.tmp 15)])⟩, ⟨(some ((some 13), false)), (some 17), false, (.cmp .neq (.tmp 16) (.const (.int .i64 0)))⟩, ⟨none, (some 18), false, (.pick (.tmp 13) (.const (.bool true)) (.tmp 17))⟩, ⟨none, (some 19), false, (.mov (.tmp 18))⟩, ⟨(some ((some 19), false)), (some 20), false, (.mov (.tmp 1))⟩, ⟨(some ((some 19), false)), (some 21), false, (.call (.func 52) [])⟩, ⟨(some ((some 19), false)), (some 22), false, (.call (.func 19) [(.tmp 20), (.tmp 21)])⟩, ⟨(some ((some 19), false)), (some 23), false, (.cmp .neq (.tmp 22) (.const (.int .i64 5)))⟩, ⟨none, (some 24), false, (.pick (.tmp 19) (.const (.bool true)) (.tmp 23))⟩]
@[reducible] def c14s5 : C := (.ops c14r4 (some [1, 24]))
@[reducible] def c14r6 : List J := [⟨none, (some 0), false, (.mov (.const (.bool false)))⟩]
@[reducible] def c14s7 : C := (.ops c14r6 (some [0]))
@[reducible] def c14s8 : C := (.seq c14s7 .ret)
@[reducible] def c14s9 : C := (.cond (.tmp 24) c14s8 .skip)
@[reducible] def c14s10 : C := (.seq c14s5 c14s9)
@[reducible] def c14r11 : List J := [⟨none, (some 26), false, (.mov (.tmp 1))⟩, ⟨none, (some 27), false, (.call (.func 23) [(.tmp 26), (.const (.string (btx [97, 120, 101])))])⟩, ⟨none, (some 25), false, (.mov (.tmp 27))⟩, ⟨none, (some 28), false, (.ext 0 (.tmp 25))⟩, ⟨none, (some 29), false, (.ext 1 (.tmp 25))⟩, ⟨none, (some 2), false, (.mov (.tmp 28))⟩, ⟨none, (some 3), false, (.mov (.tmp 29))⟩]
@[reducible] def c14s12 : C := (.ops c14r11 (some [1, 3]))
@[reducible] def c14r13 : List J := [⟨none, (some 30), false, (.mov (.tmp 3))⟩, ⟨none, (some 31), false, (.cmp .neq (.tmp 30) (.const (.int .i64 6)))⟩, ⟨none, (some 32), false, (.mov (.tmp 31))⟩, ⟨(some ((some 32), false)), (some 33), false, (.mov (.tmp 1))⟩, ⟨(some ((some 32), false)), (some 34), false, (.call (.func 53) [(.tmp 33), (.const (.string (btx [97, 120, 101])))])⟩, ⟨(some ((some 32), false)), (some 35), false, (.un .not (.tmp 34))⟩, ⟨none, (some 36), false, (.pick (.tmp 32) (.const (.bool true)) (.tmp 35))⟩, ⟨none, (some 37), false, (.mov (.tmp 36))⟩, ⟨(some ((some 37), false)), (some 38), false, (.mov (.tmp 1))⟩, ⟨(some ((some 37), false)), (some 39), false, (.call (.func 18) [(.tmp 38)])⟩, ⟨(some ((some 37), false)), (some 40), false, (.cmp .neq (.tmp 39) (.const (.int .i64 2)))⟩, ⟨none, (some 41), false, (.pick (.tmp 37) (.const (.bool true)) (.tmp 40))⟩, ⟨none, (some 42), false, (.mov (.tmp 41))⟩, ⟨(some ((some 42), false)), (some 43), false, (.mov (.tmp 1))⟩, ⟨(some ((some 42), false)), (some 44), false, (.call (.func 16) [(.tmp 43)])⟩, ⟨(some ((some 42), false)), (some 45), false, (.cmp .neq (.tmp 44) (.const (.int .i64 0)))⟩, ⟨none, (some 46), false, (.pick (.tmp 42) (.const (.bool true)) (.tmp 45))⟩]
@[reducible] def c14s14 : C := (.ops c14r13 (some [1, 46]))
@[reducible] def c14r15 : List J := [⟨none, (some 0), false, (.mov (.const (.bool false)))⟩]
@[reducible] def c14s16 : C := (.ops c14r15 (some [0]))
@[reducible] def c14s17 : C := (.seq c14s16 .ret)
@[reducible] def c14s18 : C := (.cond (.tmp 46) c14s17 .skip)
@[reducible] def c14s19 : C := (.seq c14s14 c14s18)
@[reducible] def c14r20 : List J := [⟨none, (some 48), false, (.mov (.tmp 1))⟩, ⟨none, (some 49), false, (.call (.func 23) [(.tmp 48), (.const (.string (btx [97, 120, 101])))])⟩, ⟨none, (some 47), false, (.mov (.tmp 49))⟩, ⟨none, (some 50), false, (.ext 0 (.tmp 47))⟩, ⟨none, (some 51), false, (.ext 1 (.tmp 47))⟩, ⟨none, (some 4), false, (.mov (.tmp 50))⟩, ⟨none, (some 5), false, (.mov (.tmp 51))⟩]
@[reducible] def c14s21 : C := (.ops c14r20 (some [1, 4, 5]))
@[reducible] def c14r22 : List J := [⟨none, (some 53), false, (.mov (.tmp 1))⟩, ⟨none, (some 54), false, (.call (.func 22) [(.tmp 53), (.const (.int .i64 2))])⟩, ⟨none, (some 52), false, (.mov (.tmp 54))⟩, ⟨none, (some 55), false, (.ext 0 (.tmp 52))⟩, ⟨none, (some 56), false, (.ext 1 (.tmp 52))⟩, ⟨none, (some 6), false, (.alloc [(.string ⟨#[]⟩), (.int .u8 0), (.int .u8 0), (.int .i64 0), (.int .i64 0), (.int .i64 0), (.int .u16 0), (.bool false), (.slice none 0 0)] 9 51)⟩, ⟨none, none, false, (.st 9 (.tmp 6) (.tmp 55))⟩, ⟨none, (some 7), false, (.mov (.tmp 56))⟩]
@[reducible] def c14s23 : C := (.ops c14r22 (some [1, 4, 5, 6, 7]))
@[reducible] def c14r24 : List J := [⟨none, (some 57), false, (.mov (.tmp 4))⟩, ⟨none, (some 58), false, (.cmp .eql (.tmp 57) (.const (.int .i64 1)))⟩, ⟨none, (some 59), false, (.mov (.tmp 58))⟩, ⟨(some ((some 59), true)), (some 60), false, (.mov (.tmp 5))⟩, ⟨(some ((some 59), true)), (some 61), false, (.cmp .eql (.tmp 60) (.const (.int .i64 0)))⟩, ⟨none, (some 62), false, (.pick (.tmp 59) (.tmp 61) (.const (.bool false)))⟩, ⟨none, (some 63), false, (.mov (.tmp 62))⟩, ⟨(some ((some 63), true)), (some 64), false, (.faddr 0 (.tmp 6))⟩, ⟨(some ((some 63), true)), (some 65), false, (.ld1 (.tmp 64))⟩, ⟨(some ((some 63), true)), (some 66), false, (.sop .eql (.tmp 65) (.const (.string (btx [114, 111, 99, 107]))))⟩, ⟨none, (some 67), false, (.pick (.tmp 63) (.tmp 66) (.const (.bool false)))⟩, ⟨none, (some 68), false, (.mov (.tmp 67))⟩, ⟨(some ((some 68), true)), (some 69), false, (.mov (.tmp 7))⟩, ⟨(some ((some 68), true)), (some 70), false, (.cmp .eql (.tmp 69) (.const (.int .i64 0)))⟩, ⟨none, (some 71), false, (.pick (.tmp 68) (.tmp 70) (.const (.bool false)))⟩, ⟨none, (some 72), false, (.mov (.tmp 71))⟩, ⟨(some ((some 72), true)), (some 73), false, (.mov (.tmp 1))⟩, ⟨(some ((some 72), true)), (some 74), false, (.call (.func 52) [])⟩, ⟨(some ((some 72), true)), (some 75), false, (.call (.func 19) [(.tmp 73), (.tmp 74)])⟩, ⟨(some ((some 72), true)), (some 76), false, (.cmp .eql (.tmp 75) (.const (.int .i64 7)))⟩, ⟨none, (some 77), false, (.pick (.tmp 72) (.tmp 76) (.const (.bool false)))⟩, ⟨none, (some 0), false, (.mov (.tmp 77))⟩]
@[reducible] def c14s25 : C := (.ops c14r24 (some [0]))
@[reducible] def c14s26 : C := (.seq c14s25 .ret)
@[reducible] def c14s27 : C := (.seq c14s23 c14s26)
@[reducible] def c14s28 : C := (.seq c14s21 c14s27)
@[reducible] def c14s29 : C := (.seq c14s19 c14s28)
@[reducible] def c14s30 : C := (.seq c14s12 c14s29)
@[reducible] def c14s31 : C := (.seq c14s10 c14s30)
@[reducible] def c14s32 : C := (.seq c14s3 c14s31)
@[reducible] def c14 : C := (.seq c14s1 c14s32)
theorem f14 : compF Go.Proofs.Tryd.prog 14 = some ⟨78, strip c14, [(.tmp 0)]⟩ := by kernel_rfl
theorem o14 : okC 78 c14 = true := by kernel_rfl

@[reducible] def c15r0 : List J := [⟨none, (some 2), false, (.box 47 (.tmp 0))⟩, ⟨none, (some 4), false, (.mov (.const (.pointer none)))⟩, ⟨none, (some 5), false, (.mov (.const (.int .i64 0)))⟩]
@[reducible] def c15s1 : C := (.ops c15r0 (some [1, 2]))
@[reducible] def c15r2 : List J := [⟨none, (some 12), false, (.call (.func 33) [])⟩, ⟨none, (some 6), false, (.mov (.tmp 12))⟩]
@[reducible] def c15s3 : C := (.ops c15r2 (some [1, 2, 6]))
@[reducible] def c15r4 : List J := [⟨none, (some 13), false, (.faddr 0 (.tmp 2))⟩, ⟨none, (some 14), false, (.ld1 (.tmp 13))⟩, ⟨none, (some 15), false, (.len (.tmp 14))⟩, ⟨none, (some 16), false, (.faddr 1 (.tmp 2))⟩, ⟨none, (some 17), false, (.ld1 (.tmp 16))⟩, ⟨none, (some 18), false, (.len (.tmp 17))⟩, ⟨none, (some 19), false, (.arith .add (.tmp 15) (.tmp 18))⟩, ⟨none, (some 20), false, (.faddr 2 (.tmp 2))⟩, ⟨none, (some 21), false, (.ld1 (.tmp 20))⟩, ⟨none, (some 22), false, (.len (.tmp 21))⟩, ⟨none, (some 23), false, (.arith .add (.tmp 19) (.tmp 22))⟩, ⟨none, (some 7), false, (.mov (.tmp 23))⟩]
@[reducible] def c15s5 : C := (.ops c15r4 (some [1, 2, 6, 7]))
@[reducible] def c15r6 : List J := [⟨none, (some 24), false, (.mov (.tmp 7))⟩, ⟨none, (some 25), false, (.mks [(.bool false)] 1 1 4 (.tmp 24) (.tmp 24))⟩, ⟨none, (some 8), false, (.mov (.tmp 25))⟩]
@[reducible] def c15s7 : C := (.ops c15r6 (some [1, 2, 6, 7, 8]))
@[reducible] def c15r8 : List J := [⟨none, (some 9), false, (.mov (.const (.int .i64 0)))⟩]
@[reducible] def c15s9 : C := (.ops c15r8 (some [1, 2, 6, 7, 8, 9]))
@[reducible] def c15r10 : List J := [⟨none, (some 10), false, (.mov (.const (.int .i64 0)))⟩]
@[reducible] def c15s11 : C := (.ops c15r10 (some [1, 2, 6, 7, 8, 9, 10]))
@[reducible] def c15r12 : List J := [⟨none, (some 26), false, (.mov (.tmp 10))⟩, ⟨none, (some 27), false, (.mov (.tmp 1))⟩, ⟨none, (some 28), false, (.len (.tmp 27))⟩, ⟨none, (some 29), false, (.mov (.tmp 7))⟩, ⟨none, (some 30), false, (.arith .add (.tmp 28) (.tmp 29))⟩, ⟨none, (some 31), false, (.cmp .lss (.tmp 26) (.tmp 30))⟩]
@[reducible] def c15s13 : C := (.ops c15r12 (some [1, 2, 6, 7, 8, 9, 10, 31]))
@[reducible] def c15s14 : C := (.cond (.tmp 31) .skip (.exit 0))
@[reducible] def c15s15 : C := (.seq c15s13 c15s14)
@[reducible] def c15r16 : List J := [⟨none, (some 34), false, (.mov (.tmp 10))⟩, ⟨none, (some 35), false, (.mov (.tmp 1))⟩, ⟨none, (some 36), false, (.len (.tmp 35))⟩, ⟨none, (some 37), false, (.arith .sub (.tmp 34) (.tmp 36))⟩, ⟨none, (some 11), false, (.mov (.tmp 37))⟩]
@[reducible] def c15s17 : C := (.ops c15r16 (some [1, 2, 6, 7, 8, 9, 10, 11]))
@[reducible] def c15r18 : List J := [⟨none, (some 38), false, (.mov (.tmp 10))⟩, ⟨none, (some 39), false, (.mov (.tmp 1))⟩, ⟨none, (some 40), false, (.len (.tmp 39))⟩, ⟨none, (some 41), false, (.cmp .lss (.tmp 38) (.tmp 40))⟩]
@[reducible] def c15s19 : C := (.ops c15r18 (some [1, 2, 6, 7, 8, 9, 10, 11, 41]))
@[reducible] def c15r20 : List J := [⟨none, (some 42), false, (.mov (.tmp 7))⟩, ⟨none, (some 43), false, (.cmp .eql (.tmp 42) (.const (.int .i64 0)))⟩]
@[reducible] def c15s21 : C := (.ops c15r20 (some [1, 2, 6, 7, 8, 9, 10, 43]))
@[reducible] def c15s22 : C := (.cond (.tmp 43) (.exit 1) .skip)
@[reducible] def c15s23 : C := (.seq c15s21 c15s22)
@[reducible] def c15r24 : List J := [⟨none, (some 44), false, (.mov (.tmp 1))⟩, ⟨none, (some 45), false, (.mov (.tmp 10))⟩, ⟨none, (some 46), false, (.ixs 1 (.tmp 44) (.tmp 45))⟩, ⟨none, (some 47), false, (.ld1 (.tmp 46))⟩, ⟨none, (some 48), false, (.mov (.tmp 7))⟩, ⟨none, (some 49), false, (.call (.func 24) [(.tmp 47), (.tmp 48)])⟩, ⟨none, (some 11), false, (.mov (.tmp 49))⟩]
@[reducible] def c15s25 : C := (.ops c15r24 (some [1, 2, 6, 7, 8, 9, 10, 11]))
@[reducible] def c15s26 : C := (.seq c15s23 c15s25)
@[reducible] def c15s27 : C := (.cond (.tmp 41) c15s26 .skip)
@[reducible] def c15s28 : C := (.seq c15s19 c15s27)
@[reducible] def c15r29 : List J := [⟨none, (some 50), false, (.mov (.tmp 8))⟩, ⟨none, (some 51), false, (.mov (.tmp 11))⟩, ⟨none, (some 52), false, (.ixs 1 (.tmp 50) (.tmp 51))⟩, ⟨none, (some 53), false, (.ld1 (.tmp 52))⟩]
@[reducible] def c15s30 : C := (.ops c15r29 (some [1, 2, 6, 7, 8, 9, 10, 11, 53]))
@[reducible] def c15s31 : C := (.cond (.tmp 53) (.exit 1) .skip)
@[reducible] def c15s32 : C := (.seq c15s30 c15s31)
@[reducible] def c15r33 : List J := [⟨none, (some 54), false, (.mov (.tmp 8))⟩, ⟨none, (some 55), false, (.mov (.tmp 11))⟩, ⟨none, (some 56), false, (.ixs 1 (.tmp 54) (.tmp 55))⟩, ⟨none, none, false, (.st 1 (.tmp 56) (.const (.bool true)))⟩]
@[reducible] def c15s34 : C := (.ops c15r33 (some [1, 2, 6, 7, 8, 9, 10, 11]))
@[reducible] def c15r35 : List J := [⟨none, (some 57), false, (.mov (.tmp 6))⟩, ⟨none, (some 58), false, (.ldN 3 (.tmp 2))⟩, ⟨none, (some 59), false, (.mov (.tmp 11))⟩, ⟨none, (some 60), false, (.call (.func 54) [(.tmp 57), (.tmp 58), (.tmp 59)])⟩, ⟨none, (some 61), false, (.cmp .neq (.tmp 60) (.const (.int .i64 0)))⟩]
@[reducible] def c15s36 : C := (.ops c15r35 (some [1, 2, 6, 7, 8, 9, 10, 61]))
@[reducible] def c15r37 : List J := [⟨none, (some 62), false, (.mov (.tmp 9))⟩, ⟨none, (some 63), false, (.arith .add (.tmp 62) (.const (.int .i64 1)))⟩, ⟨none, (some 9), false, (.mov (.tmp 63))⟩]
@[reducible] def c15s38 : C := (.ops c15r37 (some [1, 2, 6, 7, 8, 9, 10]))
@[reducible] def c15s39 : C := (.cond (.tmp 61) c15s38 .skip)
@[reducible] def c15s40 : C := (.seq c15s36 c15s39)
@[reducible] def c15s41 : C := (.seq c15s34 c15s40)
@[reducible] def c15s42 : C := (.seq c15s32 c15s41)
@[reducible] def c15s43 : C := (.seq c15s28 c15s42)
@[reducible] def c15s44 : C := (.seq c15s17 c15s43)
@[reducible] def c15s45 : C := (.block 1 c15s44)
@[reducible] def c15r46 : List J := [⟨none, (some 32), false, (.mov (.tmp 10))⟩, ⟨none, (some 33), false, (.arith .add (.tmp 32) (.const (.int .i64 1)))⟩, ⟨none, (some 10), false, (.mov (.tmp 33))⟩]
@[reducible] def c15s47 : C := (.ops c15r46 (some [1, 2, 6, 7, 8, 9, 10]))
@[reducible] def c15s48 : C := (.seq c15s45 c15s47)
@[reducible] def c15s49 : C := (.seq c15s15 c15s48)
@[reducible] def c15s50 : C := (.loop c15s49)
@[reducible] def c15s51 : C := (.block 0 c15s50)
@[reducible] def c15s52 : C := (.seq c15s11 c15s51)
@[reducible] def c15r53 : List J := [⟨none, (some 64), false, (.mov (.tmp 6))⟩, ⟨none, (some 65), false, (.mov (.tmp 9))⟩, ⟨none, (some 4), false, (.mov (.tmp 64))⟩, ⟨none, (some 5), false, (.mov (.tmp 65))⟩]
@[reducible] def c15s54 : C := (.ops c15r53 (some [4, 5]))
@[reducible] def c15s55 : C := (.seq c15s54 .ret)
@[reducible] def c15s56 : C := (.seq c15s52 c15s55)
@[reducible] def c15s57 : C := (.seq c15s9 c15s56)
@[reducible] def c15s58 : C := (.seq c15s7 c15s57)
@[reducible] def c15s59 : C := (.seq c15s5 c15s58)
@[reducible] def c15s60 : C := (.seq c15s3 c15s59)
@[reducible] def c15 : C := (.seq c15s1 c15s60)
theorem f15 : compF Go.Proofs.Tryd.prog 15 = some ⟨66, strip c15, [(.tmp 4), (.tmp 5)]⟩ := by kernel_rfl
theorem o15 : okC 66 c15 = true := by kernel_rfl

@[reducible] def c51r0 : List J := [⟨none, (some 0), false, (.alloc [(.string ⟨#[]⟩), (.int .u8 0), (.int .u8 0), (.int .i64 0), (.int .i64 0), (.int .i64 0), (.int .u16 0), (.bool false), (.slice none 0 0)] 9 51)⟩]
@[reducible] def c51s1 : C := (.ops c51r0 (some [0]))
@[reducible] def c51r2 : List J := [⟨none, (some 1), false, (.bld [(.int .u8 0), (.int .u8 0), (.int .u8 0), (.int .i64 0), (.int .u8 0), (.int .u8 0), (.int .u8 0), (.string ⟨#[]⟩)] [(0, 1), (1, 1), (2, 1), (3, 1), (4, 1), (5, 1), (6, 1), (7, 1)] [(0, (.const (.int .u8 3))), (1, (.const (.int .u8 7))), (2, (.const (.int .u8 1))), (3, (.const (.int .i64 1))), (7, (.const (.string (btx [114, 111, 99, 107]))))])⟩, ⟨none, (some 2), false, (.bsl [(.int .u8 0), (.int .u8 0), (.int .u8 0), (.int .i64 0), (.int .u8 0), (.int .u8 0), (.int .u8 0), (.string ⟨#[]⟩)] 1 8 72 [(0, (.tmp 1))])⟩, ⟨none, (some 3), false, (.bld [(.string ⟨#[]⟩), (.int .u8 0), (.int .u8 0), (.int .i64 0), (.int .i64 0), (.int .i64 0), (.int .u16 0), (.bool false), (.slice none 0 0)] [(0, 1), (1, 1), (2, 1), (3, 1), (4, 1), (5, 1), (6, 1), (7, 1), (8, 1)] [(0, (.const (.string (btx [97, 120, 101])))), (1, (.const (.int .u8 1))), (2, (.const (.int .u8 3))), (3, (.const (.int .i64 2))), (8, (.tmp 2))])⟩, ⟨none, none, false, (.st 9 (.tmp 0) (.tmp 3))⟩]
@[reducible] def c51s3 : C := (.ops c51r2 (some [0]))
@[reducible] def c51s4 : C := (.seq c51s3 .ret)
@[reducible] def c51 : C := (.seq c51s1 c51s4)
theorem f51 : compF Go.Proofs.Tryd.prog 51 = some ⟨4, strip c51, [(.cell 0 51)]⟩ := by kernel_rfl
theorem o51 : okC 4 c51 = true := by kernel_rfl

@[reducible] def c52r0 : List J := [⟨none, (some 0), false, (.alloc [(.string ⟨#[]⟩), (.int .u8 0), (.int .u8 0), (.int .i64 0), (.int .i64 0), (.int .i64 0), (.int .u16 0), (.bool false), (.slice none 0 0)] 9 51)⟩]
@[reducible] def c52s1 : C := (.ops c52r0 (some [0]))
@[reducible] def c52r2 : List J := [⟨none, (some 1), false, (.bld [(.string ⟨#[]⟩), (.int .u8 0), (.int .u8 0), (.int .i64 0), (.int .i64 0), (.int .i64 0), (.int .u16 0), (.bool false), (.slice none 0 0)] [(0, 1), (1, 1), (2, 1), (3, 1), (4, 1), (5, 1), (6, 1), (7, 1), (8, 1)] [(0, (.const (.string (btx [114, 111, 99, 107])))), (1, (.const (.int .u8 2))), (2, (.const (.int .u8 1))), (3, (.const (.int .i64 1))), (5, (.const (.int .i64 3)))])⟩, ⟨none, none, false, (.st 9 (.tmp 0) (.tmp 1))⟩]
@[reducible] def c52s3 : C := (.ops c52r2 (some [0]))
@[reducible] def c52s4 : C := (.seq c52s3 .ret)
@[reducible] def c52 : C := (.seq c52s1 c52s4)
theorem f52 : compF Go.Proofs.Tryd.prog 52 = some ⟨2, strip c52, [(.cell 0 51)]⟩ := by kernel_rfl
theorem o52 : okC 2 c52 = true := by kernel_rfl

@[reducible] def c54r0 : List J := [⟨none, (some 4), false, (.box 47 (.tmp 1))⟩, ⟨none, (some 6), false, (.mov (.const (.int .i64 0)))⟩]
@[reducible] def c54s1 : C := (.ops c54r0 (some [0, 2, 4]))
@[reducible] def c54r2 : List J := [⟨none, (some 7), false, (.mov (.tmp 2))⟩, ⟨none, (some 8), false, (.faddr 0 (.tmp 4))⟩, ⟨none, (some 9), false, (.ld1 (.tmp 8))⟩, ⟨none, (some 10), false, (.len (.tmp 9))⟩, ⟨none, (some 11), false, (.cmp .lss (.tmp 7) (.tmp 10))⟩]
@[reducible] def c54s3 : C := (.ops c54r2 (some [0, 2, 4, 11]))
@[reducible] def c54r4 : List J := [⟨none, (some 12), false, (.mov (.tmp 0))⟩, ⟨none, (some 13), false, (.faddr 0 (.tmp 4))⟩, ⟨none, (some 14), false, (.ld1 (.tmp 13))⟩, ⟨none, (some 15), false, (.mov (.tmp 2))⟩, ⟨none, (some 16), false, (.ixs 9 (.tmp 14) (.tmp 15))⟩, ⟨none, (some 17), false, (.ldN 9 (.tmp 16))⟩, ⟨none, (some 18), false, (.call (.func 19) [(.tmp 12), (.tmp 17)])⟩, ⟨none, (some 6), false, (.mov (.tmp 18))⟩]
@[reducible] def c54s5 : C := (.ops c54r4 (some [6]))
@[reducible] def c54s6 : C := (.seq c54s5 .ret)
@[reducible] def c54s7 : C := (.cond (.tmp 11) c54s6 .skip)
@[reducible] def c54s8 : C := (.seq c54s3 c54s7)
@[reducible] def c54r9 : List J := [⟨none, (some 19), false, (.mov (.tmp 2))⟩, ⟨none, (some 20), false, (.faddr 0 (.tmp 4))⟩, ⟨none, (some 21), false, (.ld1 (.tmp 20))⟩, ⟨none, (some 22), false, (.len (.tmp 21))⟩, ⟨none, (some 23), false, (.arith .sub (.tmp 19) (.tmp 22))⟩, ⟨none, (some 2), false, (.mov (.tmp 23))⟩]
@[reducible] def c54s10 : C := (.ops c54r9 (some [0, 2, 4]))
@[reducible] def c54r11 : List J := [⟨none, (some 24), false, (.mov (.tmp 2))⟩, ⟨none, (some 25), false, (.faddr 1 (.tmp 4))⟩, ⟨none, (some 26), false, (.ld1 (.tmp 25))⟩, ⟨none, (some 27), false, (.len (.tmp 26))⟩, ⟨none, (some 28), false, (.cmp .lss (.tmp 24) (.tmp 27))⟩]
@[reducible] def c54s12 : C := (.ops c54r11 (some [0, 2, 4, 28]))
@[reducible] def c54r13 : List J := [⟨none, (some 29), false, (.mov (.tmp 0))⟩, ⟨none, (some 30), false, (.mov (.tmp 2))⟩, ⟨none, (some 31), false, (.arith .add (.const (.int .i64 1)) (.tmp 30))⟩, ⟨none, (some 32), false, (.cnv .u8 (.tmp 31))⟩, ⟨none, (some 33), false, (.faddr 1 (.tmp 4))⟩, ⟨none, (some 34), false, (.ld1 (.tmp 33))⟩, ⟨none, (some 35), false, (.mov (.tmp 2))⟩, ⟨none, (some 36), false, (.ixs 1 (.tmp 34) (.tmp 35))⟩, ⟨none, (some 37), false, (.ld1 (.tmp 36))⟩, ⟨none, (some 38), false, (.call (.func 20) [(.tmp 29), (.tmp 32), (.tmp 37)])⟩, ⟨none, (some 6), false, (.mov (.tmp 38))⟩]
@[reducible] def c54s14 : C := (.ops c54r13 (some [6]))
@[reducible] def c54s15 : C := (.seq c54s14 .ret)
@[reducible] def c54s16 : C := (.cond (.tmp 28) c54s15 .skip)
@[reducible] def c54s17 : C := (.seq c54s12 c54s16)
@[reducible] def c54r18 : List J := [⟨none, (some 39), false, (.mov (.tmp 0))⟩, ⟨none, (some 40), false, (.faddr 2 (.tmp 4))⟩, ⟨none, (some 41), false, (.ld1 (.tmp 40))⟩, ⟨none, (some 42), false, (.mov (.tmp 2))⟩, ⟨none, (some 43), false, (.faddr 1 (.tmp 4))⟩, ⟨none, (some 44), false, (.ld1 (.tmp 43))⟩, ⟨none, (some 45), false, (.len (.tmp 44))⟩, ⟨none, (some 46), false, (.arith .sub (.tmp 42) (.tmp 45))⟩, ⟨none, (some 47), false, (.ixs 4 (.tmp 41) (.tmp 46))⟩, ⟨none, (some 48), false, (.ldN 4 (.tmp 47))⟩, ⟨none, (some 49), false, (.call (.func 21) [(.tmp 39), (.tmp 48)])⟩, ⟨none, (some 6), false, (.mov (.tmp 49))⟩]
@[reducible] def c54s19 : C := (.ops c54r18 (some [6]))
@[reducible] def c54s20 : C := (.seq c54s19 .ret)
@[reducible] def c54s21 : C := (.seq c54s17 c54s20)
@[reducible] def c54s22 : C := (.seq c54s10 c54s21)
@[reducible] def c54s23 : C := (.seq c54s8 c54s22)
@[reducible] def c54 : C := (.seq c54s1 c54s23)
theorem f54 : compF Go.Proofs.Tryd.prog 54 = some ⟨50, strip c54, [(.tmp 6)]⟩ := by kernel_rfl
theorem o54 : okC 50 c54 = true := by kernel_rfl

@[reducible] def c24r0 : List J := [⟨none, (some 4), false, (.mov (.const (.int .i64 0)))⟩]
@[reducible] def c24s1 : C := (.ops c24r0 (some [0, 1]))
@[reducible] def c24r2 : List J := [⟨none, (some 5), false, (.mov (.tmp 1))⟩, ⟨none, (some 6), false, (.cmp .lss (.tmp 5) (.const (.int .i64 1)))⟩]
@[reducible] def c24s3 : C := (.ops c24r2 (some [0, 1, 6]))
@[reducible] def c24r4 : List J := [⟨none, (some 4), false, (.mov (.const (.int .i64 0)))⟩]
@[reducible] def c24s5 : C := (.ops c24r4 (some [4]))
@[reducible] def c24s6 : C := (.seq c24s5 .ret)
@[reducible] def c24s7 : C := (.cond (.tmp 6) c24s6 .skip)
@[reducible] def c24s8 : C := (.seq c24s3 c24s7)
@[reducible] def c24r9 : List J := [⟨none, (some 7), false, (.mov (.tmp 0))⟩, ⟨none, (some 8), false, (.mov (.tmp 1))⟩, ⟨none, (some 9), false, (.div .rem (.tmp 7) (.tmp 8))⟩, ⟨none, (some 0), false, (.mov (.tmp 9))⟩]
@[reducible] def c24s10 : C := (.ops c24r9 (some [0, 1]))
@[reducible] def c24r11 : List J := [⟨none, (some 10), false, (.mov (.tmp 0))⟩, ⟨none, (some 11), false, (.cmp .lss (.tmp 10) (.const (.int .i64 0)))⟩]
@[reducible] def c24s12 : C := (.ops c24r11 (some [0, 1, 11]))
@[reducible] def c24r13 : List J := [⟨none, (some 12), false, (.mov (.tmp 0))⟩, ⟨none, (some 13), false, (.mov (.tmp 1))⟩, ⟨none, (some 14), false, (.arith .add (.tmp 12) (.tmp 13))⟩, ⟨none, (some 0), false, (.mov (.tmp 14))⟩]
@[reducible] def c24s14 : C := (.ops c24r13 (some [0]))
@[reducible] def c24s15 : C := (.cond (.tmp 11) c24s14 .skip)
@[reducible] def c24s16 : C := (.seq c24s12 c24s15)
@[reducible] def c24r17 : List J := [⟨none, (some 15), false, (.mov (.tmp 0))⟩, ⟨none, (some 4), false, (.mov (.tmp 15))⟩]
@[reducible] def c24s18 : C := (.ops c24r17 (some [4]))
@[reducible] def c24s19 : C := (.seq c24s18 .ret)
@[reducible] def c24s20 : C := (.seq c24s16 c24s19)
@[reducible] def c24s21 : C := (.seq c24s10 c24s20)
@[reducible] def c24s22 : C := (.seq c24s8 c24s21)
@[reducible] def c24 : C := (.seq c24s1 c24s22)
theorem f24 : compF Go.Proofs.Tryd.prog 24 = some ⟨16, strip c24, [(.tmp 4)]⟩ := by kernel_rfl
theorem o24 : okC 16 c24 = true := by kernel_rfl

end Go.Proofs.YtdgbnaignpploaaDoor.k
