/- PRINTED BY symgen.py: the compiled code of functions 91 92 93 94 95 96 97 98 99 108 109 110 70. -/
import Derived.Test.YtdgbnaignpploaaDoorChecked
import Derived.Test.YtdgbnaignpploaaDoorSy
namespace Go.Proofs.YtdgbnaignpploaaDoor.k
open Go.Sym
set_option linter.unusedVariables false
set_option maxRecDepth 100000

@[reducible] def c91r0 : List J := [⟨none, (some 4), false, (.mov (.const (.bool false)))⟩, ⟨none, (some 5), false, (.mov (.const (.bool false)))⟩, ⟨none, (some 6), false, (.mov (.const (.bool false)))⟩, ⟨none, (some 7), false, (.mov (.const (.bool false)))⟩, ⟨none, (some 8), false, (.mov (.const (.bool false)))⟩]
@[reducible] def c91s1 : C := (.ops c91r0 (some [0, 1, 4, 5, 6, 7, 8]))
@[reducible] def c91r2 : List J := [⟨none, (some 9), false, (.mov (.tmp 0))⟩]
@[reducible] def c91s3 : C := (.ops c91r2 (some [1, 4, 5, 6, 7, 8, 9]))
@[reducible] def c91r4 : List J := [⟨none, (some 11), false, (.cmp .eql (.tmp 9) (.const (.int .u8 1)))⟩, ⟨none, (some 10), false, (.mov (.tmp 11))⟩]
@[reducible] def c91s5 : C := (.ops c91r4 (some [1, 4, 5, 6, 7, 8, 9, 10]))
@[reducible] def c91r6 : List J := [⟨none, (some 12), false, (.cmp .eql (.tmp 9) (.const (.int .u8 2)))⟩, ⟨none, (some 10), false, (.mov (.tmp 12))⟩]
@[reducible] def c91s7 : C := (.ops c91r6 (some [1, 4, 5, 6, 7, 8, 9, 10]))
@[reducible] def c91r8 : List J := [⟨none, (some 13), false, (.cmp .eql (.tmp 9) (.const (.int .u8 3)))⟩, ⟨none, (some 10), false, (.mov (.tmp 13))⟩]
@[reducible] def c91s9 : C := (.ops c91r8 (some [1, 4, 5, 6, 7, 8, 9, 10]))
@[reducible] def c91r10 : List J := [⟨none, (some 14), false, (.cmp .eql (.tmp 9) (.const (.int .u8 4)))⟩, ⟨none, (some 10), false, (.mov (.tmp 14))⟩]
@[reducible] def c91s11 : C := (.ops c91r10 (some [1, 4, 5, 6, 7, 8, 9, 10]))
@[reducible] def c91r12 : List J := [⟨none, (some 15), false, (.cmp .eql (.tmp 9) (.const (.int .u8 5)))⟩, ⟨none, (some 10), false, (.mov (.tmp 15))⟩]
@[reducible] def c91s13 : C := (.ops c91r12 (some [1, 4, 5, 6, 7, 8, 9, 10]))
@[reducible] def c91r14 : List J := [⟨none, (some 16), false, (.cmp .eql (.tmp 9) (.const (.int .u8 14)))⟩, ⟨none, (some 10), false, (.mov (.tmp 16))⟩]
@[reducible] def c91s15 : C := (.ops c91r14 (some [1, 4, 5, 6, 7, 8, 9, 10]))
@[reducible] def c91r16 : List J := [⟨none, (some 17), false, (.cmp .eql (.tmp 9) (.const (.int .u8 15)))⟩, ⟨none, (some 10), false, (.mov (.tmp 17))⟩]
@[reducible] def c91s17 : C := (.ops c91r16 (some [1, 4, 5, 6, 7, 8, 9, 10]))
@[reducible] def c91r18 : List J := [⟨none, (some 18), false, (.cmp .eql (.tmp 9) (.const (.int .u8 16)))⟩, ⟨none, (some 10), false, (.mov (.tmp 18))⟩]
@[reducible] def c91s19 : C := (.ops c91r18 (some [1, 4, 5, 6, 7, 8, 9, 10]))
@[reducible] def c91r20 : List J := [⟨none, (some 19), false, (.cmp .eql (.tmp 9) (.const (.int .u8 19)))⟩, ⟨none, (some 10), false, (.mov (.tmp 19))⟩]
@[reducible] def c91s21 : C := (.ops c91r20 (some [1, 4, 5, 6, 7, 8, 9, 10]))
@[reducible] def c91s22 : C := (.cond (.tmp 10) .skip c91s21)
@[reducible] def c91s23 : C := (.seq c91s19 c91s22)
@[reducible] def c91s24 : C := (.cond (.tmp 10) .skip c91s23)
@[reducible] def c91s25 : C := (.seq c91s17 c91s24)
@[reducible] def c91s26 : C := (.cond (.tmp 10) .skip c91s25)
@[reducible] def c91s27 : C := (.seq c91s15 c91s26)
@[reducible] def c91s28 : C := (.cond (.tmp 10) .skip c91s27)
@[reducible] def c91s29 : C := (.seq c91s13 c91s28)
@[reducible] def c91s30 : C := (.cond (.tmp 10) .skip c91s29)
@[reducible] def c91s31 : C := (.seq c91s11 c91s30)
@[reducible] def c91s32 : C := (.cond (.tmp 10) .skip c91s31)
@[reducible] def c91s33 : C := (.seq c91s9 c91s32)
@[reducible] def c91s34 : C := (.cond (.tmp 10) .skip c91s33)
@[reducible] def c91s35 : C := (.seq c91s7 c91s34)
@[reducible] def c91s36 : C := (.cond (.tmp 10) .skip c91s35)
@[reducible] def c91s37 : C := (.seq c91s5 c91s36)
@[reducible] def c91r38 : List J := [⟨none, (some 4), false, (.mov (.const (.bool true)))⟩]
@[reducible] def c91s39 : C := (.ops c91r38 (some [1, 4, 5, 6, 7, 8]))
@[reducible] def c91r40 : List J := [⟨none, (some 21), false, (.cmp .eql (.tmp 9) (.const (.int .u8 9)))⟩, ⟨none, (some 20), false, (.mov (.tmp 21))⟩]
@[reducible] def c91s41 : C := (.ops c91r40 (some [1, 4, 5, 6, 7, 8, 9, 20]))
@[reducible] def c91r42 : List J := [⟨none, (some 4), false, (.mov (.const (.bool true)))⟩, ⟨none, (some 7), false, (.mov (.const (.bool true)))⟩]
@[reducible] def c91s43 : C := (.ops c91r42 (some [1, 4, 5, 6, 7, 8]))
@[reducible] def c91r44 : List J := [⟨none, (some 23), false, (.cmp .eql (.tmp 9) (.const (.int .u8 7)))⟩, ⟨none, (some 22), false, (.mov (.tmp 23))⟩]
@[reducible] def c91s45 : C := (.ops c91r44 (some [1, 4, 5, 6, 7, 8, 9, 22]))
@[reducible] def c91r46 : List J := [⟨none, (some 4), false, (.mov (.const (.bool true)))⟩, ⟨none, (some 8), false, (.mov (.const (.bool true)))⟩]
@[reducible] def c91s47 : C := (.ops c91r46 (some [1, 4, 5, 6, 7, 8]))
@[reducible] def c91r48 : List J := [⟨none, (some 25), false, (.cmp .eql (.tmp 9) (.const (.int .u8 11)))⟩, ⟨none, (some 24), false, (.mov (.tmp 25))⟩]
@[reducible] def c91s49 : C := (.ops c91r48 (some [1, 4, 5, 6, 7, 8, 9, 24]))
@[reducible] def c91r50 : List J := [⟨none, (some 5), false, (.mov (.const (.bool true)))⟩]
@[reducible] def c91s51 : C := (.ops c91r50 (some [1, 4, 5, 6, 7, 8]))
@[reducible] def c91r52 : List J := [⟨none, (some 27), false, (.cmp .eql (.tmp 9) (.const (.int .u8 12)))⟩, ⟨none, (some 26), false, (.mov (.tmp 27))⟩]
@[reducible] def c91s53 : C := (.ops c91r52 (some [1, 4, 5, 6, 7, 8, 9, 26]))
@[reducible] def c91r54 : List J := [⟨none, (some 28), false, (.cmp .eql (.tmp 9) (.const (.int .u8 13)))⟩, ⟨none, (some 26), false, (.mov (.tmp 28))⟩]
@[reducible] def c91s55 : C := (.ops c91r54 (some [1, 4, 5, 6, 7, 8, 26]))
@[reducible] def c91s56 : C := (.cond (.tmp 26) .skip c91s55)
@[reducible] def c91s57 : C := (.seq c91s53 c91s56)
@[reducible] def c91r58 : List J := [⟨none, (some 6), false, (.mov (.const (.bool true)))⟩]
@[reducible] def c91s59 : C := (.ops c91r58 (some [1, 4, 5, 6, 7, 8]))
@[reducible] def c91s60 : C := (.cond (.tmp 26) c91s59 .skip)
@[reducible] def c91s61 : C := (.seq c91s57 c91s60)
@[reducible] def c91s62 : C := (.cond (.tmp 24) c91s51 c91s61)
@[reducible] def c91s63 : C := (.seq c91s49 c91s62)
@[reducible] def c91s64 : C := (.cond (.tmp 22) c91s47 c91s63)
@[reducible] def c91s65 : C := (.seq c91s45 c91s64)
@[reducible] def c91s66 : C := (.cond (.tmp 20) c91s43 c91s65)
@[reducible] def c91s67 : C := (.seq c91s41 c91s66)
@[reducible] def c91s68 : C := (.cond (.tmp 10) c91s39 c91s67)
@[reducible] def c91s69 : C := (.seq c91s37 c91s68)
@[reducible] def c91s70 : C := (.block 0 c91s69)
@[reducible] def c91s71 : C := (.seq c91s3 c91s70)
@[reducible] def c91r72 : List J := [⟨none, (some 29), false, (.mov (.tmp 4))⟩, ⟨none, (some 30), false, (.mov (.tmp 5))⟩, ⟨none, (some 31), false, (.mov (.tmp 30))⟩, ⟨(some ((some 31), false)), (some 32), false, (.mov (.tmp 1))⟩, ⟨(some ((some 31), false)), (some 33), false, (.cmp .eql (.tmp 32) (.const (.int .u8 9)))⟩, ⟨none, (some 34), false, (.pick (.tmp 31) (.const (.bool true)) (.tmp 33))⟩, ⟨none, (some 35), false, (.mov (.tmp 6))⟩, ⟨none, (some 36), false, (.mov (.tmp 35))⟩, ⟨(some ((some 36), false)), (some 37), false, (.mov (.tmp 1))⟩, ⟨(some ((some 36), false)), (some 38), false, (.cmp .eql (.tmp 37) (.const (.int .u8 10)))⟩, ⟨none, (some 39), false, (.pick (.tmp 36) (.const (.bool true)) (.tmp 38))⟩, ⟨none, (some 40), false, (.mov (.tmp 7))⟩, ⟨none, (some 41), false, (.mov (.tmp 8))⟩, ⟨none, (some 4), false, (.mov (.tmp 29))⟩, ⟨none, (some 5), false, (.mov (.tmp 34))⟩, ⟨none, (some 6), false, (.mov (.tmp 39))⟩, ⟨none, (some 7), false, (.mov (.tmp 40))⟩, ⟨none, (some 8), false, (.mov (.tmp 41))⟩]
@[reducible] def c91s73 : C := (.ops c91r72 (some [4, 5, 6, 7, 8]))
@[reducible] def c91s74 : C := (.seq c91s73 .ret)
@[reducible] def c91s75 : C := (.seq c91s71 c91s74)
@[reducible] def c91 : C := (.seq c91s1 c91s75)
theorem f91 : compF Go.Proofs.Tryd.prog 91 = some ⟨42, strip c91, [(.tmp 4), (.tmp 5), (.tmp 6), (.tmp 7), (.tmp 8)]⟩ := by kernel_rfl
theorem o91 : okC 42 c91 = true := by kernel_rfl

@[reducible] def c92r0 : List J := [⟨none, (some 2), false, (.mov (.const (.int .i64 0)))⟩, ⟨none, (some 3), false, (.mov (.const (.int .i64 0)))⟩, ⟨none, (some 4), false, (.mov (.const (.bool false)))⟩]
@[reducible] def c92s1 : C := (.ops c92r0 (some [0]))
@[reducible] def c92r2 : List J := [⟨none, (some 5), false, (.mov (.tmp 0))⟩]
@[reducible] def c92s3 : C := (.ops c92r2 (some [5]))
@[reducible] def c92r4 : List J := [⟨none, (some 7), false, (.cmp .eql (.tmp 5) (.const (.int .u8 9)))⟩, ⟨none, (some 6), false, (.mov (.tmp 7))⟩]
@[reducible] def c92s5 : C := (.ops c92r4 (some [5, 6]))
@[reducible] def c92r6 : List J := [⟨none, (some 8), false, (.cmp .eql (.tmp 5) (.const (.int .u8 15)))⟩, ⟨none, (some 6), false, (.mov (.tmp 8))⟩]
@[reducible] def c92s7 : C := (.ops c92r6 (some [5, 6]))
@[reducible] def c92s8 : C := (.cond (.tmp 6) .skip c92s7)
@[reducible] def c92s9 : C := (.seq c92s5 c92s8)
@[reducible] def c92r10 : List J := [⟨none, (some 2), false, (.mov (.const (.int .i64 (-99))))⟩, ⟨none, (some 3), false, (.mov (.const (.int .i64 99)))⟩, ⟨none, (some 4), false, (.mov (.const (.bool false)))⟩]
@[reducible] def c92s11 : C := (.ops c92r10 (some [2, 3, 4]))
@[reducible] def c92s12 : C := (.seq c92s11 .ret)
@[reducible] def c92r13 : List J := [⟨none, (some 10), false, (.cmp .eql (.tmp 5) (.const (.int .u8 5)))⟩, ⟨none, (some 9), false, (.mov (.tmp 10))⟩]
@[reducible] def c92s14 : C := (.ops c92r13 (some [5, 9]))
@[reducible] def c92r15 : List J := [⟨none, (some 2), false, (.mov (.const (.int .i64 (-9))))⟩, ⟨none, (some 3), false, (.mov (.const (.int .i64 9)))⟩, ⟨none, (some 4), false, (.mov (.const (.bool false)))⟩]
@[reducible] def c92s16 : C := (.ops c92r15 (some [2, 3, 4]))
@[reducible] def c92s17 : C := (.seq c92s16 .ret)
@[reducible] def c92r18 : List J := [⟨none, (some 12), false, (.cmp .eql (.tmp 5) (.const (.int .u8 14)))⟩, ⟨none, (some 11), false, (.mov (.tmp 12))⟩]
@[reducible] def c92s19 : C := (.ops c92r18 (some [11]))
@[reducible] def c92r20 : List J := [⟨none, (some 2), false, (.mov (.const (.int .i64 0)))⟩, ⟨none, (some 3), false, (.mov (.const (.int .i64 99)))⟩, ⟨none, (some 4), false, (.mov (.const (.bool true)))⟩]
@[reducible] def c92s21 : C := (.ops c92r20 (some [2, 3, 4]))
@[reducible] def c92s22 : C := (.seq c92s21 .ret)
@[reducible] def c92s23 : C := (.cond (.tmp 11) c92s22 .skip)
@[reducible] def c92s24 : C := (.seq c92s19 c92s23)
@[reducible] def c92s25 : C := (.cond (.tmp 9) c92s17 c92s24)
@[reducible] def c92s26 : C := (.seq c92s14 c92s25)
@[reducible] def c92s27 : C := (.cond (.tmp 6) c92s12 c92s26)
@[reducible] def c92s28 : C := (.seq c92s9 c92s27)
@[reducible] def c92s29 : C := (.block 0 c92s28)
@[reducible] def c92s30 : C := (.seq c92s3 c92s29)
@[reducible] def c92r31 : List J := [⟨none, (some 2), false, (.mov (.const (.int .i64 1)))⟩, ⟨none, (some 3), false, (.mov (.const (.int .i64 99)))⟩, ⟨none, (some 4), false, (.mov (.const (.bool false)))⟩]
@[reducible] def c92s32 : C := (.ops c92r31 (some [2, 3, 4]))
@[reducible] def c92s33 : C := (.seq c92s32 .ret)
@[reducible] def c92s34 : C := (.seq c92s30 c92s33)
@[reducible] def c92 : C := (.seq c92s1 c92s34)
theorem f92 : compF Go.Proofs.Tryd.prog 92 = some ⟨13, strip c92, [(.tmp 2), (.tmp 3), (.tmp 4)]⟩ := by kernel_rfl
theorem o92 : okC 13 c92 = true := by kernel_rfl

@[reducible] def c93r0 : List J := [⟨none, (some 4), false, (.mov (.const (.bool false)))⟩]
@[reducible] def c93s1 : C := (.ops c93r0 (some [0, 1]))
@[reducible] def c93r2 : List J := [⟨none, (some 5), false, (.mov (.tmp 0))⟩]
@[reducible] def c93s3 : C := (.ops c93r2 (some [1, 5]))
@[reducible] def c93r4 : List J := [⟨none, (some 7), false, (.cmp .eql (.tmp 5) (.const (.int .u8 5)))⟩, ⟨none, (some 6), false, (.mov (.tmp 7))⟩]
@[reducible] def c93s5 : C := (.ops c93r4 (some [1, 5, 6]))
@[reducible] def c93r6 : List J := [⟨none, (some 8), false, (.mov (.tmp 1))⟩, ⟨none, (some 9), false, (.call (.func 108) [(.tmp 8)])⟩, ⟨none, (some 4), false, (.mov (.tmp 9))⟩]
@[reducible] def c93s7 : C := (.ops c93r6 (some [4]))
@[reducible] def c93s8 : C := (.seq c93s7 .ret)
@[reducible] def c93r9 : List J := [⟨none, (some 11), false, (.cmp .eql (.tmp 5) (.const (.int .u8 6)))⟩, ⟨none, (some 10), false, (.mov (.tmp 11))⟩]
@[reducible] def c93s10 : C := (.ops c93r9 (some [1, 10]))
@[reducible] def c93r11 : List J := [⟨none, (some 12), false, (.mov (.tmp 1))⟩, ⟨none, (some 13), false, (.call (.func 109) [(.tmp 12)])⟩, ⟨none, (some 4), false, (.mov (.tmp 13))⟩]
@[reducible] def c93s12 : C := (.ops c93r11 (some [4]))
@[reducible] def c93s13 : C := (.seq c93s12 .ret)
@[reducible] def c93s14 : C := (.cond (.tmp 10) c93s13 .skip)
@[reducible] def c93s15 : C := (.seq c93s10 c93s14)
@[reducible] def c93s16 : C := (.cond (.tmp 6) c93s8 c93s15)
@[reducible] def c93s17 : C := (.seq c93s5 c93s16)
@[reducible] def c93s18 : C := (.block 0 c93s17)
@[reducible] def c93s19 : C := (.seq c93s3 c93s18)
@[reducible] def c93r20 : List J := [⟨none, (some 14), false, (.mov (.tmp 1))⟩, ⟨none, (some 15), false, (.call (.func 110) [(.tmp 14)])⟩, ⟨none, (some 4), false, (.mov (.tmp 15))⟩]
@[reducible] def c93s21 : C := (.ops c93r20 (some [4]))
@[reducible] def c93s22 : C := (.seq c93s21 .ret)
@[reducible] def c93s23 : C := (.seq c93s19 c93s22)
@[reducible] def c93 : C := (.seq c93s1 c93s23)
theorem f93 : compF Go.Proofs.Tryd.prog 93 = some ⟨16, strip c93, [(.tmp 4)]⟩ := by kernel_rfl
theorem o93 : okC 16 c93 = true := by kernel_rfl

@[reducible] def c94r0 : List J := [⟨none, (some 1), false, (.box 72 (.tmp 0))⟩, ⟨none, (some 2), false, (.mov (.const (.bool false)))⟩]
@[reducible] def c94s1 : C := (.ops c94r0 (some [1]))
@[reducible] def c94r2 : List J := [⟨none, (some 4), false, (.faddr 2 (.tmp 1))⟩, ⟨none, (some 5), false, (.ld1 (.tmp 4))⟩, ⟨none, (some 6), false, (.cmp .eql (.tmp 5) (.const (.int .u8 1)))⟩, ⟨none, (some 7), false, (.mov (.tmp 6))⟩, ⟨(some ((some 7), false)), (some 8), false, (.faddr 2 (.tmp 1))⟩, ⟨(some ((some 7), false)), (some 9), false, (.ld1 (.tmp 8))⟩, ⟨(some ((some 7), false)), (some 10), false, (.cmp .eql (.tmp 9) (.const (.int .u8 2)))⟩, ⟨none, (some 11), false, (.pick (.tmp 7) (.const (.bool true)) (.tmp 10))⟩, ⟨none, (some 3), false, (.mov (.tmp 11))⟩]
@[reducible] def c94s3 : C := (.ops c94r2 (some [1, 3]))
@[reducible] def c94r4 : List J := [⟨none, (some 13), false, (.faddr 1 (.tmp 1))⟩, ⟨none, (some 14), false, (.ld1 (.tmp 13))⟩, ⟨none, (some 15), false, (.call (.func 108) [(.tmp 14)])⟩, ⟨none, (some 12), false, (.mov (.tmp 15))⟩]
@[reducible] def c94s5 : C := (.ops c94r4 (some [1, 3, 12]))
@[reducible] def c94r6 : List J := [⟨none, (some 16), false, (.mov (.tmp 3))⟩, ⟨none, (some 17), false, (.un .not (.tmp 16))⟩, ⟨none, (some 18), false, (.mov (.tmp 17))⟩, ⟨(some ((some 18), true)), (some 19), false, (.faddr 2 (.tmp 1))⟩, ⟨(some ((some 18), true)), (some 20), false, (.ld1 (.tmp 19))⟩, ⟨(some ((some 18), true)), (some 21), false, (.cmp .neq (.tmp 20) (.const (.int .u8 3)))⟩, ⟨none, (some 22), false, (.pick (.tmp 18) (.tmp 21) (.const (.bool false)))⟩, ⟨none, (some 2), false, (.mov (.tmp 22))⟩]
@[reducible] def c94s7 : C := (.ops c94r6 (some [2]))
@[reducible] def c94s8 : C := (.seq c94s7 .ret)
@[reducible] def c94r9 : List J := [⟨none, (some 24), false, (.faddr 1 (.tmp 1))⟩, ⟨none, (some 25), false, (.ld1 (.tmp 24))⟩, ⟨none, (some 26), false, (.call (.func 109) [(.tmp 25)])⟩, ⟨none, (some 23), false, (.mov (.tmp 26))⟩]
@[reducible] def c94s10 : C := (.ops c94r9 (some [1, 3, 23]))
@[reducible] def c94r11 : List J := [⟨none, (some 27), false, (.faddr 2 (.tmp 1))⟩, ⟨none, (some 28), false, (.ld1 (.tmp 27))⟩, ⟨none, (some 29), false, (.cmp .neq (.tmp 28) (.const (.int .u8 3)))⟩, ⟨none, (some 2), false, (.mov (.tmp 29))⟩]
@[reducible] def c94s12 : C := (.ops c94r11 (some [2]))
@[reducible] def c94s13 : C := (.seq c94s12 .ret)
@[reducible] def c94r14 : List J := [⟨none, (some 31), false, (.faddr 2 (.tmp 1))⟩, ⟨none, (some 32), false, (.ld1 (.tmp 31))⟩, ⟨none, (some 33), false, (.cmp .eql (.tmp 32) (.const (.int .u8 3)))⟩, ⟨none, (some 30), false, (.mov (.tmp 33))⟩]
@[reducible] def c94s15 : C := (.ops c94r14 (some [1, 3, 30]))
@[reducible] def c94r16 : List J := [⟨none, (some 34), false, (.faddr 0 (.tmp 1))⟩, ⟨none, (some 35), false, (.ld1 (.tmp 34))⟩, ⟨none, (some 36), false, (.cmp .eql (.tmp 35) (.const (.int .u8 1)))⟩, ⟨none, (some 2), false, (.mov (.tmp 36))⟩]
@[reducible] def c94s17 : C := (.ops c94r16 (some [2]))
@[reducible] def c94s18 : C := (.seq c94s17 .ret)
@[reducible] def c94s19 : C := (.cond (.tmp 30) c94s18 .skip)
@[reducible] def c94s20 : C := (.seq c94s15 c94s19)
@[reducible] def c94s21 : C := (.cond (.tmp 23) c94s13 c94s20)
@[reducible] def c94s22 : C := (.seq c94s10 c94s21)
@[reducible] def c94s23 : C := (.cond (.tmp 12) c94s8 c94s22)
@[reducible] def c94s24 : C := (.seq c94s5 c94s23)
@[reducible] def c94s25 : C := (.block 0 c94s24)
@[reducible] def c94r26 : List J := [⟨none, (some 37), false, (.mov (.tmp 3))⟩, ⟨none, (some 38), false, (.un .not (.tmp 37))⟩, ⟨none, (some 39), false, (.mov (.tmp 38))⟩, ⟨(some ((some 39), false)), (some 40), false, (.faddr 1 (.tmp 1))⟩, ⟨(some ((some 39), false)), (some 41), false, (.ld1 (.tmp 40))⟩, ⟨(some ((some 39), false)), (some 42), false, (.cmp .neq (.tmp 41) (.const (.int .u8 6)))⟩, ⟨(some ((some 39), false)), (some 43), false, (.mov (.tmp 42))⟩, ⟨(some ((some 43), true)), (some 44), false, (.faddr 1 (.tmp 1))⟩, ⟨(some ((some 43), true)), (some 45), false, (.ld1 (.tmp 44))⟩, ⟨(some ((some 43), true)), (some 46), false, (.cmp .neq (.tmp 45) (.const (.int .u8 8)))⟩, ⟨(some ((some 39), false)), (some 47), false, (.pick (.tmp 43) (.tmp 46) (.const (.bool false)))⟩, ⟨(some ((some 39), false)), (some 48), false, (.mov (.tmp 47))⟩, ⟨(some ((some 48), true)), (some 49), false, (.faddr 1 (.tmp 1))⟩, ⟨(some ((some 48), true)), (some 50), false, (.ld1 (.tmp 49))⟩, ⟨(some ((some 48), true)), (some 51), false, (.cmp .neq (.tmp 50) (.const (.int .u8 9)))⟩, ⟨(some ((some 39), false)), (some 52), false, (.pick (.tmp 48) (.tmp 51) (.const (.bool false)))⟩, ⟨none, (some 53), false, (.pick (.tmp 39) (.const (.bool true)) (.tmp 52))⟩, ⟨none, (some 2), false, (.mov (.tmp 53))⟩]
@[reducible] def c94s27 : C := (.ops c94r26 (some [2]))
@[reducible] def c94s28 : C := (.seq c94s27 .ret)
@[reducible] def c94s29 : C := (.seq c94s25 c94s28)
@[reducible] def c94s30 : C := (.seq c94s3 c94s29)
@[reducible] def c94 : C := (.seq c94s1 c94s30)
theorem f94 : compF Go.Proofs.Tryd.prog 94 = some ⟨54, strip c94, [(.tmp 2)]⟩ := by kernel_rfl
theorem o94 : okC 54 c94 = true := by kernel_rfl

@[reducible] def c95r0 : List J := [⟨none, (some 8), false, (.mov (.const (.bool false)))⟩]
@[reducible] def c95s1 : C := (.ops c95r0 (some [0, 1, 2, 3]))
@[reducible] def c95r2 : List J := [⟨none, (some 9), false, (.mov (.tmp 1))⟩, ⟨none, (some 10), false, (.un .not (.tmp 9))⟩]
@[reducible] def c95s3 : C := (.ops c95r2 (some [0, 2, 3, 10]))
@[reducible] def c95r4 : List J := [⟨none, (some 11), false, (.mov (.tmp 0))⟩, ⟨none, (some 12), false, (.cmp .eql (.tmp 11) (.const (.int .i64 0)))⟩, ⟨none, (some 8), false, (.mov (.tmp 12))⟩]
@[reducible] def c95s5 : C := (.ops c95r4 (some [8]))
@[reducible] def c95s6 : C := (.seq c95s5 .ret)
@[reducible] def c95s7 : C := (.cond (.tmp 10) c95s6 .skip)
@[reducible] def c95s8 : C := (.seq c95s3 c95s7)
@[reducible] def c95r9 : List J := [⟨none, (some 13), false, (.mov (.tmp 0))⟩, ⟨none, (some 14), false, (.mov (.tmp 2))⟩, ⟨none, (some 15), false, (.cmp .geq (.tmp 13) (.tmp 14))⟩, ⟨none, (some 16), false, (.mov (.tmp 15))⟩, ⟨(some ((some 16), true)), (some 17), false, (.mov (.tmp 0))⟩, ⟨(some ((some 16), true)), (some 18), false, (.mov (.tmp 3))⟩, ⟨(some ((some 16), true)), (some 19), false, (.cmp .leq (.tmp 17) (.tmp 18))⟩, ⟨none, (some 20), false, (.pick (.tmp 16) (.tmp 19) (.const (.bool false)))⟩, ⟨none, (some 8), false, (.mov (.tmp 20))⟩]
@[reducible] def c95s10 : C := (.ops c95r9 (some [8]))
@[reducible] def c95s11 : C := (.seq c95s10 .ret)
@[reducible] def c95s12 : C := (.seq c95s8 c95s11)
@[reducible] def c95 : C := (.seq c95s1 c95s12)
theorem f95 : compF Go.Proofs.Tryd.prog 95 = some ⟨21, strip c95, [(.tmp 8)]⟩ := by kernel_rfl
theorem o95 : okC 21 c95 = true := by kernel_rfl

@[reducible] def c96r0 : List J := [⟨none, (some 8), false, (.mov (.const (.bool false)))⟩]
@[reducible] def c96s1 : C := (.ops c96r0 (some [0, 1, 2, 3]))
@[reducible] def c96r2 : List J := [⟨none, (some 9), false, (.mov (.tmp 1))⟩, ⟨none, (some 10), false, (.un .not (.tmp 9))⟩]
@[reducible] def c96s3 : C := (.ops c96r2 (some [0, 2, 3, 10]))
@[reducible] def c96r4 : List J := [⟨none, (some 11), false, (.mov (.tmp 0))⟩, ⟨none, (some 12), false, (.cmp .eql (.tmp 11) (.const (.int .u8 0)))⟩, ⟨none, (some 8), false, (.mov (.tmp 12))⟩]
@[reducible] def c96s5 : C := (.ops c96r4 (some [8]))
@[reducible] def c96s6 : C := (.seq c96s5 .ret)
@[reducible] def c96s7 : C := (.cond (.tmp 10) c96s6 .skip)
@[reducible] def c96s8 : C := (.seq c96s3 c96s7)
@[reducible] def c96r9 : List J := [⟨none, (some 13), false, (.mov (.tmp 0))⟩, ⟨none, (some 14), false, (.mov (.tmp 2))⟩, ⟨none, (some 15), false, (.cmp .geq (.tmp 13) (.tmp 14))⟩, ⟨none, (some 16), false, (.mov (.tmp 15))⟩, ⟨(some ((some 16), true)), (some 17), false, (.mov (.tmp 0))⟩, ⟨(some ((some 16), true)), (some 18), false, (.mov (.tmp 3))⟩, ⟨(some ((some 16), true)), (some 19), false, (.cmp .leq (.tmp 17) (.tmp 18))⟩, ⟨none, (some 20), false, (.pick (.tmp 16) (.tmp 19) (.const (.bool false)))⟩, ⟨none, (some 8), false, (.mov (.tmp 20))⟩]
@[reducible] def c96s10 : C := (.ops c96r9 (some [8]))
@[reducible] def c96s11 : C := (.seq c96s10 .ret)
@[reducible] def c96s12 : C := (.seq c96s8 c96s11)
@[reducible] def c96 : C := (.seq c96s1 c96s12)
theorem f96 : compF Go.Proofs.Tryd.prog 96 = some ⟨21, strip c96, [(.tmp 8)]⟩ := by kernel_rfl
theorem o96 : okC 21 c96 = true := by kernel_rfl

@[reducible] def c97r0 : List J := [⟨none, (some 8), false, (.mov (.const (.bool false)))⟩]
@[reducible] def c97s1 : C := (.ops c97r0 (some [0, 1, 2, 3]))
@[reducible] def c97r2 : List J := [⟨none, (some 9), false, (.mov (.tmp 1))⟩, ⟨none, (some 10), false, (.un .not (.tmp 9))⟩]
@[reducible] def c97s3 : C := (.ops c97r2 (some [0, 2, 3, 10]))
@[reducible] def c97r4 : List J := [⟨none, (some 11), false, (.mov (.tmp 0))⟩, ⟨none, (some 12), false, (.cmp .eql (.tmp 11) (.const (.int .u8 0)))⟩, ⟨none, (some 8), false, (.mov (.tmp 12))⟩]
@[reducible] def c97s5 : C := (.ops c97r4 (some [8]))
@[reducible] def c97s6 : C := (.seq c97s5 .ret)
@[reducible] def c97s7 : C := (.cond (.tmp 10) c97s6 .skip)
@[reducible] def c97s8 : C := (.seq c97s3 c97s7)
@[reducible] def c97r9 : List J := [⟨none, (some 13), false, (.mov (.tmp 0))⟩, ⟨none, (some 14), false, (.mov (.tmp 2))⟩, ⟨none, (some 15), false, (.cmp .geq (.tmp 13) (.tmp 14))⟩, ⟨none, (some 16), false, (.mov (.tmp 15))⟩, ⟨(some ((some 16), true)), (some 17), false, (.mov (.tmp 0))⟩, ⟨(some ((some 16), true)), (some 18), false, (.mov (.tmp 3))⟩, ⟨(some ((some 16), true)), (some 19), false, (.cmp .leq (.tmp 17) (.tmp 18))⟩, ⟨none, (some 20), false, (.pick (.tmp 16) (.tmp 19) (.const (.bool false)))⟩, ⟨none, (some 8), false, (.mov (.tmp 20))⟩]
@[reducible] def c97s10 : C := (.ops c97r9 (some [8]))
@[reducible] def c97s11 : C := (.seq c97s10 .ret)
@[reducible] def c97s12 : C := (.seq c97s8 c97s11)
@[reducible] def c97 : C := (.seq c97s1 c97s12)
theorem f97 : compF Go.Proofs.Tryd.prog 97 = some ⟨21, strip c97, [(.tmp 8)]⟩ := by kernel_rfl
theorem o97 : okC 21 c97 = true := by kernel_rfl

@[reducible] def c98r0 : List J := [⟨none, (some 8), false, (.mov (.const (.bool false)))⟩]
@[reducible] def c98s1 : C := (.ops c98r0 (some [0, 1, 2, 3]))
@[reducible] def c98r2 : List J := [⟨none, (some 9), false, (.mov (.tmp 1))⟩, ⟨none, (some 10), false, (.un .not (.tmp 9))⟩]
@[reducible] def c98s3 : C := (.ops c98r2 (some [0, 2, 3, 10]))
@[reducible] def c98r4 : List J := [⟨none, (some 11), false, (.mov (.tmp 0))⟩, ⟨none, (some 12), false, (.cmp .eql (.tmp 11) (.const (.int .u8 0)))⟩, ⟨none, (some 8), false, (.mov (.tmp 12))⟩]
@[reducible] def c98s5 : C := (.ops c98r4 (some [8]))
@[reducible] def c98s6 : C := (.seq c98s5 .ret)
@[reducible] def c98s7 : C := (.cond (.tmp 10) c98s6 .skip)
@[reducible] def c98s8 : C := (.seq c98s3 c98s7)
@[reducible] def c98r9 : List J := [⟨none, (some 13), false, (.mov (.tmp 0))⟩, ⟨none, (some 14), false, (.mov (.tmp 2))⟩, ⟨none, (some 15), false, (.cmp .geq (.tmp 13) (.tmp 14))⟩, ⟨none, (some 16), false, (.mov (.tmp 15))⟩, ⟨(some ((some 16), true)), (some 17), false, (.mov (.tmp 0))⟩, ⟨(some ((some 16), true)), (some 18), false, (.mov (.tmp 3))⟩, ⟨(some ((some 16), true)), (some 19), false, (.cmp .leq (.tmp 17) (.tmp 18))⟩, ⟨none, (some 20), false, (.pick (.tmp 16) (.tmp 19) (.const (.bool false)))⟩, ⟨none, (some 8), false, (.mov (.tmp 20))⟩]
@[reducible] def c98s10 : C := (.ops c98r9 (some [8]))
@[reducible] def c98s11 : C := (.seq c98s10 .ret)
@[reducible] def c98s12 : C := (.seq c98s8 c98s11)
@[reducible] def c98 : C := (.seq c98s1 c98s12)
theorem f98 : compF Go.Proofs.Tryd.prog 98 = some ⟨21, strip c98, [(.tmp 8)]⟩ := by kernel_rfl
theorem o98 : okC 21 c98 = true := by kernel_rfl

@[reducible] def c99r0 : List J := [⟨none, (some 2), false, (.mov (.const (.bool false)))⟩]
@[reducible] def c99s1 : C := (.ops c99r0 (some [0]))
@[reducible] def c99r2 : List J := [⟨none, (some 3), false, (.mov (.tmp 0))⟩, ⟨none, (some 4), false, (.slen (.tmp 3))⟩, ⟨none, (some 5), false, (.cmp .geq (.tmp 4) (.const (.int .i64 1)))⟩, ⟨none, (some 6), false, (.mov (.tmp 5))⟩, ⟨(some ((some 6), true)), (some 7), false, (.mov (.tmp 0))⟩, ⟨(some ((some 6), true)), (some 8), false, (.slen (.tmp 7))⟩, ⟨(some ((some 6), true)), (some 9), false, (.cmp .leq (.tmp 8) (.const (.int .i64 20)))⟩, ⟨none, (some 10), false, (.pick (.tmp 6) (.tmp 9) (.const (.bool false)))⟩, ⟨none, (some 11), false, (.mov (.tmp 10))⟩, ⟨(some ((some 11), true)), (some 12), false, (.mov (.tmp 0))⟩, ⟨(some ((some 11), true)), (some 13), false, (.six (.tmp 12) (.const (.int .i64 0)))⟩, ⟨(some ((some 11), true)), (some 14), false, (.cmp .neq (.tmp 13) (.const (.int .u8 45)))⟩, ⟨none, (some 15), false, (.pick (.tmp 11) (.tmp 14) (.const (.bool false)))⟩, ⟨none, (some 16), false, (.mov (.tmp 15))⟩, ⟨(some ((some 16), true)), (some 17), false, (.mov (.tmp 0))⟩, ⟨(some ((some 16), true)), (some 18), false, (.call (.func 107) [(.tmp 17), (.const (.string (btx [97, 98, 99, 100, 101, 102, 103, 104, 105, 106, 107, 108, 109, 110, 111, 112, 113, 114, 115, 116, 117, 118, 119, 120, 121, 122, 45])))])⟩, ⟨(some ((some 16), true)), (some 19), false, (.sop .eql (.tmp 18) (.const (.string ⟨#[]⟩)))⟩, ⟨none, (some 20), false, (.pick (.tmp 16) (.tmp 19) (.const (.bool false)))⟩, ⟨none, (some 2), false, (.mov (.tmp 20))⟩]
@[reducible] def c99s3 : C := (.ops c99r2 (some [2]))
@[reducible] def c99s4 : C := (.seq c99s3 .ret)
@[reducible] def c99 : C := (.seq c99s1 c99s4)
theorem f99 : compF Go.Proofs.Tryd.prog 99 = some ⟨21, strip c99, [(.tmp 2)]⟩ := by kernel_rfl
theorem o99 : okC 21 c99 = true := by kernel_rfl

@[reducible] def c108r0 : List J := [⟨none, (some 2), false, (.mov (.const (.bool false)))⟩]
@[reducible] def c108s1 : C := (.ops c108r0 (some [0]))
@[reducible] def c108r2 : List J := [⟨none, (some 3), false, (.mov (.tmp 0))⟩, ⟨none, (some 4), false, (.cmp .geq (.tmp 3) (.const (.int .u8 10)))⟩, ⟨none, (some 5), false, (.mov (.tmp 4))⟩, ⟨(some ((some 5), true)), (some 6), false, (.mov (.tmp 0))⟩, ⟨(some ((some 5), true)), (some 7), false, (.cmp .leq (.tmp 6) (.const (.int .u8 15)))⟩, ⟨none, (some 8), false, (.pick (.tmp 5) (.tmp 7) (.const (.bool false)))⟩, ⟨none, (some 2), false, (.mov (.tmp 8))⟩]
@[reducible] def c108s3 : C := (.ops c108r2 (some [2]))
@[reducible] def c108s4 : C := (.seq c108s3 .ret)
@[reducible] def c108 : C := (.seq c108s1 c108s4)
theorem f108 : compF Go.Proofs.Tryd.prog 108 = some ⟨9, strip c108, [(.tmp 2)]⟩ := by kernel_rfl
theorem o108 : okC 9 c108 = true := by kernel_rfl

@[reducible] def c109r0 : List J := [⟨none, (some 2), false, (.mov (.const (.bool false)))⟩]
@[reducible] def c109s1 : C := (.ops c109r0 (some [0]))
@[reducible] def c109r2 : List J := [⟨none, (some 3), false, (.mov (.tmp 0))⟩, ⟨none, (some 4), false, (.cmp .geq (.tmp 3) (.const (.int .u8 16)))⟩, ⟨none, (some 5), false, (.mov (.tmp 4))⟩, ⟨(some ((some 5), true)), (some 6), false, (.mov (.tmp 0))⟩, ⟨(some ((some 5), true)), (some 7), false, (.cmp .leq (.tmp 6) (.const (.int .u8 19)))⟩, ⟨none, (some 8), false, (.pick (.tmp 5) (.tmp 7) (.const (.bool false)))⟩, ⟨none, (some 2), false, (.mov (.tmp 8))⟩]
@[reducible] def c109s3 : C := (.ops c109r2 (some [2]))
@[reducible] def c109s4 : C := (.seq c109s3 .ret)
@[reducible] def c109 : C := (.seq c109s1 c109s4)
theorem f109 : compF Go.Proofs.Tryd.prog 109 = some ⟨9, strip c109, [(.tmp 2)]⟩ := by kernel_rfl
theorem o109 : okC 9 c109 = true := by kernel_rfl

@[reducible] def c110r0 : List J := [⟨none, (some 2), false, (.mov (.const (.bool false)))⟩]
@[reducible] def c110s1 : C := (.ops c110r0 (some [0]))
@[reducible] def c110r2 : List J := [⟨none, (some 3), false, (.mov (.tmp 0))⟩, ⟨none, (some 4), false, (.cmp .geq (.tmp 3) (.const (.int .u8 1)))⟩, ⟨none, (some 5), false, (.mov (.tmp 4))⟩, ⟨(some ((some 5), true)), (some 6), false, (.mov (.tmp 0))⟩, ⟨(some ((some 5), true)), (some 7), false, (.cmp .leq (.tmp 6) (.const (.int .u8 9)))⟩, ⟨none, (some 8), false, (.pick (.tmp 5) (.tmp 7) (.const (.bool false)))⟩, ⟨none, (some 2), false, (.mov (.tmp 8))⟩]
@[reducible] def c110s3 : C := (.ops c110r2 (some [2]))
@[reducible] def c110s4 : C := (.seq c110s3 .ret)
@[reducible] def c110 : C := (.seq c110s1 c110s4)
theorem f110 : compF Go.Proofs.Tryd.prog 110 = some ⟨9, strip c110, [(.tmp 2)]⟩ := by kernel_rfl
theorem o110 : okC 9 c110 = true := by kernel_rfl

@[reducible] def c70r0 : List J := [⟨none, (some 1), false, (.box 72 (.tmp 0))⟩, ⟨none, (some 2), false, (.mov (.const (.int .i64 0)))⟩]
@[reducible] def c70s1 : C := (.ops c70r0 (some [1]))
@[reducible] def c70r2 : List J := [⟨none, (some 12), false, (.faddr 1 (.tmp 1))⟩, ⟨none, (some 13), false, (.ld1 (.tmp 12))⟩, ⟨none, (some 14), false, (.faddr 2 (.tmp 1))⟩, ⟨none, (some 15), false, (.ld1 (.tmp 14))⟩, ⟨none, (some 16), false, (.call (.func 91) [(.tmp 13), (.tmp 15)])⟩, ⟨none, (some 11), false, (.mov (.tmp 16))⟩, ⟨none, (some 17), false, (.ext 0 (.tmp 11))⟩, ⟨none, (some 18), false, (.ext 1 (.tmp 11))⟩, ⟨none, (some 19), false, (.ext 2 (.tmp 11))⟩, ⟨none, (some 20), false, (.ext 3 (.tmp 11))⟩, ⟨none, (some 21), false, (.ext 4 (.tmp 11))⟩, ⟨none, (some 3), false, (.mov (.tmp 17))⟩, ⟨none, (some 4), false, (.mov (.tmp 18))⟩, ⟨none, (some 5), false, (.mov (.tmp 19))⟩, ⟨none, (some 6), false, (.mov (.tmp 20))⟩, ⟨none, (some 7), false, (.mov (.tmp 21))⟩]
@[reducible] def c70s3 : C := (.ops c70r2 (some [1, 3, 4, 5, 6, 7]))
@[reducible] def c70r4 : List J := [⟨none, (some 23), false, (.faddr 1 (.tmp 1))⟩, ⟨none, (some 24), false, (.ld1 (.tmp 23))⟩, ⟨none, (some 25), false, (.call (.func 92) [(.tmp 24)])⟩, ⟨none, (some 22), false, (.mov (.tmp 25))⟩, ⟨none, (some 26), false, (.ext 0 (.tmp 22))⟩, ⟨none, (some 27), false, (.ext 1 (.tmp 22))⟩, ⟨none, (some 28), false, (.ext 2 (.tmp 22))⟩, ⟨none, (some 8), false, (.mov (.tmp 26))⟩, ⟨none, (some 9), false, (.mov (.tmp 27))⟩, ⟨none, (some 10), false, (.mov (.tmp 28))⟩]
@[reducible] def c70s5 : C := (.ops c70r4 (some [1, 3, 4, 5, 6, 7, 8, 9, 10]))
@[reducible] def c70r6 : List J := [⟨none, (some 30), false, (.faddr 0 (.tmp 1))⟩, ⟨none, (some 31), false, (.ld1 (.tmp 30))⟩, ⟨none, (some 32), false, (.cmp .lss (.tmp 31) (.const (.int .u8 1)))⟩, ⟨none, (some 33), false, (.mov (.tmp 32))⟩, ⟨(some ((some 33), false)), (some 34), false, (.faddr 0 (.tmp 1))⟩, ⟨(some ((some 33), false)), (some 35), false, (.ld1 (.tmp 34))⟩, ⟨(some ((some 33), false)), (some 36), false, (.cmp .gtr (.tmp 35) (.const (.int .u8 6)))⟩, ⟨none, (some 37), false, (.pick (.tmp 33) (.const (.bool true)) (.tmp 36))⟩, ⟨none, (some 38), false, (.mov (.tmp 37))⟩, ⟨(some ((some 38), false)), (some 39), false, (.faddr 1 (.tmp 1))⟩, ⟨(some ((some 38), false)), (some 40), false, (.ld1 (.tmp 39))⟩, ⟨(some ((some 38), false)), (some 41), false, (.cmp .lss (.tmp 40) (.const (.int .u8 1)))⟩, ⟨none, (some 42), false, (.pick (.tmp 38) (.const (.bool true)) (.tmp 41))⟩, ⟨none, (some 43), false, (.mov (.tmp 42))⟩, ⟨(some ((some 43), false)), (some 44), false, (.faddr 1 (.tmp 1))⟩, ⟨(some ((some 43), false)), (some 45), false, (.ld1 (.tmp 44))⟩, ⟨(some ((some 43), false)), (some 46), false, (.cmp .gtr (.tmp 45) (.const (.int .u8 19)))⟩, ⟨none, (some 47), false, (.pick (.tmp 43) (.const (.bool true)) (.tmp 46))⟩, ⟨none, (some 48), false, (.mov (.tmp 47))⟩, ⟨(some ((some 48), false)), (some 49), false, (.faddr 2 (.tmp 1))⟩, ⟨(some ((some 48), false)), (some 50), false, (.ld1 (.tmp 49))⟩, ⟨(some ((some 48), false)), (some 51), false, (.cmp .lss (.tmp 50) (.const (.int .u8 1)))⟩, ⟨none, (some 52), false, (.pick (.tmp 48) (.const (.bool true)) (.tmp 51))⟩, ⟨none, (some 53), false, (.mov (.tmp 52))⟩, ⟨(some ((some 53), false)), (some 54), false, (.faddr 2 (.tmp 1))⟩, ⟨(some ((some 53), false)), (some 55), false, (.ld1 (.tmp 54))⟩, ⟨(some ((some 53), false)), (some 56), false, (.cmp .gtr (.tmp 55) (.const (.int .u8 10)))⟩, ⟨none, (some 57), false, (.pick (.tmp 53) (.const (.bool true)) (.tmp 56))⟩, ⟨none, (some 29), false, (.mov (.tmp 57))⟩]
@[reducible] def c70s7 : C := (.ops c70r6 (some [1, 3, 4, 5, 6, 7, 8, 9, 10, 29]))
@[reducible] def c70r8 : List J := [⟨none, (some 2), false, (.mov (.const (.int .i64 2)))⟩]
@[reducible] def c70s9 : C := (.ops c70r8 (some [2]))
@[reducible] def c70s10 : C := (.seq c70s9 .ret)
@[reducible] def c70r11 : List J := [⟨none, (some 59), false, (.faddr 0 (.tmp 1))⟩, ⟨none, (some 60), false, (.ld1 (.tmp 59))⟩, ⟨none, (some 61), false, (.faddr 1 (.tmp 1))⟩, ⟨none, (some 62), false, (.ld1 (.tmp 61))⟩, ⟨none, (some 63), false, (.call (.func 93) [(.tmp 60), (.tmp 62)])⟩, ⟨none, (some 64), false, (.un .not (.tmp 63))⟩, ⟨none, (some 65), false, (.mov (.tmp 64))⟩, ⟨(some ((some 65), false)), (some 66), false, (.faddr 1 (.tmp 1))⟩, ⟨(some ((some 65), false)), (some 67), false, (.ld1 (.tmp 66))⟩, ⟨(some ((some 65), false)), (some 68), false, (.cmp .eql (.tmp 67) (.const (.int .u8 11)))⟩, ⟨(some ((some 65), false)), (some 69), false, (.mov (.tmp 68))⟩, ⟨(some ((some 69), true)), (some 70), false, (.faddr 2 (.tmp 1))⟩, ⟨(some ((some 69), true)), (some 71), false, (.ld1 (.tmp 70))⟩, ⟨(some ((some 69), true)), (some 72), false, (.cmp .eql (.tmp 71) (.const (.int .u8 9)))⟩, ⟨(some ((some 65), false)), (some 73), false, (.pick (.tmp 69) (.tmp 72) (.const (.bool false)))⟩, ⟨none, (some 74), false, (.pick (.tmp 65) (.const (.bool true)) (.tmp 73))⟩, ⟨none, (some 58), false, (.mov (.tmp 74))⟩]
@[reducible] def c70s12 : C := (.ops c70r11 (some [1, 3, 4, 5, 6, 7, 8, 9, 10, 58]))
@[reducible] def c70r13 : List J := [⟨none, (some 2), false, (.mov (.const (.int .i64 8)))⟩]
@[reducible] def c70s14 : C := (.ops c70r13 (some [2]))
@[reducible] def c70s15 : C := (.seq c70s14 .ret)
@[reducible] def c70r16 : List J := [⟨none, (some 76), false, (.ldN 8 (.tmp 1))⟩, ⟨none, (some 77), false, (.call (.func 94) [(.tmp 76)])⟩, ⟨none, (some 78), false, (.un .not (.tmp 77))⟩, ⟨none, (some 75), false, (.mov (.tmp 78))⟩]
@[reducible] def c70s17 : C := (.ops c70r16 (some [1, 3, 4, 5, 6, 7, 8, 9, 10, 75]))
@[reducible] def c70r18 : List J := [⟨none, (some 2), false, (.mov (.const (.int .i64 13)))⟩]
@[reducible] def c70s19 : C := (.ops c70r18 (some [2]))
@[reducible] def c70s20 : C := (.seq c70s19 .ret)
@[reducible] def c70r21 : List J := [⟨none, (some 80), false, (.faddr 3 (.tmp 1))⟩, ⟨none, (some 81), false, (.ld1 (.tmp 80))⟩, ⟨none, (some 82), false, (.mov (.tmp 3))⟩, ⟨none, (some 83), false, (.mov (.tmp 8))⟩, ⟨none, (some 84), false, (.mov (.tmp 9))⟩, ⟨none, (some 85), false, (.call (.func 95) [(.tmp 81), (.tmp 82), (.tmp 83), (.tmp 84)])⟩, ⟨none, (some 86), false, (.un .not (.tmp 85))⟩, ⟨none, (some 87), false, (.mov (.tmp 86))⟩, ⟨(some ((some 87), false)), (some 88), false, (.mov (.tmp 3))⟩, ⟨(some ((some 87), false)), (some 89), false, (.mov (.tmp 88))⟩, ⟨(some ((some 89), true)), (some 90), false, (.mov (.tmp 10))⟩, ⟨(some ((some 89), true)), (some 91), false, (.un .not (.tmp 90))⟩, ⟨(some ((some 87), false)), (some 92), false, (.pick (.tmp 89) (.tmp 91) (.const (.bool false)))⟩, ⟨(some ((some 87), false)), (some 93), false, (.mov (.tmp 92))⟩, ⟨(some ((some 93), true)), (some 94), false, (.faddr 3 (.tmp 1))⟩, ⟨(some ((some 93), true)), (some 95), false, (.ld1 (.tmp 94))⟩, ⟨(some ((some 93), true)), (some 96), false, (.cmp .eql (.tmp 95) (.const (.int .i64 0)))⟩, ⟨(some ((some 87), false)), (some 97), false, (.pick (.tmp 93) (.tmp 96) (.const (.bool false)))⟩, ⟨none, (some 98), false, (.pick (.tmp 87) (.const (.bool true)) (.tmp 97))⟩, ⟨none, (some 79), false, (.mov (.tmp 98))⟩]
@[reducible] def c70s22 : C := (.ops c70r21 (some [1, 4, 5, 6, 7, 79]))
@[reducible] def c70r23 : List J := [⟨none, (some 2), false, (.mov (.const (.int .i64 2)))⟩]
@[reducible] def c70s24 : C := (.ops c70r23 (some [2]))
@[reducible] def c70s25 : C := (.seq c70s24 .ret)
@[reducible] def c70r26 : List J := [⟨none, (some 100), false, (.faddr 4 (.tmp 1))⟩, ⟨none, (some 101), false, (.ld1 (.tmp 100))⟩, ⟨none, (some 102), false, (.mov (.tmp 4))⟩, ⟨none, (some 103), false, (.call (.func 96) [(.tmp 101), (.tmp 102), (.const (.int .u8 1)), (.const (.int .u8 6))])⟩, ⟨none, (some 104), false, (.un .not (.tmp 103))⟩, ⟨none, (some 105), false, (.mov (.tmp 104))⟩, ⟨(some ((some 105), false)), (some 106), false, (.faddr 5 (.tmp 1))⟩, ⟨(some ((some 105), false)), (some 107), false, (.ld1 (.tmp 106))⟩, ⟨(some ((some 105), false)), (some 108), false, (.mov (.tmp 5))⟩, ⟨(some ((some 105), false)), (some 109), false, (.call (.func 97) [(.tmp 107), (.tmp 108), (.const (.int .u8 1)), (.const (.int .u8 8))])⟩, ⟨(some ((some 105), false)), (some 110), false, (.un .not (.tmp 109))⟩, ⟨none, (some 111), false, (.pick (.tmp 105) (.const (.bool true)) (.tmp 110))⟩, ⟨none, (some 112), false, (.mov (.tmp 111))⟩, ⟨(some ((some 112), false)), (some 113), false, (.faddr 6 (.tmp 1))⟩, ⟨(some ((some 112), false)), (some 114), false, (.ld1 (.tmp 113))⟩, ⟨(some ((some 112), false)), (some 115), false, (.mov (.tmp 6))⟩, ⟨(some ((some 112), false)), (some 116), false, (.call (.func 98) [(.tmp 114), (.tmp 115), (.const (.int .u8 1)), (.const (.int .u8 4))])⟩, ⟨(some ((some 112), false)), (some 117), false, (.un .not (.tmp 116))⟩, ⟨none, (some 118), false, (.pick (.tmp 112) (.const (.bool true)) (.tmp 117))⟩, ⟨none, (some 99), false, (.mov (.tmp 118))⟩]
@[reducible] def c70s27 : C := (.ops c70r26 (some [1, 7, 99]))
@[reducible] def c70r28 : List J := [⟨none, (some 2), false, (.mov (.const (.int .i64 2)))⟩]
@[reducible] def c70s29 : C := (.ops c70r28 (some [2]))
@[reducible] def c70s30 : C := (.seq c70s29 .ret)
@[reducible] def c70r31 : List J := [⟨none, (some 120), false, (.mov (.tmp 7))⟩, ⟨none, (some 121), false, (.faddr 7 (.tmp 1))⟩, ⟨none, (some 122), false, (.ld1 (.tmp 121))⟩, ⟨none, (some 123), false, (.sop .neq (.tmp 122) (.const (.string ⟨#[]⟩)))⟩, ⟨none, (some 124), false, (.beq true (.tmp 120) (.tmp 123))⟩, ⟨none, (some 125), false, (.mov (.tmp 124))⟩, ⟨(some ((some 125), false)), (some 126), false, (.mov (.tmp 7))⟩, ⟨(some ((some 125), false)), (some 127), false, (.mov (.tmp 126))⟩, ⟨(some ((some 127), true)), (some 128), false, (.faddr 7 (.tmp 1))⟩, ⟨(some ((some 127), true)), (some 129), false, (.ld1 (.tmp 128))⟩, ⟨(some ((some 127), true)), (some 130), false, (.call (.func 99) [(.tmp 129)])⟩, ⟨(some ((some 127), true)), (some 131), false, (.un .not (.tmp 130))⟩, ⟨(some ((some 125), false)), (some 132), false, (.pick (.tmp 127) (.tmp 131) (.const (.bool false)))⟩, ⟨none, (some 133), false, (.pick (.tmp 125) (.const (.bool true)) (.tmp 132))⟩, ⟨none, (some 119), false, (.mov (.tmp 133))⟩]
@[reducible] def c70s32 : C := (.ops c70r31 (some [119]))
@[reducible] def c70r33 : List J := [⟨none, (some 2), false, (.mov (.const (.int .i64 4)))⟩]
@[reducible] def c70s34 : C := (.ops c70r33 (some [2]))
@[reducible] def c70s35 : C := (.seq c70s34 .ret)
@[reducible] def c70s36 : C := (.cond (.tmp 119) c70s35 .skip)
@[reducible] def c70s37 : C := (.seq c70s32 c70s36)
@[reducible] def c70s38 : C := (.cond (.tmp 99) c70s30 c70s37)
@[reducible] def c70s39 : C := (.seq c70s27 c70s38)
@[reducible] def c70s40 : C := (.cond (.tmp 79) c70s25 c70s39)
@[reducible] def c70s41 : C := (.seq c70s22 c70s40)
@[reducible] def c70s42 : C := (.cond (.tmp 75) c70s20 c70s41)
@[reducible] def c70s43 : C := (.seq c70s17 c70s42)
@[reducible] def c70s44 : C := (.cond (.tmp 58) c70s15 c70s43)
@[reducible] def c70s45 : C := (.seq c70s12 c70s44)
@[reducible] def c70s46 : C := (.cond (.tmp 29) c70s10 c70s45)
@[reducible] def c70s47 : C := (.seq c70s7 c70s46)
@[reducible] def c70s48 : C := (.block 0 c70s47)
@[reducible] def c70r49 : List J := [⟨none, (some 2), false, (.mov (.const (.int .i64 0)))⟩]
@[reducible] def c70s50 : C := (.ops c70r49 (some [2]))
@[reducible] def c70s51 : C := (.seq c70s50 .ret)
@[reducible] def c70s52 : C := (.seq c70s48 c70s51)
@[reducible] def c70s53 : C := (.seq c70s5 c70s52)
@[reducible] def c70s54 : C := (.seq c70s3 c70s53)
@[reducible] def c70 : C := (.seq c70s1 c70s54)
theorem f70 : compF Go.Proofs.Tryd.prog 70 = some ⟨134, strip c70, [(.tmp 2)]⟩ := by kernel_rfl
theorem o70 : okC 134 c70 = true := by kernel_rfl

end Go.Proofs.YtdgbnaignpploaaDoor.k
