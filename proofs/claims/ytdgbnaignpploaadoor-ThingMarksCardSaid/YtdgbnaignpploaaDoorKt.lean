/- PRINTED BY symgen.py: the compiled code of functions 3 9 10 11 12 13 43 77. -/
import Derived.Test.YtdgbnaignpploaaDoorChecked
import Derived.Test.YtdgbnaignpploaaDoorSy
namespace Go.Proofs.YtdgbnaignpploaaDoor.k
open Go.Sym
set_option linter.unusedVariables false
set_option maxRecDepth 100000

@[reducible] def c3r0 : List J := [⟨none, (some 4), false, (.box 25 (.tmp 0))⟩, ⟨none, (some 5), false, (.box 30 (.tmp 1))⟩, ⟨none, (some 6), false, (.box 31 (.tmp 2))⟩, ⟨none, (some 7), false, (.box 34 (.tmp 3))⟩, ⟨none, (some 8), false, (.mov (.const (.bool false)))⟩]
@[reducible] def c3s1 : C := (.ops c3r0 (some [4, 5, 6, 7]))
@[reducible] def c3r2 : List J := [⟨none, (some 17), false, (.ldN 3 (.tmp 4))⟩, ⟨none, (some 18), false, (.call (.func 9) [(.tmp 17)])⟩, ⟨none, (some 16), false, (.mov (.tmp 18))⟩, ⟨none, (some 19), false, (.ext 0 (.tmp 16))⟩, ⟨none, (some 20), false, (.ext 1 (.tmp 16))⟩, ⟨none, (some 21), false, (.ext 2 (.tmp 16))⟩, ⟨none, (some 9), false, (.mov (.tmp 19))⟩, ⟨none, (some 10), false, (.mov (.tmp 20))⟩, ⟨none, (some 11), false, (.mov (.tmp 21))⟩]
@[reducible] def c3s3 : C := (.ops c3r2 (some [5, 6, 7, 9, 10, 11]))
@[reducible] def c3r4 : List J := [⟨none, (some 23), false, (.mov (.tmp 9))⟩, ⟨none, (some 24), false, (.ldN 5 (.tmp 5))⟩, ⟨none, (some 25), false, (.ldN 4 (.tmp 6))⟩, ⟨none, (some 26), false, (.call (.func 10) [(.tmp 23), (.tmp 24), (.tmp 25)])⟩, ⟨none, (some 22), false, (.mov (.tmp 26))⟩, ⟨none, (some 27), false, (.ext 0 (.tmp 22))⟩, ⟨none, (some 28), false, (.ext 1 (.tmp 22))⟩, ⟨none, (some 12), false, (.alloc [(.int .i64 0), (.int .u8 0), (.int .u16 0), (.int .i64 0), (.int .i64 0)] 5 30)⟩, ⟨none, none, false, (.st 5 (.tmp 12) (.tmp 27))⟩, ⟨none, (some 13), false, (.mov (.tmp 28))⟩]
@[reducible] def c3s5 : C := (.ops c3r4 (some [5, 6, 7, 10, 11, 12, 13]))
@[reducible] def c3r6 : List J := [⟨none, (some 30), false, (.mov (.tmp 10))⟩, ⟨none, (some 31), false, (.ldN 5 (.tmp 5))⟩, ⟨none, (some 32), false, (.ldN 4 (.tmp 6))⟩, ⟨none, (some 33), false, (.call (.func 11) [(.tmp 30), (.tmp 31), (.tmp 32)])⟩, ⟨none, (some 29), false, (.mov (.tmp 33))⟩, ⟨none, (some 34), false, (.ext 0 (.tmp 29))⟩, ⟨none, (some 35), false, (.ext 1 (.tmp 29))⟩, ⟨none, (some 14), false, (.alloc [(.int .i64 0), (.int .u8 0), (.int .u16 0), (.int .i64 0), (.int .i64 0)] 5 30)⟩, ⟨none, none, false, (.st 5 (.tmp 14) (.tmp 34))⟩, ⟨none, (some 15), false, (.mov (.tmp 35))⟩]
@[reducible] def c3s7 : C := (.ops c3r6 (some [5, 7, 11, 12, 13, 14, 15]))
@[reducible] def c3r8 : List (J × Bool) := [(⟨none, (some 36), false, (.mov (.tmp 11))⟩, false), (⟨none, (some 37), false, (.mov (.tmp 36))⟩, false), (⟨(some ((some 37), true)), (some 38), false, (.mov (.tmp 13))⟩, false), (⟨(some ((some 37), true)), (some 39), false, (.mov (.tmp 15))⟩, false), (⟨(some ((some 37), true)), (some 40), false, (.cmp .eql (.tmp 38) (.tmp 39))⟩, false), (⟨none, (some 41), false, (.pick (.tmp 37) (.tmp 40) (.const (.bool false)))⟩, false), (⟨none, (some 42), false, (.mov (.tmp 41))⟩, false), (⟨(some ((some 42), true)), (some 43), false, (.ldN 5 (.tmp 12))⟩, false), (⟨(some ((some 42), true)), (some 44), false, (.ldN 5 (.tmp 14))⟩, false), (⟨(some ((some 42), true)), (some 45), false, (.eqv false 30 (.tmp 43) (.tmp 44))⟩, false), (⟨none, (some 46), false, (.pick (.tmp 42) (.tmp 45) (.const (.bool false)))⟩, false), (⟨none, (some 47), false, (.mov (.tmp 46))⟩, false), (⟨(some ((some 47), true)), (some 48), false, (.ldN 5 (.tmp 5))⟩, false), (⟨(some ((some 47), true)), (some 49), false, (.ldN 11 (.tmp 7))⟩, false), (⟨(some ((some 47), true)), (some 51), false, (.ldN 5 (.tmp 5))⟩, false), (⟨(some ((some 47), true)), (some 52), false, (.ldN 11 (.tmp 7))⟩, false), (⟨(some ((some 47), true)), (some 50), false, (.call (.func 12) [(.tmp 48), (.tmp 49)])⟩, true)]
@[reducible] def c3r9 : List J := [⟨(some ((some 47), true)), (some 53), false, (.call (.func 13) [(.tmp 51), (.tmp 52)])⟩, ⟨(some ((some 47), true)), (some 54), false, (.cmp .eql (.tmp 50) (.tmp 53))⟩, ⟨none, (some 55), false, (.pick (.tmp 47) (.tmp 54) (.const (.bool false)))⟩, ⟨none, (some 8), false, (.mov (.tmp 55))⟩]
@[reducible] def c3s10 : C := (.plan c3r8 c3r9 (some [8]))
@[reducible] def c3s11 : C := (.seq c3s10 .ret)
@[reducible] def c3s12 : C := (.seq c3s7 c3s11)
@[reducible] def c3s13 : C := (.seq c3s5 c3s12)
@[reducible] def c3s14 : C := (.seq c3s3 c3s13)
@[reducible] def c3 : C := (.seq c3s1 c3s14)
theorem f3 : compF Go.Proofs.Tryd.prog 3 = some ⟨56, strip c3, [(.tmp 8)]⟩ := by kernel_rfl
theorem o3 : okC 56 c3 = true := by kernel_rfl

@[reducible] def c9r0 : List J := [⟨none, (some 1), false, (.box 25 (.tmp 0))⟩, ⟨none, (some 2), false, (.mov (.const (.pointer none)))⟩, ⟨none, (some 3), false, (.mov (.const (.pointer none)))⟩, ⟨none, (some 4), false, (.mov (.const (.bool false)))⟩]
@[reducible] def c9s1 : C := (.ops c9r0 (some [1]))
@[reducible] def c9r2 : List J := [⟨none, (some 9), false, (.call (.func 33) [])⟩, ⟨none, (some 10), false, (.call (.func 42) [])⟩, ⟨none, (some 5), false, (.mov (.tmp 9))⟩, ⟨none, (some 6), false, (.mov (.tmp 10))⟩]
@[reducible] def c9s3 : C := (.ops c9r2 (some [1, 5, 6]))
@[reducible] def c9r4 : List J := [⟨none, (some 7), false, (.mov (.const (.int .i64 0)))⟩]
@[reducible] def c9s5 : C := (.ops c9r4 (some [1, 5, 6, 7]))
@[reducible] def c9r6 : List J := [⟨none, (some 11), false, (.mov (.tmp 7))⟩, ⟨none, (some 12), false, (.faddr 0 (.tmp 1))⟩, ⟨none, (some 13), false, (.ld1 (.tmp 12))⟩, ⟨none, (some 14), false, (.len (.tmp 13))⟩, ⟨none, (some 15), false, (.cmp .lss (.tmp 11) (.tmp 14))⟩]
@[reducible] def c9s7 : C := (.ops c9r6 (some [1, 5, 6, 7, 15]))
@[reducible] def c9s8 : C := (.cond (.tmp 15) .skip (.exit 0))
@[reducible] def c9s9 : C := (.seq c9s7 c9s8)
@[reducible] def c9r10 : List (J × Bool) := [(⟨none, (some 18), false, (.mov (.tmp 5))⟩, false), (⟨none, (some 19), false, (.faddr 0 (.tmp 1))⟩, false), (⟨none, (some 20), false, (.ld1 (.tmp 19))⟩, false), (⟨none, (some 21), false, (.mov (.tmp 7))⟩, false), (⟨none, (some 22), false, (.ixs 9 (.tmp 20) (.tmp 21))⟩, false), (⟨none, (some 23), false, (.ldN 9 (.tmp 22))⟩, false), (⟨none, (some 26), false, (.mov (.tmp 6))⟩, false), (⟨none, (some 27), false, (.faddr 0 (.tmp 1))⟩, false), (⟨none, (some 28), false, (.ld1 (.tmp 27))⟩, false), (⟨none, (some 29), false, (.mov (.tmp 7))⟩, false), (⟨none, (some 30), false, (.ixs 9 (.tmp 28) (.tmp 29))⟩, false), (⟨none, (some 31), false, (.ldN 9 (.tmp 30))⟩, false), (⟨none, (some 24), false, (.call (.func 43) [(.tmp 23)])⟩, true), (⟨none, (some 25), false, (.call (.func 19) [(.tmp 18), (.tmp 24)])⟩, true), (⟨none, (some 32), true, (.call (.func 43) [(.tmp 31)])⟩, true)]
@[reducible] def c9r11 : List J := [⟨none, (some 33), false, (.call (.func 44) [(.tmp 26), (.tmp 32)])⟩, ⟨none, (some 34), false, (.cmp .neq (.tmp 25) (.tmp 33))⟩]
@[reducible] def c9s12 : C := (.plan c9r10 c9r11 (some [1, 5, 6, 7, 34]))
@[reducible] def c9r13 : List J := [⟨none, (some 35), false, (.mov (.tmp 5))⟩, ⟨none, (some 36), false, (.mov (.tmp 6))⟩, ⟨none, (some 2), false, (.mov (.tmp 35))⟩, ⟨none, (some 3), false, (.mov (.tmp 36))⟩, ⟨none, (some 4), false, (.mov (.const (.bool false)))⟩]
@[reducible] def c9s14 : C := (.ops c9r13 (some [2, 3, 4]))
@[reducible] def c9s15 : C := (.seq c9s14 .ret)
@[reducible] def c9s16 : C := (.cond (.tmp 34) c9s15 .skip)
@[reducible] def c9s17 : C := (.seq c9s12 c9s16)
@[reducible] def c9s18 : C := (.block 1 c9s17)
@[reducible] def c9r19 : List J := [⟨none, (some 16), false, (.mov (.tmp 7))⟩, ⟨none, (some 17), false, (.arith .add (.tmp 16) (.const (.int .i64 1)))⟩, ⟨none, (some 7), false, (.mov (.tmp 17))⟩]
@[reducible] def c9s20 : C := (.ops c9r19 (some [1, 5, 6, 7]))
@[reducible] def c9s21 : C := (.seq c9s18 c9s20)
@[reducible] def c9s22 : C := (.seq c9s9 c9s21)
@[reducible] def c9s23 : C := (.loop c9s22)
@[reducible] def c9s24 : C := (.block 0 c9s23)
@[reducible] def c9s25 : C := (.seq c9s5 c9s24)
@[reducible] def c9r26 : List J := [⟨none, (some 8), false, (.mov (.const (.int .i64 0)))⟩]
@[reducible] def c9s27 : C := (.ops c9r26 (some [1, 5, 6, 8]))
@[reducible] def c9r28 : List J := [⟨none, (some 37), false, (.mov (.tmp 8))⟩, ⟨none, (some 38), false, (.faddr 1 (.tmp 1))⟩, ⟨none, (some 39), false, (.ld1 (.tmp 38))⟩, ⟨none, (some 40), false, (.len (.tmp 39))⟩, ⟨none, (some 41), false, (.cmp .lss (.tmp 37) (.tmp 40))⟩]
@[reducible] def c9s29 : C := (.ops c9r28 (some [1, 5, 6, 8, 41]))
@[reducible] def c9s30 : C := (.cond (.tmp 41) .skip (.exit 2))
@[reducible] def c9s31 : C := (.seq c9s29 c9s30)
@[reducible] def c9r32 : List (J × Bool) := [(⟨none, (some 44), false, (.mov (.tmp 5))⟩, false), (⟨none, (some 45), false, (.faddr 1 (.tmp 1))⟩, false), (⟨none, (some 46), false, (.ld1 (.tmp 45))⟩, false), (⟨none, (some 47), false, (.mov (.tmp 8))⟩, false), (⟨none, (some 48), false, (.ixs 4 (.tmp 46) (.tmp 47))⟩, false), (⟨none, (some 49), false, (.ldN 4 (.tmp 48))⟩, false), (⟨none, (some 51), false, (.mov (.tmp 6))⟩, false), (⟨none, (some 52), false, (.faddr 1 (.tmp 1))⟩, false), (⟨none, (some 53), false, (.ld1 (.tmp 52))⟩, false), (⟨none, (some 54), false, (.mov (.tmp 8))⟩, false), (⟨none, (some 55), false, (.ixs 4 (.tmp 53) (.tmp 54))⟩, false), (⟨none, (some 56), false, (.ldN 4 (.tmp 55))⟩, false), (⟨none, (some 50), false, (.call (.func 21) [(.tmp 44), (.tmp 49)])⟩, true)]
@[reducible] def c9r33 : List J := [⟨none, (some 57), false, (.call (.func 45) [(.tmp 51), (.tmp 56)])⟩, ⟨none, (some 58), false, (.cmp .neq (.tmp 50) (.tmp 57))⟩]
@[reducible] def c9s34 : C := (.plan c9r32 c9r33 (some [1, 5, 6, 8, 58]))
@[reducible] def c9r35 : List J := [⟨none, (some 59), false, (.mov (.tmp 5))⟩, ⟨none, (some 60), false, (.mov (.tmp 6))⟩, ⟨none, (some 2), false, (.mov (.tmp 59))⟩, ⟨none, (some 3), false, (.mov (.tmp 60))⟩, ⟨none, (some 4), false, (.mov (.const (.bool false)))⟩]
@[reducible] def c9s36 : C := (.ops c9r35 (some [2, 3, 4]))
@[reducible] def c9s37 : C := (.seq c9s36 .ret)
@[reducible] def c9s38 : C := (.cond (.tmp 58) c9s37 .skip)
@[reducible] def c9s39 : C := (.seq c9s34 c9s38)
@[reducible] def c9s40 : C := (.block 3 c9s39)
@[reducible] def c9r41 : List J := [⟨none, (some 42), false, (.mov (.tmp 8))⟩, ⟨none, (some 43), false, (.arith .add (.tmp 42) (.const (.int .i64 1)))⟩, ⟨none, (some 8), false, (.mov (.tmp 43))⟩]
@[reducible] def c9s42 : C := (.ops c9r41 (some [1, 5, 6, 8]))
@[reducible] def c9s43 : C := (.seq c9s40 c9s42)
@[reducible] def c9s44 : C := (.seq c9s31 c9s43)
@[reducible] def c9s45 : C := (.loop c9s44)
@[reducible] def c9s46 : C := (.block 2 c9s45)
@[reducible] def c9s47 : C := (.seq c9s27 c9s46)
@[reducible] def c9r48 : List J := [⟨none, (some 61), false, (.faddr 2 (.tmp 1))⟩, ⟨none, (some 62), false, (.ld1 (.tmp 61))⟩, ⟨none, (some 63), false, (.un .not (.tmp 62))⟩, ⟨none, (some 64), false, (.mov (.tmp 63))⟩, ⟨(some ((some 64), true)), (some 65), false, (.mov (.tmp 5))⟩, ⟨(some ((some 64), true)), (some 66), false, (.call (.func 16) [(.tmp 65)])⟩, ⟨(some ((some 64), true)), (some 67), false, (.mov (.tmp 6))⟩, ⟨(some ((some 64), true)), (some 68), false, (.call (.func 46) [(.tmp 67)])⟩, ⟨(some ((some 64), true)), (some 69), false, (.cmp .neq (.tmp 66) (.tmp 68))⟩, ⟨none, (some 70), false, (.pick (.tmp 64) (.tmp 69) (.const (.bool false)))⟩]
@[reducible] def c9s49 : C := (.ops c9r48 (some [5, 6, 70]))
@[reducible] def c9r50 : List J := [⟨none, (some 71), false, (.mov (.tmp 5))⟩, ⟨none, (some 72), false, (.mov (.tmp 6))⟩, ⟨none, (some 2), false, (.mov (.tmp 71))⟩, ⟨none, (some 3), false, (.mov (.tmp 72))⟩, ⟨none, (some 4), false, (.mov (.const (.bool false)))⟩]
@[reducible] def c9s51 : C := (.ops c9r50 (some [2, 3, 4]))
@[reducible] def c9s52 : C := (.seq c9s51 .ret)
@[reducible] def c9s53 : C := (.cond (.tmp 70) c9s52 .skip)
@[reducible] def c9s54 : C := (.seq c9s49 c9s53)
@[reducible] def c9r55 : List J := [⟨none, (some 73), false, (.mov (.tmp 5))⟩, ⟨none, (some 74), false, (.mov (.tmp 6))⟩, ⟨none, (some 75), false, (.mov (.tmp 5))⟩, ⟨none, (some 76), false, (.call (.func 17) [(.tmp 75)])⟩, ⟨none, (some 77), false, (.mov (.tmp 6))⟩, ⟨none, (some 78), false, (.call (.func 47) [(.tmp 77)])⟩, ⟨none, (some 79), false, (.beq false (.tmp 76) (.tmp 78))⟩, ⟨none, (some 2), false, (.mov (.tmp 73))⟩, ⟨none, (some 3), false, (.mov (.tmp 74))⟩, ⟨none, (some 4), false, (.mov (.tmp 79))⟩]
@[reducible] def c9s56 : C := (.ops c9r55 (some [2, 3, 4]))
@[reducible] def c9s57 : C := (.seq c9s56 .ret)
@[reducible] def c9s58 : C := (.seq c9s54 c9s57)
@[reducible] def c9s59 : C := (.seq c9s47 c9s58)
@[reducible] def c9s60 : C := (.seq c9s25 c9s59)
@[reducible] def c9s61 : C := (.seq c9s3 c9s60)
@[reducible] def c9 : C := (.seq c9s1 c9s61)
theorem f9 : compF Go.Proofs.Tryd.prog 9 = some ⟨80, strip c9, [(.tmp 2), (.tmp 3), (.tmp 4)]⟩ := by kernel_rfl
theorem o9 : okC 80 c9 = true := by kernel_rfl

@[reducible] def c10r0 : List J := [⟨none, (some 4), false, (.box 30 (.tmp 1))⟩, ⟨none, (some 5), false, (.box 31 (.tmp 2))⟩, ⟨none, (some 6), false, (.alloc [(.int .i64 0), (.int .u8 0), (.int .u16 0), (.int .i64 0), (.int .i64 0)] 5 30)⟩, ⟨none, (some 7), false, (.mov (.const (.int .i64 0)))⟩]
@[reducible] def c10s1 : C := (.ops c10r0 (some [0, 4, 5, 6]))
@[reducible] def c10r2 : List J := [⟨none, (some 17), false, (.mov (.tmp 0))⟩, ⟨none, (some 18), false, (.call (.func 23) [(.tmp 17), (.const (.string ⟨#[]⟩))])⟩, ⟨none, (some 16), false, (.mov (.tmp 18))⟩, ⟨none, (some 19), false, (.ext 0 (.tmp 16))⟩, ⟨none, (some 20), false, (.ext 1 (.tmp 16))⟩, ⟨none, (some 8), false, (.mov (.tmp 19))⟩, ⟨none, (some 9), false, (.mov (.tmp 20))⟩]
@[reducible] def c10s3 : C := (.ops c10r2 (some [0, 4, 5, 6, 9]))
@[reducible] def c10r4 : List J := [⟨none, (some 21), false, (.mov (.tmp 9))⟩, ⟨none, (some 22), false, (.cmp .eql (.tmp 21) (.const (.int .i64 1)))⟩]
@[reducible] def c10s5 : C := (.ops c10r4 (some [0, 4, 5, 6, 9, 22]))
@[reducible] def c10r6 : List J := [⟨none, (some 23), false, (.bld [(.int .i64 0), (.int .u8 0), (.int .u16 0), (.int .i64 0), (.int .i64 0)] [(0, 1), (1, 1), (2, 1), (3, 1), (4, 1)] [])⟩, ⟨none, (some 24), false, (.mov (.tmp 9))⟩, ⟨none, none, false, (.st 5 (.tmp 6) (.tmp 23))⟩, ⟨none, (some 7), false, (.mov (.tmp 24))⟩]
@[reducible] def c10s7 : C := (.ops c10r6 (some [6, 7]))
@[reducible] def c10s8 : C := (.seq c10s7 .ret)
@[reducible] def c10s9 : C := (.cond (.tmp 22) c10s8 .skip)
@[reducible] def c10s10 : C := (.seq c10s5 c10s9)
@[reducible] def c10s11 : C := (.seq c10s3 c10s10)
@[reducible] def c10r12 : List J := [⟨none, (some 25), false, (.ldN 4 (.tmp 5))⟩, ⟨none, (some 26), false, (.mov (.const (.int .i64 0)))⟩]
@[reducible] def c10s13 : C := (.ops c10r12 (some [0, 4, 5, 6, 25, 26]))
@[reducible] def c10r14 : List J := [⟨none, (some 27), false, (.cmp .lss (.tmp 26) (.const (.int .i64 4)))⟩]
@[reducible] def c10s15 : C := (.ops c10r14 (some [0, 4, 5, 6, 25, 26, 27]))
@[reducible] def c10s16 : C := (.cond (.tmp 27) .skip (.exit 0))
@[reducible] def c10r17 : List J := [⟨none, (some 28), false, (.ixv 4 (.tmp 25) (.tmp 26))⟩, ⟨none, (some 11), false, (.mov (.tmp 28))⟩]
@[reducible] def c10s18 : C := (.ops c10r17 (some [0, 4, 5, 6, 11, 25, 26]))
@[reducible] def c10r19 : List J := [⟨none, (some 29), false, (.mov (.tmp 11))⟩, ⟨none, (some 30), false, (.cmp .lss (.tmp 29) (.const (.int .i64 0)))⟩, ⟨none, (some 31), false, (.mov (.tmp 30))⟩, ⟨(some ((some 31), false)), (some 32), false, (.mov (.tmp 11))⟩, ⟨(some ((some 31), false)), (some 33), false, (.cmp .gtr (.tmp 32) (.const (.int .i64 99)))⟩, ⟨none, (some 34), false, (.pick (.tmp 31) (.const (.bool true)) (.tmp 33))⟩]
@[reducible] def c10s20 : C := (.ops c10r19 (some [0, 4, 5, 6, 25, 26, 34]))
@[reducible] def c10r21 : List J := [⟨none, (some 35), false, (.bld [(.int .i64 0), (.int .u8 0), (.int .u16 0), (.int .i64 0), (.int .i64 0)] [(0, 1), (1, 1), (2, 1), (3, 1), (4, 1)] [])⟩, ⟨none, none, false, (.st 5 (.tmp 6) (.tmp 35))⟩, ⟨none, (some 7), false, (.mov (.const (.int .i64 2)))⟩]
@[reducible] def c10s22 : C := (.ops c10r21 (some [6, 7]))
@[reducible] def c10s23 : C := (.seq c10s22 .ret)
@[reducible] def c10s24 : C := (.cond (.tmp 34) c10s23 .skip)
@[reducible] def c10s25 : C := (.seq c10s20 c10s24)
@[reducible] def c10s26 : C := (.seq c10s18 c10s25)
@[reducible] def c10s27 : C := (.block 1 c10s26)
@[reducible] def c10r28 : List J := [⟨none, (some 36), false, (.arith .add (.tmp 26) (.const (.int .i64 1)))⟩, ⟨none, (some 26), false, (.mov (.tmp 36))⟩]
@[reducible] def c10s29 : C := (.ops c10r28 (some [0, 4, 5, 6, 25, 26]))
@[reducible] def c10s30 : C := (.seq c10s27 c10s29)
@[reducible] def c10s31 : C := (.seq c10s16 c10s30)
@[reducible] def c10s32 : C := (.seq c10s15 c10s31)
@[reducible] def c10s33 : C := (.loop c10s32)
@[reducible] def c10s34 : C := (.block 0 c10s33)
@[reducible] def c10s35 : C := (.seq c10s13 c10s34)
@[reducible] def c10r36 : List J := [⟨none, (some 37), false, (.ldN 4 (.tmp 5))⟩, ⟨none, (some 38), false, (.mov (.const (.int .i64 0)))⟩]
@[reducible] def c10s37 : C := (.ops c10r36 (some [0, 4, 6, 37, 38]))
@[reducible] def c10r38 : List J := [⟨none, (some 39), false, (.cmp .lss (.tmp 38) (.const (.int .i64 4)))⟩]
@[reducible] def c10s39 : C := (.ops c10r38 (some [0, 4, 6, 37, 38, 39]))
@[reducible] def c10s40 : C := (.cond (.tmp 39) .skip (.exit 2))
@[reducible] def c10r41 : List J := [⟨none, (some 40), false, (.mov (.tmp 38))⟩, ⟨none, (some 41), false, (.ixv 4 (.tmp 37) (.tmp 38))⟩, ⟨none, (some 12), false, (.mov (.tmp 40))⟩, ⟨none, (some 13), false, (.mov (.tmp 41))⟩]
@[reducible] def c10s42 : C := (.ops c10r41 (some [0, 4, 6, 12, 13, 37, 38]))
@[reducible] def c10r43 : List J := [⟨none, (some 43), false, (.mov (.tmp 0))⟩, ⟨none, (some 44), false, (.mov (.tmp 12))⟩, ⟨none, (some 45), false, (.arith .add (.tmp 44) (.const (.int .i64 1)))⟩, ⟨none, (some 46), false, (.cnv .u8 (.tmp 45))⟩, ⟨none, (some 47), false, (.call (.func 48) [(.tmp 43), (.tmp 46)])⟩, ⟨none, (some 42), false, (.mov (.tmp 47))⟩, ⟨none, (some 48), false, (.ext 0 (.tmp 42))⟩, ⟨none, (some 49), false, (.ext 1 (.tmp 42))⟩, ⟨none, (some 14), false, (.alloc [(.int .u8 0), (.string ⟨#[]⟩), (.int .i64 0), (.int .i64 0)] 4 63)⟩, ⟨none, none, false, (.st 4 (.tmp 14) (.tmp 48))⟩, ⟨none, (some 15), false, (.mov (.tmp 49))⟩]
@[reducible] def c10s44 : C := (.ops c10r43 (some [0, 4, 6, 13, 14, 15, 37, 38]))
@[reducible] def c10r45 : List J := [⟨none, (some 50), false, (.mov (.tmp 15))⟩]
@[reducible] def c10s46 : C := (.ops c10r45 (some [0, 4, 6, 13, 14, 37, 38, 50]))
@[reducible] def c10r47 : List J := [⟨none, (some 51), false, (.faddr 3 (.tmp 4))⟩, ⟨none, (some 52), false, (.ld1 (.tmp 51))⟩, ⟨none, (some 53), false, (.mov (.tmp 13))⟩, ⟨none, (some 54), false, (.faddr 2 (.tmp 14))⟩, ⟨none, (some 55), false, (.ld1 (.tmp 54))⟩, ⟨none, (some 56), false, (.arith .mul (.tmp 53) (.tmp 55))⟩, ⟨none, (some 57), false, (.arith .add (.tmp 52) (.tmp 56))⟩, ⟨none, (some 58), false, (.faddr 3 (.tmp 4))⟩, ⟨none, none, false, (.st 1 (.tmp 58) (.tmp 57))⟩]
@[reducible] def c10s48 : C := (.ops c10r47 (some [0, 4, 6, 13, 14, 37, 38]))
@[reducible] def c10r49 : List J := [⟨none, (some 59), false, (.faddr 4 (.tmp 4))⟩, ⟨none, (some 60), false, (.ld1 (.tmp 59))⟩, ⟨none, (some 61), false, (.mov (.tmp 13))⟩, ⟨none, (some 62), false, (.faddr 3 (.tmp 14))⟩, ⟨none, (some 63), false, (.ld1 (.tmp 62))⟩, ⟨none, (some 64), false, (.arith .mul (.tmp 61) (.tmp 63))⟩, ⟨none, (some 65), false, (.arith .add (.tmp 60) (.tmp 64))⟩, ⟨none, (some 66), false, (.faddr 4 (.tmp 4))⟩, ⟨none, none, false, (.st 1 (.tmp 66) (.tmp 65))⟩]
@[reducible] def c10s50 : C := (.ops c10r49 (some [0, 4, 6, 37, 38]))
@[reducible] def c10s51 : C := (.seq c10s48 c10s50)
@[reducible] def c10s52 : C := (.cond (.tmp 50) c10s51 .skip)
@[reducible] def c10s53 : C := (.seq c10s46 c10s52)
@[reducible] def c10s54 : C := (.seq c10s44 c10s53)
@[reducible] def c10s55 : C := (.seq c10s42 c10s54)
@[reducible] def c10s56 : C := (.block 3 c10s55)
@[reducible] def c10r57 : List J := [⟨none, (some 67), false, (.arith .add (.tmp 38) (.const (.int .i64 1)))⟩, ⟨none, (some 38), false, (.mov (.tmp 67))⟩]
@[reducible] def c10s58 : C := (.ops c10r57 (some [0, 4, 6, 37, 38]))
@[reducible] def c10s59 : C := (.seq c10s56 c10s58)
@[reducible] def c10s60 : C := (.seq c10s40 c10s59)
@[reducible] def c10s61 : C := (.seq c10s39 c10s60)
@[reducible] def c10s62 : C := (.loop c10s61)
@[reducible] def c10s63 : C := (.block 2 c10s62)
@[reducible] def c10s64 : C := (.seq c10s37 c10s63)
@[reducible] def c10r65 : List J := [⟨none, (some 68), false, (.faddr 3 (.tmp 4))⟩, ⟨none, (some 69), false, (.ld1 (.tmp 68))⟩, ⟨none, (some 70), false, (.mnx true (.tmp 69) (.const (.int .i64 0)))⟩, ⟨none, (some 71), false, (.faddr 3 (.tmp 4))⟩, ⟨none, none, false, (.st 1 (.tmp 71) (.tmp 70))⟩]
@[reducible] def c10s66 : C := (.ops c10r65 (some [4, 6]))
@[reducible] def c10r67 : List J := [⟨none, (some 72), false, (.ldN 5 (.tmp 4))⟩, ⟨none, none, false, (.st 5 (.tmp 6) (.tmp 72))⟩, ⟨none, (some 7), false, (.mov (.const (.int .i64 0)))⟩]
@[reducible] def c10s68 : C := (.ops c10r67 (some [6, 7]))
@[reducible] def c10s69 : C := (.seq c10s68 .ret)
@[reducible] def c10s70 : C := (.seq c10s66 c10s69)
@[reducible] def c10s71 : C := (.seq c10s64 c10s70)
@[reducible] def c10s72 : C := (.seq c10s35 c10s71)
@[reducible] def c10s73 : C := (.seq c10s11 c10s72)
@[reducible] def c10 : C := (.seq c10s1 c10s73)
theorem f10 : compF Go.Proofs.Tryd.prog 10 = some ⟨73, strip c10, [(.cell 6 30), (.tmp 7)]⟩ := by kernel_rfl
theorem o10 : okC 73 c10 = true := by kernel_rfl

@[reducible] def c11r0 : List J := [⟨none, (some 4), false, (.box 30 (.tmp 1))⟩, ⟨none, (some 5), false, (.box 31 (.tmp 2))⟩, ⟨none, (some 6), false, (.alloc [(.int .i64 0), (.int .u8 0), (.int .u16 0), (.int .i64 0), (.int .i64 0)] 5 30)⟩, ⟨none, (some 7), false, (.mov (.const (.int .i64 0)))⟩]
@[reducible] def c11s1 : C := (.ops c11r0 (some [0, 4, 5, 6]))
@[reducible] def c11r2 : List J := [⟨none, (some 12), false, (.mov (.tmp 0))⟩, ⟨none, (some 13), false, (.call (.func 49) [(.tmp 12)])⟩]
@[reducible] def c11s3 : C := (.ops c11r2 (some [0, 4, 5, 6, 13]))
@[reducible] def c11r4 : List J := [⟨none, (some 14), false, (.bld [(.int .i64 0), (.int .u8 0), (.int .u16 0), (.int .i64 0), (.int .i64 0)] [(0, 1), (1, 1), (2, 1), (3, 1), (4, 1)] [])⟩, ⟨none, none, false, (.st 5 (.tmp 6) (.tmp 14))⟩, ⟨none, (some 7), false, (.mov (.const (.int .i64 1)))⟩]
@[reducible] def c11s5 : C := (.ops c11r4 (some [6, 7]))
@[reducible] def c11s6 : C := (.seq c11s5 .ret)
@[reducible] def c11s7 : C := (.cond (.tmp 13) c11s6 .skip)
@[reducible] def c11s8 : C := (.seq c11s3 c11s7)
@[reducible] def c11r9 : List J := [⟨none, (some 8), false, (.mov (.const (.int .i64 0)))⟩]
@[reducible] def c11s10 : C := (.ops c11r9 (some [0, 4, 5, 6, 8]))
@[reducible] def c11r11 : List J := [⟨none, (some 15), false, (.mov (.tmp 8))⟩, ⟨none, (some 16), false, (.cmp .lss (.tmp 15) (.const (.int .i64 4)))⟩]
@[reducible] def c11s12 : C := (.ops c11r11 (some [0, 4, 5, 6, 8, 16]))
@[reducible] def c11s13 : C := (.cond (.tmp 16) .skip (.exit 0))
@[reducible] def c11s14 : C := (.seq c11s12 c11s13)
@[reducible] def c11r15 : List J := [⟨none, (some 19), false, (.mov (.tmp 8))⟩, ⟨none, (some 20), false, (.ixa 4 1 (.tmp 5) (.tmp 19))⟩, ⟨none, (some 21), false, (.ld1 (.tmp 20))⟩, ⟨none, (some 22), false, (.cmp .lss (.tmp 21) (.const (.int .i64 0)))⟩, ⟨none, (some 23), false, (.mov (.tmp 22))⟩, ⟨(some ((some 23), false)), (some 24), false, (.mov (.tmp 8))⟩, ⟨(some ((some 23), false)), (some 25), false, (.ixa 4 1 (.tmp 5) (.tmp 24))⟩, ⟨(some ((some 23), false)), (some 26), false, (.ld1 (.tmp 25))⟩, ⟨(some ((some 23), false)), (some 27), false, (.cmp .gtr (.tmp 26) (.const (.int .i64 99)))⟩, ⟨none, (some 28), false, (.pick (.tmp 23) (.const (.bool true)) (.tmp 27))⟩]
@[reducible] def c11s16 : C := (.ops c11r15 (some [0, 4, 5, 6, 8, 28]))
@[reducible] def c11r17 : List J := [⟨none, (some 29), false, (.bld [(.int .i64 0), (.int .u8 0), (.int .u16 0), (.int .i64 0), (.int .i64 0)] [(0, 1), (1, 1), (2, 1), (3, 1), (4, 1)] [])⟩, ⟨none, none, false, (.st 5 (.tmp 6) (.tmp 29))⟩, ⟨none, (some 7), false, (.mov (.const (.int .i64 2)))⟩]
@[reducible] def c11s18 : C := (.ops c11r17 (some [6, 7]))
@[reducible] def c11s19 : C := (.seq c11s18 .ret)
@[reducible] def c11s20 : C := (.cond (.tmp 28) c11s19 .skip)
@[reducible] def c11s21 : C := (.seq c11s16 c11s20)
@[reducible] def c11s22 : C := (.block 1 c11s21)
@[reducible] def c11r23 : List J := [⟨none, (some 17), false, (.mov (.tmp 8))⟩, ⟨none, (some 18), false, (.arith .add (.tmp 17) (.const (.int .i64 1)))⟩, ⟨none, (some 8), false, (.mov (.tmp 18))⟩]
@[reducible] def c11s24 : C := (.ops c11r23 (some [0, 4, 5, 6, 8]))
@[reducible] def c11s25 : C := (.seq c11s22 c11s24)
@[reducible] def c11s26 : C := (.seq c11s14 c11s25)
@[reducible] def c11s27 : C := (.loop c11s26)
@[reducible] def c11s28 : C := (.block 0 c11s27)
@[reducible] def c11s29 : C := (.seq c11s10 c11s28)
@[reducible] def c11r30 : List J := [⟨none, (some 9), false, (.mov (.const (.int .i64 0)))⟩]
@[reducible] def c11s31 : C := (.ops c11r30 (some [0, 4, 5, 6, 9]))
@[reducible] def c11r32 : List J := [⟨none, (some 30), false, (.mov (.tmp 9))⟩, ⟨none, (some 31), false, (.cmp .lss (.tmp 30) (.const (.int .i64 4)))⟩]
@[reducible] def c11s33 : C := (.ops c11r32 (some [0, 4, 5, 6, 9, 31]))
@[reducible] def c11s34 : C := (.cond (.tmp 31) .skip (.exit 2))
@[reducible] def c11s35 : C := (.seq c11s33 c11s34)
@[reducible] def c11r36 : List J := [⟨none, (some 35), false, (.mov (.tmp 0))⟩, ⟨none, (some 36), false, (.mov (.tmp 9))⟩, ⟨none, (some 37), false, (.arith .add (.tmp 36) (.const (.int .i64 1)))⟩, ⟨none, (some 38), false, (.cnv .u8 (.tmp 37))⟩, ⟨none, (some 39), false, (.call (.func 50) [(.tmp 35), (.tmp 38)])⟩, ⟨none, (some 34), false, (.mov (.tmp 39))⟩, ⟨none, (some 40), false, (.ext 0 (.tmp 34))⟩, ⟨none, (some 41), false, (.ext 1 (.tmp 34))⟩, ⟨none, (some 10), false, (.alloc [(.int .u8 0), (.string ⟨#[]⟩), (.int .i64 0), (.int .i64 0)] 4 63)⟩, ⟨none, none, false, (.st 4 (.tmp 10) (.tmp 40))⟩, ⟨none, (some 11), false, (.mov (.tmp 41))⟩]
@[reducible] def c11s37 : C := (.ops c11r36 (some [0, 4, 5, 6, 9, 10, 11]))
@[reducible] def c11r38 : List J := [⟨none, (some 42), false, (.mov (.tmp 11))⟩]
@[reducible] def c11s39 : C := (.ops c11r38 (some [0, 4, 5, 6, 9, 10, 42]))
@[reducible] def c11r40 : List J := [⟨none, (some 43), true, (.faddr 3 (.tmp 4))⟩, ⟨none, (some 44), true, (.ld1 (.tmp 43))⟩, ⟨none, (some 45), true, (.mov (.tmp 9))⟩, ⟨none, (some 46), true, (.ixa 4 1 (.tmp 5) (.tmp 45))⟩, ⟨none, (some 47), true, (.ld1 (.tmp 46))⟩, ⟨none, (some 48), true, (.faddr 2 (.tmp 10))⟩, ⟨none, (some 49), true, (.ld1 (.tmp 48))⟩, ⟨none, (some 50), true, (.arith .mul (.tmp 47) (.tmp 49))⟩, ⟨none, (some 51), false, (.arith .add (.tmp 44) (.tmp 50))⟩, ⟨none, (some 52), false, (.faddr 3 (.tmp 4))⟩, ⟨none, none, false, (.st 1 (.tmp 52) (.tmp 51))⟩]
@[reducible] def c11s41 : C := (.ops c11r40 (some [0, 4, 5, 6, 9, 10]))
@[reducible] def c11r42 : List J := [⟨none, (some 53), true, (.faddr 4 (.tmp 4))⟩, ⟨none, (some 54), true, (.ld1 (.tmp 53))⟩, ⟨none, (some 55), true, (.mov (.tmp 9))⟩, ⟨none, (some 56), true, (.ixa 4 1 (.tmp 5) (.tmp 55))⟩, ⟨none, (some 57), true, (.ld1 (.tmp 56))⟩, ⟨none, (some 58), true, (.faddr 3 (.tmp 10))⟩, ⟨none, (some 59), true, (.ld1 (.tmp 58))⟩, ⟨none, (some 60), true, (.arith .mul (.tmp 57) (.tmp 59))⟩, ⟨none, (some 61), false, (.arith .add (.tmp 54) (.tmp 60))⟩, ⟨none, (some 62), false, (.faddr 4 (.tmp 4))⟩, ⟨none, none, false, (.st 1 (.tmp 62) (.tmp 61))⟩]
@[reducible] def c11s43 : C := (.ops c11r42 (some [0, 4, 5, 6, 9]))
@[reducible] def c11s44 : C := (.seq c11s41 c11s43)
@[reducible] def c11s45 : C := (.cond (.tmp 42) c11s44 .skip)
@[reducible] def c11s46 : C := (.seq c11s39 c11s45)
@[reducible] def c11s47 : C := (.seq c11s37 c11s46)
@[reducible] def c11s48 : C := (.block 3 c11s47)
@[reducible] def c11r49 : List J := [⟨none, (some 32), false, (.mov (.tmp 9))⟩, ⟨none, (some 33), false, (.arith .add (.tmp 32) (.const (.int .i64 1)))⟩, ⟨none, (some 9), false, (.mov (.tmp 33))⟩]
@[reducible] def c11s50 : C := (.ops c11r49 (some [0, 4, 5, 6, 9]))
@[reducible] def c11s51 : C := (.seq c11s48 c11s50)
@[reducible] def c11s52 : C := (.seq c11s35 c11s51)
@[reducible] def c11s53 : C := (.loop c11s52)
@[reducible] def c11s54 : C := (.block 2 c11s53)
@[reducible] def c11s55 : C := (.seq c11s31 c11s54)
@[reducible] def c11r56 : List J := [⟨none, (some 63), false, (.faddr 3 (.tmp 4))⟩, ⟨none, (some 64), false, (.ld1 (.tmp 63))⟩, ⟨none, (some 65), false, (.cmp .lss (.tmp 64) (.const (.int .i64 0)))⟩]
@[reducible] def c11s57 : C := (.ops c11r56 (some [4, 6, 65]))
@[reducible] def c11r58 : List J := [⟨none, (some 66), false, (.faddr 3 (.tmp 4))⟩, ⟨none, none, false, (.st 1 (.tmp 66) (.const (.int .i64 0)))⟩]
@[reducible] def c11s59 : C := (.ops c11r58 (some [4, 6]))
@[reducible] def c11s60 : C := (.cond (.tmp 65) c11s59 .skip)
@[reducible] def c11s61 : C := (.seq c11s57 c11s60)
@[reducible] def c11r62 : List J := [⟨none, (some 67), false, (.ldN 5 (.tmp 4))⟩, ⟨none, none, false, (.st 5 (.tmp 6) (.tmp 67))⟩, ⟨none, (some 7), false, (.mov (.const (.int .i64 0)))⟩]
@[reducible] def c11s63 : C := (.ops c11r62 (some [6, 7]))
@[reducible] def c11s64 : C := (.seq c11s63 .ret)
@[reducible] def c11s65 : C := (.seq c11s61 c11s64)
@[reducible] def c11s66 : C := (.seq c11s55 c11s65)
@[reducible] def c11s67 : C := (.seq c11s29 c11s66)
@[reducible] def c11s68 : C := (.seq c11s8 c11s67)
@[reducible] def c11 : C := (.seq c11s1 c11s68)
theorem f11 : compF Go.Proofs.Tryd.prog 11 = some ⟨68, strip c11, [(.cell 6 30), (.tmp 7)]⟩ := by kernel_rfl
theorem o11 : okC 68 c11 = true := by kernel_rfl

@[reducible] def c12r0 : List J := [⟨none, (some 2), false, (.box 30 (.tmp 0))⟩, ⟨none, (some 3), false, (.box 34 (.tmp 1))⟩, ⟨none, (some 4), false, (.mov (.const (.int .i64 0)))⟩]
@[reducible] def c12s1 : C := (.ops c12r0 (some [2, 3]))
@[reducible] def c12r2 : List J := [⟨none, (some 5), false, (.faddr 4 (.tmp 2))⟩, ⟨none, (some 6), false, (.ld1 (.tmp 5))⟩, ⟨none, (some 7), false, (.faddr 4 (.tmp 3))⟩, ⟨none, (some 8), false, (.ld1 (.tmp 7))⟩, ⟨none, (some 9), false, (.arith .sub (.tmp 6) (.tmp 8))⟩, ⟨none, (some 4), false, (.mov (.tmp 9))⟩]
@[reducible] def c12s3 : C := (.ops c12r2 (some [4]))
@[reducible] def c12s4 : C := (.seq c12s3 .ret)
@[reducible] def c12 : C := (.seq c12s1 c12s4)
theorem f12 : compF Go.Proofs.Tryd.prog 12 = some ⟨10, strip c12, [(.tmp 4)]⟩ := by kernel_rfl
theorem o12 : okC 10 c12 = true := by kernel_rfl

@[reducible] def c13r0 : List J := [⟨none, (some 2), false, (.box 30 (.tmp 0))⟩, ⟨none, (some 3), false, (.box 34 (.tmp 1))⟩, ⟨none, (some 4), false, (.mov (.const (.int .i64 0)))⟩]
@[reducible] def c13s1 : C := (.ops c13r0 (some [2, 3]))
@[reducible] def c13r2 : List J := [⟨none, (some 5), false, (.faddr 4 (.tmp 2))⟩, ⟨none, (some 6), false, (.ld1 (.tmp 5))⟩, ⟨none, (some 7), false, (.faddr 4 (.tmp 3))⟩, ⟨none, (some 8), false, (.ld1 (.tmp 7))⟩, ⟨none, (some 9), false, (.arith .sub (.tmp 6) (.tmp 8))⟩, ⟨none, (some 4), false, (.mov (.tmp 9))⟩]
@[reducible] def c13s3 : C := (.ops c13r2 (some [4]))
@[reducible] def c13s4 : C := (.seq c13s3 .ret)
@[reducible] def c13 : C := (.seq c13s1 c13s4)
theorem f13 : compF Go.Proofs.Tryd.prog 13 = some ⟨10, strip c13, [(.tmp 4)]⟩ := by kernel_rfl
theorem o13 : okC 10 c13 = true := by kernel_rfl

@[reducible] def c43r0 : List J := [⟨none, (some 1), false, (.box 51 (.tmp 0))⟩, ⟨none, (some 2), false, (.alloc [(.string ⟨#[]⟩), (.int .u8 0), (.int .u8 0), (.int .i64 0), (.int .i64 0), (.int .i64 0), (.int .u16 0), (.bool false), (.slice none 0 0)] 9 51)⟩]
@[reducible] def c43s1 : C := (.ops c43r0 (some [1, 2]))
@[reducible] def c43r2 : List J := [⟨none, (some 3), false, (.faddr 8 (.tmp 1))⟩, ⟨none, (some 4), false, (.ld1 (.tmp 3))⟩, ⟨none, (some 5), false, (.call (.func 77) [(.tmp 4)])⟩, ⟨none, (some 6), false, (.faddr 8 (.tmp 1))⟩, ⟨none, none, false, (.st 1 (.tmp 6) (.tmp 5))⟩]
@[reducible] def c43s3 : C := (.ops c43r2 (some [1, 2]))
@[reducible] def c43r4 : List J := [⟨none, (some 7), false, (.ldN 9 (.tmp 1))⟩, ⟨none, none, false, (.st 9 (.tmp 2) (.tmp 7))⟩]
@[reducible] def c43s5 : C := (.ops c43r4 (some [2]))
@[reducible] def c43s6 : C := (.seq c43s5 .ret)
@[reducible] def c43s7 : C := (.seq c43s3 c43s6)
@[reducible] def c43 : C := (.seq c43s1 c43s7)
theorem f43 : compF Go.Proofs.Tryd.prog 43 = some ⟨8, strip c43, [(.cell 2 51)]⟩ := by kernel_rfl
theorem o43 : okC 8 c43 = true := by kernel_rfl

@[reducible] def c77r0 : List J := [⟨none, (some 2), false, (.mov (.const (.slice none 0 0)))⟩]
@[reducible] def c77s1 : C := (.ops c77r0 (some [0]))
@[reducible] def c77r2 : List J := [⟨none, (some 3), false, (.mov (.const (.slice none 0 0)))⟩]
@[reducible] def c77s3 : C := (.ops c77r2 (some [0, 3]))
@[reducible] def c77r4 : List J := [⟨none, (some 4), false, (.mov (.tmp 3))⟩, ⟨none, (some 5), false, (.mov (.tmp 0))⟩, ⟨none, (some 6), false, (.app false 8 40 72 (.tmp 4) (.tmp 5))⟩, ⟨none, (some 2), false, (.mov (.tmp 6))⟩]
@[reducible] def c77s5 : C := (.ops c77r4 (some [2]))
@[reducible] def c77s6 : C := (.seq c77s5 .ret)
@[reducible] def c77s7 : C := (.seq c77s3 c77s6)
@[reducible] def c77 : C := (.seq c77s1 c77s7)
theorem f77 : compF Go.Proofs.Tryd.prog 77 = some ⟨7, strip c77, [(.tmp 2)]⟩ := by kernel_rfl
theorem o77 : okC 7 c77 = true := by kernel_rfl

end Go.Proofs.YtdgbnaignpploaaDoor.k
