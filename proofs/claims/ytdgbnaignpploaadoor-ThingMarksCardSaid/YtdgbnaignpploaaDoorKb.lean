/- PRINTED BY symgen.py: the compiled code of functions 16 17 18 19 20 21 22 23 29 33 48 53 55 56 57 58 59 60 61 64 65 66 83 84 85. -/
import Derived.Test.YtdgbnaignpploaaDoorChecked
import Derived.Test.YtdgbnaignpploaaDoorSy
namespace Go.Proofs.YtdgbnaignpploaaDoor.k
open Go.Sym
set_option linter.unusedVariables false
set_option maxRecDepth 100000

@[reducible] def c16r0 : List J := [⟨none, (some 2), false, (.mov (.const (.int .i64 0)))⟩]
@[reducible] def c16s1 : C := (.ops c16r0 (some [0]))
@[reducible] def c16r2 : List J := [⟨none, (some 9), false, (.mov (.tmp 0))⟩, ⟨none, (some 10), false, (.call (.func 55) [(.tmp 9)])⟩, ⟨none, (some 3), false, (.mov (.tmp 10))⟩]
@[reducible] def c16s3 : C := (.ops c16r2 (some [0, 3]))
@[reducible] def c16r4 : List J := [⟨none, (some 11), false, (.mov (.tmp 3))⟩, ⟨none, (some 12), false, (.cmp .neq (.tmp 11) (.const (.int .i64 0)))⟩]
@[reducible] def c16s5 : C := (.ops c16r4 (some [0, 3, 12]))
@[reducible] def c16r6 : List J := [⟨none, (some 13), false, (.mov (.tmp 3))⟩, ⟨none, (some 2), false, (.mov (.tmp 13))⟩]
@[reducible] def c16s7 : C := (.ops c16r6 (some [2]))
@[reducible] def c16s8 : C := (.seq c16s7 .ret)
@[reducible] def c16s9 : C := (.cond (.tmp 12) c16s8 .skip)
@[reducible] def c16s10 : C := (.seq c16s5 c16s9)
@[reducible] def c16s11 : C := (.seq c16s3 c16s10)
@[reducible] def c16r12 : List J := [⟨none, (some 14), true, (.mov (.tmp 0))⟩, ⟨none, (some 15), true, (.nck (.tmp 14))⟩, ⟨none, (some 16), true, (.faddr 3 (.tmp 15))⟩, ⟨none, (some 17), true, (.mov (.tmp 0))⟩, ⟨none, (some 18), true, (.nck (.tmp 17))⟩, ⟨none, (some 19), true, (.faddr 2 (.tmp 18))⟩, ⟨none, (some 20), true, (.ld1 (.tmp 19))⟩, ⟨none, (some 21), true, (.sla 9 64 (.tmp 16) none (some (.tmp 20)))⟩, ⟨none, (some 22), true, (.len (.tmp 21))⟩, ⟨none, (some 23), true, (.mov (.const (.int .i64 0)))⟩]
@[reducible] def c16s13 : C := (.ops c16r12 (some [0, 21, 22, 23]))
@[reducible] def c16r14 : List J := [⟨none, (some 24), false, (.cmp .lss (.tmp 23) (.tmp 22))⟩]
@[reducible] def c16s15 : C := (.ops c16r14 (some [0, 21, 22, 23, 24]))
@[reducible] def c16s16 : C := (.cond (.tmp 24) .skip (.exit 0))
@[reducible] def c16r17 : List J := [⟨none, (some 25), false, (.ixs 9 (.tmp 21) (.tmp 23))⟩, ⟨none, (some 26), false, (.ldN 9 (.tmp 25))⟩, ⟨none, (some 5), false, (.alloc [(.string ⟨#[]⟩), (.int .u8 0), (.int .u8 0), (.int .i64 0), (.int .i64 0), (.int .i64 0), (.int .u16 0), (.bool false), (.slice none 0 0)] 9 51)⟩, ⟨none, none, false, (.st 9 (.tmp 5) (.tmp 26))⟩]
@[reducible] def c16s18 : C := (.ops c16r17 (some [0, 5, 21, 22, 23]))
@[reducible] def c16r19 : List J := [⟨none, (some 27), false, (.faddr 8 (.tmp 5))⟩, ⟨none, (some 28), false, (.ld1 (.tmp 27))⟩, ⟨none, (some 29), false, (.len (.tmp 28))⟩, ⟨none, (some 30), false, (.mov (.const (.int .i64 0)))⟩]
@[reducible] def c16s20 : C := (.ops c16r19 (some [0, 21, 22, 23, 28, 29, 30]))
@[reducible] def c16r21 : List J := [⟨none, (some 31), false, (.cmp .lss (.tmp 30) (.tmp 29))⟩]
@[reducible] def c16s22 : C := (.ops c16r21 (some [0, 21, 22, 23, 28, 29, 30, 31]))
@[reducible] def c16s23 : C := (.cond (.tmp 31) .skip (.exit 2))
@[reducible] def c16r24 : List J := [⟨none, (some 32), false, (.ixs 8 (.tmp 28) (.tmp 30))⟩, ⟨none, (some 33), false, (.ldN 8 (.tmp 32))⟩, ⟨none, (some 7), false, (.alloc [(.int .u8 0), (.int .u8 0), (.int .u8 0), (.int .i64 0), (.int .u8 0), (.int .u8 0), (.int .u8 0), (.string ⟨#[]⟩)] 8 72)⟩, ⟨none, none, false, (.st 8 (.tmp 7) (.tmp 33))⟩]
@[reducible] def c16s25 : C := (.ops c16r24 (some [0, 7, 21, 22, 23, 28, 29, 30]))
@[reducible] def c16r26 : List J := [⟨none, (some 34), false, (.faddr 1 (.tmp 7))⟩, ⟨none, (some 35), false, (.ld1 (.tmp 34))⟩, ⟨none, (some 36), false, (.cmp .neq (.tmp 35) (.const (.int .u8 7)))⟩]
@[reducible] def c16s27 : C := (.ops c16r26 (some [0, 7, 21, 22, 23, 28, 29, 30, 36]))
@[reducible] def c16s28 : C := (.cond (.tmp 36) (.exit 3) .skip)
@[reducible] def c16s29 : C := (.seq c16s27 c16s28)
@[reducible] def c16r30 : List J := [⟨none, (some 37), false, (.mov (.tmp 0))⟩, ⟨none, (some 38), false, (.faddr 7 (.tmp 7))⟩, ⟨none, (some 39), false, (.ld1 (.tmp 38))⟩, ⟨none, (some 40), false, (.call (.func 56) [(.tmp 37), (.tmp 39)])⟩, ⟨none, (some 8), false, (.mov (.tmp 40))⟩]
@[reducible] def c16s31 : C := (.ops c16r30 (some [0, 8, 21, 22, 23, 28, 29, 30]))
@[reducible] def c16r32 : List J := [⟨none, (some 42), false, (.mov (.tmp 8))⟩, ⟨none, (some 43), false, (.cmp .lss (.tmp 42) (.const (.int .i64 0)))⟩, ⟨none, (some 41), false, (.mov (.tmp 43))⟩]
@[reducible] def c16s33 : C := (.ops c16r32 (some [0, 8, 21, 22, 23, 28, 29, 30, 41]))
@[reducible] def c16r34 : List J := [⟨none, (some 2), false, (.mov (.const (.int .i64 6)))⟩]
@[reducible] def c16s35 : C := (.ops c16r34 (some [2]))
@[reducible] def c16s36 : C := (.seq c16s35 .ret)
@[reducible] def c16r37 : List J := [⟨none, (some 45), false, (.mov (.tmp 0))⟩, ⟨none, (some 46), false, (.mov (.tmp 8))⟩, ⟨none, (some 47), false, (.nck (.tmp 45))⟩, ⟨none, (some 48), false, (.faddr 3 (.tmp 47))⟩, ⟨none, (some 49), false, (.ixa 64 9 (.tmp 48) (.tmp 46))⟩, ⟨none, (some 50), false, (.faddr 2 (.tmp 49))⟩, ⟨none, (some 51), false, (.ld1 (.tmp 50))⟩, ⟨none, (some 52), false, (.cmp .eql (.tmp 51) (.const (.int .u8 2)))⟩, ⟨none, (some 44), false, (.mov (.tmp 52))⟩]
@[reducible] def c16s38 : C := (.ops c16r37 (some [0, 21, 22, 23, 28, 29, 30, 44]))
@[reducible] def c16r39 : List J := [⟨none, (some 2), false, (.mov (.const (.int .i64 8)))⟩]
@[reducible] def c16s40 : C := (.ops c16r39 (some [2]))
@[reducible] def c16s41 : C := (.seq c16s40 .ret)
@[reducible] def c16s42 : C := (.cond (.tmp 44) c16s41 .skip)
@[reducible] def c16s43 : C := (.seq c16s38 c16s42)
@[reducible] def c16s44 : C := (.cond (.tmp 41) c16s36 c16s43)
@[reducible] def c16s45 : C := (.seq c16s33 c16s44)
@[reducible] def c16s46 : C := (.block 4 c16s45)
@[reducible] def c16s47 : C := (.seq c16s31 c16s46)
@[reducible] def c16s48 : C := (.seq c16s29 c16s47)
@[reducible] def c16s49 : C := (.seq c16s25 c16s48)
@[reducible] def c16s50 : C := (.block 3 c16s49)
@[reducible] def c16r51 : List J := [⟨none, (some 53), false, (.arith .add (.tmp 30) (.const (.int .i64 1)))⟩, ⟨none, (some 30), false, (.mov (.tmp 53))⟩]
@[reducible] def c16s52 : C := (.ops c16r51 (some [0, 21, 22, 23, 28, 29, 30]))
@[reducible] def c16s53 : C := (.seq c16s50 c16s52)
@[reducible] def c16s54 : C := (.seq c16s23 c16s53)
@[reducible] def c16s55 : C := (.seq c16s22 c16s54)
@[reducible] def c16s56 : C := (.loop c16s55)
@[reducible] def c16s57 : C := (.block 2 c16s56)
@[reducible] def c16s58 : C := (.seq c16s20 c16s57)
@[reducible] def c16s59 : C := (.seq c16s18 c16s58)
@[reducible] def c16s60 : C := (.block 1 c16s59)
@[reducible] def c16r61 : List J := [⟨none, (some 54), false, (.arith .add (.tmp 23) (.const (.int .i64 1)))⟩, ⟨none, (some 23), false, (.mov (.tmp 54))⟩]
@[reducible] def c16s62 : C := (.ops c16r61 (some [0, 21, 22, 23]))
@[reducible] def c16s63 : C := (.seq c16s60 c16s62)
@[reducible] def c16s64 : C := (.seq c16s16 c16s63)
@[reducible] def c16s65 : C := (.seq c16s15 c16s64)
@[reducible] def c16s66 : C := (.loop c16s65)
@[reducible] def c16s67 : C := (.block 0 c16s66)
@[reducible] def c16s68 : C := (.seq c16s13 c16s67)
@[reducible] def c16r69 : List J := [⟨none, (some 55), false, (.mov (.tmp 0))⟩, ⟨none, (some 56), false, (.nck (.tmp 55))⟩, ⟨none, (some 57), false, (.faddr 1 (.tmp 56))⟩, ⟨none, none, false, (.st 1 (.tmp 57) (.const (.bool true)))⟩]
@[reducible] def c16s70 : C := (.ops c16r69 (some []))
@[reducible] def c16r71 : List J := [⟨none, (some 2), false, (.mov (.const (.int .i64 0)))⟩]
@[reducible] def c16s72 : C := (.ops c16r71 (some [2]))
@[reducible] def c16s73 : C := (.seq c16s72 .ret)
@[reducible] def c16s74 : C := (.seq c16s70 c16s73)
@[reducible] def c16s75 : C := (.seq c16s68 c16s74)
@[reducible] def c16s76 : C := (.seq c16s11 c16s75)
@[reducible] def c16 : C := (.seq c16s1 c16s76)
theorem f16 : compF Go.Proofs.Tryd.prog 16 = some ⟨58, strip c16, [(.tmp 2)]⟩ := by kernel_rfl
theorem o16 : okC 58 c16 = true := by kernel_rfl

@[reducible] def c17r0 : List J := [⟨none, (some 2), false, (.mov (.const (.bool false)))⟩]
@[reducible] def c17s1 : C := (.ops c17r0 (some [0]))
@[reducible] def c17r2 : List J := [⟨none, (some 3), false, (.mov (.tmp 0))⟩, ⟨none, (some 4), false, (.call (.func 57) [(.tmp 3)])⟩]
@[reducible] def c17s3 : C := (.ops c17r2 (some [0, 4]))
@[reducible] def c17r4 : List J := [⟨none, (some 2), false, (.mov (.const (.bool false)))⟩]
@[reducible] def c17s5 : C := (.ops c17r4 (some [2]))
@[reducible] def c17s6 : C := (.seq c17s5 .ret)
@[reducible] def c17s7 : C := (.cond (.tmp 4) c17s6 .skip)
@[reducible] def c17s8 : C := (.seq c17s3 c17s7)
@[reducible] def c17r9 : List J := [⟨none, (some 5), false, (.mov (.tmp 0))⟩, ⟨none, (some 6), false, (.nck (.tmp 5))⟩, ⟨none, (some 7), false, (.faddr 1 (.tmp 6))⟩, ⟨none, (some 8), false, (.ld1 (.tmp 7))⟩, ⟨none, (some 2), false, (.mov (.tmp 8))⟩]
@[reducible] def c17s10 : C := (.ops c17r9 (some [2]))
@[reducible] def c17s11 : C := (.seq c17s10 .ret)
@[reducible] def c17s12 : C := (.seq c17s8 c17s11)
@[reducible] def c17 : C := (.seq c17s1 c17s12)
theorem f17 : compF Go.Proofs.Tryd.prog 17 = some ⟨9, strip c17, [(.tmp 2)]⟩ := by kernel_rfl
theorem o17 : okC 9 c17 = true := by kernel_rfl

@[reducible] def c18r0 : List J := [⟨none, (some 2), false, (.mov (.const (.int .i64 0)))⟩]
@[reducible] def c18s1 : C := (.ops c18r0 (some [0]))
@[reducible] def c18r2 : List J := [⟨none, (some 3), false, (.mov (.tmp 0))⟩, ⟨none, (some 4), false, (.call (.func 57) [(.tmp 3)])⟩]
@[reducible] def c18s3 : C := (.ops c18r2 (some [0, 4]))
@[reducible] def c18r4 : List J := [⟨none, (some 2), false, (.mov (.const (.int .i64 0)))⟩]
@[reducible] def c18s5 : C := (.ops c18r4 (some [2]))
@[reducible] def c18s6 : C := (.seq c18s5 .ret)
@[reducible] def c18s7 : C := (.cond (.tmp 4) c18s6 .skip)
@[reducible] def c18s8 : C := (.seq c18s3 c18s7)
@[reducible] def c18r9 : List J := [⟨none, (some 5), false, (.mov (.tmp 0))⟩, ⟨none, (some 6), false, (.nck (.tmp 5))⟩, ⟨none, (some 7), false, (.faddr 2 (.tmp 6))⟩, ⟨none, (some 8), false, (.ld1 (.tmp 7))⟩, ⟨none, (some 2), false, (.mov (.tmp 8))⟩]
@[reducible] def c18s10 : C := (.ops c18r9 (some [2]))
@[reducible] def c18s11 : C := (.seq c18s10 .ret)
@[reducible] def c18s12 : C := (.seq c18s8 c18s11)
@[reducible] def c18 : C := (.seq c18s1 c18s12)
theorem f18 : compF Go.Proofs.Tryd.prog 18 = some ⟨9, strip c18, [(.tmp 2)]⟩ := by kernel_rfl
theorem o18 : okC 9 c18 = true := by kernel_rfl

@[reducible] def c19r0 : List J := [⟨none, (some 3), false, (.box 51 (.tmp 1))⟩, ⟨none, (some 4), false, (.mov (.const (.int .i64 0)))⟩]
@[reducible] def c19s1 : C := (.ops c19r0 (some [0, 3]))
@[reducible] def c19r2 : List J := [⟨none, (some 8), false, (.mov (.tmp 0))⟩, ⟨none, (some 9), false, (.call (.func 55) [(.tmp 8)])⟩, ⟨none, (some 5), false, (.mov (.tmp 9))⟩]
@[reducible] def c19s3 : C := (.ops c19r2 (some [0, 3, 5]))
@[reducible] def c19r4 : List J := [⟨none, (some 10), false, (.mov (.tmp 5))⟩, ⟨none, (some 11), false, (.cmp .neq (.tmp 10) (.const (.int .i64 0)))⟩]
@[reducible] def c19s5 : C := (.ops c19r4 (some [0, 3, 5, 11]))
@[reducible] def c19r6 : List J := [⟨none, (some 12), false, (.mov (.tmp 5))⟩, ⟨none, (some 4), false, (.mov (.tmp 12))⟩]
@[reducible] def c19s7 : C := (.ops c19r6 (some [4]))
@[reducible] def c19s8 : C := (.seq c19s7 .ret)
@[reducible] def c19s9 : C := (.cond (.tmp 11) c19s8 .skip)
@[reducible] def c19s10 : C := (.seq c19s5 c19s9)
@[reducible] def c19s11 : C := (.seq c19s3 c19s10)
@[reducible] def c19r12 : List J := [⟨none, (some 13), false, (.ldN 9 (.tmp 3))⟩, ⟨none, (some 14), false, (.call (.func 32) [(.tmp 13)])⟩, ⟨none, (some 6), false, (.mov (.tmp 14))⟩]
@[reducible] def c19s13 : C := (.ops c19r12 (some [0, 3, 6]))
@[reducible] def c19r14 : List J := [⟨none, (some 16), false, (.mov (.tmp 6))⟩, ⟨none, (some 17), false, (.cmp .neq (.tmp 16) (.const (.int .i64 0)))⟩, ⟨none, (some 15), false, (.mov (.tmp 17))⟩]
@[reducible] def c19s15 : C := (.ops c19r14 (some [0, 3, 6, 15]))
@[reducible] def c19r16 : List J := [⟨none, (some 18), false, (.mov (.tmp 6))⟩, ⟨none, (some 4), false, (.mov (.tmp 18))⟩]
@[reducible] def c19s17 : C := (.ops c19r16 (some [4]))
@[reducible] def c19s18 : C := (.seq c19s17 .ret)
@[reducible] def c19r19 : List J := [⟨none, (some 20), false, (.mov (.tmp 0))⟩, ⟨none, (some 21), false, (.faddr 0 (.tmp 3))⟩, ⟨none, (some 22), false, (.ld1 (.tmp 21))⟩, ⟨none, (some 23), false, (.call (.func 56) [(.tmp 20), (.tmp 22)])⟩, ⟨none, (some 24), false, (.cmp .geq (.tmp 23) (.const (.int .i64 0)))⟩, ⟨none, (some 19), false, (.mov (.tmp 24))⟩]
@[reducible] def c19s20 : C := (.ops c19r19 (some [0, 3, 19]))
@[reducible] def c19r21 : List J := [⟨none, (some 4), false, (.mov (.const (.int .i64 5)))⟩]
@[reducible] def c19s22 : C := (.ops c19r21 (some [4]))
@[reducible] def c19s23 : C := (.seq c19s22 .ret)
@[reducible] def c19r24 : List J := [⟨none, (some 26), false, (.mov (.tmp 0))⟩, ⟨none, (some 27), false, (.nck (.tmp 26))⟩, ⟨none, (some 28), false, (.faddr 2 (.tmp 27))⟩, ⟨none, (some 29), false, (.ld1 (.tmp 28))⟩, ⟨none, (some 30), false, (.cmp .geq (.tmp 29) (.const (.int .i64 64)))⟩, ⟨none, (some 25), false, (.mov (.tmp 30))⟩]
@[reducible] def c19s25 : C := (.ops c19r24 (some [0, 3, 25]))
@[reducible] def c19r26 : List J := [⟨none, (some 4), false, (.mov (.const (.int .i64 14)))⟩]
@[reducible] def c19s27 : C := (.ops c19r26 (some [4]))
@[reducible] def c19s28 : C := (.seq c19s27 .ret)
@[reducible] def c19s29 : C := (.cond (.tmp 25) c19s28 .skip)
@[reducible] def c19s30 : C := (.seq c19s25 c19s29)
@[reducible] def c19s31 : C := (.cond (.tmp 19) c19s23 c19s30)
@[reducible] def c19s32 : C := (.seq c19s20 c19s31)
@[reducible] def c19s33 : C := (.cond (.tmp 15) c19s18 c19s32)
@[reducible] def c19s34 : C := (.seq c19s15 c19s33)
@[reducible] def c19s35 : C := (.block 0 c19s34)
@[reducible] def c19s36 : C := (.seq c19s13 c19s35)
@[reducible] def c19r37 : List J := [⟨none, (some 31), false, (.mov (.tmp 0))⟩, ⟨none, (some 32), false, (.nck (.tmp 31))⟩, ⟨none, (some 33), false, (.faddr 2 (.tmp 32))⟩, ⟨none, (some 34), false, (.ld1 (.tmp 33))⟩, ⟨none, (some 7), false, (.mov (.tmp 34))⟩]
@[reducible] def c19s38 : C := (.ops c19r37 (some [0, 3, 7]))
@[reducible] def c19r39 : List (J × Bool) := [(⟨none, (some 35), false, (.mov (.tmp 7))⟩, false), (⟨none, (some 36), false, (.cmp .gtr (.tmp 35) (.const (.int .i64 0)))⟩, false), (⟨none, (some 37), false, (.mov (.tmp 36))⟩, false), (⟨(some ((some 37), true)), (some 38), false, (.ldN 9 (.tmp 3))⟩, false), (⟨(some ((some 37), true)), (some 39), false, (.mov (.tmp 0))⟩, false), (⟨(some ((some 37), true)), (some 40), false, (.mov (.tmp 7))⟩, false), (⟨(some ((some 37), true)), (some 41), false, (.arith .sub (.tmp 40) (.const (.int .i64 1)))⟩, false), (⟨(some ((some 37), true)), (some 42), false, (.nck (.tmp 39))⟩, false), (⟨(some ((some 37), true)), (some 43), false, (.faddr 3 (.tmp 42))⟩, false), (⟨(some ((some 37), true)), (some 44), false, (.ixa 64 9 (.tmp 43) (.tmp 41))⟩, false), (⟨(some ((some 37), true)), (some 45), false, (.ldN 9 (.tmp 44))⟩, false)]
@[reducible] def c19r40 : List J := [⟨(some ((some 37), true)), (some 46), false, (.call (.func 58) [(.tmp 38), (.tmp 45)])⟩, ⟨none, (some 47), false, (.pick (.tmp 37) (.tmp 46) (.const (.bool false)))⟩]
@[reducible] def c19s41 : C := (.plan c19r39 c19r40 (some [0, 3, 7, 47]))
@[reducible] def c19s42 : C := (.cond (.tmp 47) .skip (.exit 1))
@[reducible] def c19s43 : C := (.seq c19s41 c19s42)
@[reducible] def c19r44 : List J := [⟨none, (some 50), true, (.mov (.tmp 0))⟩, ⟨none, (some 51), true, (.mov (.tmp 7))⟩, ⟨none, (some 52), true, (.mov (.tmp 0))⟩, ⟨none, (some 53), true, (.mov (.tmp 7))⟩, ⟨none, (some 54), true, (.arith .sub (.tmp 53) (.const (.int .i64 1)))⟩, ⟨none, (some 55), true, (.nck (.tmp 52))⟩, ⟨none, (some 56), true, (.faddr 3 (.tmp 55))⟩, ⟨none, (some 57), true, (.ixa 64 9 (.tmp 56) (.tmp 54))⟩, ⟨none, (some 58), true, (.ldN 9 (.tmp 57))⟩, ⟨none, (some 59), true, (.nck (.tmp 50))⟩, ⟨none, (some 60), true, (.faddr 3 (.tmp 59))⟩, ⟨none, (some 61), false, (.ixa 64 9 (.tmp 60) (.tmp 51))⟩, ⟨none, none, false, (.st 9 (.tmp 61) (.tmp 58))⟩]
@[reducible] def c19s45 : C := (.ops c19r44 (some [0, 3, 7]))
@[reducible] def c19s46 : C := (.block 2 c19s45)
@[reducible] def c19r47 : List J := [⟨none, (some 48), false, (.mov (.tmp 7))⟩, ⟨none, (some 49), false, (.arith .sub (.tmp 48) (.const (.int .i64 1)))⟩, ⟨none, (some 7), false, (.mov (.tmp 49))⟩]
@[reducible] def c19s48 : C := (.ops c19r47 (some [0, 3, 7]))
@[reducible] def c19s49 : C := (.seq c19s46 c19s48)
@[reducible] def c19s50 : C := (.seq c19s43 c19s49)
@[reducible] def c19s51 : C := (.loop c19s50)
@[reducible] def c19s52 : C := (.block 1 c19s51)
@[reducible] def c19r53 : List (J × Bool) := [(⟨none, (some 62), false, (.mov (.tmp 0))⟩, false), (⟨none, (some 63), false, (.mov (.tmp 7))⟩, false), (⟨none, (some 64), false, (.ldN 9 (.tmp 3))⟩, false), (⟨none, (some 66), false, (.nck (.tmp 62))⟩, false), (⟨none, (some 67), false, (.faddr 3 (.tmp 66))⟩, false), (⟨none, (some 65), false, (.call (.func 59) [(.tmp 64)])⟩, true)]
@[reducible] def c19r54 : List J := [⟨none, (some 68), false, (.ixa 64 9 (.tmp 67) (.tmp 63))⟩, ⟨none, none, false, (.st 9 (.tmp 68) (.tmp 65))⟩]
@[reducible] def c19s55 : C := (.plan c19r53 c19r54 (some [0]))
@[reducible] def c19r56 : List J := [⟨none, (some 69), false, (.mov (.tmp 0))⟩, ⟨none, (some 70), false, (.nck (.tmp 69))⟩, ⟨none, (some 71), false, (.faddr 2 (.tmp 70))⟩, ⟨none, (some 72), false, (.ld1 (.tmp 71))⟩, ⟨none, (some 73), false, (.arith .add (.tmp 72) (.const (.int .i64 1)))⟩, ⟨none, (some 74), false, (.nck (.tmp 69))⟩, ⟨none, (some 75), false, (.faddr 2 (.tmp 74))⟩, ⟨none, none, false, (.st 1 (.tmp 75) (.tmp 73))⟩]
@[reducible] def c19s57 : C := (.ops c19r56 (some []))
@[reducible] def c19r58 : List J := [⟨none, (some 4), false, (.mov (.const (.int .i64 0)))⟩]
@[reducible] def c19s59 : C := (.ops c19r58 (some [4]))
@[reducible] def c19s60 : C := (.seq c19s59 .ret)
@[reducible] def c19s61 : C := (.seq c19s57 c19s60)
@[reducible] def c19s62 : C := (.seq c19s55 c19s61)
@[reducible] def c19s63 : C := (.seq c19s52 c19s62)
@[reducible] def c19s64 : C := (.seq c19s38 c19s63)
@[reducible] def c19s65 : C := (.seq c19s36 c19s64)
@[reducible] def c19s66 : C := (.seq c19s11 c19s65)
@[reducible] def c19 : C := (.seq c19s1 c19s66)
theorem f19 : compF Go.Proofs.Tryd.prog 19 = some ⟨76, strip c19, [(.tmp 4)]⟩ := by kernel_rfl
theorem o19 : okC 76 c19 = true := by kernel_rfl

@[reducible] def c20r0 : List J := [⟨none, (some 6), false, (.mov (.const (.int .i64 0)))⟩]
@[reducible] def c20s1 : C := (.ops c20r0 (some [0, 1, 2]))
@[reducible] def c20r2 : List J := [⟨none, (some 10), false, (.mov (.tmp 0))⟩, ⟨none, (some 11), false, (.call (.func 55) [(.tmp 10)])⟩, ⟨none, (some 7), false, (.mov (.tmp 11))⟩]
@[reducible] def c20s3 : C := (.ops c20r2 (some [0, 1, 2, 7]))
@[reducible] def c20r4 : List J := [⟨none, (some 12), false, (.mov (.tmp 7))⟩, ⟨none, (some 13), false, (.cmp .neq (.tmp 12) (.const (.int .i64 0)))⟩]
@[reducible] def c20s5 : C := (.ops c20r4 (some [0, 1, 2, 7, 13]))
@[reducible] def c20r6 : List J := [⟨none, (some 14), false, (.mov (.tmp 7))⟩, ⟨none, (some 6), false, (.mov (.tmp 14))⟩]
@[reducible] def c20s7 : C := (.ops c20r6 (some [6]))
@[reducible] def c20s8 : C := (.seq c20s7 .ret)
@[reducible] def c20s9 : C := (.cond (.tmp 13) c20s8 .skip)
@[reducible] def c20s10 : C := (.seq c20s5 c20s9)
@[reducible] def c20s11 : C := (.seq c20s3 c20s10)
@[reducible] def c20r12 : List J := [⟨none, (some 16), false, (.mov (.tmp 1))⟩, ⟨none, (some 17), false, (.cmp .lss (.tmp 16) (.const (.int .u8 1)))⟩, ⟨none, (some 18), false, (.mov (.tmp 17))⟩, ⟨(some ((some 18), false)), (some 19), false, (.mov (.tmp 1))⟩, ⟨(some ((some 18), false)), (some 20), false, (.cmp .gtr (.tmp 19) (.const (.int .u8 8)))⟩, ⟨none, (some 21), false, (.pick (.tmp 18) (.const (.bool true)) (.tmp 20))⟩, ⟨none, (some 15), false, (.mov (.tmp 21))⟩]
@[reducible] def c20s13 : C := (.ops c20r12 (some [0, 1, 2, 15]))
@[reducible] def c20r14 : List J := [⟨none, (some 6), false, (.mov (.const (.int .i64 2)))⟩]
@[reducible] def c20s15 : C := (.ops c20r14 (some [6]))
@[reducible] def c20s16 : C := (.seq c20s15 .ret)
@[reducible] def c20r17 : List J := [⟨none, (some 23), false, (.mov (.tmp 2))⟩, ⟨none, (some 24), false, (.call (.func 60) [(.tmp 23)])⟩, ⟨none, (some 25), false, (.un .not (.tmp 24))⟩, ⟨none, (some 22), false, (.mov (.tmp 25))⟩]
@[reducible] def c20s18 : C := (.ops c20r17 (some [0, 1, 2, 22]))
@[reducible] def c20r19 : List J := [⟨none, (some 6), false, (.mov (.const (.int .i64 4)))⟩]
@[reducible] def c20s20 : C := (.ops c20r19 (some [6]))
@[reducible] def c20s21 : C := (.seq c20s20 .ret)
@[reducible] def c20r22 : List J := [⟨none, (some 27), false, (.mov (.tmp 0))⟩, ⟨none, (some 28), false, (.mov (.tmp 1))⟩, ⟨none, (some 29), false, (.nck (.tmp 27))⟩, ⟨none, (some 30), false, (.faddr 579 (.tmp 29))⟩, ⟨none, (some 31), false, (.ixa 9 1 (.tmp 30) (.tmp 28))⟩, ⟨none, (some 32), false, (.ld1 (.tmp 31))⟩, ⟨none, (some 33), false, (.sop .neq (.tmp 32) (.const (.string ⟨#[]⟩)))⟩, ⟨none, (some 26), false, (.mov (.tmp 33))⟩]
@[reducible] def c20s23 : C := (.ops c20r22 (some [0, 1, 2, 26]))
@[reducible] def c20r24 : List J := [⟨none, (some 6), false, (.mov (.const (.int .i64 5)))⟩]
@[reducible] def c20s25 : C := (.ops c20r24 (some [6]))
@[reducible] def c20s26 : C := (.seq c20s25 .ret)
@[reducible] def c20s27 : C := (.cond (.tmp 26) c20s26 .skip)
@[reducible] def c20s28 : C := (.seq c20s23 c20s27)
@[reducible] def c20s29 : C := (.cond (.tmp 22) c20s21 c20s28)
@[reducible] def c20s30 : C := (.seq c20s18 c20s29)
@[reducible] def c20s31 : C := (.cond (.tmp 15) c20s16 c20s30)
@[reducible] def c20s32 : C := (.seq c20s13 c20s31)
@[reducible] def c20s33 : C := (.block 0 c20s32)
@[reducible] def c20r34 : List J := [⟨none, (some 34), false, (.mov (.tmp 0))⟩, ⟨none, (some 35), false, (.nck (.tmp 34))⟩, ⟨none, (some 36), false, (.faddr 579 (.tmp 35))⟩, ⟨none, (some 37), false, (.ldN 9 (.tmp 36))⟩, ⟨none, (some 38), false, (.mov (.const (.int .i64 0)))⟩]
@[reducible] def c20s35 : C := (.ops c20r34 (some [0, 1, 2, 37, 38]))
@[reducible] def c20r36 : List J := [⟨none, (some 39), false, (.cmp .lss (.tmp 38) (.const (.int .i64 9)))⟩]
@[reducible] def c20s37 : C := (.ops c20r36 (some [0, 1, 2, 37, 38, 39]))
@[reducible] def c20s38 : C := (.cond (.tmp 39) .skip (.exit 1))
@[reducible] def c20r39 : List J := [⟨none, (some 40), false, (.ixv 9 (.tmp 37) (.tmp 38))⟩, ⟨none, (some 9), false, (.mov (.tmp 40))⟩]
@[reducible] def c20s40 : C := (.ops c20r39 (some [0, 1, 2, 9, 37, 38]))
@[reducible] def c20r41 : List J := [⟨none, (some 41), false, (.mov (.tmp 9))⟩, ⟨none, (some 42), false, (.mov (.tmp 2))⟩, ⟨none, (some 43), false, (.sop .eql (.tmp 41) (.tmp 42))⟩]
@[reducible] def c20s42 : C := (.ops c20r41 (some [0, 1, 2, 37, 38, 43]))
@[reducible] def c20r43 : List J := [⟨none, (some 6), false, (.mov (.const (.int .i64 5)))⟩]
@[reducible] def c20s44 : C := (.ops c20r43 (some [6]))
@[reducible] def c20s45 : C := (.seq c20s44 .ret)
@[reducible] def c20s46 : C := (.cond (.tmp 43) c20s45 .skip)
@[reducible] def c20s47 : C := (.seq c20s42 c20s46)
@[reducible] def c20s48 : C := (.seq c20s40 c20s47)
@[reducible] def c20s49 : C := (.block 2 c20s48)
@[reducible] def c20r50 : List J := [⟨none, (some 44), false, (.arith .add (.tmp 38) (.const (.int .i64 1)))⟩, ⟨none, (some 38), false, (.mov (.tmp 44))⟩]
@[reducible] def c20s51 : C := (.ops c20r50 (some [0, 1, 2, 37, 38]))
@[reducible] def c20s52 : C := (.seq c20s49 c20s51)
@[reducible] def c20s53 : C := (.seq c20s38 c20s52)
@[reducible] def c20s54 : C := (.seq c20s37 c20s53)
@[reducible] def c20s55 : C := (.loop c20s54)
@[reducible] def c20s56 : C := (.block 1 c20s55)
@[reducible] def c20s57 : C := (.seq c20s35 c20s56)
@[reducible] def c20r58 : List J := [⟨none, (some 45), false, (.mov (.tmp 0))⟩, ⟨none, (some 46), false, (.mov (.tmp 1))⟩, ⟨none, (some 47), false, (.mov (.tmp 2))⟩, ⟨none, (some 48), false, (.nck (.tmp 45))⟩, ⟨none, (some 49), false, (.faddr 579 (.tmp 48))⟩, ⟨none, (some 50), false, (.ixa 9 1 (.tmp 49) (.tmp 46))⟩, ⟨none, none, false, (.st 1 (.tmp 50) (.tmp 47))⟩]
@[reducible] def c20s59 : C := (.ops c20r58 (some []))
@[reducible] def c20r60 : List J := [⟨none, (some 6), false, (.mov (.const (.int .i64 0)))⟩]
@[reducible] def c20s61 : C := (.ops c20r60 (some [6]))
@[reducible] def c20s62 : C := (.seq c20s61 .ret)
@[reducible] def c20s63 : C := (.seq c20s59 c20s62)
@[reducible] def c20s64 : C := (.seq c20s57 c20s63)
@[reducible] def c20s65 : C := (.seq c20s33 c20s64)
@[reducible] def c20s66 : C := (.seq c20s11 c20s65)
@[reducible] def c20 : C := (.seq c20s1 c20s66)
theorem f20 : compF Go.Proofs.Tryd.prog 20 = some ⟨51, strip c20, [(.tmp 6)]⟩ := by kernel_rfl
theorem o20 : okC 51 c20 = true := by kernel_rfl

@[reducible] def c21r0 : List J := [⟨none, (some 3), false, (.box 63 (.tmp 1))⟩, ⟨none, (some 4), false, (.mov (.const (.int .i64 0)))⟩]
@[reducible] def c21s1 : C := (.ops c21r0 (some [0, 3]))
@[reducible] def c21r2 : List J := [⟨none, (some 8), false, (.mov (.tmp 0))⟩, ⟨none, (some 9), false, (.call (.func 55) [(.tmp 8)])⟩, ⟨none, (some 5), false, (.mov (.tmp 9))⟩]
@[reducible] def c21s3 : C := (.ops c21r2 (some [0, 3, 5]))
@[reducible] def c21r4 : List J := [⟨none, (some 10), false, (.mov (.tmp 5))⟩, ⟨none, (some 11), false, (.cmp .neq (.tmp 10) (.const (.int .i64 0)))⟩]
@[reducible] def c21s5 : C := (.ops c21r4 (some [0, 3, 5, 11]))
@[reducible] def c21r6 : List J := [⟨none, (some 12), false, (.mov (.tmp 5))⟩, ⟨none, (some 4), false, (.mov (.tmp 12))⟩]
@[reducible] def c21s7 : C := (.ops c21r6 (some [4]))
@[reducible] def c21s8 : C := (.seq c21s7 .ret)
@[reducible] def c21s9 : C := (.cond (.tmp 11) c21s8 .skip)
@[reducible] def c21s10 : C := (.seq c21s5 c21s9)
@[reducible] def c21s11 : C := (.seq c21s3 c21s10)
@[reducible] def c21r12 : List J := [⟨none, (some 14), false, (.faddr 0 (.tmp 3))⟩, ⟨none, (some 15), false, (.ld1 (.tmp 14))⟩, ⟨none, (some 16), false, (.cmp .lss (.tmp 15) (.const (.int .u8 1)))⟩, ⟨none, (some 17), false, (.mov (.tmp 16))⟩, ⟨(some ((some 17), false)), (some 18), false, (.faddr 0 (.tmp 3))⟩, ⟨(some ((some 17), false)), (some 19), false, (.ld1 (.tmp 18))⟩, ⟨(some ((some 17), false)), (some 20), false, (.cmp .gtr (.tmp 19) (.const (.int .u8 4)))⟩, ⟨none, (some 21), false, (.pick (.tmp 17) (.const (.bool true)) (.tmp 20))⟩, ⟨none, (some 22), false, (.mov (.tmp 21))⟩, ⟨(some ((some 22), false)), (some 23), false, (.faddr 2 (.tmp 3))⟩, ⟨(some ((some 22), false)), (some 24), false, (.ld1 (.tmp 23))⟩, ⟨(some ((some 22), false)), (some 25), false, (.call (.func 61) [(.tmp 24)])⟩, ⟨(some ((some 22), false)), (some 26), false, (.un .not (.tmp 25))⟩, ⟨none, (some 27), false, (.pick (.tmp 22) (.const (.bool true)) (.tmp 26))⟩, ⟨none, (some 28), false, (.mov (.tmp 27))⟩, ⟨(some ((some 28), false)), (some 29), false, (.faddr 3 (.tmp 3))⟩, ⟨(some ((some 28), false)), (some 30), false, (.ld1 (.tmp 29))⟩, ⟨(some ((some 28), false)), (some 31), false, (.call (.func 61) [(.tmp 30)])⟩, ⟨(some ((some 28), false)), (some 32), false, (.un .not (.tmp 31))⟩, ⟨none, (some 33), false, (.pick (.tmp 28) (.const (.bool true)) (.tmp 32))⟩, ⟨none, (some 13), false, (.mov (.tmp 33))⟩]
@[reducible] def c21s13 : C := (.ops c21r12 (some [0, 3, 13]))
@[reducible] def c21r14 : List J := [⟨none, (some 4), false, (.mov (.const (.int .i64 2)))⟩]
@[reducible] def c21s15 : C := (.ops c21r14 (some [4]))
@[reducible] def c21s16 : C := (.seq c21s15 .ret)
@[reducible] def c21r17 : List J := [⟨none, (some 35), false, (.faddr 1 (.tmp 3))⟩, ⟨none, (some 36), false, (.ld1 (.tmp 35))⟩, ⟨none, (some 37), false, (.call (.func 60) [(.tmp 36)])⟩, ⟨none, (some 38), false, (.un .not (.tmp 37))⟩, ⟨none, (some 34), false, (.mov (.tmp 38))⟩]
@[reducible] def c21s18 : C := (.ops c21r17 (some [0, 3, 34]))
@[reducible] def c21r19 : List J := [⟨none, (some 4), false, (.mov (.const (.int .i64 4)))⟩]
@[reducible] def c21s20 : C := (.ops c21r19 (some [4]))
@[reducible] def c21s21 : C := (.seq c21s20 .ret)
@[reducible] def c21r22 : List J := [⟨none, (some 40), true, (.mov (.tmp 0))⟩, ⟨none, (some 41), true, (.faddr 0 (.tmp 3))⟩, ⟨none, (some 42), true, (.ld1 (.tmp 41))⟩, ⟨none, (some 43), true, (.nck (.tmp 40))⟩, ⟨none, (some 44), true, (.faddr 588 (.tmp 43))⟩, ⟨none, (some 45), true, (.ixa 5 4 (.tmp 44) (.tmp 42))⟩, ⟨none, (some 46), true, (.faddr 0 (.tmp 45))⟩, ⟨none, (some 47), true, (.ld1 (.tmp 46))⟩, ⟨none, (some 48), true, (.cmp .neq (.tmp 47) (.const (.int .u8 0)))⟩, ⟨none, (some 39), true, (.mov (.tmp 48))⟩]
@[reducible] def c21s23 : C := (.ops c21r22 (some [0, 3, 39]))
@[reducible] def c21r24 : List J := [⟨none, (some 4), false, (.mov (.const (.int .i64 5)))⟩]
@[reducible] def c21s25 : C := (.ops c21r24 (some [4]))
@[reducible] def c21s26 : C := (.seq c21s25 .ret)
@[reducible] def c21s27 : C := (.cond (.tmp 39) c21s26 .skip)
@[reducible] def c21s28 : C := (.seq c21s23 c21s27)
@[reducible] def c21s29 : C := (.cond (.tmp 34) c21s21 c21s28)
@[reducible] def c21s30 : C := (.seq c21s18 c21s29)
@[reducible] def c21s31 : C := (.cond (.tmp 13) c21s16 c21s30)
@[reducible] def c21s32 : C := (.seq c21s13 c21s31)
@[reducible] def c21s33 : C := (.block 0 c21s32)
@[reducible] def c21r34 : List J := [⟨none, (some 49), false, (.mov (.tmp 0))⟩, ⟨none, (some 50), false, (.nck (.tmp 49))⟩, ⟨none, (some 51), false, (.faddr 588 (.tmp 50))⟩, ⟨none, (some 52), false, (.ldN 20 (.tmp 51))⟩, ⟨none, (some 53), false, (.mov (.const (.int .i64 0)))⟩]
@[reducible] def c21s35 : C := (.ops c21r34 (some [0, 3, 52, 53]))
@[reducible] def c21r36 : List J := [⟨none, (some 54), false, (.cmp .lss (.tmp 53) (.const (.int .i64 5)))⟩]
@[reducible] def c21s37 : C := (.ops c21r36 (some [0, 3, 52, 53, 54]))
@[reducible] def c21s38 : C := (.cond (.tmp 54) .skip (.exit 1))
@[reducible] def c21r39 : List J := [⟨none, (some 55), false, (.ixw 5 4 (.tmp 52) (.tmp 53))⟩, ⟨none, (some 7), false, (.alloc [(.int .u8 0), (.string ⟨#[]⟩), (.int .i64 0), (.int .i64 0)] 4 63)⟩, ⟨none, none, false, (.st 4 (.tmp 7) (.tmp 55))⟩]
@[reducible] def c21s40 : C := (.ops c21r39 (some [0, 3, 7, 52, 53]))
@[reducible] def c21r41 : List J := [⟨none, (some 56), false, (.faddr 1 (.tmp 7))⟩, ⟨none, (some 57), false, (.ld1 (.tmp 56))⟩, ⟨none, (some 58), false, (.faddr 1 (.tmp 3))⟩, ⟨none, (some 59), false, (.ld1 (.tmp 58))⟩, ⟨none, (some 60), false, (.sop .eql (.tmp 57) (.tmp 59))⟩]
@[reducible] def c21s42 : C := (.ops c21r41 (some [0, 3, 52, 53, 60]))
@[reducible] def c21r43 : List J := [⟨none, (some 4), false, (.mov (.const (.int .i64 5)))⟩]
@[reducible] def c21s44 : C := (.ops c21r43 (some [4]))
@[reducible] def c21s45 : C := (.seq c21s44 .ret)
@[reducible] def c21s46 : C := (.cond (.tmp 60) c21s45 .skip)
@[reducible] def c21s47 : C := (.seq c21s42 c21s46)
@[reducible] def c21s48 : C := (.seq c21s40 c21s47)
@[reducible] def c21s49 : C := (.block 2 c21s48)
@[reducible] def c21r50 : List J := [⟨none, (some 61), false, (.arith .add (.tmp 53) (.const (.int .i64 1)))⟩, ⟨none, (some 53), false, (.mov (.tmp 61))⟩]
@[reducible] def c21s51 : C := (.ops c21r50 (some [0, 3, 52, 53]))
@[reducible] def c21s52 : C := (.seq c21s49 c21s51)
@[reducible] def c21s53 : C := (.seq c21s38 c21s52)
@[reducible] def c21s54 : C := (.seq c21s37 c21s53)
@[reducible] def c21s55 : C := (.loop c21s54)
@[reducible] def c21s56 : C := (.block 1 c21s55)
@[reducible] def c21s57 : C := (.seq c21s35 c21s56)
@[reducible] def c21r58 : List J := [⟨none, (some 62), true, (.mov (.tmp 0))⟩, ⟨none, (some 63), true, (.faddr 0 (.tmp 3))⟩, ⟨none, (some 64), true, (.ld1 (.tmp 63))⟩, ⟨none, (some 65), true, (.ldN 4 (.tmp 3))⟩, ⟨none, (some 66), true, (.nck (.tmp 62))⟩, ⟨none, (some 67), true, (.faddr 588 (.tmp 66))⟩, ⟨none, (some 68), false, (.ixa 5 4 (.tmp 67) (.tmp 64))⟩, ⟨none, none, false, (.st 4 (.tmp 68) (.tmp 65))⟩]
@[reducible] def c21s59 : C := (.ops c21r58 (some []))
@[reducible] def c21r60 : List J := [⟨none, (some 4), false, (.mov (.const (.int .i64 0)))⟩]
@[reducible] def c21s61 : C := (.ops c21r60 (some [4]))
@[reducible] def c21s62 : C := (.seq c21s61 .ret)
@[reducible] def c21s63 : C := (.seq c21s59 c21s62)
@[reducible] def c21s64 : C := (.seq c21s57 c21s63)
@[reducible] def c21s65 : C := (.seq c21s33 c21s64)
@[reducible] def c21s66 : C := (.seq c21s11 c21s65)
@[reducible] def c21 : C := (.seq c21s1 c21s66)
theorem f21 : compF Go.Proofs.Tryd.prog 21 = some ⟨69, strip c21, [(.tmp 4)]⟩ := by kernel_rfl
theorem o21 : okC 69 c21 = true := by kernel_rfl

@[reducible] def c22r0 : List J := [⟨none, (some 4), false, (.alloc [(.string ⟨#[]⟩), (.int .u8 0), (.int .u8 0), (.int .i64 0), (.int .i64 0), (.int .i64 0), (.int .u16 0), (.bool false), (.slice none 0 0)] 9 51)⟩, ⟨none, (some 5), false, (.mov (.const (.int .i64 0)))⟩]
@[reducible] def c22s1 : C := (.ops c22r0 (some [0, 1, 4]))
@[reducible] def c22r2 : List J := [⟨none, (some 6), false, (.mov (.tmp 0))⟩, ⟨none, (some 7), false, (.call (.func 57) [(.tmp 6)])⟩]
@[reducible] def c22s3 : C := (.ops c22r2 (some [0, 1, 4, 7]))
@[reducible] def c22r4 : List J := [⟨none, (some 8), false, (.bld [(.string ⟨#[]⟩), (.int .u8 0), (.int .u8 0), (.int .i64 0), (.int .i64 0), (.int .i64 0), (.int .u16 0), (.bool false), (.slice none 0 0)] [(0, 1), (1, 1), (2, 1), (3, 1), (4, 1), (5, 1), (6, 1), (7, 1), (8, 1)] [])⟩, ⟨none, none, false, (.st 9 (.tmp 4) (.tmp 8))⟩, ⟨none, (some 5), false, (.mov (.const (.int .i64 1)))⟩]
@[reducible] def c22s5 : C := (.ops c22r4 (some [4, 5]))
@[reducible] def c22s6 : C := (.seq c22s5 .ret)
@[reducible] def c22s7 : C := (.cond (.tmp 7) c22s6 .skip)
@[reducible] def c22s8 : C := (.seq c22s3 c22s7)
@[reducible] def c22r9 : List J := [⟨none, (some 9), false, (.mov (.tmp 0))⟩, ⟨none, (some 10), false, (.nck (.tmp 9))⟩, ⟨none, (some 11), false, (.faddr 1 (.tmp 10))⟩, ⟨none, (some 12), false, (.ld1 (.tmp 11))⟩, ⟨none, (some 13), false, (.un .not (.tmp 12))⟩, ⟨none, (some 14), false, (.mov (.tmp 13))⟩, ⟨(some ((some 14), false)), (some 15), false, (.mov (.tmp 1))⟩, ⟨(some ((some 14), false)), (some 16), false, (.cmp .lss (.tmp 15) (.const (.int .i64 1)))⟩, ⟨none, (some 17), false, (.pick (.tmp 14) (.const (.bool true)) (.tmp 16))⟩, ⟨none, (some 18), false, (.mov (.tmp 17))⟩, ⟨(some ((some 18), false)), (some 19), false, (.mov (.tmp 1))⟩, ⟨(some ((some 18), false)), (some 20), false, (.mov (.tmp 0))⟩, ⟨(some ((some 18), false)), (some 21), false, (.nck (.tmp 20))⟩, ⟨(some ((some 18), false)), (some 22), false, (.faddr 2 (.tmp 21))⟩, ⟨(some ((some 18), false)), (some 23), false, (.ld1 (.tmp 22))⟩, ⟨(some ((some 18), false)), (some 24), false, (.cmp .gtr (.tmp 19) (.tmp 23))⟩, ⟨none, (some 25), false, (.pick (.tmp 18) (.const (.bool true)) (.tmp 24))⟩]
@[reducible] def c22s10 : C := (.ops c22r9 (some [0, 1, 4, 25]))
@[reducible] def c22r11 : List J := [⟨none, (some 26), false, (.bld [(.string ⟨#[]⟩), (.int .u8 0), (.int .u8 0), (.int .i64 0), (.int .i64 0), (.int .i64 0), (.int .u16 0), (.bool false), (.slice none 0 0)] [(0, 1), (1, 1), (2, 1), (3, 1), (4, 1), (5, 1), (6, 1), (7, 1), (8, 1)] [])⟩, ⟨none, none, false, (.st 9 (.tmp 4) (.tmp 26))⟩, ⟨none, (some 5), false, (.mov (.const (.int .i64 6)))⟩]
@[reducible] def c22s12 : C := (.ops c22r11 (some [4, 5]))
@[reducible] def c22s13 : C := (.seq c22s12 .ret)
@[reducible] def c22s14 : C := (.cond (.tmp 25) c22s13 .skip)
@[reducible] def c22s15 : C := (.seq c22s10 c22s14)
@[reducible] def c22r16 : List J := [⟨none, (some 27), false, (.mov (.tmp 0))⟩, ⟨none, (some 28), false, (.mov (.tmp 1))⟩, ⟨none, (some 29), false, (.arith .sub (.tmp 28) (.const (.int .i64 1)))⟩, ⟨none, (some 30), false, (.nck (.tmp 27))⟩, ⟨none, (some 31), false, (.faddr 3 (.tmp 30))⟩, ⟨none, (some 32), false, (.ixa 64 9 (.tmp 31) (.tmp 29))⟩, ⟨none, (some 33), false, (.ldN 9 (.tmp 32))⟩, ⟨none, (some 34), false, (.call (.func 59) [(.tmp 33)])⟩, ⟨none, none, false, (.st 9 (.tmp 4) (.tmp 34))⟩, ⟨none, (some 5), false, (.mov (.const (.int .i64 0)))⟩]
@[reducible] def c22s17 : C := (.ops c22r16 (some [4, 5]))
@[reducible] def c22s18 : C := (.seq c22s17 .ret)
@[reducible] def c22s19 : C := (.seq c22s15 c22s18)
@[reducible] def c22s20 : C := (.seq c22s8 c22s19)
@[reducible] def c22 : C := (.seq c22s1 c22s20)
theorem f22 : compF Go.Proofs.Tryd.prog 22 = some ⟨35, strip c22, [(.cell 4 51), (.tmp 5)]⟩ := by kernel_rfl
theorem o22 : okC 35 c22 = true := by kernel_rfl

@[reducible] def c23r0 : List J := [⟨none, (some 4), false, (.mov (.const (.int .i64 0)))⟩, ⟨none, (some 5), false, (.mov (.const (.int .i64 0)))⟩]
@[reducible] def c23s1 : C := (.ops c23r0 (some [0, 1]))
@[reducible] def c23r2 : List J := [⟨none, (some 7), false, (.mov (.tmp 0))⟩, ⟨none, (some 8), false, (.call (.func 57) [(.tmp 7)])⟩]
@[reducible] def c23s3 : C := (.ops c23r2 (some [0, 1, 8]))
@[reducible] def c23r4 : List J := [⟨none, (some 4), false, (.mov (.const (.int .i64 0)))⟩, ⟨none, (some 5), false, (.mov (.const (.int .i64 1)))⟩]
@[reducible] def c23s5 : C := (.ops c23r4 (some [4, 5]))
@[reducible] def c23s6 : C := (.seq c23s5 .ret)
@[reducible] def c23s7 : C := (.cond (.tmp 8) c23s6 .skip)
@[reducible] def c23s8 : C := (.seq c23s3 c23s7)
@[reducible] def c23r9 : List J := [⟨none, (some 9), false, (.mov (.tmp 0))⟩, ⟨none, (some 10), false, (.mov (.tmp 1))⟩, ⟨none, (some 11), false, (.call (.func 56) [(.tmp 9), (.tmp 10)])⟩, ⟨none, (some 6), false, (.mov (.tmp 11))⟩]
@[reducible] def c23s10 : C := (.ops c23r9 (some [0, 6]))
@[reducible] def c23r11 : List J := [⟨none, (some 12), false, (.mov (.tmp 0))⟩, ⟨none, (some 13), false, (.nck (.tmp 12))⟩, ⟨none, (some 14), false, (.faddr 1 (.tmp 13))⟩, ⟨none, (some 15), false, (.ld1 (.tmp 14))⟩, ⟨none, (some 16), false, (.mov (.tmp 15))⟩, ⟨(some ((some 16), true)), (some 17), false, (.mov (.tmp 6))⟩, ⟨(some ((some 16), true)), (some 18), false, (.cmp .geq (.tmp 17) (.const (.int .i64 0)))⟩, ⟨none, (some 19), false, (.pick (.tmp 16) (.tmp 18) (.const (.bool false)))⟩]
@[reducible] def c23s12 : C := (.ops c23r11 (some [6, 19]))
@[reducible] def c23r13 : List J := [⟨none, (some 20), false, (.mov (.tmp 6))⟩, ⟨none, (some 21), false, (.arith .add (.tmp 20) (.const (.int .i64 1)))⟩, ⟨none, (some 4), false, (.mov (.tmp 21))⟩, ⟨none, (some 5), false, (.mov (.const (.int .i64 0)))⟩]
@[reducible] def c23s14 : C := (.ops c23r13 (some [4, 5]))
@[reducible] def c23s15 : C := (.seq c23s14 .ret)
@[reducible] def c23s16 : C := (.cond (.tmp 19) c23s15 .skip)
@[reducible] def c23s17 : C := (.seq c23s12 c23s16)
@[reducible] def c23s18 : C := (.seq c23s10 c23s17)
@[reducible] def c23r19 : List J := [⟨none, (some 4), false, (.mov (.const (.int .i64 0)))⟩, ⟨none, (some 5), false, (.mov (.const (.int .i64 6)))⟩]
@[reducible] def c23s20 : C := (.ops c23r19 (some [4, 5]))
@[reducible] def c23s21 : C := (.seq c23s20 .ret)
@[reducible] def c23s22 : C := (.seq c23s18 c23s21)
@[reducible] def c23s23 : C := (.seq c23s8 c23s22)
@[reducible] def c23 : C := (.seq c23s1 c23s23)
theorem f23 : compF Go.Proofs.Tryd.prog 23 = some ⟨22, strip c23, [(.tmp 4), (.tmp 5)]⟩ := by kernel_rfl
theorem o23 : okC 22 c23 = true := by kernel_rfl

@[reducible] def c29r0 : List J := [⟨none, (some 4), false, (.mov (.const (.bool false)))⟩]
@[reducible] def c29s1 : C := (.ops c29r0 (some [0, 1]))
@[reducible] def c29r2 : List J := [⟨none, (some 9), false, (.mov (.tmp 0))⟩, ⟨none, (some 10), false, (.call (.func 57) [(.tmp 9)])⟩, ⟨none, (some 11), false, (.mov (.tmp 10))⟩, ⟨(some ((some 11), false)), (some 12), false, (.mov (.tmp 1))⟩, ⟨(some ((some 11), false)), (some 13), false, (.call (.func 57) [(.tmp 12)])⟩, ⟨none, (some 14), false, (.pick (.tmp 11) (.const (.bool true)) (.tmp 13))⟩, ⟨none, (some 15), false, (.mov (.tmp 14))⟩, ⟨(some ((some 15), false)), (some 16), false, (.mov (.tmp 0))⟩, ⟨(some ((some 15), false)), (some 17), false, (.call (.func 64) [(.tmp 16)])⟩, ⟨(some ((some 15), false)), (some 18), false, (.mov (.tmp 1))⟩, ⟨(some ((some 15), false)), (some 19), false, (.call (.func 64) [(.tmp 18)])⟩, ⟨(some ((some 15), false)), (some 20), false, (.eqv true 108 (.tmp 17) (.tmp 19))⟩, ⟨none, (some 21), false, (.pick (.tmp 15) (.const (.bool true)) (.tmp 20))⟩]
@[reducible] def c29s3 : C := (.ops c29r2 (some [0, 1, 21]))
@[reducible] def c29r4 : List J := [⟨none, (some 4), false, (.mov (.const (.bool false)))⟩]
@[reducible] def c29s5 : C := (.ops c29r4 (some [4]))
@[reducible] def c29s6 : C := (.seq c29s5 .ret)
@[reducible] def c29s7 : C := (.cond (.tmp 21) c29s6 .skip)
@[reducible] def c29s8 : C := (.seq c29s3 c29s7)
@[reducible] def c29r9 : List J := [⟨none, (some 22), false, (.mov (.tmp 0))⟩, ⟨none, (some 23), false, (.call (.func 65) [(.tmp 22)])⟩, ⟨none, (some 24), false, (.mov (.tmp 1))⟩, ⟨none, (some 25), false, (.call (.func 65) [(.tmp 24)])⟩, ⟨none, (some 5), false, (.mov (.tmp 23))⟩, ⟨none, (some 6), false, (.mov (.tmp 25))⟩]
@[reducible] def c29s10 : C := (.ops c29r9 (some [5, 6]))
@[reducible] def c29r11 : List J := [⟨none, (some 26), false, (.mov (.tmp 5))⟩, ⟨none, (some 27), false, (.len (.tmp 26))⟩, ⟨none, (some 28), false, (.mov (.tmp 6))⟩, ⟨none, (some 29), false, (.len (.tmp 28))⟩, ⟨none, (some 30), false, (.cmp .neq (.tmp 27) (.tmp 29))⟩]
@[reducible] def c29s12 : C := (.ops c29r11 (some [5, 6, 30]))
@[reducible] def c29r13 : List J := [⟨none, (some 4), false, (.mov (.const (.bool false)))⟩]
@[reducible] def c29s14 : C := (.ops c29r13 (some [4]))
@[reducible] def c29s15 : C := (.seq c29s14 .ret)
@[reducible] def c29s16 : C := (.cond (.tmp 30) c29s15 .skip)
@[reducible] def c29s17 : C := (.seq c29s12 c29s16)
@[reducible] def c29r18 : List J := [⟨none, (some 31), false, (.mov (.tmp 5))⟩, ⟨none, (some 32), false, (.len (.tmp 31))⟩, ⟨none, (some 33), false, (.mov (.const (.int .i64 0)))⟩]
@[reducible] def c29s19 : C := (.ops c29r18 (some [6, 31, 32, 33]))
@[reducible] def c29r20 : List J := [⟨none, (some 34), false, (.cmp .lss (.tmp 33) (.tmp 32))⟩]
@[reducible] def c29s21 : C := (.ops c29r20 (some [6, 31, 32, 33, 34]))
@[reducible] def c29s22 : C := (.cond (.tmp 34) .skip (.exit 0))
@[reducible] def c29r23 : List J := [⟨none, (some 35), false, (.mov (.tmp 33))⟩, ⟨none, (some 36), false, (.ixs 9 (.tmp 31) (.tmp 33))⟩, ⟨none, (some 37), false, (.ldN 9 (.tmp 36))⟩, ⟨none, (some 8), false, (.alloc [(.string ⟨#[]⟩), (.int .u8 0), (.int .u8 0), (.int .i64 0), (.int .i64 0), (.int .i64 0), (.int .u16 0), (.bool false), (.slice none 0 0)] 9 51)⟩, ⟨none, (some 7), false, (.mov (.tmp 35))⟩, ⟨none, none, false, (.st 9 (.tmp 8) (.tmp 37))⟩]
@[reducible] def c29s24 : C := (.ops c29r23 (some [6, 7, 8, 31, 32, 33]))
@[reducible] def c29r25 : List (J × Bool) := [(⟨none, (some 38), false, (.ldN 9 (.tmp 8))⟩, false), (⟨none, (some 39), false, (.mov (.tmp 6))⟩, false), (⟨none, (some 40), false, (.mov (.tmp 7))⟩, false), (⟨none, (some 41), false, (.ixs 9 (.tmp 39) (.tmp 40))⟩, false), (⟨none, (some 42), false, (.ldN 9 (.tmp 41))⟩, false)]
@[reducible] def c29r26 : List J := [⟨none, (some 43), false, (.call (.func 66) [(.tmp 38), (.tmp 42)])⟩, ⟨none, (some 44), false, (.un .not (.tmp 43))⟩]
@[reducible] def c29s27 : C := (.plan c29r25 c29r26 (some [6, 31, 32, 33, 44]))
@[reducible] def c29r28 : List J := [⟨none, (some 4), false, (.mov (.const (.bool false)))⟩]
@[reducible] def c29s29 : C := (.ops c29r28 (some [4]))
@[reducible] def c29s30 : C := (.seq c29s29 .ret)
@[reducible] def c29s31 : C := (.cond (.tmp 44) c29s30 .skip)
@[reducible] def c29s32 : C := (.seq c29s27 c29s31)
@[reducible] def c29s33 : C := (.seq c29s24 c29s32)
@[reducible] def c29s34 : C := (.block 1 c29s33)
@[reducible] def c29r35 : List J := [⟨none, (some 45), false, (.arith .add (.tmp 33) (.const (.int .i64 1)))⟩, ⟨none, (some 33), false, (.mov (.tmp 45))⟩]
@[reducible] def c29s36 : C := (.ops c29r35 (some [6, 31, 32, 33]))
@[reducible] def c29s37 : C := (.seq c29s34 c29s36)
@[reducible] def c29s38 : C := (.seq c29s22 c29s37)
@[reducible] def c29s39 : C := (.seq c29s21 c29s38)
@[reducible] def c29s40 : C := (.loop c29s39)
@[reducible] def c29s41 : C := (.block 0 c29s40)
@[reducible] def c29s42 : C := (.seq c29s19 c29s41)
@[reducible] def c29r43 : List J := [⟨none, (some 4), false, (.mov (.const (.bool true)))⟩]
@[reducible] def c29s44 : C := (.ops c29r43 (some [4]))
@[reducible] def c29s45 : C := (.seq c29s44 .ret)
@[reducible] def c29s46 : C := (.seq c29s42 c29s45)
@[reducible] def c29s47 : C := (.seq c29s17 c29s46)
@[reducible] def c29s48 : C := (.seq c29s10 c29s47)
@[reducible] def c29s49 : C := (.seq c29s8 c29s48)
@[reducible] def c29 : C := (.seq c29s1 c29s49)
theorem f29 : compF Go.Proofs.Tryd.prog 29 = some ⟨46, strip c29, [(.tmp 4)]⟩ := by kernel_rfl
theorem o29 : okC 46 c29 = true := by kernel_rfl

@[reducible] def c33r0 : List J := [⟨none, (some 0), false, (.mov (.const (.pointer none)))⟩]
@[reducible] def c33s1 : C := (.ops c33r0 (some []))
@[reducible] def c33r2 : List J := [⟨none, (some 1), false, (.bld [(.bool false), (.bool false), (.int .i64 0), (.string ⟨#[]⟩), (.int .u8 0), (.int .u8 0), (.int .i64 0), (.int .i64 0), (.int .i64 0), (.int .u16 0), (.bool false), (.slice none 0 0), (.string ⟨#[]⟩), (.int .u8 0), (.int .u8 0), (.int .i64 0), (.int .i64 0), (.int .i64 0), (.int .u16 0), (.bool false), (.slice none 0 0), (.string ⟨#[]⟩), (.int .u8 0), (.int .u8 0), (.int .i64 0), (.int .i64 0), (.int .i64 0), (.int .u16 0), (.bool false), (.slice none 0 0), (.string ⟨#[]⟩), (.int .u8 0), (.int .u8 0), (.int .i64 0), (.int .i64 0), (.int .i64 0), (.int .u16 0), (.bool false), (.slice none 0 0), (.string ⟨#[]⟩), (.int .u8 0), (.int .u8 0), (.int .i64 0), (.int .i64 0), (.int .i64 0), (.int .u16 0), (.bool false), (.slice none 0 0), (.string ⟨#[]⟩), (.int .u8 0), (.int .u8 0), (.int .i64 0), (.int .i64 0), (.int .i64 0), (.int .u16 0), (.bool false), (.slice none 0 0), (.string ⟨#[]⟩), (.int .u8 0), (.int .u8 0), (.int .i64 0), (.int .i64 0), (.int .i64 0), (.int .u16 0), (.bool false), (.slice none 0 0), (.string ⟨#[]⟩), (.int .u8 0), (.int .u8 0), (.int .i64 0), (.int .i64 0), (.int .i64 0), (.int .u16 0), (.bool false), (.slice none 0 0), (.string ⟨#[]⟩), (.int .u8 0), (.int .u8 0), (.int .i64 0), (.int .i64 0), (.int .i64 0), (.int .u16 0), (.bool false), (.slice none 0 0), (.string ⟨#[]⟩), (.int .u8 0), (.int .u8 0), (.int .i64 0), (.int .i64 0), (.int .i64 0), (.int .u16 0), (.bool false), (.slice none 0 0), (.string ⟨#[]⟩), (.int .u8 0), (.int .u8 0), (.int .i64 0), (.int .i64 0), (.int .i64 0), (.int .u16 0), (.bool false), (.slice none 0 0), (.string ⟨#[]⟩), (.int .u8 0), (.int .u8 0), (.int .i64 0), (.int .i64 0), (.int .i64 0), (.int .u16 0), (.bool false), (.slice none 0 0), (.string ⟨#[]⟩), (.int .u8 0), (.int .u8 0), (.int .i64 0), (.int .i64 0), (.int .i64 0), (.int .u16 0), (.bool false), (.slice none 0 0), (.string ⟨#[]⟩), (.int .u8 0), (.int .u8 0), (.int .i64 0), (.int .i64 0), (.int .i64 0), (.int .u16 0), (.bool false), (.slice none 0 0), (.string ⟨#[]⟩), (.int .u8 0), (.int .u8 0), (.int .i64 0), (.int .i64 0), (.int .i64 0), (.int .u16 0), (.bool false), (.slice none 0 0), (.string ⟨#[]⟩), (.int .u8 0), (.int .u8 0), (.int .i64 0), (.int .i64 0), (.int .i64 0), (.int .u16 0), (.bool false), (.slice none 0 0), (.string ⟨#[]⟩), (.int .u8 0), (.int .u8 0), (.int .i64 0), (.int .i64 0), (.int .i64 0), (.int .u16 0), (.bool false), (.slice none 0 0), (.string ⟨#[]⟩), (.int .u8 0), (.int .u8 0), (.int .i64 0), (.int .i64 0), (.int .i64 0), (.int .u16 0), (.bool false), (.slice none 0 0), (.string ⟨#[]⟩), (.int .u8 0), (.int .u8 0), (.int .i64 0), (.int .i64 0), (.int .i64 0), (.int .u16 0), (.bool false), (.slice none 0 0), (.string ⟨#[]⟩), (.int .u8 0), (.int .u8 0), (.int .i64 0), (.int .i64 0), (.int .i64 0), (.int .u16 0), (.bool false), (.slice none 0 0), (.string ⟨#[]⟩), (.int .u8 0), (.int .u8 0), (.int .i64 0), (.int .i64 0), (.int .i64 0), (.int .u16 0), (.bool false), (.slice none 0 0), (.string ⟨#[]⟩), (.int .u8 0), (.int .u8 0), (.int .i64 0), (.int .i64 0), (.int .i64 0), (.int .u16 0), (.bool false), (.slice none 0 0), (.string ⟨#[]⟩), (.int .u8 0), (.int .u8 0), (.int .i64 0), (.int .i64 0), (.int .i64 0), (.int .u16 0), (.bool false), (.slice none 0 0), (.string ⟨#[]⟩), (.int .u8 0), (.int .u8 0), (.int .i64 0), (.int .i64 0), (.int .i64 0), (.int .u16 0), (.bool false), (.slice none 0 0), (.string ⟨#[]⟩), (.int .u8 0), (.int .u8 0), (.int .i64 0), (.int .i64 0), (.int .i64 0), (.int .u16 0), (.bool false), (.slice none 0 0), (.string ⟨#[]⟩), (.int .u8 0), (.int .u8 0), (.int .i64 0), (.int .i64 0), (.int .i64 0), (.int .u16 0), (.bool false), (.slice none 0 0), (.string ⟨#[]⟩), (.int .u8 0), (.int .u8 0), (.int .i64 0), (.int .i64 0), (.int .i64 0), (.int .u16 0), (.bool false), (.slice none 0 0), (.string ⟨#[]⟩), (.int .u8 0), (.int .u8 0), (.int .i64 0), (.int .i64 0), (.int .i64 0), (.int .u16 0), (.bool false), (.slice none 0 0), (.string ⟨#[]⟩), (.int .u8 0), (.int .u8 0), (.int .i64 0), (.int .i64 0), (.int .i64 0), (.int .u16 0), (.bool false), (.slice none 0 0), (.string ⟨#[]⟩), (.int .u8 0), (.int .u8 0), (.int .i64 0), (.int .i64 0), (.int .i64 0), (.int .u16 0), (.bool false), (.slice none 0 0), (.string ⟨#[]⟩), (.int .u8 0), (.int .u8 0), (.int .i64 0), (.int .i64 0), (.int .i64 0), (.int .u16 0), (.bool false), (.slice none 0 0), (.string ⟨#[]⟩), (.int .u8 0), (.int .u8 0), (.int .i64 0), (.int .i64 0), (.int .i64 0), (.int .u16 0), (.bool false), (.slice none 0 0), (.string ⟨#[]⟩), (.int .u8 0), (.int .u8 0), (.int .i64 0), (.int .i64 0), (.int .i64 0), (.int .u16 0), (.bool false), (.slice none 0 0), (.string ⟨#[]⟩), (.int .u8 0), (.int .u8 0), (.int .i64 0), (.int .i64 0), (.int .i64 0), (.int .u16 0), (.bool false), (.slice none 0 0), (.string ⟨#[]⟩), (.int .u8 0), (.int .u8 0), (.int .i64 0), (.int .i64 0), (.int .i64 0), (.int .u16 0), (.bool false), (.slice none 0 0), (.string ⟨#[]⟩), (.int .u8 0), (.int .u8 0), (.int .i64 0), (.int .i64 0), (.int .i64 0), (.int .u16 0), (.bool false), (.slice none 0 0), (.string ⟨#[]⟩), (.int .u8 0), (.int .u8 0), (.int .i64 0), (.int .i64 0), (.int .i64 0), (.int .u16 0), (.bool false), (.slice none 0 0), (.string ⟨#[]⟩), (.int .u8 0), (.int .u8 0), (.int .i64 0), (.int .i64 0), (.int .i64 0), (.int .u16 0), (.bool false), (.slice none 0 0), (.string ⟨#[]⟩), (.int .u8 0), (.int .u8 0), (.int .i64 0), (.int .i64 0), (.int .i64 0), (.int .u16 0), (.bool false), (.slice none 0 0), (.string ⟨#[]⟩), (.int .u8 0), (.int .u8 0), (.int .i64 0), (.int .i64 0), (.int .i64 0), (.int .u16 0), (.bool false), (.slice none 0 0), (.string ⟨#[]⟩), (.int .u8 0), (.int .u8 0), (.int .i64 0), (.int .i64 0), (.int .i64 0), (.int .u16 0), (.bool false), (.slice none 0 0), (.string ⟨#[]⟩), (.int .u8 0), (.int .u8 0), (.int .i64 0), (.int .i64 0), (.int .i64 0), (.int .u16 0), (.bool false), (.slice none 0 0), (.string ⟨#[]⟩), (.int .u8 0), (.int .u8 0), (.int .i64 0), (.int .i64 0), (.int .i64 0), (.int .u16 0), (.bool false), (.slice none 0 0), (.string ⟨#[]⟩), (.int .u8 0), (.int .u8 0), (.int .i64 0), (.int .i64 0), (.int .i64 0), (.int .u16 0), (.bool false), (.slice none 0 0), (.string ⟨#[]⟩), (.int .u8 0), (.int .u8 0), (.int .i64 0), (.int .i64 0), (.int .i64 0), (.int .u16 0), (.bool false), (.slice none 0 0), (.string ⟨#[]⟩), (.int .u8 0), (.int .u8 0), (.int .i64 0), (.int .i64 0), (.int .i64 0), (.int .u16 0), (.bool false), (.slice none 0 0), (.string ⟨#[]⟩), (.int .u8 0), (.int .u8 0), (.int .i64 0), (.int .i64 0), (.int .i64 0), (.int .u16 0), (.bool false), (.slice none 0 0), (.string ⟨#[]⟩), (.int .u8 0), (.int .u8 0), (.int .i64 0), (.int .i64 0), (.int .i64 0), (.int .u16 0), (.bool false), (.slice none 0 0), (.string ⟨#[]⟩), (.int .u8 0), (.int .u8 0), (.int .i64 0), (.int .i64 0), (.int .i64 0), (.int .u16 0), (.bool false), (.slice none 0 0), (.string ⟨#[]⟩), (.int .u8 0), (.int .u8 0), (.int .i64 0), (.int .i64 0), (.int .i64 0), (.int .u16 0), (.bool false), (.slice none 0 0), (.string ⟨#[]⟩), (.int .u8 0), (.int .u8 0), (.int .i64 0), (.int .i64 0), (.int .i64 0), (.int .u16 0), (.bool false), (.slice none 0 0), (.string ⟨#[]⟩), (.int .u8 0), (.int .u8 0), (.int .i64 0), (.int .i64 0), (.int .i64 0), (.int .u16 0), (.bool false), (.slice none 0 0), (.string ⟨#[]⟩), (.int .u8 0), (.int .u8 0), (.int .i64 0), (.int .i64 0), (.int .i64 0), (.int .u16 0), (.bool false), (.slice none 0 0), (.string ⟨#[]⟩), (.int .u8 0), (.int .u8 0), (.int .i64 0), (.int .i64 0), (.int .i64 0), (.int .u16 0), (.bool false), (.slice none 0 0), (.string ⟨#[]⟩), (.int .u8 0), (.int .u8 0), (.int .i64 0), (.int .i64 0), (.int .i64 0), (.int .u16 0), (.bool false), (.slice none 0 0), (.string ⟨#[]⟩), (.int .u8 0), (.int .u8 0), (.int .i64 0), (.int .i64 0), (.int .i64 0), (.int .u16 0), (.bool false), (.slice none 0 0), (.string ⟨#[]⟩), (.int .u8 0), (.int .u8 0), (.int .i64 0), (.int .i64 0), (.int .i64 0), (.int .u16 0), (.bool false), (.slice none 0 0), (.string ⟨#[]⟩), (.int .u8 0), (.int .u8 0), (.int .i64 0), (.int .i64 0), (.int .i64 0), (.int .u16 0), (.bool false), (.slice none 0 0), (.string ⟨#[]⟩), (.int .u8 0), (.int .u8 0), (.int .i64 0), (.int .i64 0), (.int .i64 0), (.int .u16 0), (.bool false), (.slice none 0 0), (.string ⟨#[]⟩), (.int .u8 0), (.int .u8 0), (.int .i64 0), (.int .i64 0), (.int .i64 0), (.int .u16 0), (.bool false), (.slice none 0 0), (.string ⟨#[]⟩), (.int .u8 0), (.int .u8 0), (.int .i64 0), (.int .i64 0), (.int .i64 0), (.int .u16 0), (.bool false), (.slice none 0 0), (.string ⟨#[]⟩), (.int .u8 0), (.int .u8 0), (.int .i64 0), (.int .i64 0), (.int .i64 0), (.int .u16 0), (.bool false), (.slice none 0 0), (.string ⟨#[]⟩), (.int .u8 0), (.int .u8 0), (.int .i64 0), (.int .i64 0), (.int .i64 0), (.int .u16 0), (.bool false), (.slice none 0 0), (.string ⟨#[]⟩), (.int .u8 0), (.int .u8 0), (.int .i64 0), (.int .i64 0), (.int .i64 0), (.int .u16 0), (.bool false), (.slice none 0 0), (.string ⟨#[]⟩), (.string ⟨#[]⟩), (.string ⟨#[]⟩), (.string ⟨#[]⟩), (.string ⟨#[]⟩), (.string ⟨#[]⟩), (.string ⟨#[]⟩), (.string ⟨#[]⟩), (.string ⟨#[]⟩), (.int .u8 0), (.string ⟨#[]⟩), (.int .i64 0), (.int .i64 0), (.int .u8 0), (.string ⟨#[]⟩), (.int .i64 0), (.int .i64 0), (.int .u8 0), (.string ⟨#[]⟩), (.int .i64 0), (.int .i64 0), (.int .u8 0), (.string ⟨#[]⟩), (.int .i64 0), (.int .i64 0), (.int .u8 0), (.string ⟨#[]⟩), (.int .i64 0), (.int .i64 0)] [(0, 1), (1, 1), (2, 1), (3, 576), (579, 9), (588, 20)] [(0, (.const (.bool true)))])⟩, ⟨none, (some 2), false, (.box 102 (.tmp 1))⟩, ⟨none, (some 0), false, (.mov (.tmp 2))⟩]
@[reducible] def c33s3 : C := (.ops c33r2 (some [0]))
@[reducible] def c33s4 : C := (.seq c33s3 .ret)
@[reducible] def c33 : C := (.seq c33s1 c33s4)
theorem f33 : compF Go.Proofs.Tryd.prog 33 = some ⟨3, strip c33, [(.tmp 0)]⟩ := by kernel_rfl
theorem o33 : okC 3 c33 = true := by kernel_rfl

@[reducible] def c48r0 : List J := [⟨none, (some 4), false, (.alloc [(.int .u8 0), (.string ⟨#[]⟩), (.int .i64 0), (.int .i64 0)] 4 63)⟩, ⟨none, (some 5), false, (.mov (.const (.bool false)))⟩]
@[reducible] def c48s1 : C := (.ops c48r0 (some [0, 1, 4]))
@[reducible] def c48r2 : List J := [⟨none, (some 6), false, (.mov (.tmp 0))⟩, ⟨none, (some 7), false, (.call (.func 57) [(.tmp 6)])⟩, ⟨none, (some 8), false, (.mov (.tmp 7))⟩, ⟨(some ((some 8), false)), (some 9), false, (.mov (.tmp 1))⟩, ⟨(some ((some 8), false)), (some 10), false, (.cmp .lss (.tmp 9) (.const (.int .u8 1)))⟩, ⟨none, (some 11), false, (.pick (.tmp 8) (.const (.bool true)) (.tmp 10))⟩, ⟨none, (some 12), false, (.mov (.tmp 11))⟩, ⟨(some ((some 12), false)), (some 13), false, (.mov (.tmp 1))⟩, ⟨(some ((some 12), false)), (some 14), false, (.cmp .gtr (.tmp 13) (.const (.int .u8 4)))⟩, ⟨none, (some 15), false, (.pick (.tmp 12) (.const (.bool true)) (.tmp 14))⟩]
@[reducible] def c48s3 : C := (.ops c48r2 (some [0, 1, 4, 15]))
@[reducible] def c48r4 : List J := [⟨none, (some 16), false, (.bld [(.int .u8 0), (.string ⟨#[]⟩), (.int .i64 0), (.int .i64 0)] [(0, 1), (1, 1), (2, 1), (3, 1)] [])⟩, ⟨none, none, false, (.st 4 (.tmp 4) (.tmp 16))⟩, ⟨none, (some 5), false, (.mov (.const (.bool false)))⟩]
@[reducible] def c48s5 : C := (.ops c48r4 (some [4, 5]))
@[reducible] def c48s6 : C := (.seq c48s5 .ret)
@[reducible] def c48s7 : C := (.cond (.tmp 15) c48s6 .skip)
@[reducible] def c48s8 : C := (.seq c48s3 c48s7)
@[reducible] def c48r9 : List (J × Bool) := [(⟨none, (some 17), false, (.mov (.tmp 0))⟩, false), (⟨none, (some 18), false, (.mov (.tmp 1))⟩, false), (⟨none, (some 19), false, (.nck (.tmp 17))⟩, false), (⟨none, (some 20), false, (.faddr 588 (.tmp 19))⟩, false), (⟨none, (some 21), false, (.ixa 5 4 (.tmp 20) (.tmp 18))⟩, false), (⟨none, (some 22), false, (.ldN 4 (.tmp 21))⟩, false), (⟨none, (some 23), false, (.mov (.tmp 0))⟩, false), (⟨none, (some 24), false, (.mov (.tmp 1))⟩, false), (⟨none, (some 25), false, (.nck (.tmp 23))⟩, false), (⟨none, (some 26), false, (.faddr 588 (.tmp 25))⟩, false), (⟨none, (some 27), false, (.ixa 5 4 (.tmp 26) (.tmp 24))⟩, false), (⟨none, (some 28), false, (.faddr 0 (.tmp 27))⟩, false), (⟨none, (some 29), false, (.ld1 (.tmp 28))⟩, false), (⟨none, (some 30), false, (.cmp .neq (.tmp 29) (.const (.int .u8 0)))⟩, false), (⟨none, none, false, (.st 4 (.tmp 4) (.tmp 22))⟩, true)]
@[reducible] def c48r10 : List J := [⟨none, (some 5), false, (.mov (.tmp 30))⟩]
@[reducible] def c48s11 : C := (.plan c48r9 c48r10 (some [4, 5]))
@[reducible] def c48s12 : C := (.seq c48s11 .ret)
@[reducible] def c48s13 : C := (.seq c48s8 c48s12)
@[reducible] def c48 : C := (.seq c48s1 c48s13)
theorem f48 : compF Go.Proofs.Tryd.prog 48 = some ⟨31, strip c48, [(.cell 4 63), (.tmp 5)]⟩ := by kernel_rfl
theorem o48 : okC 31 c48 = true := by kernel_rfl

@[reducible] def c53r0 : List J := [⟨none, (some 4), false, (.mov (.const (.bool false)))⟩]
@[reducible] def c53s1 : C := (.ops c53r0 (some [0, 1]))
@[reducible] def c53r2 : List J := [⟨none, (some 5), false, (.mov (.tmp 0))⟩, ⟨none, (some 6), false, (.call (.func 57) [(.tmp 5)])⟩]
@[reducible] def c53s3 : C := (.ops c53r2 (some [0, 1, 6]))
@[reducible] def c53r4 : List J := [⟨none, (some 4), false, (.mov (.const (.bool false)))⟩]
@[reducible] def c53s5 : C := (.ops c53r4 (some [4]))
@[reducible] def c53s6 : C := (.seq c53s5 .ret)
@[reducible] def c53s7 : C := (.cond (.tmp 6) c53s6 .skip)
@[reducible] def c53s8 : C := (.seq c53s3 c53s7)
@[reducible] def c53r9 : List J := [⟨none, (some 7), false, (.mov (.tmp 0))⟩, ⟨none, (some 8), false, (.mov (.tmp 1))⟩, ⟨none, (some 9), false, (.call (.func 56) [(.tmp 7), (.tmp 8)])⟩, ⟨none, (some 10), false, (.cmp .geq (.tmp 9) (.const (.int .i64 0)))⟩, ⟨none, (some 4), false, (.mov (.tmp 10))⟩]
@[reducible] def c53s10 : C := (.ops c53r9 (some [4]))
@[reducible] def c53s11 : C := (.seq c53s10 .ret)
@[reducible] def c53s12 : C := (.seq c53s8 c53s11)
@[reducible] def c53 : C := (.seq c53s1 c53s12)
theorem f53 : compF Go.Proofs.Tryd.prog 53 = some ⟨11, strip c53, [(.tmp 4)]⟩ := by kernel_rfl
theorem o53 : okC 11 c53 = true := by kernel_rfl

@[reducible] def c55r0 : List J := [⟨none, (some 2), false, (.mov (.const (.int .i64 0)))⟩]
@[reducible] def c55s1 : C := (.ops c55r0 (some [0]))
@[reducible] def c55r2 : List J := [⟨none, (some 4), false, (.mov (.tmp 0))⟩, ⟨none, (some 5), false, (.call (.func 57) [(.tmp 4)])⟩, ⟨none, (some 3), false, (.mov (.tmp 5))⟩]
@[reducible] def c55s3 : C := (.ops c55r2 (some [0, 3]))
@[reducible] def c55r4 : List J := [⟨none, (some 2), false, (.mov (.const (.int .i64 1)))⟩]
@[reducible] def c55s5 : C := (.ops c55r4 (some [2]))
@[reducible] def c55s6 : C := (.seq c55s5 .ret)
@[reducible] def c55r7 : List J := [⟨none, (some 7), false, (.mov (.tmp 0))⟩, ⟨none, (some 8), false, (.nck (.tmp 7))⟩, ⟨none, (some 9), false, (.faddr 1 (.tmp 8))⟩, ⟨none, (some 10), false, (.ld1 (.tmp 9))⟩, ⟨none, (some 6), false, (.mov (.tmp 10))⟩]
@[reducible] def c55s8 : C := (.ops c55r7 (some [6]))
@[reducible] def c55r9 : List J := [⟨none, (some 2), false, (.mov (.const (.int .i64 7)))⟩]
@[reducible] def c55s10 : C := (.ops c55r9 (some [2]))
@[reducible] def c55s11 : C := (.seq c55s10 .ret)
@[reducible] def c55s12 : C := (.cond (.tmp 6) c55s11 .skip)
@[reducible] def c55s13 : C := (.seq c55s8 c55s12)
@[reducible] def c55s14 : C := (.cond (.tmp 3) c55s6 c55s13)
@[reducible] def c55s15 : C := (.seq c55s3 c55s14)
@[reducible] def c55s16 : C := (.block 0 c55s15)
@[reducible] def c55r17 : List J := [⟨none, (some 2), false, (.mov (.const (.int .i64 0)))⟩]
@[reducible] def c55s18 : C := (.ops c55r17 (some [2]))
@[reducible] def c55s19 : C := (.seq c55s18 .ret)
@[reducible] def c55s20 : C := (.seq c55s16 c55s19)
@[reducible] def c55 : C := (.seq c55s1 c55s20)
theorem f55 : compF Go.Proofs.Tryd.prog 55 = some ⟨11, strip c55, [(.tmp 2)]⟩ := by kernel_rfl
theorem o55 : okC 11 c55 = true := by kernel_rfl

@[reducible] def c56r0 : List J := [⟨none, (some 4), false, (.mov (.const (.int .i64 0)))⟩]
@[reducible] def c56s1 : C := (.ops c56r0 (some [0, 1]))
@[reducible] def c56r2 : List J := [⟨none, (some 6), false, (.mov (.tmp 0))⟩, ⟨none, (some 7), false, (.nck (.tmp 6))⟩, ⟨none, (some 8), false, (.faddr 2 (.tmp 7))⟩, ⟨none, (some 9), false, (.ld1 (.tmp 8))⟩, ⟨none, (some 10), false, (.mov (.const (.int .i64 0)))⟩]
@[reducible] def c56s3 : C := (.ops c56r2 (some [0, 1, 9, 10]))
@[reducible] def c56r4 : List J := [⟨none, (some 11), false, (.cmp .lss (.tmp 10) (.tmp 9))⟩]
@[reducible] def c56s5 : C := (.ops c56r4 (some [0, 1, 9, 10, 11]))
@[reducible] def c56s6 : C := (.cond (.tmp 11) .skip (.exit 0))
@[reducible] def c56r7 : List J := [⟨none, (some 12), false, (.mov (.tmp 10))⟩, ⟨none, (some 5), false, (.mov (.tmp 12))⟩]
@[reducible] def c56s8 : C := (.ops c56r7 (some [0, 1, 5, 9, 10]))
@[reducible] def c56r9 : List J := [⟨none, (some 13), false, (.mov (.tmp 0))⟩, ⟨none, (some 14), false, (.mov (.tmp 5))⟩, ⟨none, (some 15), false, (.nck (.tmp 13))⟩, ⟨none, (some 16), false, (.faddr 3 (.tmp 15))⟩, ⟨none, (some 17), false, (.ixa 64 9 (.tmp 16) (.tmp 14))⟩, ⟨none, (some 18), false, (.faddr 0 (.tmp 17))⟩, ⟨none, (some 19), false, (.ld1 (.tmp 18))⟩, ⟨none, (some 20), false, (.mov (.tmp 1))⟩, ⟨none, (some 21), false, (.sop .eql (.tmp 19) (.tmp 20))⟩]
@[reducible] def c56s10 : C := (.ops c56r9 (some [0, 1, 5, 9, 10, 21]))
@[reducible] def c56r11 : List J := [⟨none, (some 22), false, (.mov (.tmp 5))⟩, ⟨none, (some 4), false, (.mov (.tmp 22))⟩]
@[reducible] def c56s12 : C := (.ops c56r11 (some [4]))
@[reducible] def c56s13 : C := (.seq c56s12 .ret)
@[reducible] def c56s14 : C := (.cond (.tmp 21) c56s13 .skip)
@[reducible] def c56s15 : C := (.seq c56s10 c56s14)
@[reducible] def c56s16 : C := (.seq c56s8 c56s15)
@[reducible] def c56s17 : C := (.block 1 c56s16)
@[reducible] def c56r18 : List J := [⟨none, (some 23), false, (.arith .add (.tmp 10) (.const (.int .i64 1)))⟩, ⟨none, (some 10), false, (.mov (.tmp 23))⟩]
@[reducible] def c56s19 : C := (.ops c56r18 (some [0, 1, 9, 10]))
@[reducible] def c56s20 : C := (.seq c56s17 c56s19)
@[reducible] def c56s21 : C := (.seq c56s6 c56s20)
@[reducible] def c56s22 : C := (.seq c56s5 c56s21)
@[reducible] def c56s23 : C := (.loop c56s22)
@[reducible] def c56s24 : C := (.block 0 c56s23)
@[reducible] def c56s25 : C := (.seq c56s3 c56s24)
@[reducible] def c56r26 : List J := [⟨none, (some 4), false, (.mov (.const (.int .i64 (-1))))⟩]
@[reducible] def c56s27 : C := (.ops c56r26 (some [4]))
@[reducible] def c56s28 : C := (.seq c56s27 .ret)
@[reducible] def c56s29 : C := (.seq c56s25 c56s28)
@[reducible] def c56 : C := (.seq c56s1 c56s29)
theorem f56 : compF Go.Proofs.Tryd.prog 56 = some ⟨24, strip c56, [(.tmp 4)]⟩ := by kernel_rfl
theorem o56 : okC 24 c56 = true := by kernel_rfl

@[reducible] def c57r0 : List J := [⟨none, (some 2), false, (.mov (.const (.bool false)))⟩]
@[reducible] def c57s1 : C := (.ops c57r0 (some [0]))
@[reducible] def c57r2 : List J := [⟨none, (some 3), false, (.mov (.tmp 0))⟩, ⟨none, (some 4), false, (.nil false (.tmp 3))⟩, ⟨none, (some 5), false, (.mov (.tmp 4))⟩, ⟨(some ((some 5), false)), (some 6), false, (.mov (.tmp 0))⟩, ⟨(some ((some 5), false)), (some 7), false, (.nck (.tmp 6))⟩, ⟨(some ((some 5), false)), (some 8), false, (.faddr 0 (.tmp 7))⟩, ⟨(some ((some 5), false)), (some 9), false, (.ld1 (.tmp 8))⟩, ⟨(some ((some 5), false)), (some 10), false, (.un .not (.tmp 9))⟩, ⟨none, (some 11), false, (.pick (.tmp 5) (.const (.bool true)) (.tmp 10))⟩, ⟨none, (some 2), false, (.mov (.tmp 11))⟩]
@[reducible] def c57s3 : C := (.ops c57r2 (some [2]))
@[reducible] def c57s4 : C := (.seq c57s3 .ret)
@[reducible] def c57 : C := (.seq c57s1 c57s4)
theorem f57 : compF Go.Proofs.Tryd.prog 57 = some ⟨12, strip c57, [(.tmp 2)]⟩ := by kernel_rfl
theorem o57 : okC 12 c57 = true := by kernel_rfl

@[reducible] def c58r0 : List J := [⟨none, (some 2), false, (.box 51 (.tmp 0))⟩, ⟨none, (some 3), false, (.box 51 (.tmp 1))⟩, ⟨none, (some 4), false, (.mov (.const (.bool false)))⟩]
@[reducible] def c58s1 : C := (.ops c58r0 (some [2, 3]))
@[reducible] def c58r2 : List J := [⟨none, (some 5), false, (.faddr 1 (.tmp 2))⟩, ⟨none, (some 6), false, (.ld1 (.tmp 5))⟩, ⟨none, (some 7), false, (.faddr 1 (.tmp 3))⟩, ⟨none, (some 8), false, (.ld1 (.tmp 7))⟩, ⟨none, (some 9), false, (.cmp .neq (.tmp 6) (.tmp 8))⟩]
@[reducible] def c58s3 : C := (.ops c58r2 (some [2, 3, 9]))
@[reducible] def c58r4 : List J := [⟨none, (some 10), false, (.faddr 1 (.tmp 2))⟩, ⟨none, (some 11), false, (.ld1 (.tmp 10))⟩, ⟨none, (some 12), false, (.faddr 1 (.tmp 3))⟩, ⟨none, (some 13), false, (.ld1 (.tmp 12))⟩, ⟨none, (some 14), false, (.cmp .lss (.tmp 11) (.tmp 13))⟩, ⟨none, (some 4), false, (.mov (.tmp 14))⟩]
@[reducible] def c58s5 : C := (.ops c58r4 (some [4]))
@[reducible] def c58s6 : C := (.seq c58s5 .ret)
@[reducible] def c58s7 : C := (.cond (.tmp 9) c58s6 .skip)
@[reducible] def c58s8 : C := (.seq c58s3 c58s7)
@[reducible] def c58r9 : List J := [⟨none, (some 15), false, (.faddr 0 (.tmp 2))⟩, ⟨none, (some 16), false, (.ld1 (.tmp 15))⟩, ⟨none, (some 17), false, (.faddr 0 (.tmp 3))⟩, ⟨none, (some 18), false, (.ld1 (.tmp 17))⟩, ⟨none, (some 19), false, (.sop .lss (.tmp 16) (.tmp 18))⟩, ⟨none, (some 4), false, (.mov (.tmp 19))⟩]
@[reducible] def c58s10 : C := (.ops c58r9 (some [4]))
@[reducible] def c58s11 : C := (.seq c58s10 .ret)
@[reducible] def c58s12 : C := (.seq c58s8 c58s11)
@[reducible] def c58 : C := (.seq c58s1 c58s12)
theorem f58 : compF Go.Proofs.Tryd.prog 58 = some ⟨20, strip c58, [(.tmp 4)]⟩ := by kernel_rfl
theorem o58 : okC 20 c58 = true := by kernel_rfl

@[reducible] def c59r0 : List J := [⟨none, (some 1), false, (.box 51 (.tmp 0))⟩, ⟨none, (some 2), false, (.alloc [(.string ⟨#[]⟩), (.int .u8 0), (.int .u8 0), (.int .i64 0), (.int .i64 0), (.int .i64 0), (.int .u16 0), (.bool false), (.slice none 0 0)] 9 51)⟩]
@[reducible] def c59s1 : C := (.ops c59r0 (some [1, 2]))
@[reducible] def c59r2 : List J := [⟨none, (some 3), false, (.faddr 8 (.tmp 1))⟩, ⟨none, (some 4), false, (.ld1 (.tmp 3))⟩, ⟨none, (some 5), false, (.app false 8 40 72 (.const (.slice none 0 0)) (.tmp 4))⟩, ⟨none, (some 6), false, (.faddr 8 (.tmp 1))⟩, ⟨none, none, false, (.st 1 (.tmp 6) (.tmp 5))⟩]
@[reducible] def c59s3 : C := (.ops c59r2 (some [1, 2]))
@[reducible] def c59r4 : List J := [⟨none, (some 7), false, (.ldN 9 (.tmp 1))⟩, ⟨none, none, false, (.st 9 (.tmp 2) (.tmp 7))⟩]
@[reducible] def c59s5 : C := (.ops c59r4 (some [2]))
@[reducible] def c59s6 : C := (.seq c59s5 .ret)
@[reducible] def c59s7 : C := (.seq c59s3 c59s6)
@[reducible] def c59 : C := (.seq c59s1 c59s7)
theorem f59 : compF Go.Proofs.Tryd.prog 59 = some ⟨8, strip c59, [(.cell 2 51)]⟩ := by kernel_rfl
theorem o59 : okC 8 c59 = true := by kernel_rfl

@[reducible] def c60r0 : List J := [⟨none, (some 2), false, (.mov (.const (.bool false)))⟩]
@[reducible] def c60s1 : C := (.ops c60r0 (some [0]))
@[reducible] def c60r2 : List J := [⟨none, (some 5), false, (.mov (.tmp 0))⟩, ⟨none, (some 6), false, (.slen (.tmp 5))⟩, ⟨none, (some 7), false, (.cmp .eql (.tmp 6) (.const (.int .i64 0)))⟩, ⟨none, (some 8), false, (.mov (.tmp 7))⟩, ⟨(some ((some 8), false)), (some 9), false, (.mov (.tmp 0))⟩, ⟨(some ((some 8), false)), (some 10), false, (.slen (.tmp 9))⟩, ⟨(some ((some 8), false)), (some 11), false, (.cmp .gtr (.tmp 10) (.const (.int .i64 20)))⟩, ⟨none, (some 12), false, (.pick (.tmp 8) (.const (.bool true)) (.tmp 11))⟩, ⟨none, (some 13), false, (.mov (.tmp 12))⟩, ⟨(some ((some 13), false)), (some 14), false, (.mov (.tmp 0))⟩, ⟨(some ((some 13), false)), (some 15), false, (.six (.tmp 14) (.const (.int .i64 0)))⟩, ⟨(some ((some 13), false)), (some 16), false, (.cmp .eql (.tmp 15) (.const (.int .u8 45)))⟩, ⟨none, (some 17), false, (.pick (.tmp 13) (.const (.bool true)) (.tmp 16))⟩]
@[reducible] def c60s3 : C := (.ops c60r2 (some [0, 17]))
@[reducible] def c60r4 : List J := [⟨none, (some 2), false, (.mov (.const (.bool false)))⟩]
@[reducible] def c60s5 : C := (.ops c60r4 (some [2]))
@[reducible] def c60s6 : C := (.seq c60s5 .ret)
@[reducible] def c60s7 : C := (.cond (.tmp 17) c60s6 .skip)
@[reducible] def c60s8 : C := (.seq c60s3 c60s7)
@[reducible] def c60r9 : List J := [⟨none, (some 18), false, (.mov (.tmp 0))⟩, ⟨none, (some 19), false, (.other ⟨(some 19), (.range 9 (.tmp 18)), 0, "book.go:89", ⟨[⟨0, .data⟩]⟩, none⟩)⟩]
@[reducible] def c60s10 : C := (.ops c60r9 (some [19]))
@[reducible] def c60r11 : List J := [⟨none, (some 20), false, (.other ⟨(some 20), (.next (.tmp 19) true), 0, "book.go:89", ⟨[]⟩, none⟩)⟩, ⟨none, (some 21), false, (.ext 0 (.tmp 20))⟩]
@[reducible] def c60s12 : C := (.ops c60r11 (some [19, 20, 21]))
@[reducible] def c60s13 : C := (.cond (.tmp 21) .skip (.exit 0))
@[reducible] def c60r14 : List J := [⟨none, (some 22), false, (.ext 2 (.tmp 20))⟩, ⟨none, (some 4), false, (.mov (.tmp 22))⟩]
@[reducible] def c60s15 : C := (.ops c60r14 (some [4, 19]))
@[reducible] def c60r16 : List J := [⟨none, (some 23), false, (.mov (.tmp 4))⟩, ⟨none, (some 24), false, (.cmp .neq (.tmp 23) (.const (.int .i32 45)))⟩, ⟨none, (some 25), false, (.mov (.tmp 24))⟩, ⟨(some ((some 25), true)), (some 26), false, (.mov (.tmp 4))⟩, ⟨(some ((some 25), true)), (some 27), false, (.cmp .lss (.tmp 26) (.const (.int .i32 97)))⟩, ⟨(some ((some 25), true)), (some 28), false, (.mov (.tmp 27))⟩, ⟨(some ((some 28), false)), (some 29), false, (.mov (.tmp 4))⟩, ⟨(some ((some 28), false)), (some 30), false, (.cmp .gtr (.tmp 29) (.const (.int .i32 122)))⟩, ⟨(some ((some 25), true)), (some 31), false, (.pick (.tmp 28) (.const (.bool true)) (.tmp 30))⟩, ⟨none, (some 32), false, (.pick (.tmp 25) (.tmp 31) (.const (.bool false)))⟩]
@[reducible] def c60s17 : C := (.ops c60r16 (some [19, 32]))
@[reducible] def c60r18 : List J := [⟨none, (some 2), false, (.mov (.const (.bool false)))⟩]
@[reducible] def c60s19 : C := (.ops c60r18 (some [2]))
@[reducible] def c60s20 : C := (.seq c60s19 .ret)
@[reducible] def c60s21 : C := (.cond (.tmp 32) c60s20 .skip)
@[reducible] def c60s22 : C := (.seq c60s17 c60s21)
@[reducible] def c60s23 : C := (.seq c60s15 c60s22)
@[reducible] def c60s24 : C := (.block 1 c60s23)
@[reducible] def c60s25 : C := (.seq c60s13 c60s24)
@[reducible] def c60s26 : C := (.seq c60s12 c60s25)
@[reducible] def c60s27 : C := (.loop c60s26)
@[reducible] def c60s28 : C := (.block 0 c60s27)
@[reducible] def c60s29 : C := (.seq c60s10 c60s28)
@[reducible] def c60r30 : List J := [⟨none, (some 2), false, (.mov (.const (.bool true)))⟩]
@[reducible] def c60s31 : C := (.ops c60r30 (some [2]))
@[reducible] def c60s32 : C := (.seq c60s31 .ret)
@[reducible] def c60s33 : C := (.seq c60s29 c60s32)
@[reducible] def c60s34 : C := (.seq c60s8 c60s33)
@[reducible] def c60 : C := (.seq c60s1 c60s34)
theorem f60 : compF Go.Proofs.Tryd.prog 60 = some ⟨33, strip c60, [(.tmp 2)]⟩ := by kernel_rfl
theorem o60 : okC 33 c60 = true := by kernel_rfl

@[reducible] def c61r0 : List J := [⟨none, (some 2), false, (.mov (.const (.bool false)))⟩]
@[reducible] def c61s1 : C := (.ops c61r0 (some [0]))
@[reducible] def c61r2 : List J := [⟨none, (some 3), false, (.mov (.tmp 0))⟩, ⟨none, (some 4), false, (.cmp .geq (.tmp 3) (.const (.int .i64 (-9))))⟩, ⟨none, (some 5), false, (.mov (.tmp 4))⟩, ⟨(some ((some 5), true)), (some 6), false, (.mov (.tmp 0))⟩, ⟨(some ((some 5), true)), (some 7), false, (.cmp .leq (.tmp 6) (.const (.int .i64 9)))⟩, ⟨none, (some 8), false, (.pick (.tmp 5) (.tmp 7) (.const (.bool false)))⟩, ⟨none, (some 2), false, (.mov (.tmp 8))⟩]
@[reducible] def c61s3 : C := (.ops c61r2 (some [2]))
@[reducible] def c61s4 : C := (.seq c61s3 .ret)
@[reducible] def c61 : C := (.seq c61s1 c61s4)
theorem f61 : compF Go.Proofs.Tryd.prog 61 = some ⟨9, strip c61, [(.tmp 2)]⟩ := by kernel_rfl
theorem o61 : okC 9 c61 = true := by kernel_rfl

@[reducible] def c64r0 : List J := [⟨none, (some 2), false, (.alloc [(.bool false), (.string ⟨#[]⟩), (.string ⟨#[]⟩), (.string ⟨#[]⟩), (.string ⟨#[]⟩), (.string ⟨#[]⟩), (.string ⟨#[]⟩), (.string ⟨#[]⟩), (.string ⟨#[]⟩), (.string ⟨#[]⟩), (.int .u8 0), (.string ⟨#[]⟩), (.int .i64 0), (.int .i64 0), (.int .u8 0), (.string ⟨#[]⟩), (.int .i64 0), (.int .i64 0), (.int .u8 0), (.string ⟨#[]⟩), (.int .i64 0), (.int .i64 0), (.int .u8 0), (.string ⟨#[]⟩), (.int .i64 0), (.int .i64 0), (.int .u8 0), (.string ⟨#[]⟩), (.int .i64 0), (.int .i64 0)] 30 108)⟩]
@[reducible] def c64s1 : C := (.ops c64r0 (some [0, 2]))
@[reducible] def c64r2 : List J := [⟨none, (some 3), true, (.mov (.tmp 0))⟩, ⟨none, (some 4), true, (.nck (.tmp 3))⟩, ⟨none, (some 5), true, (.faddr 1 (.tmp 4))⟩, ⟨none, (some 6), true, (.ld1 (.tmp 5))⟩, ⟨none, (some 7), true, (.mov (.tmp 0))⟩, ⟨none, (some 8), true, (.nck (.tmp 7))⟩, ⟨none, (some 9), true, (.faddr 579 (.tmp 8))⟩, ⟨none, (some 10), true, (.ldN 9 (.tmp 9))⟩, ⟨none, (some 11), true, (.mov (.tmp 0))⟩, ⟨none, (some 12), true, (.nck (.tmp 11))⟩, ⟨none, (some 13), true, (.faddr 588 (.tmp 12))⟩, ⟨none, (some 14), true, (.ldN 20 (.tmp 13))⟩, ⟨none, (some 15), false, (.bld [(.bool false), (.string ⟨#[]⟩), (.string ⟨#[]⟩), (.string ⟨#[]⟩), (.string ⟨#[]⟩), (.string ⟨#[]⟩), (.string ⟨#[]⟩), (.string ⟨#[]⟩), (.string ⟨#[]⟩), (.string ⟨#[]⟩), (.int .u8 0), (.string ⟨#[]⟩), (.int .i64 0), (.int .i64 0), (.int .u8 0), (.string ⟨#[]⟩), (.int .i64 0), (.int .i64 0), (.int .u8 0), (.string ⟨#[]⟩), (.int .i64 0), (.int .i64 0), (.int .u8 0), (.string ⟨#[]⟩), (.int .i64 0), (.int .i64 0), (.int .u8 0), (.string ⟨#[]⟩), (.int .i64 0), (.int .i64 0)] [(0, 1), (1, 9), (10, 20)] [(0, (.tmp 6)), (1, (.tmp 10)), (2, (.tmp 14))])⟩, ⟨none, none, false, (.st 30 (.tmp 2) (.tmp 15))⟩]
@[reducible] def c64s3 : C := (.ops c64r2 (some [2]))
@[reducible] def c64s4 : C := (.seq c64s3 .ret)
@[reducible] def c64 : C := (.seq c64s1 c64s4)
theorem f64 : compF Go.Proofs.Tryd.prog 64 = some ⟨16, strip c64, [(.cell 2 108)]⟩ := by kernel_rfl
theorem o64 : okC 16 c64 = true := by kernel_rfl

@[reducible] def c65r0 : List J := [⟨none, (some 2), false, (.mov (.const (.slice none 0 0)))⟩]
@[reducible] def c65s1 : C := (.ops c65r0 (some [0]))
@[reducible] def c65r2 : List J := [⟨none, (some 6), false, (.mov (.tmp 0))⟩, ⟨none, (some 7), false, (.call (.func 57) [(.tmp 6)])⟩]
@[reducible] def c65s3 : C := (.ops c65r2 (some [0, 7]))
@[reducible] def c65r4 : List J := [⟨none, (some 2), false, (.mov (.const (.slice none 0 0)))⟩]
@[reducible] def c65s5 : C := (.ops c65r4 (some [2]))
@[reducible] def c65s6 : C := (.seq c65s5 .ret)
@[reducible] def c65s7 : C := (.cond (.tmp 7) c65s6 .skip)
@[reducible] def c65s8 : C := (.seq c65s3 c65s7)
@[reducible] def c65r9 : List J := [⟨none, (some 3), false, (.mov (.const (.slice none 0 0)))⟩]
@[reducible] def c65s10 : C := (.ops c65r9 (some [0, 3]))
@[reducible] def c65r11 : List J := [⟨none, (some 8), true, (.mov (.tmp 0))⟩, ⟨none, (some 9), true, (.nck (.tmp 8))⟩, ⟨none, (some 10), true, (.faddr 3 (.tmp 9))⟩, ⟨none, (some 11), true, (.mov (.tmp 0))⟩, ⟨none, (some 12), true, (.nck (.tmp 11))⟩, ⟨none, (some 13), true, (.faddr 2 (.tmp 12))⟩, ⟨none, (some 14), true, (.ld1 (.tmp 13))⟩, ⟨none, (some 15), true, (.sla 9 64 (.tmp 10) none (some (.tmp 14)))⟩, ⟨none, (some 16), true, (.len (.tmp 15))⟩, ⟨none, (some 17), true, (.mov (.const (.int .i64 0)))⟩]
@[reducible] def c65s12 : C := (.ops c65r11 (some [3, 15, 16, 17]))
@[reducible] def c65r13 : List J := [⟨none, (some 18), false, (.cmp .lss (.tmp 17) (.tmp 16))⟩]
@[reducible] def c65s14 : C := (.ops c65r13 (some [3, 15, 16, 17, 18]))
@[reducible] def c65s15 : C := (.cond (.tmp 18) .skip (.exit 0))
@[reducible] def c65r16 : List J := [⟨none, (some 19), false, (.ixs 9 (.tmp 15) (.tmp 17))⟩, ⟨none, (some 20), false, (.ldN 9 (.tmp 19))⟩, ⟨none, (some 5), false, (.alloc [(.string ⟨#[]⟩), (.int .u8 0), (.int .u8 0), (.int .i64 0), (.int .i64 0), (.int .i64 0), (.int .u16 0), (.bool false), (.slice none 0 0)] 9 51)⟩, ⟨none, none, false, (.st 9 (.tmp 5) (.tmp 20))⟩]
@[reducible] def c65s17 : C := (.ops c65r16 (some [3, 5, 15, 16, 17]))
@[reducible] def c65r18 : List J := [⟨none, (some 21), false, (.mov (.tmp 3))⟩, ⟨none, (some 22), false, (.ldN 9 (.tmp 5))⟩, ⟨none, (some 23), false, (.call (.func 59) [(.tmp 22)])⟩, ⟨none, (some 24), false, (.bsl [(.string ⟨#[]⟩), (.int .u8 0), (.int .u8 0), (.int .i64 0), (.int .i64 0), (.int .i64 0), (.int .u16 0), (.bool false), (.slice none 0 0)] 1 9 51 [(0, (.tmp 23))])⟩, ⟨none, (some 25), false, (.app false 9 80 51 (.tmp 21) (.tmp 24))⟩, ⟨none, (some 3), false, (.mov (.tmp 25))⟩]
@[reducible] def c65s19 : C := (.ops c65r18 (some [3, 15, 16, 17]))
@[reducible] def c65s20 : C := (.seq c65s17 c65s19)
@[reducible] def c65s21 : C := (.block 1 c65s20)
@[reducible] def c65r22 : List J := [⟨none, (some 26), false, (.arith .add (.tmp 17) (.const (.int .i64 1)))⟩, ⟨none, (some 17), false, (.mov (.tmp 26))⟩]
@[reducible] def c65s23 : C := (.ops c65r22 (some [3, 15, 16, 17]))
@[reducible] def c65s24 : C := (.seq c65s21 c65s23)
@[reducible] def c65s25 : C := (.seq c65s15 c65s24)
@[reducible] def c65s26 : C := (.seq c65s14 c65s25)
@[reducible] def c65s27 : C := (.loop c65s26)
@[reducible] def c65s28 : C := (.block 0 c65s27)
@[reducible] def c65s29 : C := (.seq c65s12 c65s28)
@[reducible] def c65r30 : List J := [⟨none, (some 27), false, (.mov (.tmp 3))⟩, ⟨none, (some 2), false, (.mov (.tmp 27))⟩]
@[reducible] def c65s31 : C := (.ops c65r30 (some [2]))
@[reducible] def c65s32 : C := (.seq c65s31 .ret)
@[reducible] def c65s33 : C := (.seq c65s29 c65s32)
@[reducible] def c65s34 : C := (.seq c65s10 c65s33)
@[reducible] def c65s35 : C := (.seq c65s8 c65s34)
@[reducible] def c65 : C := (.seq c65s1 c65s35)
theorem f65 : compF Go.Proofs.Tryd.prog 65 = some ⟨28, strip c65, [(.tmp 2)]⟩ := by kernel_rfl
theorem o65 : okC 28 c65 = true := by kernel_rfl

@[reducible] def c66r0 : List J := [⟨none, (some 2), false, (.box 51 (.tmp 0))⟩, ⟨none, (some 3), false, (.box 51 (.tmp 1))⟩, ⟨none, (some 4), false, (.mov (.const (.bool false)))⟩]
@[reducible] def c66s1 : C := (.ops c66r0 (some [2, 3]))
@[reducible] def c66r2 : List J := [⟨none, (some 5), false, (.faddr 8 (.tmp 2))⟩, ⟨none, (some 6), false, (.ld1 (.tmp 5))⟩, ⟨none, (some 7), false, (.faddr 8 (.tmp 3))⟩, ⟨none, (some 8), false, (.ld1 (.tmp 7))⟩, ⟨none, (some 9), false, (.call (.func 83) [(.tmp 6), (.tmp 8), (.func 84)])⟩, ⟨none, (some 10), false, (.un .not (.tmp 9))⟩]
@[reducible] def c66s3 : C := (.ops c66r2 (some [2, 3, 10]))
@[reducible] def c66r4 : List J := [⟨none, (some 4), false, (.mov (.const (.bool false)))⟩]
@[reducible] def c66s5 : C := (.ops c66r4 (some [4]))
@[reducible] def c66s6 : C := (.seq c66s5 .ret)
@[reducible] def c66s7 : C := (.cond (.tmp 10) c66s6 .skip)
@[reducible] def c66s8 : C := (.seq c66s3 c66s7)
@[reducible] def c66r9 : List J := [⟨none, (some 11), false, (.faddr 0 (.tmp 2))⟩, ⟨none, (some 12), false, (.ld1 (.tmp 11))⟩, ⟨none, (some 13), false, (.faddr 0 (.tmp 3))⟩, ⟨none, (some 14), false, (.ld1 (.tmp 13))⟩, ⟨none, (some 15), false, (.sop .eql (.tmp 12) (.tmp 14))⟩, ⟨none, (some 16), false, (.mov (.tmp 15))⟩, ⟨(some ((some 16), true)), (some 17), false, (.faddr 1 (.tmp 2))⟩, ⟨(some ((some 16), true)), (some 18), false, (.ld1 (.tmp 17))⟩, ⟨(some ((some 16), true)), (some 19), false, (.faddr 1 (.tmp 3))⟩, ⟨(some ((some 16), true)), (some 20), false, (.ld1 (.tmp 19))⟩, ⟨(some ((some 16), true)), (some 21), false, (.cmp .eql (.tmp 18) (.tmp 20))⟩, ⟨none, (some 22), false, (.pick (.tmp 16) (.tmp 21) (.const (.bool false)))⟩, ⟨none, (some 23), false, (.mov (.tmp 22))⟩, ⟨(some ((some 23), true)), (some 24), false, (.faddr 2 (.tmp 2))⟩, ⟨(some ((some 23), true)), (some 25), false, (.ld1 (.tmp 24))⟩, ⟨(some ((some 23), true)), (some 26), false, (.faddr 2 (.tmp 3))⟩, ⟨(some ((some 23), true)), (some 27), false, (.ld1 (.tmp 26))⟩, ⟨(some ((some 23), true)), (some 28), false, (.cmp .eql (.tmp 25) (.tmp 27))⟩, ⟨none, (some 29), false, (.pick (.tmp 23) (.tmp 28) (.const (.bool false)))⟩, ⟨none, (some 30), false, (.mov (.tmp 29))⟩, ⟨(some ((some 30), true)), (some 31), false, (.faddr 3 (.tmp 2))⟩, ⟨(some ((some 30), true)), (some 32), false, (.ld1 (.tmp 31))⟩, ⟨(some ((some 30), true)), (some 33), false, (.faddr 3 (.tmp 3))⟩, ⟨(some ((some 30), true)), (some 34), false, (.ld1 (.tmp 33))⟩, ⟨(some ((some 30), true)), (some 35), false, (.cmp .eql (.tmp 32) (.tmp 34))⟩, ⟨none, (some 36), false, (.pick (.tmp 30) (.tmp 35) (.const (.bool false)))⟩, ⟨none, (some 37), false, (.mov (.tmp 36))⟩, ⟨(some ((some 37), true)), (some 38), false, (.faddr 4 (.tmp 2))⟩, ⟨(some ((some 37), true)), (some 39), false, (.ld1 (.tmp 38))⟩, ⟨(some ((some 37), true)), (some 40), false, (.faddr 4 (.tmp 3))⟩, ⟨(some ((some 37), true)), (some 41), false, (.ld1 (.tmp 40))⟩, ⟨(some ((some 37), true)), (some 42), false, (.cmp .eql (.tmp 39) (.tmp 41))⟩, ⟨none, (some 43), false, (.pick (.tmp 37) (.tmp 42) (.const (.bool false)))⟩, ⟨none, (some 44), false, (.mov (.tmp 43))⟩, ⟨(some ((some 44), true)), (some 45), false, (.faddr 5 (.tmp 2))⟩, ⟨(some ((some 44), true)), (some 46), false, (.ld1 (.tmp 45))⟩, ⟨(some ((some 44), true)), (some 47), false, (.faddr 5 (.tmp 3))⟩, ⟨(some ((some 44), true)), (some 48), false, (.ld1 (.tmp 47))⟩, ⟨(some ((some 44), true)), (some 49), false, (.cmp .eql (.tmp 46) (.tmp 48))⟩, ⟨none, (some 50), false, (.pick (.tmp 44) (.tmp 49) (.const (.bool false)))⟩, ⟨none, (some 51), false, (.mov (.tmp 50))⟩, ⟨(some ((some 51), true)), (some 52), false, (.faddr 6 (.tmp 2))⟩, ⟨(some ((some 51), true)), (some 53), false, (.ld1 (.tmp 52))⟩, ⟨(some ((some 51), true)), (some 54), false, (.faddr 6 (.tmp 3))⟩, ⟨(some ((some 51), true)), (some 55), false, (.ld1 (.tmp 54))⟩, ⟨(some ((some 51), true)), (some 56), false, (.cmp .eql (.tmp 53) (.tmp 55))⟩, ⟨none, (some 57), false, (.pick (.tmp 51) (.tmp 56) (.const (.bool false)))⟩, ⟨none, (some 58), false, (.mov (.tmp 57))⟩, ⟨(some ((some 58), true)), (some 59), false, (.faddr 7 (.tmp 2))⟩, ⟨(some ((some 58), true)), (some 60), false, (.ld1 (.tmp 59))⟩, ⟨(some ((some 58), true)), (some 61), false, (.faddr 7 (.tmp 3))⟩, ⟨(some ((some 58), true)), (some 62), false, (.ld1 (.tmp 61))⟩, ⟨(some ((some 58), true)), (some 63), false, (.beq false (.tmp 60) (.tmp 62))⟩, ⟨none, (some 64), false, (.pick (.tmp 58) (.tmp 63) (.const (.bool false)))⟩, ⟨none, (some 4), false, (.mov (.tmp 64))⟩]
@[reducible] def c66s10 : C := (.ops c66r9 (some [4]))
@[reducible] def c66s11 : C := (.seq c66s10 .ret)
@[reducible] def c66s12 : C := (.seq c66s8 c66s11)
@[reducible] def c66 : C := (.seq c66s1 c66s12)
theorem f66 : compF Go.Proofs.Tryd.prog 66 = some ⟨65, strip c66, [(.tmp 4)]⟩ := by kernel_rfl
theorem o66 : okC 65 c66 = true := by kernel_rfl

@[reducible] def c83r0 : List J := [⟨none, (some 6), false, (.mov (.const (.bool false)))⟩]
@[reducible] def c83s1 : C := (.ops c83r0 (some [0, 1, 2]))
@[reducible] def c83r2 : List J := [⟨none, (some 10), false, (.mov (.tmp 0))⟩, ⟨none, (some 11), false, (.len (.tmp 10))⟩, ⟨none, (some 12), false, (.mov (.tmp 1))⟩, ⟨none, (some 13), false, (.len (.tmp 12))⟩, ⟨none, (some 14), false, (.cmp .neq (.tmp 11) (.tmp 13))⟩]
@[reducible] def c83s3 : C := (.ops c83r2 (some [0, 1, 2, 14]))
@[reducible] def c83r4 : List J := [⟨none, (some 6), false, (.mov (.const (.bool false)))⟩]
@[reducible] def c83s5 : C := (.ops c83r4 (some [6]))
@[reducible] def c83s6 : C := (.seq c83s5 .ret)
@[reducible] def c83s7 : C := (.cond (.tmp 14) c83s6 .skip)
@[reducible] def c83s8 : C := (.seq c83s3 c83s7)
@[reducible] def c83r9 : List J := [⟨none, (some 15), false, (.mov (.tmp 0))⟩, ⟨none, (some 16), false, (.len (.tmp 15))⟩, ⟨none, (some 17), false, (.mov (.const (.int .i64 0)))⟩]
@[reducible] def c83s10 : C := (.ops c83r9 (some [1, 2, 15, 16, 17]))
@[reducible] def c83r11 : List J := [⟨none, (some 18), false, (.cmp .lss (.tmp 17) (.tmp 16))⟩]
@[reducible] def c83s12 : C := (.ops c83r11 (some [1, 2, 15, 16, 17, 18]))
@[reducible] def c83s13 : C := (.cond (.tmp 18) .skip (.exit 0))
@[reducible] def c83r14 : List J := [⟨none, (some 19), false, (.mov (.tmp 17))⟩, ⟨none, (some 20), false, (.ixs 8 (.tmp 15) (.tmp 17))⟩, ⟨none, (some 21), false, (.ldN 8 (.tmp 20))⟩, ⟨none, (some 8), false, (.alloc [(.int .u8 0), (.int .u8 0), (.int .u8 0), (.int .i64 0), (.int .u8 0), (.int .u8 0), (.int .u8 0), (.string ⟨#[]⟩)] 8 72)⟩, ⟨none, (some 7), false, (.mov (.tmp 19))⟩, ⟨none, none, false, (.st 8 (.tmp 8) (.tmp 21))⟩]
@[reducible] def c83s15 : C := (.ops c83r14 (some [1, 2, 7, 8, 15, 16, 17]))
@[reducible] def c83r16 : List J := [⟨none, (some 22), false, (.mov (.tmp 1))⟩, ⟨none, (some 23), false, (.mov (.tmp 7))⟩, ⟨none, (some 24), false, (.ixs 8 (.tmp 22) (.tmp 23))⟩, ⟨none, (some 25), false, (.ldN 8 (.tmp 24))⟩, ⟨none, (some 9), false, (.alloc [(.int .u8 0), (.int .u8 0), (.int .u8 0), (.int .i64 0), (.int .u8 0), (.int .u8 0), (.int .u8 0), (.string ⟨#[]⟩)] 8 72)⟩, ⟨none, none, false, (.st 8 (.tmp 9) (.tmp 25))⟩]
@[reducible] def c83s17 : C := (.ops c83r16 (some [1, 2, 8, 9, 15, 16, 17]))
@[reducible] def c83r18 : List J := [⟨none, (some 26), false, (.mov (.tmp 2))⟩, ⟨none, (some 27), false, (.ldN 8 (.tmp 8))⟩, ⟨none, (some 28), false, (.ldN 8 (.tmp 9))⟩, ⟨none, (some 29), false, (.call (.tmp 26) [(.tmp 27), (.tmp 28)])⟩, ⟨none, (some 30), false, (.un .not (.tmp 29))⟩]
@[reducible] def c83s19 : C := (.ops c83r18 (some [1, 2, 15, 16, 17, 30]))
@[reducible] def c83r20 : List J := [⟨none, (some 6), false, (.mov (.const (.bool false)))⟩]
@[reducible] def c83s21 : C := (.ops c83r20 (some [6]))
@[reducible] def c83s22 : C := (.seq c83s21 .ret)
@[reducible] def c83s23 : C := (.cond (.tmp 30) c83s22 .skip)
@[reducible] def c83s24 : C := (.seq c83s19 c83s23)
@[reducible] def c83s25 : C := (.seq c83s17 c83s24)
@[reducible] def c83s26 : C := (.seq c83s15 c83s25)
@[reducible] def c83s27 : C := (.block 1 c83s26)
@[reducible] def c83r28 : List J := [⟨none, (some 31), false, (.arith .add (.tmp 17) (.const (.int .i64 1)))⟩, ⟨none, (some 17), false, (.mov (.tmp 31))⟩]
@[reducible] def c83s29 : C := (.ops c83r28 (some [1, 2, 15, 16, 17]))
@[reducible] def c83s30 : C := (.seq c83s27 c83s29)
@[reducible] def c83s31 : C := (.seq c83s13 c83s30)
@[reducible] def c83s32 : C := (.seq c83s12 c83s31)
@[reducible] def c83s33 : C := (.loop c83s32)
@[reducible] def c83s34 : C := (.block 0 c83s33)
@[reducible] def c83s35 : C := (.seq c83s10 c83s34)
@[reducible] def c83r36 : List J := [⟨none, (some 6), false, (.mov (.const (.bool true)))⟩]
@[reducible] def c83s37 : C := (.ops c83r36 (some [6]))
@[reducible] def c83s38 : C := (.seq c83s37 .ret)
@[reducible] def c83s39 : C := (.seq c83s35 c83s38)
@[reducible] def c83s40 : C := (.seq c83s8 c83s39)
@[reducible] def c83 : C := (.seq c83s1 c83s40)
theorem f83 : compF Go.Proofs.Tryd.prog 83 = some ⟨32, strip c83, [(.tmp 6)]⟩ := by kernel_rfl
theorem o83 : okC 32 c83 = true := by kernel_rfl

@[reducible] def c84r0 : List J := [⟨none, (some 2), false, (.box 72 (.tmp 0))⟩, ⟨none, (some 3), false, (.box 72 (.tmp 1))⟩, ⟨none, (some 4), false, (.mov (.const (.bool false)))⟩]
@[reducible] def c84s1 : C := (.ops c84r0 (some [2, 3]))
@[reducible] def c84r2 : List J := [⟨none, (some 5), false, (.ldN 8 (.tmp 2))⟩, ⟨none, (some 6), false, (.ldN 8 (.tmp 3))⟩, ⟨none, (some 7), false, (.eqv false 72 (.tmp 5) (.tmp 6))⟩, ⟨none, (some 4), false, (.mov (.tmp 7))⟩]
@[reducible] def c84s3 : C := (.ops c84r2 (some [4]))
@[reducible] def c84s4 : C := (.seq c84s3 .ret)
@[reducible] def c84 : C := (.seq c84s1 c84s4)
theorem f84 : compF Go.Proofs.Tryd.prog 84 = some ⟨8, strip c84, [(.tmp 4)]⟩ := by kernel_rfl
theorem o84 : okC 8 c84 = true := by kernel_rfl

@[reducible] def c85r0 : List J := [⟨none, (some 2), false, (.mov (.const (.int .u16 0)))⟩]
@[reducible] def c85s1 : C := (.ops c85r0 (some [0]))
@[reducible] def c85r2 : List J := [⟨none, (some 3), false, (.mov (.tmp 0))⟩, ⟨none, (some 4), false, (.call (.func 106) [(.tmp 3)])⟩, ⟨none, (some 5), false, (.un .not (.tmp 4))⟩]
@[reducible] def c85s3 : C := (.ops c85r2 (some [0, 5]))
@[reducible] def c85r4 : List J := [⟨none, (some 2), false, (.mov (.const (.int .u16 0)))⟩]
@[reducible] def c85s5 : C := (.ops c85r4 (some [2]))
@[reducible] def c85s6 : C := (.seq c85s5 .ret)
@[reducible] def c85s7 : C := (.cond (.tmp 5) c85s6 .skip)
@[reducible] def c85s8 : C := (.seq c85s3 c85s7)
@[reducible] def c85r9 : List J := [⟨none, (some 6), false, (.mov (.tmp 0))⟩, ⟨none, (some 7), false, (.arith .sub (.tmp 6) (.const (.int .u8 1)))⟩, ⟨none, (some 8), false, (.shf .shl (.const (.int .u16 1)) (.tmp 7))⟩, ⟨none, (some 2), false, (.mov (.tmp 8))⟩]
@[reducible] def c85s10 : C := (.ops c85r9 (some [2]))
@[reducible] def c85s11 : C := (.seq c85s10 .ret)
@[reducible] def c85s12 : C := (.seq c85s8 c85s11)
@[reducible] def c85 : C := (.seq c85s1 c85s12)
theorem f85 : compF Go.Proofs.Tryd.prog 85 = some ⟨9, strip c85, [(.tmp 2)]⟩ := by kernel_rfl
theorem o85 : okC 9 c85 = true := by kernel_rfl

end Go.Proofs.YtdgbnaignpploaaDoor.k
