/- PRINTED BY symgen.py: the compiled code of functions 86 87 88 89 90 69 32. -/
import Derived.Test.YtdgbnaignpploaaDoorChecked
import Derived.Test.YtdgbnaignpploaaDoorSy
namespace Go.Proofs.YtdgbnaignpploaaDoor.k
open Go.Sym
set_option linter.unusedVariables false
set_option maxRecDepth 100000

@[reducible] def c86r0 : List J := [⟨none, (some 2), false, (.mov (.const (.bool false)))⟩]
@[reducible] def c86s1 : C := (.ops c86r0 (some [0]))
@[reducible] def c86r2 : List J := [⟨none, (some 3), false, (.mov (.tmp 0))⟩, ⟨none, (some 4), false, (.slen (.tmp 3))⟩, ⟨none, (some 5), false, (.cmp .gtr (.tmp 4) (.const (.int .i64 0)))⟩, ⟨none, (some 6), false, (.mov (.tmp 5))⟩, ⟨(some ((some 6), true)), (some 7), false, (.mov (.tmp 0))⟩, ⟨(some ((some 6), true)), (some 8), false, (.slen (.tmp 7))⟩, ⟨(some ((some 6), true)), (some 9), false, (.cmp .leq (.tmp 8) (.const (.int .i64 20)))⟩, ⟨none, (some 10), false, (.pick (.tmp 6) (.tmp 9) (.const (.bool false)))⟩, ⟨none, (some 11), false, (.mov (.tmp 10))⟩, ⟨(some ((some 11), true)), (some 12), false, (.mov (.tmp 0))⟩, ⟨(some ((some 11), true)), (some 13), false, (.six (.tmp 12) (.const (.int .i64 0)))⟩, ⟨(some ((some 11), true)), (some 14), false, (.cmp .neq (.tmp 13) (.const (.int .u8 45)))⟩, ⟨none, (some 15), false, (.pick (.tmp 11) (.tmp 14) (.const (.bool false)))⟩, ⟨none, (some 16), false, (.mov (.tmp 15))⟩, ⟨(some ((some 16), true)), (some 17), false, (.mov (.tmp 0))⟩, ⟨(some ((some 16), true)), (some 18), false, (.call (.func 107) [(.tmp 17), (.const (.string (btx [97, 98, 99, 100, 101, 102, 103, 104, 105, 106, 107, 108, 109, 110, 111, 112, 113, 114, 115, 116, 117, 118, 119, 120, 121, 122, 45])))])⟩, ⟨(some ((some 16), true)), (some 19), false, (.sop .eql (.tmp 18) (.const (.string ⟨#[]⟩)))⟩, ⟨none, (some 20), false, (.pick (.tmp 16) (.tmp 19) (.const (.bool false)))⟩, ⟨none, (some 2), false, (.mov (.tmp 20))⟩]
@[reducible] def c86s3 : C := (.ops c86r2 (some [2]))
@[reducible] def c86s4 : C := (.seq c86s3 .ret)
@[reducible] def c86 : C := (.seq c86s1 c86s4)
theorem f86 : compF Go.Proofs.Tryd.prog 86 = some ⟨21, strip c86, [(.tmp 2)]⟩ := by kernel_rfl
theorem o86 : okC 21 c86 = true := by kernel_rfl

@[reducible] def c87r0 : List J := [⟨none, (some 2), false, (.mov (.const (.string ⟨#[]⟩)))⟩]
@[reducible] def c87s1 : C := (.ops c87r0 (some [0]))
@[reducible] def c87r2 : List J := [⟨none, (some 3), false, (.mov (.tmp 0))⟩]
@[reducible] def c87s3 : C := (.ops c87r2 (some [3]))
@[reducible] def c87r4 : List J := [⟨none, (some 5), false, (.cmp .eql (.tmp 3) (.const (.int .u8 1)))⟩, ⟨none, (some 4), false, (.mov (.tmp 5))⟩]
@[reducible] def c87s5 : C := (.ops c87r4 (some [3, 4]))
@[reducible] def c87r6 : List J := [⟨none, (some 2), false, (.mov (.const (.string (btx [97, 105, 114]))))⟩]
@[reducible] def c87s7 : C := (.ops c87r6 (some [2]))
@[reducible] def c87s8 : C := (.seq c87s7 .ret)
@[reducible] def c87r9 : List J := [⟨none, (some 7), false, (.cmp .eql (.tmp 3) (.const (.int .u8 2)))⟩, ⟨none, (some 6), false, (.mov (.tmp 7))⟩]
@[reducible] def c87s10 : C := (.ops c87r9 (some [3, 6]))
@[reducible] def c87r11 : List J := [⟨none, (some 2), false, (.mov (.const (.string (btx [101, 97, 114, 116, 104]))))⟩]
@[reducible] def c87s12 : C := (.ops c87r11 (some [2]))
@[reducible] def c87s13 : C := (.seq c87s12 .ret)
@[reducible] def c87r14 : List J := [⟨none, (some 9), false, (.cmp .eql (.tmp 3) (.const (.int .u8 3)))⟩, ⟨none, (some 8), false, (.mov (.tmp 9))⟩]
@[reducible] def c87s15 : C := (.ops c87r14 (some [3, 8]))
@[reducible] def c87r16 : List J := [⟨none, (some 2), false, (.mov (.const (.string (btx [102, 105, 114, 101]))))⟩]
@[reducible] def c87s17 : C := (.ops c87r16 (some [2]))
@[reducible] def c87s18 : C := (.seq c87s17 .ret)
@[reducible] def c87r19 : List J := [⟨none, (some 11), false, (.cmp .eql (.tmp 3) (.const (.int .u8 4)))⟩, ⟨none, (some 10), false, (.mov (.tmp 11))⟩]
@[reducible] def c87s20 : C := (.ops c87r19 (some [3, 10]))
@[reducible] def c87r21 : List J := [⟨none, (some 2), false, (.mov (.const (.string (btx [119, 97, 116, 101, 114]))))⟩]
@[reducible] def c87s22 : C := (.ops c87r21 (some [2]))
@[reducible] def c87s23 : C := (.seq c87s22 .ret)
@[reducible] def c87r24 : List J := [⟨none, (some 13), false, (.cmp .eql (.tmp 3) (.const (.int .u8 5)))⟩, ⟨none, (some 12), false, (.mov (.tmp 13))⟩]
@[reducible] def c87s25 : C := (.ops c87r24 (some [3, 12]))
@[reducible] def c87r26 : List J := [⟨none, (some 2), false, (.mov (.const (.string (btx [118, 111, 105, 100]))))⟩]
@[reducible] def c87s27 : C := (.ops c87r26 (some [2]))
@[reducible] def c87s28 : C := (.seq c87s27 .ret)
@[reducible] def c87r29 : List J := [⟨none, (some 15), false, (.cmp .eql (.tmp 3) (.const (.int .u8 6)))⟩, ⟨none, (some 14), false, (.mov (.tmp 15))⟩]
@[reducible] def c87s30 : C := (.ops c87r29 (some [14]))
@[reducible] def c87r31 : List J := [⟨none, (some 2), false, (.mov (.const (.string (btx [103, 111, 108, 100]))))⟩]
@[reducible] def c87s32 : C := (.ops c87r31 (some [2]))
@[reducible] def c87s33 : C := (.seq c87s32 .ret)
@[reducible] def c87s34 : C := (.cond (.tmp 14) c87s33 .skip)
@[reducible] def c87s35 : C := (.seq c87s30 c87s34)
@[reducible] def c87s36 : C := (.cond (.tmp 12) c87s28 c87s35)
@[reducible] def c87s37 : C := (.seq c87s25 c87s36)
@[reducible] def c87s38 : C := (.cond (.tmp 10) c87s23 c87s37)
@[reducible] def c87s39 : C := (.seq c87s20 c87s38)
@[reducible] def c87s40 : C := (.cond (.tmp 8) c87s18 c87s39)
@[reducible] def c87s41 : C := (.seq c87s15 c87s40)
@[reducible] def c87s42 : C := (.cond (.tmp 6) c87s13 c87s41)
@[reducible] def c87s43 : C := (.seq c87s10 c87s42)
@[reducible] def c87s44 : C := (.cond (.tmp 4) c87s8 c87s43)
@[reducible] def c87s45 : C := (.seq c87s5 c87s44)
@[reducible] def c87s46 : C := (.block 0 c87s45)
@[reducible] def c87s47 : C := (.seq c87s3 c87s46)
@[reducible] def c87r48 : List J := [⟨none, (some 2), false, (.mov (.const (.string ⟨#[]⟩)))⟩]
@[reducible] def c87s49 : C := (.ops c87r48 (some [2]))
@[reducible] def c87s50 : C := (.seq c87s49 .ret)
@[reducible] def c87s51 : C := (.seq c87s47 c87s50)
@[reducible] def c87 : C := (.seq c87s1 c87s51)
theorem f87 : compF Go.Proofs.Tryd.prog 87 = some ⟨16, strip c87, [(.tmp 2)]⟩ := by kernel_rfl
theorem o87 : okC 16 c87 = true := by kernel_rfl

@[reducible] def c88r0 : List J := [⟨none, (some 2), false, (.mov (.const (.string ⟨#[]⟩)))⟩]
@[reducible] def c88s1 : C := (.ops c88r0 (some [0]))
@[reducible] def c88r2 : List J := [⟨none, (some 3), false, (.mov (.tmp 0))⟩]
@[reducible] def c88s3 : C := (.ops c88r2 (some [3]))
@[reducible] def c88r4 : List J := [⟨none, (some 5), false, (.cmp .eql (.tmp 3) (.const (.int .u8 1)))⟩, ⟨none, (some 4), false, (.mov (.tmp 5))⟩]
@[reducible] def c88s5 : C := (.ops c88r4 (some [3, 4]))
@[reducible] def c88r6 : List J := [⟨none, (some 2), false, (.mov (.const (.string (btx [117, 110, 105, 116]))))⟩]
@[reducible] def c88s7 : C := (.ops c88r6 (some [2]))
@[reducible] def c88s8 : C := (.seq c88s7 .ret)
@[reducible] def c88r9 : List J := [⟨none, (some 7), false, (.cmp .eql (.tmp 3) (.const (.int .u8 2)))⟩, ⟨none, (some 6), false, (.mov (.tmp 7))⟩]
@[reducible] def c88s10 : C := (.ops c88r9 (some [3, 6]))
@[reducible] def c88r11 : List J := [⟨none, (some 2), false, (.mov (.const (.string (btx [115, 112, 101, 108, 108]))))⟩]
@[reducible] def c88s12 : C := (.ops c88r11 (some [2]))
@[reducible] def c88s13 : C := (.seq c88s12 .ret)
@[reducible] def c88r14 : List J := [⟨none, (some 9), false, (.cmp .eql (.tmp 3) (.const (.int .u8 3)))⟩, ⟨none, (some 8), false, (.mov (.tmp 9))⟩]
@[reducible] def c88s15 : C := (.ops c88r14 (some [8]))
@[reducible] def c88r16 : List J := [⟨none, (some 2), false, (.mov (.const (.string (btx [114, 101, 108, 105, 99]))))⟩]
@[reducible] def c88s17 : C := (.ops c88r16 (some [2]))
@[reducible] def c88s18 : C := (.seq c88s17 .ret)
@[reducible] def c88s19 : C := (.cond (.tmp 8) c88s18 .skip)
@[reducible] def c88s20 : C := (.seq c88s15 c88s19)
@[reducible] def c88s21 : C := (.cond (.tmp 6) c88s13 c88s20)
@[reducible] def c88s22 : C := (.seq c88s10 c88s21)
@[reducible] def c88s23 : C := (.cond (.tmp 4) c88s8 c88s22)
@[reducible] def c88s24 : C := (.seq c88s5 c88s23)
@[reducible] def c88s25 : C := (.block 0 c88s24)
@[reducible] def c88s26 : C := (.seq c88s3 c88s25)
@[reducible] def c88r27 : List J := [⟨none, (some 2), false, (.mov (.const (.string ⟨#[]⟩)))⟩]
@[reducible] def c88s28 : C := (.ops c88r27 (some [2]))
@[reducible] def c88s29 : C := (.seq c88s28 .ret)
@[reducible] def c88s30 : C := (.seq c88s26 c88s29)
@[reducible] def c88 : C := (.seq c88s1 c88s30)
theorem f88 : compF Go.Proofs.Tryd.prog 88 = some ⟨10, strip c88, [(.tmp 2)]⟩ := by kernel_rfl
theorem o88 : okC 10 c88 = true := by kernel_rfl

@[reducible] def c89r0 : List J := [⟨none, (some 4), false, (.mov (.const (.bool false)))⟩]
@[reducible] def c89s1 : C := (.ops c89r0 (some [0, 1]))
@[reducible] def c89r2 : List J := [⟨none, (some 5), false, (.mov (.tmp 0))⟩, ⟨none, (some 6), false, (.cmp .geq (.tmp 5) (.const (.int .i64 0)))⟩, ⟨none, (some 7), false, (.mov (.tmp 6))⟩, ⟨(some ((some 7), true)), (some 8), false, (.mov (.tmp 0))⟩, ⟨(some ((some 7), true)), (some 9), false, (.mov (.tmp 1))⟩, ⟨(some ((some 7), true)), (some 10), false, (.cmp .leq (.tmp 8) (.tmp 9))⟩, ⟨none, (some 11), false, (.pick (.tmp 7) (.tmp 10) (.const (.bool false)))⟩, ⟨none, (some 4), false, (.mov (.tmp 11))⟩]
@[reducible] def c89s3 : C := (.ops c89r2 (some [4]))
@[reducible] def c89s4 : C := (.seq c89s3 .ret)
@[reducible] def c89 : C := (.seq c89s1 c89s4)
theorem f89 : compF Go.Proofs.Tryd.prog 89 = some ⟨12, strip c89, [(.tmp 4)]⟩ := by kernel_rfl
theorem o89 : okC 12 c89 = true := by kernel_rfl

@[reducible] def c90r0 : List J := [⟨none, (some 2), false, (.mov (.const (.bool false)))⟩]
@[reducible] def c90s1 : C := (.ops c90r0 (some [0]))
@[reducible] def c90r2 : List J := [⟨none, (some 3), false, (.mov (.tmp 0))⟩, ⟨none, (some 4), false, (.shf .shr (.tmp 3) (.const (.int .u64 8)))⟩, ⟨none, (some 5), false, (.cmp .eql (.tmp 4) (.const (.int .u16 0)))⟩, ⟨none, (some 2), false, (.mov (.tmp 5))⟩]
@[reducible] def c90s3 : C := (.ops c90r2 (some [2]))
@[reducible] def c90s4 : C := (.seq c90s3 .ret)
@[reducible] def c90 : C := (.seq c90s1 c90s4)
theorem f90 : compF Go.Proofs.Tryd.prog 90 = some ⟨6, strip c90, [(.tmp 2)]⟩ := by kernel_rfl
theorem o90 : okC 6 c90 = true := by kernel_rfl

@[reducible] def c69r0 : List J := [⟨none, (some 1), false, (.box 51 (.tmp 0))⟩, ⟨none, (some 2), false, (.mov (.const (.int .i64 0)))⟩]
@[reducible] def c69s1 : C := (.ops c69r0 (some [1]))
@[reducible] def c69r2 : List J := [⟨none, (some 4), false, (.faddr 2 (.tmp 1))⟩, ⟨none, (some 5), false, (.ld1 (.tmp 4))⟩, ⟨none, (some 6), false, (.cmp .eql (.tmp 5) (.const (.int .u8 1)))⟩, ⟨none, (some 3), false, (.mov (.tmp 6))⟩]
@[reducible] def c69s3 : C := (.ops c69r2 (some [1, 3]))
@[reducible] def c69r4 : List J := [⟨none, (some 8), false, (.faddr 0 (.tmp 1))⟩, ⟨none, (some 9), false, (.ld1 (.tmp 8))⟩, ⟨none, (some 10), false, (.call (.func 86) [(.tmp 9)])⟩, ⟨none, (some 11), false, (.un .not (.tmp 10))⟩, ⟨none, (some 7), false, (.mov (.tmp 11))⟩]
@[reducible] def c69s5 : C := (.ops c69r4 (some [1, 3, 7]))
@[reducible] def c69r6 : List J := [⟨none, (some 2), false, (.mov (.const (.int .i64 4)))⟩]
@[reducible] def c69s7 : C := (.ops c69r6 (some [2]))
@[reducible] def c69s8 : C := (.seq c69s7 .ret)
@[reducible] def c69r9 : List J := [⟨none, (some 13), false, (.faddr 1 (.tmp 1))⟩, ⟨none, (some 14), false, (.ld1 (.tmp 13))⟩, ⟨none, (some 15), false, (.call (.func 87) [(.tmp 14)])⟩, ⟨none, (some 16), false, (.sop .eql (.tmp 15) (.const (.string ⟨#[]⟩)))⟩, ⟨none, (some 17), false, (.mov (.tmp 16))⟩, ⟨(some ((some 17), false)), (some 18), false, (.faddr 2 (.tmp 1))⟩, ⟨(some ((some 17), false)), (some 19), false, (.ld1 (.tmp 18))⟩, ⟨(some ((some 17), false)), (some 20), false, (.call (.func 88) [(.tmp 19)])⟩, ⟨(some ((some 17), false)), (some 21), false, (.sop .eql (.tmp 20) (.const (.string ⟨#[]⟩)))⟩, ⟨none, (some 22), false, (.pick (.tmp 17) (.const (.bool true)) (.tmp 21))⟩, ⟨none, (some 12), false, (.mov (.tmp 22))⟩]
@[reducible] def c69s10 : C := (.ops c69r9 (some [1, 3, 12]))
@[reducible] def c69r11 : List J := [⟨none, (some 2), false, (.mov (.const (.int .i64 8)))⟩]
@[reducible] def c69s12 : C := (.ops c69r11 (some [2]))
@[reducible] def c69s13 : C := (.seq c69s12 .ret)
@[reducible] def c69r14 : List J := [⟨none, (some 24), false, (.faddr 3 (.tmp 1))⟩, ⟨none, (some 25), false, (.ld1 (.tmp 24))⟩, ⟨none, (some 26), false, (.call (.func 89) [(.tmp 25), (.const (.int .i64 10))])⟩, ⟨none, (some 27), false, (.un .not (.tmp 26))⟩, ⟨none, (some 28), false, (.mov (.tmp 27))⟩, ⟨(some ((some 28), false)), (some 29), false, (.faddr 4 (.tmp 1))⟩, ⟨(some ((some 28), false)), (some 30), false, (.ld1 (.tmp 29))⟩, ⟨(some ((some 28), false)), (some 31), false, (.call (.func 89) [(.tmp 30), (.const (.int .i64 99))])⟩, ⟨(some ((some 28), false)), (some 32), false, (.un .not (.tmp 31))⟩, ⟨none, (some 33), false, (.pick (.tmp 28) (.const (.bool true)) (.tmp 32))⟩, ⟨none, (some 34), false, (.mov (.tmp 33))⟩, ⟨(some ((some 34), false)), (some 35), false, (.faddr 5 (.tmp 1))⟩, ⟨(some ((some 34), false)), (some 36), false, (.ld1 (.tmp 35))⟩, ⟨(some ((some 34), false)), (some 37), false, (.call (.func 89) [(.tmp 36), (.const (.int .i64 99))])⟩, ⟨(some ((some 34), false)), (some 38), false, (.un .not (.tmp 37))⟩, ⟨none, (some 39), false, (.pick (.tmp 34) (.const (.bool true)) (.tmp 38))⟩, ⟨none, (some 23), false, (.mov (.tmp 39))⟩]
@[reducible] def c69s15 : C := (.ops c69r14 (some [1, 3, 23]))
@[reducible] def c69r16 : List J := [⟨none, (some 2), false, (.mov (.const (.int .i64 2)))⟩]
@[reducible] def c69s17 : C := (.ops c69r16 (some [2]))
@[reducible] def c69s18 : C := (.seq c69s17 .ret)
@[reducible] def c69r19 : List J := [⟨none, (some 41), false, (.mov (.tmp 3))⟩, ⟨none, (some 42), false, (.mov (.tmp 41))⟩, ⟨(some ((some 42), true)), (some 43), false, (.faddr 5 (.tmp 1))⟩, ⟨(some ((some 42), true)), (some 44), false, (.ld1 (.tmp 43))⟩, ⟨(some ((some 42), true)), (some 45), false, (.cmp .eql (.tmp 44) (.const (.int .i64 0)))⟩, ⟨none, (some 46), false, (.pick (.tmp 42) (.tmp 45) (.const (.bool false)))⟩, ⟨none, (some 47), false, (.mov (.tmp 46))⟩, ⟨(some ((some 47), false)), (some 48), false, (.mov (.tmp 3))⟩, ⟨(some ((some 47), false)), (some 49), false, (.un .not (.tmp 48))⟩, ⟨(some ((some 47), false)), (some 50), false, (.mov (.tmp 49))⟩, ⟨(some ((some 50), true)), (some 51), false, (.faddr 4 (.tmp 1))⟩, ⟨(some ((some 50), true)), (some 52), false, (.ld1 (.tmp 51))⟩, ⟨(some ((some 50), true)), (some 53), false, (.cmp .neq (.tmp 52) (.const (.int .i64 0)))⟩, ⟨(some ((some 50), true)), (some 54), false, (.mov (.tmp 53))⟩, ⟨(some ((some 54), false)), (some 55), false, (.faddr 5 (.tmp 1))⟩, ⟨(some ((some 54), false)), (some 56), false, (.ld1 (.tmp 55))⟩, ⟨(some ((some 54), false)), (some 57), false, (.cmp .neq (.tmp 56) (.const (.int .i64 0)))⟩, ⟨(some ((some 50), true)), (some 58), false, (.pick (.tmp 54) (.const (.bool true)) (.tmp 57))⟩, ⟨(some ((some 47), false)), (some 59), false, (.pick (.tmp 50) (.tmp 58) (.const (.bool false)))⟩, ⟨none, (some 60), false, (.pick (.tmp 47) (.const (.bool true)) (.tmp 59))⟩, ⟨none, (some 40), false, (.mov (.tmp 60))⟩]
@[reducible] def c69s20 : C := (.ops c69r19 (some [1, 40]))
@[reducible] def c69r21 : List J := [⟨none, (some 2), false, (.mov (.const (.int .i64 8)))⟩]
@[reducible] def c69s22 : C := (.ops c69r21 (some [2]))
@[reducible] def c69s23 : C := (.seq c69s22 .ret)
@[reducible] def c69r24 : List J := [⟨none, (some 62), false, (.faddr 6 (.tmp 1))⟩, ⟨none, (some 63), false, (.ld1 (.tmp 62))⟩, ⟨none, (some 64), false, (.call (.func 90) [(.tmp 63)])⟩, ⟨none, (some 65), false, (.un .not (.tmp 64))⟩, ⟨none, (some 66), false, (.mov (.tmp 65))⟩, ⟨(some ((some 66), false)), (some 67), false, (.faddr 2 (.tmp 1))⟩, ⟨(some ((some 66), false)), (some 68), false, (.ld1 (.tmp 67))⟩, ⟨(some ((some 66), false)), (some 69), false, (.cmp .eql (.tmp 68) (.const (.int .u8 2)))⟩, ⟨(some ((some 66), false)), (some 70), false, (.mov (.tmp 69))⟩, ⟨(some ((some 70), true)), (some 71), false, (.faddr 7 (.tmp 1))⟩, ⟨(some ((some 70), true)), (some 72), false, (.ld1 (.tmp 71))⟩, ⟨(some ((some 66), false)), (some 73), false, (.pick (.tmp 70) (.tmp 72) (.const (.bool false)))⟩, ⟨none, (some 74), false, (.pick (.tmp 66) (.const (.bool true)) (.tmp 73))⟩, ⟨none, (some 61), false, (.mov (.tmp 74))⟩]
@[reducible] def c69s25 : C := (.ops c69r24 (some [1, 61]))
@[reducible] def c69r26 : List J := [⟨none, (some 2), false, (.mov (.const (.int .i64 8)))⟩]
@[reducible] def c69s27 : C := (.ops c69r26 (some [2]))
@[reducible] def c69s28 : C := (.seq c69s27 .ret)
@[reducible] def c69r29 : List J := [⟨none, (some 76), false, (.faddr 8 (.tmp 1))⟩, ⟨none, (some 77), false, (.ld1 (.tmp 76))⟩, ⟨none, (some 78), false, (.len (.tmp 77))⟩, ⟨none, (some 79), false, (.cmp .gtr (.tmp 78) (.const (.int .i64 4)))⟩, ⟨none, (some 75), false, (.mov (.tmp 79))⟩]
@[reducible] def c69s30 : C := (.ops c69r29 (some [75]))
@[reducible] def c69r31 : List J := [⟨none, (some 2), false, (.mov (.const (.int .i64 3)))⟩]
@[reducible] def c69s32 : C := (.ops c69r31 (some [2]))
@[reducible] def c69s33 : C := (.seq c69s32 .ret)
@[reducible] def c69s34 : C := (.cond (.tmp 75) c69s33 .skip)
@[reducible] def c69s35 : C := (.seq c69s30 c69s34)
@[reducible] def c69s36 : C := (.cond (.tmp 61) c69s28 c69s35)
@[reducible] def c69s37 : C := (.seq c69s25 c69s36)
@[reducible] def c69s38 : C := (.cond (.tmp 40) c69s23 c69s37)
@[reducible] def c69s39 : C := (.seq c69s20 c69s38)
@[reducible] def c69s40 : C := (.cond (.tmp 23) c69s18 c69s39)
@[reducible] def c69s41 : C := (.seq c69s15 c69s40)
@[reducible] def c69s42 : C := (.cond (.tmp 12) c69s13 c69s41)
@[reducible] def c69s43 : C := (.seq c69s10 c69s42)
@[reducible] def c69s44 : C := (.cond (.tmp 7) c69s8 c69s43)
@[reducible] def c69s45 : C := (.seq c69s5 c69s44)
@[reducible] def c69s46 : C := (.block 0 c69s45)
@[reducible] def c69r47 : List J := [⟨none, (some 2), false, (.mov (.const (.int .i64 0)))⟩]
@[reducible] def c69s48 : C := (.ops c69r47 (some [2]))
@[reducible] def c69s49 : C := (.seq c69s48 .ret)
@[reducible] def c69s50 : C := (.seq c69s46 c69s49)
@[reducible] def c69s51 : C := (.seq c69s3 c69s50)
@[reducible] def c69 : C := (.seq c69s1 c69s51)
theorem f69 : compF Go.Proofs.Tryd.prog 69 = some ⟨80, strip c69, [(.tmp 2)]⟩ := by kernel_rfl
theorem o69 : okC 80 c69 = true := by kernel_rfl

@[reducible] def c32r0 : List J := [⟨none, (some 1), false, (.box 51 (.tmp 0))⟩, ⟨none, (some 2), false, (.mov (.const (.int .i64 0)))⟩]
@[reducible] def c32s1 : C := (.ops c32r0 (some [1]))
@[reducible] def c32r2 : List J := [⟨none, (some 7), false, (.ldN 9 (.tmp 1))⟩, ⟨none, (some 8), false, (.call (.func 69) [(.tmp 7)])⟩, ⟨none, (some 3), false, (.mov (.tmp 8))⟩]
@[reducible] def c32s3 : C := (.ops c32r2 (some [1, 3]))
@[reducible] def c32r4 : List J := [⟨none, (some 9), false, (.mov (.tmp 3))⟩, ⟨none, (some 10), false, (.cmp .neq (.tmp 9) (.const (.int .i64 0)))⟩]
@[reducible] def c32s5 : C := (.ops c32r4 (some [1, 3, 10]))
@[reducible] def c32r6 : List J := [⟨none, (some 11), false, (.mov (.tmp 3))⟩, ⟨none, (some 2), false, (.mov (.tmp 11))⟩]
@[reducible] def c32s7 : C := (.ops c32r6 (some [2]))
@[reducible] def c32s8 : C := (.seq c32s7 .ret)
@[reducible] def c32s9 : C := (.cond (.tmp 10) c32s8 .skip)
@[reducible] def c32s10 : C := (.seq c32s5 c32s9)
@[reducible] def c32s11 : C := (.seq c32s3 c32s10)
@[reducible] def c32r12 : List J := [⟨none, (some 12), false, (.faddr 8 (.tmp 1))⟩, ⟨none, (some 13), false, (.ld1 (.tmp 12))⟩, ⟨none, (some 14), false, (.len (.tmp 13))⟩, ⟨none, (some 15), false, (.mov (.const (.int .i64 0)))⟩]
@[reducible] def c32s13 : C := (.ops c32r12 (some [1, 13, 14, 15]))
@[reducible] def c32r14 : List J := [⟨none, (some 16), false, (.cmp .lss (.tmp 15) (.tmp 14))⟩]
@[reducible] def c32s15 : C := (.ops c32r14 (some [1, 13, 14, 15, 16]))
@[reducible] def c32s16 : C := (.cond (.tmp 16) .skip (.exit 0))
@[reducible] def c32r17 : List J := [⟨none, (some 17), false, (.ixs 8 (.tmp 13) (.tmp 15))⟩, ⟨none, (some 18), false, (.ldN 8 (.tmp 17))⟩, ⟨none, (some 5), false, (.alloc [(.int .u8 0), (.int .u8 0), (.int .u8 0), (.int .i64 0), (.int .u8 0), (.int .u8 0), (.int .u8 0), (.string ⟨#[]⟩)] 8 72)⟩, ⟨none, none, false, (.st 8 (.tmp 5) (.tmp 18))⟩]
@[reducible] def c32s18 : C := (.ops c32r17 (some [1, 5, 13, 14, 15]))
@[reducible] def c32r19 : List J := [⟨none, (some 19), false, (.ldN 8 (.tmp 5))⟩, ⟨none, (some 20), false, (.call (.func 70) [(.tmp 19)])⟩, ⟨none, (some 6), false, (.mov (.tmp 20))⟩]
@[reducible] def c32s20 : C := (.ops c32r19 (some [1, 5, 6, 13, 14, 15]))
@[reducible] def c32r21 : List J := [⟨none, (some 21), false, (.mov (.tmp 6))⟩, ⟨none, (some 22), false, (.cmp .neq (.tmp 21) (.const (.int .i64 0)))⟩]
@[reducible] def c32s22 : C := (.ops c32r21 (some [1, 5, 6, 13, 14, 15, 22]))
@[reducible] def c32r23 : List J := [⟨none, (some 23), false, (.mov (.tmp 6))⟩, ⟨none, (some 2), false, (.mov (.tmp 23))⟩]
@[reducible] def c32s24 : C := (.ops c32r23 (some [2]))
@[reducible] def c32s25 : C := (.seq c32s24 .ret)
@[reducible] def c32s26 : C := (.cond (.tmp 22) c32s25 .skip)
@[reducible] def c32s27 : C := (.seq c32s22 c32s26)
@[reducible] def c32s28 : C := (.seq c32s20 c32s27)
@[reducible] def c32r29 : List J := [⟨none, (some 24), false, (.faddr 2 (.tmp 1))⟩, ⟨none, (some 25), false, (.ld1 (.tmp 24))⟩, ⟨none, (some 26), false, (.cmp .eql (.tmp 25) (.const (.int .u8 2)))⟩, ⟨none, (some 27), false, (.mov (.tmp 26))⟩, ⟨(some ((some 27), true)), (some 28), false, (.faddr 0 (.tmp 5))⟩, ⟨(some ((some 27), true)), (some 29), false, (.ld1 (.tmp 28))⟩, ⟨(some ((some 27), true)), (some 30), false, (.cmp .neq (.tmp 29) (.const (.int .u8 1)))⟩, ⟨none, (some 31), false, (.pick (.tmp 27) (.tmp 30) (.const (.bool false)))⟩, ⟨none, (some 32), false, (.mov (.tmp 31))⟩, ⟨(some ((some 32), false)), (some 33), false, (.faddr 2 (.tmp 1))⟩, ⟨(some ((some 32), false)), (some 34), false, (.ld1 (.tmp 33))⟩, ⟨(some ((some 32), false)), (some 35), false, (.cmp .eql (.tmp 34) (.const (.int .u8 3)))⟩, ⟨(some ((some 32), false)), (some 36), false, (.mov (.tmp 35))⟩, ⟨(some ((some 36), true)), (some 37), false, (.faddr 0 (.tmp 5))⟩, ⟨(some ((some 36), true)), (some 38), false, (.ld1 (.tmp 37))⟩, ⟨(some ((some 36), true)), (some 39), false, (.cmp .eql (.tmp 38) (.const (.int .u8 4)))⟩, ⟨(some ((some 32), false)), (some 40), false, (.pick (.tmp 36) (.tmp 39) (.const (.bool false)))⟩, ⟨none, (some 41), false, (.pick (.tmp 32) (.const (.bool true)) (.tmp 40))⟩]
@[reducible] def c32s30 : C := (.ops c32r29 (some [1, 13, 14, 15, 41]))
@[reducible] def c32r31 : List J := [⟨none, (some 2), false, (.mov (.const (.int .i64 8)))⟩]
@[reducible] def c32s32 : C := (.ops c32r31 (some [2]))
@[reducible] def c32s33 : C := (.seq c32s32 .ret)
@[reducible] def c32s34 : C := (.cond (.tmp 41) c32s33 .skip)
@[reducible] def c32s35 : C := (.seq c32s30 c32s34)
@[reducible] def c32s36 : C := (.seq c32s28 c32s35)
@[reducible] def c32s37 : C := (.seq c32s18 c32s36)
@[reducible] def c32s38 : C := (.block 1 c32s37)
@[reducible] def c32r39 : List J := [⟨none, (some 42), false, (.arith .add (.tmp 15) (.const (.int .i64 1)))⟩, ⟨none, (some 15), false, (.mov (.tmp 42))⟩]
@[reducible] def c32s40 : C := (.ops c32r39 (some [1, 13, 14, 15]))
@[reducible] def c32s41 : C := (.seq c32s38 c32s40)
@[reducible] def c32s42 : C := (.seq c32s16 c32s41)
@[reducible] def c32s43 : C := (.seq c32s15 c32s42)
@[reducible] def c32s44 : C := (.loop c32s43)
@[reducible] def c32s45 : C := (.block 0 c32s44)
@[reducible] def c32s46 : C := (.seq c32s13 c32s45)
@[reducible] def c32r47 : List J := [⟨none, (some 2), false, (.mov (.const (.int .i64 0)))⟩]
@[reducible] def c32s48 : C := (.ops c32r47 (some [2]))
@[reducible] def c32s49 : C := (.seq c32s48 .ret)
@[reducible] def c32s50 : C := (.seq c32s46 c32s49)
@[reducible] def c32s51 : C := (.seq c32s11 c32s50)
@[reducible] def c32 : C := (.seq c32s1 c32s51)
theorem f32 : compF Go.Proofs.Tryd.prog 32 = some ⟨43, strip c32, [(.tmp 2)]⟩ := by kernel_rfl
theorem o32 : okC 43 c32 = true := by kernel_rfl

end Go.Proofs.YtdgbnaignpploaaDoor.k
