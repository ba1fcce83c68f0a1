/- PRINTED BY symgen.py: the compiled code of functions 7 30 31 34 35 68. -/
import Derived.Test.YtdgbnaignpploaaDoorChecked
import Derived.Test.YtdgbnaignpploaaDoorSy
namespace Go.Proofs.YtdgbnaignpploaaDoor.k
open Go.Sym
set_option linter.unusedVariables false
set_option maxRecDepth 100000

@[reducible] def c7r0 : List J := [⟨none, (some 4), false, (.mov (.const (.bool false)))⟩]
@[reducible] def c7s1 : C := (.ops c7r0 (some [0, 1]))
@[reducible] def c7r2 : List J := [⟨none, (some 25), false, (.call (.func 30) [])⟩, ⟨none, (some 5), false, (.mov (.tmp 25))⟩]
@[reducible] def c7s3 : C := (.ops c7r2 (some [0, 1, 5]))
@[reducible] def c7r4 : List J := [⟨none, (some 26), false, (.mov (.tmp 1))⟩]
@[reducible] def c7s5 : C := (.ops c7r4 (some [0, 1, 5, 26]))
@[reducible] def c7r6 : List J := [⟨none, (some 27), false, (.mov (.tmp 5))⟩, ⟨none, (some 28), false, (.call (.func 31) [])⟩, ⟨none, (some 29), false, (.bsl [(.string ⟨#[]⟩), (.int .u8 0), (.int .u8 0), (.int .i64 0), (.int .i64 0), (.int .i64 0), (.int .u16 0), (.bool false), (.slice none 0 0)] 1 9 51 [(0, (.tmp 28))])⟩, ⟨none, (some 30), false, (.app false 9 80 51 (.tmp 27) (.tmp 29))⟩, ⟨none, (some 5), false, (.mov (.tmp 30))⟩]
@[reducible] def c7s7 : C := (.ops c7r6 (some [0, 1, 5]))
@[reducible] def c7s8 : C := (.cond (.tmp 26) c7s7 .skip)
@[reducible] def c7s9 : C := (.seq c7s5 c7s8)
@[reducible] def c7r10 : List J := [⟨none, (some 6), false, (.mov (.const (.int .i64 0)))⟩]
@[reducible] def c7s11 : C := (.ops c7r10 (some [0, 1, 5, 6]))
@[reducible] def c7r12 : List J := [⟨none, (some 31), false, (.mov (.tmp 6))⟩, ⟨none, (some 32), false, (.mov (.tmp 5))⟩, ⟨none, (some 33), false, (.len (.tmp 32))⟩, ⟨none, (some 34), false, (.cmp .lss (.tmp 31) (.tmp 33))⟩, ⟨none, (some 35), false, (.mov (.tmp 34))⟩, ⟨(some ((some 35), true)), (some 36), false, (.mov (.tmp 6))⟩, ⟨(some ((some 35), true)), (some 37), false, (.cmp .lss (.tmp 36) (.const (.int .i64 6)))⟩, ⟨none, (some 38), false, (.pick (.tmp 35) (.tmp 37) (.const (.bool false)))⟩]
@[reducible] def c7s13 : C := (.ops c7r12 (some [0, 1, 5, 6, 38]))
@[reducible] def c7s14 : C := (.cond (.tmp 38) .skip (.exit 0))
@[reducible] def c7s15 : C := (.seq c7s13 c7s14)
@[reducible] def c7r16 : List J := [⟨none, (some 41), false, (.mov (.tmp 5))⟩, ⟨none, (some 42), false, (.mov (.tmp 6))⟩, ⟨none, (some 43), false, (.ixs 9 (.tmp 41) (.tmp 42))⟩, ⟨none, (some 44), false, (.ldN 9 (.tmp 43))⟩, ⟨none, (some 45), false, (.call (.func 32) [(.tmp 44)])⟩, ⟨none, (some 46), false, (.cmp .neq (.tmp 45) (.const (.int .i64 0)))⟩, ⟨none, (some 47), false, (.mov (.tmp 46))⟩, ⟨(some ((some 47), false)), (some 48), false, (.mov (.tmp 5))⟩, ⟨(some ((some 47), false)), (some 49), false, (.mov (.tmp 6))⟩, ⟨(some ((some 47), false)), (some 50), false, (.ixs 9 (.tmp 48) (.tmp 49))⟩, ⟨(some ((some 47), false)), (some 51), false, (.faddr 1 (.tmp 50))⟩, ⟨(some ((some 47), false)), (some 52), false, (.ld1 (.tmp 51))⟩, ⟨(some ((some 47), false)), (some 53), false, (.cmp .neq (.tmp 52) (.const (.int .u8 2)))⟩, ⟨none, (some 54), false, (.pick (.tmp 47) (.const (.bool true)) (.tmp 53))⟩]
@[reducible] def c7s17 : C := (.ops c7r16 (some [0, 1, 5, 6, 54]))
@[reducible] def c7r18 : List J := [⟨none, (some 4), false, (.mov (.const (.bool false)))⟩]
@[reducible] def c7s19 : C := (.ops c7r18 (some [4]))
@[reducible] def c7s20 : C := (.seq c7s19 .ret)
@[reducible] def c7s21 : C := (.cond (.tmp 54) c7s20 .skip)
@[reducible] def c7s22 : C := (.seq c7s17 c7s21)
@[reducible] def c7s23 : C := (.block 1 c7s22)
@[reducible] def c7r24 : List J := [⟨none, (some 39), false, (.mov (.tmp 6))⟩, ⟨none, (some 40), false, (.arith .add (.tmp 39) (.const (.int .i64 1)))⟩, ⟨none, (some 6), false, (.mov (.tmp 40))⟩]
@[reducible] def c7s25 : C := (.ops c7r24 (some [0, 1, 5, 6]))
@[reducible] def c7s26 : C := (.seq c7s23 c7s25)
@[reducible] def c7s27 : C := (.seq c7s15 c7s26)
@[reducible] def c7s28 : C := (.loop c7s27)
@[reducible] def c7s29 : C := (.block 0 c7s28)
@[reducible] def c7s30 : C := (.seq c7s11 c7s29)
@[reducible] def c7r31 : List J := [⟨none, (some 55), false, (.call (.func 33) [])⟩, ⟨none, (some 56), false, (.call (.func 33) [])⟩, ⟨none, (some 7), false, (.mov (.tmp 55))⟩, ⟨none, (some 8), false, (.mov (.tmp 56))⟩]
@[reducible] def c7s32 : C := (.ops c7r31 (some [0, 1, 5, 7, 8]))
@[reducible] def c7r33 : List J := [⟨none, (some 9), false, (.mov (.const (.int .i64 0)))⟩]
@[reducible] def c7s34 : C := (.ops c7r33 (some [0, 1, 5, 7, 8, 9]))
@[reducible] def c7r35 : List J := [⟨none, (some 57), false, (.mov (.tmp 9))⟩, ⟨none, (some 58), false, (.mov (.tmp 5))⟩, ⟨none, (some 59), false, (.len (.tmp 58))⟩, ⟨none, (some 60), false, (.cmp .lss (.tmp 57) (.tmp 59))⟩]
@[reducible] def c7s36 : C := (.ops c7r35 (some [0, 1, 5, 7, 8, 9, 60]))
@[reducible] def c7s37 : C := (.cond (.tmp 60) .skip (.exit 2))
@[reducible] def c7s38 : C := (.seq c7s36 c7s37)
@[reducible] def c7r39 : List J := [⟨none, (some 63), false, (.mov (.tmp 7))⟩, ⟨none, (some 64), false, (.mov (.tmp 5))⟩, ⟨none, (some 65), false, (.mov (.tmp 9))⟩, ⟨none, (some 66), false, (.ixs 9 (.tmp 64) (.tmp 65))⟩, ⟨none, (some 67), false, (.ldN 9 (.tmp 66))⟩, ⟨none, (some 68), false, (.call (.func 19) [(.tmp 63), (.tmp 67)])⟩, ⟨none, (some 69), false, (.cmp .neq (.tmp 68) (.const (.int .i64 0)))⟩]
@[reducible] def c7s40 : C := (.ops c7r39 (some [0, 1, 5, 7, 8, 9, 69]))
@[reducible] def c7r41 : List J := [⟨none, (some 4), false, (.mov (.const (.bool false)))⟩]
@[reducible] def c7s42 : C := (.ops c7r41 (some [4]))
@[reducible] def c7s43 : C := (.seq c7s42 .ret)
@[reducible] def c7s44 : C := (.cond (.tmp 69) c7s43 .skip)
@[reducible] def c7s45 : C := (.seq c7s40 c7s44)
@[reducible] def c7s46 : C := (.block 3 c7s45)
@[reducible] def c7r47 : List J := [⟨none, (some 61), false, (.mov (.tmp 9))⟩, ⟨none, (some 62), false, (.arith .add (.tmp 61) (.const (.int .i64 1)))⟩, ⟨none, (some 9), false, (.mov (.tmp 62))⟩]
@[reducible] def c7s48 : C := (.ops c7r47 (some [0, 1, 5, 7, 8, 9]))
@[reducible] def c7s49 : C := (.seq c7s46 c7s48)
@[reducible] def c7s50 : C := (.seq c7s38 c7s49)
@[reducible] def c7s51 : C := (.loop c7s50)
@[reducible] def c7s52 : C := (.block 2 c7s51)
@[reducible] def c7s53 : C := (.seq c7s34 c7s52)
@[reducible] def c7r54 : List J := [⟨none, (some 10), false, (.mov (.const (.int .i64 0)))⟩]
@[reducible] def c7s55 : C := (.ops c7r54 (some [0, 1, 5, 7, 8, 10]))
@[reducible] def c7r56 : List J := [⟨none, (some 70), false, (.mov (.tmp 10))⟩, ⟨none, (some 71), false, (.mov (.tmp 0))⟩, ⟨none, (some 72), false, (.len (.tmp 71))⟩, ⟨none, (some 73), false, (.cmp .lss (.tmp 70) (.tmp 72))⟩, ⟨none, (some 74), false, (.mov (.tmp 73))⟩, ⟨(some ((some 74), true)), (some 75), false, (.mov (.tmp 10))⟩, ⟨(some ((some 74), true)), (some 76), false, (.cmp .lss (.tmp 75) (.const (.int .i64 100)))⟩, ⟨none, (some 77), false, (.pick (.tmp 74) (.tmp 76) (.const (.bool false)))⟩]
@[reducible] def c7s57 : C := (.ops c7r56 (some [0, 1, 5, 7, 8, 10, 77]))
@[reducible] def c7s58 : C := (.cond (.tmp 77) .skip (.exit 4))
@[reducible] def c7s59 : C := (.seq c7s57 c7s58)
@[reducible] def c7r60 : List (J × Bool) := [(⟨none, (some 80), false, (.mov (.tmp 0))⟩, false), (⟨none, (some 81), false, (.mov (.tmp 10))⟩, false), (⟨none, (some 82), false, (.ixs 1 (.tmp 80) (.tmp 81))⟩, false), (⟨none, (some 83), false, (.ld1 (.tmp 82))⟩, false), (⟨none, (some 84), false, (.mov (.tmp 5))⟩, false), (⟨none, (some 85), false, (.len (.tmp 84))⟩, false), (⟨none, (some 87), false, (.mov (.tmp 10))⟩, false), (⟨none, (some 88), false, (.mov (.tmp 5))⟩, false), (⟨none, (some 89), false, (.len (.tmp 88))⟩, false), (⟨none, (some 90), false, (.div .rem (.tmp 87) (.tmp 89))⟩, false), (⟨none, (some 86), false, (.call (.func 24) [(.tmp 83), (.tmp 85)])⟩, true), (⟨none, (some 11), false, (.mov (.tmp 86))⟩, false)]
@[reducible] def c7r61 : List J := [⟨none, (some 12), false, (.mov (.tmp 90))⟩]
@[reducible] def c7s62 : C := (.plan c7r60 c7r61 (some [0, 1, 5, 7, 8, 10, 11, 12]))
@[reducible] def c7r63 : List (J × Bool) := [(⟨none, (some 91), false, (.mov (.tmp 5))⟩, false), (⟨none, (some 92), false, (.mov (.tmp 11))⟩, false), (⟨none, (some 93), false, (.mov (.tmp 5))⟩, false), (⟨none, (some 94), false, (.mov (.tmp 12))⟩, false), (⟨none, (some 95), false, (.mov (.tmp 5))⟩, false), (⟨none, (some 96), false, (.mov (.tmp 12))⟩, false), (⟨none, (some 97), false, (.ixs 9 (.tmp 95) (.tmp 96))⟩, false), (⟨none, (some 98), false, (.ldN 9 (.tmp 97))⟩, false), (⟨none, (some 99), false, (.mov (.tmp 5))⟩, false), (⟨none, (some 100), false, (.mov (.tmp 11))⟩, false), (⟨none, (some 101), false, (.ixs 9 (.tmp 99) (.tmp 100))⟩, false), (⟨none, (some 102), false, (.ldN 9 (.tmp 101))⟩, false), (⟨none, (some 103), false, (.ixs 9 (.tmp 91) (.tmp 92))⟩, false), (⟨none, none, true, (.st 9 (.tmp 103) (.tmp 98))⟩, true)]
@[reducible] def c7r64 : List J := [⟨none, (some 104), false, (.ixs 9 (.tmp 93) (.tmp 94))⟩, ⟨none, none, false, (.st 9 (.tmp 104) (.tmp 102))⟩]
@[reducible] def c7s65 : C := (.plan c7r63 c7r64 (some [0, 1, 5, 7, 8, 10]))
@[reducible] def c7s66 : C := (.seq c7s62 c7s65)
@[reducible] def c7s67 : C := (.block 5 c7s66)
@[reducible] def c7r68 : List J := [⟨none, (some 78), false, (.mov (.tmp 10))⟩, ⟨none, (some 79), false, (.arith .add (.tmp 78) (.const (.int .i64 1)))⟩, ⟨none, (some 10), false, (.mov (.tmp 79))⟩]
@[reducible] def c7s69 : C := (.ops c7r68 (some [0, 1, 5, 7, 8, 10]))
@[reducible] def c7s70 : C := (.seq c7s67 c7s69)
@[reducible] def c7s71 : C := (.seq c7s59 c7s70)
@[reducible] def c7s72 : C := (.loop c7s71)
@[reducible] def c7s73 : C := (.block 4 c7s72)
@[reducible] def c7s74 : C := (.seq c7s55 c7s73)
@[reducible] def c7r75 : List J := [⟨none, (some 13), false, (.mov (.const (.int .i64 0)))⟩]
@[reducible] def c7s76 : C := (.ops c7r75 (some [1, 5, 7, 8, 13]))
@[reducible] def c7r77 : List J := [⟨none, (some 105), false, (.mov (.tmp 13))⟩, ⟨none, (some 106), false, (.mov (.tmp 5))⟩, ⟨none, (some 107), false, (.len (.tmp 106))⟩, ⟨none, (some 108), false, (.cmp .lss (.tmp 105) (.tmp 107))⟩]
@[reducible] def c7s78 : C := (.ops c7r77 (some [1, 5, 7, 8, 13, 108]))
@[reducible] def c7s79 : C := (.cond (.tmp 108) .skip (.exit 6))
@[reducible] def c7s80 : C := (.seq c7s78 c7s79)
@[reducible] def c7r81 : List J := [⟨none, (some 111), false, (.mov (.tmp 8))⟩, ⟨none, (some 112), false, (.mov (.tmp 5))⟩, ⟨none, (some 113), false, (.mov (.tmp 13))⟩, ⟨none, (some 114), false, (.ixs 9 (.tmp 112) (.tmp 113))⟩, ⟨none, (some 115), false, (.ldN 9 (.tmp 114))⟩, ⟨none, (some 116), false, (.call (.func 19) [(.tmp 111), (.tmp 115)])⟩, ⟨none, (some 117), false, (.cmp .neq (.tmp 116) (.const (.int .i64 0)))⟩]
@[reducible] def c7s82 : C := (.ops c7r81 (some [1, 5, 7, 8, 13, 117]))
@[reducible] def c7r83 : List J := [⟨none, (some 4), false, (.mov (.const (.bool false)))⟩]
@[reducible] def c7s84 : C := (.ops c7r83 (some [4]))
@[reducible] def c7s85 : C := (.seq c7s84 .ret)
@[reducible] def c7s86 : C := (.cond (.tmp 117) c7s85 .skip)
@[reducible] def c7s87 : C := (.seq c7s82 c7s86)
@[reducible] def c7s88 : C := (.block 7 c7s87)
@[reducible] def c7r89 : List J := [⟨none, (some 109), false, (.mov (.tmp 13))⟩, ⟨none, (some 110), false, (.arith .add (.tmp 109) (.const (.int .i64 1)))⟩, ⟨none, (some 13), false, (.mov (.tmp 110))⟩]
@[reducible] def c7s90 : C := (.ops c7r89 (some [1, 5, 7, 8, 13]))
@[reducible] def c7s91 : C := (.seq c7s88 c7s90)
@[reducible] def c7s92 : C := (.seq c7s80 c7s91)
@[reducible] def c7s93 : C := (.loop c7s92)
@[reducible] def c7s94 : C := (.block 6 c7s93)
@[reducible] def c7s95 : C := (.seq c7s76 c7s94)
@[reducible] def c7r96 : List J := [⟨none, (some 118), false, (.call (.func 34) [])⟩, ⟨none, (some 14), false, (.mov (.tmp 118))⟩]
@[reducible] def c7s97 : C := (.ops c7r96 (some [1, 5, 7, 8, 14]))
@[reducible] def c7r98 : List J := [⟨none, (some 119), false, (.call (.func 35) [])⟩, ⟨none, (some 15), false, (.mov (.tmp 119))⟩]
@[reducible] def c7s99 : C := (.ops c7r98 (some [1, 5, 7, 8, 14, 15]))
@[reducible] def c7r100 : List J := [⟨none, (some 16), false, (.mov (.const (.int .i64 0)))⟩]
@[reducible] def c7s101 : C := (.ops c7r100 (some [1, 5, 7, 8, 14, 15, 16]))
@[reducible] def c7r102 : List J := [⟨none, (some 120), false, (.mov (.tmp 16))⟩, ⟨none, (some 121), false, (.mov (.tmp 14))⟩, ⟨none, (some 122), false, (.len (.tmp 121))⟩, ⟨none, (some 123), false, (.cmp .lss (.tmp 120) (.tmp 122))⟩]
@[reducible] def c7s103 : C := (.ops c7r102 (some [1, 5, 7, 8, 14, 15, 16, 123]))
@[reducible] def c7s104 : C := (.cond (.tmp 123) .skip (.exit 8))
@[reducible] def c7s105 : C := (.seq c7s103 c7s104)
@[reducible] def c7r106 : List J := [⟨none, (some 126), false, (.mov (.tmp 7))⟩, ⟨none, (some 127), false, (.mov (.tmp 14))⟩, ⟨none, (some 128), false, (.mov (.tmp 16))⟩, ⟨none, (some 129), false, (.ixs 4 (.tmp 127) (.tmp 128))⟩, ⟨none, (some 130), false, (.ldN 4 (.tmp 129))⟩, ⟨none, (some 131), false, (.call (.func 21) [(.tmp 126), (.tmp 130)])⟩, ⟨none, (some 132), false, (.cmp .neq (.tmp 131) (.const (.int .i64 0)))⟩, ⟨none, (some 133), false, (.mov (.tmp 132))⟩, ⟨(some ((some 133), false)), (some 134), false, (.mov (.tmp 8))⟩, ⟨(some ((some 133), false)), (some 135), false, (.mov (.tmp 14))⟩, ⟨(some ((some 133), false)), (some 136), false, (.mov (.tmp 14))⟩, ⟨(some ((some 133), false)), (some 137), false, (.len (.tmp 136))⟩, ⟨(some ((some 133), false)), (some 138), false, (.arith .sub (.tmp 137) (.const (.int .i64 1)))⟩, ⟨(some ((some 133), false)), (some 139), false, (.mov (.tmp 16))⟩, ⟨(some ((some 133), false)), (some 140), false, (.arith .sub (.tmp 138) (.tmp 139))⟩, ⟨(some ((some 133), false)), (some 141), false, (.ixs 4 (.tmp 135) (.tmp 140))⟩, ⟨(some ((some 133), false)), (some 142), false, (.ldN 4 (.tmp 141))⟩, ⟨(some ((some 133), false)), (some 143), false, (.call (.func 21) [(.tmp 134), (.tmp 142)])⟩, ⟨(some ((some 133), false)), (some 144), false, (.cmp .neq (.tmp 143) (.const (.int .i64 0)))⟩, ⟨none, (some 145), false, (.pick (.tmp 133) (.const (.bool true)) (.tmp 144))⟩]
@[reducible] def c7s107 : C := (.ops c7r106 (some [1, 5, 7, 8, 14, 15, 16, 145]))
@[reducible] def c7r108 : List J := [⟨none, (some 4), false, (.mov (.const (.bool false)))⟩]
@[reducible] def c7s109 : C := (.ops c7r108 (some [4]))
@[reducible] def c7s110 : C := (.seq c7s109 .ret)
@[reducible] def c7s111 : C := (.cond (.tmp 145) c7s110 .skip)
@[reducible] def c7s112 : C := (.seq c7s107 c7s111)
@[reducible] def c7s113 : C := (.block 9 c7s112)
@[reducible] def c7r114 : List J := [⟨none, (some 124), false, (.mov (.tmp 16))⟩, ⟨none, (some 125), false, (.arith .add (.tmp 124) (.const (.int .i64 1)))⟩, ⟨none, (some 16), false, (.mov (.tmp 125))⟩]
@[reducible] def c7s115 : C := (.ops c7r114 (some [1, 5, 7, 8, 14, 15, 16]))
@[reducible] def c7s116 : C := (.seq c7s113 c7s115)
@[reducible] def c7s117 : C := (.seq c7s105 c7s116)
@[reducible] def c7s118 : C := (.loop c7s117)
@[reducible] def c7s119 : C := (.block 8 c7s118)
@[reducible] def c7s120 : C := (.seq c7s101 c7s119)
@[reducible] def c7r121 : List J := [⟨none, (some 17), false, (.mov (.const (.int .i64 0)))⟩]
@[reducible] def c7s122 : C := (.ops c7r121 (some [1, 5, 7, 8, 15, 17]))
@[reducible] def c7r123 : List J := [⟨none, (some 146), false, (.mov (.tmp 17))⟩, ⟨none, (some 147), false, (.mov (.tmp 15))⟩, ⟨none, (some 148), false, (.len (.tmp 147))⟩, ⟨none, (some 149), false, (.cmp .lss (.tmp 146) (.tmp 148))⟩]
@[reducible] def c7s124 : C := (.ops c7r123 (some [1, 5, 7, 8, 15, 17, 149]))
@[reducible] def c7s125 : C := (.cond (.tmp 149) .skip (.exit 10))
@[reducible] def c7s126 : C := (.seq c7s124 c7s125)
@[reducible] def c7r127 : List (J × Bool) := [(⟨none, (some 152), false, (.mov (.tmp 7))⟩, false), (⟨none, (some 153), false, (.mov (.tmp 15))⟩, false), (⟨none, (some 154), false, (.mov (.tmp 17))⟩, false), (⟨none, (some 155), false, (.ixs 1 (.tmp 153) (.tmp 154))⟩, false), (⟨none, (some 156), false, (.ld1 (.tmp 155))⟩, false), (⟨none, (some 157), false, (.mov (.tmp 17))⟩, false), (⟨none, (some 158), false, (.arith .add (.const (.int .i64 97)) (.tmp 157))⟩, false), (⟨none, (some 159), false, (.cnv .u8 (.tmp 158))⟩, false), (⟨none, (some 160), false, (.bsl [(.int .u8 0)] 2 1 5 [(0, (.const (.int .u8 116))), (1, (.tmp 159))])⟩, true), (⟨none, (some 161), false, (.bts (.tmp 160))⟩, true), (⟨none, (some 162), false, (.call (.func 20) [(.tmp 152), (.tmp 156), (.tmp 161)])⟩, true), (⟨none, (some 163), false, (.cmp .neq (.tmp 162) (.const (.int .i64 0)))⟩, false), (⟨none, (some 164), false, (.mov (.tmp 163))⟩, false), (⟨(some ((some 164), false)), (some 165), false, (.mov (.tmp 8))⟩, false), (⟨(some ((some 164), false)), (some 166), false, (.mov (.tmp 15))⟩, false), (⟨(some ((some 164), false)), (some 167), false, (.mov (.tmp 17))⟩, false), (⟨(some ((some 164), false)), (some 168), false, (.ixs 1 (.tmp 166) (.tmp 167))⟩, false), (⟨(some ((some 164), false)), (some 169), false, (.ld1 (.tmp 168))⟩, false), (⟨(some ((some 164), false)), (some 170), false, (.mov (.tmp 17))⟩, false), (⟨(some ((some 164), false)), (some 171), false, (.arith .add (.const (.int .i64 97)) (.tmp 170))⟩, false), (⟨(some ((some 164), false)), (some 172), false, (.cnv .u8 (.tmp 171))⟩, false), (⟨(some ((some 164), false)), (some 173), false, (.bsl [(.int .u8 0)] 2 1 5 [(0, (.const (.int .u8 116))), (1, (.tmp 172))])⟩, true), (⟨(some ((some 164), false)), (some 174), false, (.bts (.tmp 173))⟩, true)]
@[reducible] def c7r128 : List J := [⟨(some ((some 164), false)), (some 175), false, (.call (.func 20) [(.tmp 165), (.tmp 169), (.tmp 174)])⟩, ⟨(some ((some 164), false)), (some 176), false, (.cmp .neq (.tmp 175) (.const (.int .i64 0)))⟩, ⟨none, (some 177), false, (.pick (.tmp 164) (.const (.bool true)) (.tmp 176))⟩]
@[reducible] def c7s129 : C := (.plan c7r127 c7r128 (some [1, 5, 7, 8, 15, 17, 177]))
@[reducible] def c7r130 : List J := [⟨none, (some 4), false, (.mov (.const (.bool false)))⟩]
@[reducible] def c7s131 : C := (.ops c7r130 (some [4]))
@[reducible] def c7s132 : C := (.seq c7s131 .ret)
@[reducible] def c7s133 : C := (.cond (.tmp 177) c7s132 .skip)
@[reducible] def c7s134 : C := (.seq c7s129 c7s133)
@[reducible] def c7s135 : C := (.block 11 c7s134)
@[reducible] def c7r136 : List J := [⟨none, (some 150), false, (.mov (.tmp 17))⟩, ⟨none, (some 151), false, (.arith .add (.tmp 150) (.const (.int .i64 1)))⟩, ⟨none, (some 17), false, (.mov (.tmp 151))⟩]
@[reducible] def c7s137 : C := (.ops c7r136 (some [1, 5, 7, 8, 15, 17]))
@[reducible] def c7s138 : C := (.seq c7s135 c7s137)
@[reducible] def c7s139 : C := (.seq c7s126 c7s138)
@[reducible] def c7s140 : C := (.loop c7s139)
@[reducible] def c7s141 : C := (.block 10 c7s140)
@[reducible] def c7s142 : C := (.seq c7s122 c7s141)
@[reducible] def c7r143 : List J := [⟨none, (some 178), false, (.mov (.tmp 7))⟩, ⟨none, (some 179), false, (.call (.func 16) [(.tmp 178)])⟩, ⟨none, (some 180), false, (.mov (.tmp 8))⟩, ⟨none, (some 181), false, (.call (.func 16) [(.tmp 180)])⟩, ⟨none, (some 18), false, (.mov (.tmp 179))⟩, ⟨none, (some 19), false, (.mov (.tmp 181))⟩]
@[reducible] def c7s144 : C := (.ops c7r143 (some [1, 5, 7, 8, 18, 19]))
@[reducible] def c7r145 : List J := [⟨none, (some 182), false, (.mov (.tmp 1))⟩, ⟨none, (some 183), false, (.un .not (.tmp 182))⟩]
@[reducible] def c7s146 : C := (.ops c7r145 (some [5, 7, 8, 18, 19, 183]))
@[reducible] def c7r147 : List J := [⟨none, (some 184), false, (.mov (.tmp 18))⟩, ⟨none, (some 185), false, (.cmp .eql (.tmp 184) (.const (.int .i64 6)))⟩, ⟨none, (some 186), false, (.mov (.tmp 185))⟩, ⟨(some ((some 186), true)), (some 187), false, (.mov (.tmp 19))⟩, ⟨(some ((some 186), true)), (some 188), false, (.cmp .eql (.tmp 187) (.const (.int .i64 6)))⟩, ⟨none, (some 189), false, (.pick (.tmp 186) (.tmp 188) (.const (.bool false)))⟩, ⟨none, (some 190), false, (.mov (.tmp 189))⟩, ⟨(some ((some 190), true)), (some 191), false, (.call (.func 36) [])⟩, ⟨none, (some 192), false, (.pick (.tmp 190) (.tmp 191) (.const (.bool false)))⟩, ⟨none, (some 4), false, (.mov (.tmp 192))⟩]
@[reducible] def c7s148 : C := (.ops c7r147 (some [4]))
@[reducible] def c7s149 : C := (.seq c7s148 .ret)
@[reducible] def c7s150 : C := (.cond (.tmp 183) c7s149 .skip)
@[reducible] def c7s151 : C := (.seq c7s146 c7s150)
@[reducible] def c7r152 : List J := [⟨none, (some 20), false, (.mov (.const (.int .i64 0)))⟩]
@[reducible] def c7s153 : C := (.ops c7r152 (some [5, 7, 8, 18, 19, 20]))
@[reducible] def c7r154 : List J := [⟨none, (some 193), false, (.mov (.tmp 20))⟩, ⟨none, (some 194), false, (.mov (.tmp 5))⟩, ⟨none, (some 195), false, (.len (.tmp 194))⟩, ⟨none, (some 196), false, (.cmp .lss (.tmp 193) (.tmp 195))⟩]
@[reducible] def c7s155 : C := (.ops c7r154 (some [5, 7, 8, 18, 19, 20, 196]))
@[reducible] def c7s156 : C := (.cond (.tmp 196) .skip (.exit 12))
@[reducible] def c7s157 : C := (.seq c7s155 c7s156)
@[reducible] def c7r158 : List J := [⟨none, (some 200), false, (.mov (.tmp 7))⟩, ⟨none, (some 201), false, (.mov (.tmp 5))⟩, ⟨none, (some 202), false, (.mov (.tmp 20))⟩, ⟨none, (some 203), false, (.ixs 9 (.tmp 201) (.tmp 202))⟩, ⟨none, (some 204), false, (.faddr 0 (.tmp 203))⟩, ⟨none, (some 205), false, (.ld1 (.tmp 204))⟩, ⟨none, (some 206), false, (.call (.func 23) [(.tmp 200), (.tmp 205)])⟩, ⟨none, (some 199), false, (.mov (.tmp 206))⟩, ⟨none, (some 207), false, (.ext 0 (.tmp 199))⟩, ⟨none, (some 208), false, (.ext 1 (.tmp 199))⟩, ⟨none, (some 21), false, (.mov (.tmp 207))⟩, ⟨none, (some 22), false, (.mov (.tmp 208))⟩]
@[reducible] def c7s159 : C := (.ops c7r158 (some [5, 7, 8, 18, 19, 20, 21, 22]))
@[reducible] def c7r160 : List J := [⟨none, (some 210), false, (.mov (.tmp 8))⟩, ⟨none, (some 211), false, (.mov (.tmp 5))⟩, ⟨none, (some 212), false, (.mov (.tmp 20))⟩, ⟨none, (some 213), false, (.ixs 9 (.tmp 211) (.tmp 212))⟩, ⟨none, (some 214), false, (.faddr 0 (.tmp 213))⟩, ⟨none, (some 215), false, (.ld1 (.tmp 214))⟩, ⟨none, (some 216), false, (.call (.func 23) [(.tmp 210), (.tmp 215)])⟩, ⟨none, (some 209), false, (.mov (.tmp 216))⟩, ⟨none, (some 217), false, (.ext 0 (.tmp 209))⟩, ⟨none, (some 218), false, (.ext 1 (.tmp 209))⟩, ⟨none, (some 23), false, (.mov (.tmp 217))⟩, ⟨none, (some 24), false, (.mov (.tmp 218))⟩]
@[reducible] def c7s161 : C := (.ops c7r160 (some [5, 7, 8, 18, 19, 20, 21, 22, 23, 24]))
@[reducible] def c7r162 : List J := [⟨none, (some 219), false, (.mov (.tmp 22))⟩, ⟨none, (some 220), false, (.cmp .neq (.tmp 219) (.const (.int .i64 0)))⟩, ⟨none, (some 221), false, (.mov (.tmp 220))⟩, ⟨(some ((some 221), false)), (some 222), false, (.mov (.tmp 24))⟩, ⟨(some ((some 221), false)), (some 223), false, (.cmp .neq (.tmp 222) (.const (.int .i64 0)))⟩, ⟨none, (some 224), false, (.pick (.tmp 221) (.const (.bool true)) (.tmp 223))⟩, ⟨none, (some 225), false, (.mov (.tmp 224))⟩, ⟨(some ((some 225), false)), (some 226), false, (.mov (.tmp 21))⟩, ⟨(some ((some 225), false)), (some 227), false, (.mov (.tmp 23))⟩, ⟨(some ((some 225), false)), (some 228), false, (.cmp .neq (.tmp 226) (.tmp 227))⟩, ⟨none, (some 229), false, (.pick (.tmp 225) (.const (.bool true)) (.tmp 228))⟩]
@[reducible] def c7s163 : C := (.ops c7r162 (some [5, 7, 8, 18, 19, 20, 229]))
@[reducible] def c7r164 : List J := [⟨none, (some 4), false, (.mov (.const (.bool false)))⟩]
@[reducible] def c7s165 : C := (.ops c7r164 (some [4]))
@[reducible] def c7s166 : C := (.seq c7s165 .ret)
@[reducible] def c7s167 : C := (.cond (.tmp 229) c7s166 .skip)
@[reducible] def c7s168 : C := (.seq c7s163 c7s167)
@[reducible] def c7s169 : C := (.seq c7s161 c7s168)
@[reducible] def c7s170 : C := (.seq c7s159 c7s169)
@[reducible] def c7s171 : C := (.block 13 c7s170)
@[reducible] def c7r172 : List J := [⟨none, (some 197), false, (.mov (.tmp 20))⟩, ⟨none, (some 198), false, (.arith .add (.tmp 197) (.const (.int .i64 1)))⟩, ⟨none, (some 20), false, (.mov (.tmp 198))⟩]
@[reducible] def c7s173 : C := (.ops c7r172 (some [5, 7, 8, 18, 19, 20]))
@[reducible] def c7s174 : C := (.seq c7s171 c7s173)
@[reducible] def c7s175 : C := (.seq c7s157 c7s174)
@[reducible] def c7s176 : C := (.loop c7s175)
@[reducible] def c7s177 : C := (.block 12 c7s176)
@[reducible] def c7s178 : C := (.seq c7s153 c7s177)
@[reducible] def c7r179 : List J := [⟨none, (some 230), false, (.mov (.tmp 18))⟩, ⟨none, (some 231), false, (.cmp .eql (.tmp 230) (.const (.int .i64 0)))⟩, ⟨none, (some 232), false, (.mov (.tmp 231))⟩, ⟨(some ((some 232), true)), (some 233), false, (.mov (.tmp 19))⟩, ⟨(some ((some 232), true)), (some 234), false, (.cmp .eql (.tmp 233) (.const (.int .i64 0)))⟩, ⟨none, (some 235), false, (.pick (.tmp 232) (.tmp 234) (.const (.bool false)))⟩, ⟨none, (some 236), false, (.mov (.tmp 235))⟩, ⟨(some ((some 236), true)), (some 237), false, (.mov (.tmp 7))⟩, ⟨(some ((some 236), true)), (some 238), false, (.mov (.tmp 8))⟩, ⟨(some ((some 236), true)), (some 239), false, (.call (.func 29) [(.tmp 237), (.tmp 238)])⟩, ⟨none, (some 240), false, (.pick (.tmp 236) (.tmp 239) (.const (.bool false)))⟩, ⟨none, (some 241), false, (.mov (.tmp 240))⟩, ⟨(some ((some 241), true)), (some 242), false, (.mov (.tmp 7))⟩, ⟨(some ((some 241), true)), (some 243), false, (.call (.func 18) [(.tmp 242)])⟩, ⟨(some ((some 241), true)), (some 244), false, (.cmp .eql (.tmp 243) (.const (.int .i64 7)))⟩, ⟨none, (some 245), false, (.pick (.tmp 241) (.tmp 244) (.const (.bool false)))⟩, ⟨none, (some 246), false, (.mov (.tmp 245))⟩, ⟨(some ((some 246), true)), (some 247), false, (.call (.func 36) [])⟩, ⟨none, (some 248), false, (.pick (.tmp 246) (.tmp 247) (.const (.bool false)))⟩, ⟨none, (some 4), false, (.mov (.tmp 248))⟩]
@[reducible] def c7s180 : C := (.ops c7r179 (some [4]))
@[reducible] def c7s181 : C := (.seq c7s180 .ret)
@[reducible] def c7s182 : C := (.seq c7s178 c7s181)
@[reducible] def c7s183 : C := (.seq c7s151 c7s182)
@[reducible] def c7s184 : C := (.seq c7s144 c7s183)
@[reducible] def c7s185 : C := (.seq c7s142 c7s184)
@[reducible] def c7s186 : C := (.seq c7s120 c7s185)
@[reducible] def c7s187 : C := (.seq c7s99 c7s186)
@[reducible] def c7s188 : C := (.seq c7s97 c7s187)
@[reducible] def c7s189 : C := (.seq c7s95 c7s188)
@[reducible] def c7s190 : C := (.seq c7s74 c7s189)
@[reducible] def c7s191 : C := (.seq c7s53 c7s190)
@[reducible] def c7s192 : C := (.seq c7s32 c7s191)
@[reducible] def c7s193 : C := (.seq c7s30 c7s192)
@[reducible] def c7s194 : C := (.seq c7s9 c7s193)
@[reducible] def c7s195 : C := (.seq c7s3 c7s194)
@[reducible] def c7 : C := (.seq c7s1 c7s195)
theorem f7 : compF Go.Proofs.Tryd.prog 7 = some ⟨249, strip c7, [(.tmp 4)]⟩ := by kernel_rfl
theorem o7 : okC 249 c7 = true := by kernel_rfl

@[reducible] def c30r0 : List J := [⟨none, (some 0), false, (.mov (.const (.slice none 0 0)))⟩]
@[reducible] def c30s1 : C := (.ops c30r0 (some []))
@[reducible] def c30r2 : List J := [⟨none, (some 3), false, (.call (.func 67) [(.const (.int .u16 0)), (.const (.int .u8 2))])⟩, ⟨none, (some 4), false, (.bld [(.int .u8 0), (.int .u8 0), (.int .u8 0), (.int .i64 0), (.int .u8 0), (.int .u8 0), (.int .u8 0), (.string ⟨#[]⟩)] [(0, 1), (1, 1), (2, 1), (3, 1), (4, 1), (5, 1), (6, 1), (7, 1)] [(0, (.const (.int .u8 1))), (1, (.const (.int .u8 9))), (2, (.const (.int .u8 4))), (3, (.const (.int .i64 1))), (6, (.const (.int .u8 3)))])⟩, ⟨none, (some 5), false, (.call (.func 68) [(.const (.int .u8 3)), (.const (.int .u8 5)), (.const (.int .u8 1)), (.const (.int .i64 1))])⟩, ⟨none, (some 6), false, (.bsl [(.int .u8 0), (.int .u8 0), (.int .u8 0), (.int .i64 0), (.int .u8 0), (.int .u8 0), (.int .u8 0), (.string ⟨#[]⟩)] 2 8 72 [(0, (.tmp 4)), (1, (.tmp 5))])⟩, ⟨none, (some 7), false, (.bld [(.string ⟨#[]⟩), (.int .u8 0), (.int .u8 0), (.int .i64 0), (.int .i64 0), (.int .i64 0), (.int .u16 0), (.bool false), (.slice none 0 0)] [(0, 1), (1, 1), (2, 1), (3, 1), (4, 1), (5, 1), (6, 1), (7, 1), (8, 1)] [(0, (.const (.string (btx [98, 111, 117, 108, 100, 101, 114])))), (2, (.const (.int .u8 1))), (3, (.const (.int .i64 2))), (4, (.const (.int .i64 1))), (5, (.const (.int .i64 4))), (6, (.tmp 3)), (8, (.tmp 6))])⟩, ⟨none, (some 8), false, (.bld [(.int .u8 0), (.int .u8 0), (.int .u8 0), (.int .i64 0), (.int .u8 0), (.int .u8 0), (.int .u8 0), (.string ⟨#[]⟩)] [(0, 1), (1, 1), (2, 1), (3, 1), (4, 1), (5, 1), (6, 1), (7, 1)] [(0, (.const (.int .u8 2))), (1, (.const (.int .u8 7))), (2, (.const (.int .u8 1))), (3, (.const (.int .i64 1))), (7, (.const (.string (btx [112, 101, 98, 98, 108, 101]))))])⟩, ⟨none, (some 9), false, (.call (.func 68) [(.const (.int .u8 3)), (.const (.int .u8 2)), (.const (.int .u8 4)), (.const (.int .i64 1))])⟩, ⟨none, (some 10), false, (.bsl [(.int .u8 0), (.int .u8 0), (.int .u8 0), (.int .i64 0), (.int .u8 0), (.int .u8 0), (.int .u8 0), (.string ⟨#[]⟩)] 2 8 72 [(0, (.tmp 8)), (1, (.tmp 9))])⟩, ⟨none, (some 11), false, (.bld [(.string ⟨#[]⟩), (.int .u8 0), (.int .u8 0), (.int .i64 0), (.int .i64 0), (.int .i64 0), (.int .u16 0), (.bool false), (.slice none 0 0)] [(0, 1), (1, 1), (2, 1), (3, 1), (4, 1), (5, 1), (6, 1), (7, 1), (8, 1)] [(0, (.const (.string (btx [99, 108, 97, 121, 45, 109, 97, 110])))), (2, (.const (.int .u8 1))), (3, (.const (.int .i64 3))), (4, (.const (.int .i64 2))), (5, (.const (.int .i64 3))), (8, (.tmp 10))])⟩, ⟨none, (some 12), false, (.bld [(.string ⟨#[]⟩), (.int .u8 0), (.int .u8 0), (.int .i64 0), (.int .i64 0), (.int .i64 0), (.int .u16 0), (.bool false), (.slice none 0 0)] [(0, 1), (1, 1), (2, 1), (3, 1), (4, 1), (5, 1), (6, 1), (7, 1), (8, 1)] [(0, (.const (.string (btx [112, 101, 98, 98, 108, 101])))), (2, (.const (.int .u8 1))), (4, (.const (.int .i64 1))), (5, (.const (.int .i64 1))), (7, (.const (.bool true)))])⟩, ⟨none, (some 13), false, (.call (.func 68) [(.const (.int .u8 1)), (.const (.int .u8 1)), (.const (.int .u8 7)), (.const (.int .i64 2))])⟩, ⟨none, (some 14), false, (.bld [(.int .u8 0), (.int .u8 0), (.int .u8 0), (.int .i64 0), (.int .u8 0), (.int .u8 0), (.int .u8 0), (.string ⟨#[]⟩)] [(0, 1), (1, 1), (2, 1), (3, 1), (4, 1), (5, 1), (6, 1), (7, 1)] [(0, (.const (.int .u8 1))), (1, (.const (.int .u8 6))), (2, (.const (.int .u8 10))), (5, (.const (.int .u8 2)))])⟩, ⟨none, (some 15), false, (.bsl [(.int .u8 0), (.int .u8 0), (.int .u8 0), (.int .i64 0), (.int .u8 0), (.int .u8 0), (.int .u8 0), (.string ⟨#[]⟩)] 2 8 72 [(0, (.tmp 13)), (1, (.tmp 14))])⟩, ⟨none, (some 16), false, (.bld [(.string ⟨#[]⟩), (.int .u8 0), (.int .u8 0), (.int .i64 0), (.int .i64 0), (.int .i64 0), (.int .u16 0), (.bool false), (.slice none 0 0)] [(0, 1), (1, 1), (2, 1), (3, 1), (4, 1), (5, 1), (6, 1), (7, 1), (8, 1)] [(0, (.const (.string (btx [108, 97, 110, 100, 115, 108, 105, 100, 101])))), (2, (.const (.int .u8 2))), (3, (.const (.int .i64 4))), (8, (.tmp 15))])⟩, ⟨none, (some 17), false, (.bld [(.int .u8 0), (.int .u8 0), (.int .u8 0), (.int .i64 0), (.int .u8 0), (.int .u8 0), (.int .u8 0), (.string ⟨#[]⟩)] [(0, 1), (1, 1), (2, 1), (3, 1), (4, 1), (5, 1), (6, 1), (7, 1)] [(0, (.const (.int .u8 5))), (1, (.const (.int .u8 15))), (2, (.const (.int .u8 9))), (3, (.const (.int .i64 1))), (4, (.const (.int .u8 2)))])⟩, ⟨none, (some 18), false, (.bld [(.int .u8 0), (.int .u8 0), (.int .u8 0), (.int .i64 0), (.int .u8 0), (.int .u8 0), (.int .u8 0), (.string ⟨#[]⟩)] [(0, 1), (1, 1), (2, 1), (3, 1), (4, 1), (5, 1), (6, 1), (7, 1)] [(0, (.const (.int .u8 5))), (1, (.const (.int .u8 12))), (2, (.const (.int .u8 8))), (5, (.const (.int .u8 2)))])⟩, ⟨none, (some 19), false, (.call (.func 68) [(.const (.int .u8 6)), (.const (.int .u8 16)), (.const (.int .u8 5)), (.const (.int .i64 1))])⟩, ⟨none, (some 20), false, (.bsl [(.int .u8 0), (.int .u8 0), (.int .u8 0), (.int .i64 0), (.int .u8 0), (.int .u8 0), (.int .u8 0), (.string ⟨#[]⟩)] 3 8 72 [(0, (.tmp 17)), (1, (.tmp 18)), (2, (.tmp 19))])⟩, ⟨none, (some 21), false, (.bld [(.string ⟨#[]⟩), (.int .u8 0), (.int .u8 0), (.int .i64 0), (.int .i64 0), (.int .i64 0), (.int .u16 0), (.bool false), (.slice none 0 0)] [(0, 1), (1, 1), (2, 1), (3, 1), (4, 1), (5, 1), (6, 1), (7, 1), (8, 1)] [(0, (.const (.string (btx [114, 97, 109, 112, 97, 114, 116])))), (2, (.const (.int .u8 3))), (3, (.const (.int .i64 3))), (8, (.tmp 20))])⟩, ⟨none, (some 22), false, (.call (.func 68) [(.const (.int .u8 4)), (.const (.int .u8 2)), (.const (.int .u8 1)), (.const (.int .i64 2))])⟩, ⟨none, (some 23), false, (.call (.func 68) [(.const (.int .u8 6)), (.const (.int .u8 19)), (.const (.int .u8 4)), (.const (.int .i64 1))])⟩, ⟨none, (some 24), false, (.bld [(.int .u8 0), (.int .u8 0), (.int .u8 0), (.int .i64 0), (.int .u8 0), (.int .u8 0), (.int .u8 0), (.string ⟨#[]⟩)] [(0, 1), (1, 1), (2, 1), (3, 1), (4, 1), (5, 1), (6, 1), (7, 1)] [(0, (.const (.int .u8 1))), (1, (.const (.int .u8 7))), (2, (.const (.int .u8 2))), (3, (.const (.int .i64 1))), (7, (.const (.string (btx [101, 109, 98, 101, 114]))))])⟩, ⟨none, (some 25), false, (.bsl [(.int .u8 0), (.int .u8 0), (.int .u8 0), (.int .i64 0), (.int .u8 0), (.int .u8 0), (.int .u8 0), (.string ⟨#[]⟩)] 3 8 72 [(0, (.tmp 22)), (1, (.tmp 23)), (2, (.tmp 24))])⟩, ⟨none, (some 26), false, (.bld [(.string ⟨#[]⟩), (.int .u8 0), (.int .u8 0), (.int .i64 0), (.int .i64 0), (.int .i64 0), (.int .u16 0), (.bool false), (.slice none 0 0)] [(0, 1), (1, 1), (2, 1), (3, 1), (4, 1), (5, 1), (6, 1), (7, 1), (8, 1)] [(0, (.const (.string (btx [103, 111, 108, 101, 109])))), (2, (.const (.int .u8 1))), (3, (.const (.int .i64 5))), (4, (.const (.int .i64 4))), (5, (.const (.int .i64 5))), (8, (.tmp 25))])⟩, ⟨none, (some 27), false, (.bsl [(.string ⟨#[]⟩), (.int .u8 0), (.int .u8 0), (.int .i64 0), (.int .i64 0), (.int .i64 0), (.int .u16 0), (.bool false), (.slice none 0 0)] 6 9 51 [(0, (.tmp 7)), (1, (.tmp 11)), (2, (.tmp 12)), (3, (.tmp 16)), (4, (.tmp 21)), (5, (.tmp 26))])⟩, ⟨none, (some 1), false, (.mov (.tmp 27))⟩]
@[reducible] def c30s3 : C := (.ops c30r2 (some [1]))
@[reducible] def c30r4 : List J := [⟨none, (some 28), false, (.mov (.tmp 1))⟩, ⟨none, (some 29), false, (.len (.tmp 28))⟩, ⟨none, (some 30), false, (.mov (.const (.int .i64 0)))⟩]
@[reducible] def c30s5 : C := (.ops c30r4 (some [1, 29, 30]))
@[reducible] def c30r6 : List J := [⟨none, (some 31), false, (.cmp .lss (.tmp 30) (.tmp 29))⟩]
@[reducible] def c30s7 : C := (.ops c30r6 (some [1, 29, 30, 31]))
@[reducible] def c30s8 : C := (.cond (.tmp 31) .skip (.exit 0))
@[reducible] def c30r9 : List J := [⟨none, (some 32), false, (.mov (.tmp 30))⟩, ⟨none, (some 2), false, (.mov (.tmp 32))⟩]
@[reducible] def c30s10 : C := (.ops c30r9 (some [1, 2, 29, 30]))
@[reducible] def c30r11 : List J := [⟨none, (some 33), false, (.mov (.tmp 1))⟩, ⟨none, (some 34), false, (.mov (.tmp 2))⟩, ⟨none, (some 35), false, (.ixs 9 (.tmp 33) (.tmp 34))⟩, ⟨none, (some 36), false, (.faddr 1 (.tmp 35))⟩, ⟨none, none, false, (.st 1 (.tmp 36) (.const (.int .u8 2)))⟩]
@[reducible] def c30s12 : C := (.ops c30r11 (some [1, 29, 30]))
@[reducible] def c30s13 : C := (.seq c30s10 c30s12)
@[reducible] def c30s14 : C := (.block 1 c30s13)
@[reducible] def c30r15 : List J := [⟨none, (some 37), false, (.arith .add (.tmp 30) (.const (.int .i64 1)))⟩, ⟨none, (some 30), false, (.mov (.tmp 37))⟩]
@[reducible] def c30s16 : C := (.ops c30r15 (some [1, 29, 30]))
@[reducible] def c30s17 : C := (.seq c30s14 c30s16)
@[reducible] def c30s18 : C := (.seq c30s8 c30s17)
@[reducible] def c30s19 : C := (.seq c30s7 c30s18)
@[reducible] def c30s20 : C := (.loop c30s19)
@[reducible] def c30s21 : C := (.block 0 c30s20)
@[reducible] def c30s22 : C := (.seq c30s5 c30s21)
@[reducible] def c30r23 : List J := [⟨none, (some 38), false, (.mov (.tmp 1))⟩, ⟨none, (some 0), false, (.mov (.tmp 38))⟩]
@[reducible] def c30s24 : C := (.ops c30r23 (some [0]))
@[reducible] def c30s25 : C := (.seq c30s24 .ret)
@[reducible] def c30s26 : C := (.seq c30s22 c30s25)
@[reducible] def c30s27 : C := (.seq c30s3 c30s26)
@[reducible] def c30 : C := (.seq c30s1 c30s27)
theorem f30 : compF Go.Proofs.Tryd.prog 30 = some ⟨39, strip c30, [(.tmp 0)]⟩ := by kernel_rfl
theorem o30 : okC 39 c30 = true := by kernel_rfl

@[reducible] def c31r0 : List J := [⟨none, (some 0), false, (.alloc [(.string ⟨#[]⟩), (.int .u8 0), (.int .u8 0), (.int .i64 0), (.int .i64 0), (.int .i64 0), (.int .u16 0), (.bool false), (.slice none 0 0)] 9 51)⟩]
@[reducible] def c31s1 : C := (.ops c31r0 (some [0]))
@[reducible] def c31r2 : List J := [⟨none, (some 1), false, (.bld [(.string ⟨#[]⟩), (.int .u8 0), (.int .u8 0), (.int .i64 0), (.int .i64 0), (.int .i64 0), (.int .u16 0), (.bool false), (.slice none 0 0)] [(0, 1), (1, 1), (2, 1), (3, 1), (4, 1), (5, 1), (6, 1), (7, 1), (8, 1)] [(0, (.const (.string (btx [101, 109, 98, 101, 114])))), (1, (.const (.int .u8 3))), (2, (.const (.int .u8 1))), (5, (.const (.int .i64 1))), (7, (.const (.bool true)))])⟩, ⟨none, none, false, (.st 9 (.tmp 0) (.tmp 1))⟩]
@[reducible] def c31s3 : C := (.ops c31r2 (some [0]))
@[reducible] def c31s4 : C := (.seq c31s3 .ret)
@[reducible] def c31 : C := (.seq c31s1 c31s4)
theorem f31 : compF Go.Proofs.Tryd.prog 31 = some ⟨2, strip c31, [(.cell 0 51)]⟩ := by kernel_rfl
theorem o31 : okC 2 c31 = true := by kernel_rfl

@[reducible] def c34r0 : List J := [⟨none, (some 0), false, (.mov (.const (.slice none 0 0)))⟩]
@[reducible] def c34s1 : C := (.ops c34r0 (some []))
@[reducible] def c34r2 : List J := [⟨none, (some 1), false, (.bld [(.int .u8 0), (.string ⟨#[]⟩), (.int .i64 0), (.int .i64 0)] [(0, 1), (1, 1), (2, 1), (3, 1)] [(0, (.const (.int .u8 3))), (1, (.const (.string (btx [115, 104, 105, 101, 108, 100]))))])⟩, ⟨none, (some 2), false, (.bsl [(.int .u8 0), (.string ⟨#[]⟩), (.int .i64 0), (.int .i64 0)] 1 4 63 [(0, (.tmp 1))])⟩, ⟨none, (some 0), false, (.mov (.tmp 2))⟩]
@[reducible] def c34s3 : C := (.ops c34r2 (some [0]))
@[reducible] def c34s4 : C := (.seq c34s3 .ret)
@[reducible] def c34 : C := (.seq c34s1 c34s4)
theorem f34 : compF Go.Proofs.Tryd.prog 34 = some ⟨3, strip c34, [(.tmp 0)]⟩ := by kernel_rfl
theorem o34 : okC 3 c34 = true := by kernel_rfl

@[reducible] def c35r0 : List J := [⟨none, (some 0), false, (.mov (.const (.slice none 0 0)))⟩]
@[reducible] def c35s1 : C := (.ops c35r0 (some []))
@[reducible] def c35r2 : List J := [⟨none, (some 1), false, (.bsl [(.int .u8 0)] 1 1 59 [(0, (.const (.int .u8 2)))])⟩, ⟨none, (some 0), false, (.mov (.tmp 1))⟩]
@[reducible] def c35s3 : C := (.ops c35r2 (some [0]))
@[reducible] def c35s4 : C := (.seq c35s3 .ret)
@[reducible] def c35 : C := (.seq c35s1 c35s4)
theorem f35 : compF Go.Proofs.Tryd.prog 35 = some ⟨2, strip c35, [(.tmp 0)]⟩ := by kernel_rfl
theorem o35 : okC 2 c35 = true := by kernel_rfl

@[reducible] def c68r0 : List J := [⟨none, (some 8), false, (.alloc [(.int .u8 0), (.int .u8 0), (.int .u8 0), (.int .i64 0), (.int .u8 0), (.int .u8 0), (.int .u8 0), (.string ⟨#[]⟩)] 8 72)⟩]
@[reducible] def c68s1 : C := (.ops c68r0 (some [0, 1, 2, 3, 8]))
@[reducible] def c68r2 : List J := [⟨none, (some 9), false, (.mov (.tmp 0))⟩, ⟨none, (some 10), false, (.mov (.tmp 1))⟩, ⟨none, (some 11), false, (.mov (.tmp 2))⟩, ⟨none, (some 12), false, (.mov (.tmp 3))⟩, ⟨none, (some 13), false, (.bld [(.int .u8 0), (.int .u8 0), (.int .u8 0), (.int .i64 0), (.int .u8 0), (.int .u8 0), (.int .u8 0), (.string ⟨#[]⟩)] [(0, 1), (1, 1), (2, 1), (3, 1), (4, 1), (5, 1), (6, 1), (7, 1)] [(0, (.tmp 9)), (1, (.tmp 10)), (2, (.tmp 11)), (3, (.tmp 12))])⟩, ⟨none, none, false, (.st 8 (.tmp 8) (.tmp 13))⟩]
@[reducible] def c68s3 : C := (.ops c68r2 (some [8]))
@[reducible] def c68s4 : C := (.seq c68s3 .ret)
@[reducible] def c68 : C := (.seq c68s1 c68s4)
theorem f68 : compF Go.Proofs.Tryd.prog 68 = some ⟨14, strip c68, [(.cell 8 72)]⟩ := by kernel_rfl
theorem o68 : okC 14 c68 = true := by kernel_rfl

end Go.Proofs.YtdgbnaignpploaaDoor.k
