/- PRINTED BY symgen.py: the compiled code of functions 8 37 38 39 40 75. -/
import Derived.Test.YtdgbnaignpploaaDoorChecked
import Derived.Test.YtdgbnaignpploaaDoorSy
namespace Go.Proofs.YtdgbnaignpploaaDoor.k
open Go.Sym
set_option linter.unusedVariables false
set_option maxRecDepth 100000

@[reducible] def c8r0 : List J := [⟨none, (some 4), false, (.mov (.const (.bool false)))⟩]
@[reducible] def c8s1 : C := (.ops c8r0 (some [0, 1]))
@[reducible] def c8r2 : List J := [⟨none, (some 25), false, (.call (.func 37) [])⟩, ⟨none, (some 5), false, (.mov (.tmp 25))⟩]
@[reducible] def c8s3 : C := (.ops c8r2 (some [0, 1, 5]))
@[reducible] def c8r4 : List J := [⟨none, (some 26), false, (.mov (.tmp 1))⟩]
@[reducible] def c8s5 : C := (.ops c8r4 (some [0, 1, 5, 26]))
@[reducible] def c8r6 : List J := [⟨none, (some 27), false, (.mov (.tmp 5))⟩, ⟨none, (some 28), false, (.call (.func 38) [])⟩, ⟨none, (some 29), false, (.bsl [(.string ⟨#[]⟩), (.int .u8 0), (.int .u8 0), (.int .i64 0), (.int .i64 0), (.int .i64 0), (.int .u16 0), (.bool false), (.slice none 0 0)] 1 9 51 [(0, (.tmp 28))])⟩, ⟨none, (some 30), false, (.app false 9 80 51 (.tmp 27) (.tmp 29))⟩, ⟨none, (some 5), false, (.mov (.tmp 30))⟩]
@[reducible] def c8s7 : C := (.ops c8r6 (some [0, 1, 5]))
@[reducible] def c8s8 : C := (.cond (.tmp 26) c8s7 .skip)
@[reducible] def c8s9 : C := (.seq c8s5 c8s8)
@[reducible] def c8r10 : List J := [⟨none, (some 6), false, (.mov (.const (.int .i64 0)))⟩]
@[reducible] def c8s11 : C := (.ops c8r10 (some [0, 1, 5, 6]))
@[reducible] def c8r12 : List J := [⟨none, (some 31), false, (.mov (.tmp 6))⟩, ⟨none, (some 32), false, (.mov (.tmp 5))⟩, ⟨none, (some 33), false, (.len (.tmp 32))⟩, ⟨none, (some 34), false, (.cmp .lss (.tmp 31) (.tmp 33))⟩, ⟨none, (some 35), false, (.mov (.tmp 34))⟩, ⟨(some ((some 35), true)), (some 36), false, (.mov (.tmp 6))⟩, ⟨(some ((some 35), true)), (some 37), false, (.cmp .lss (.tmp 36) (.const (.int .i64 6)))⟩, ⟨none, (some 38), false, (.pick (.tmp 35) (.tmp 37) (.const (.bool false)))⟩]
@[reducible] def c8s13 : C := (.ops c8r12 (some [0, 1, 5, 6, 38]))
@[reducible] def c8s14 : C := (.cond (.tmp 38) .skip (.exit 0))
@[reducible] def c8s15 : C := (.seq c8s13 c8s14)
@[reducible] def c8r16 : List J := [⟨none, (some 41), false, (.mov (.tmp 5))⟩, ⟨none, (some 42), false, (.mov (.tmp 6))⟩, ⟨none, (some 43), false, (.ixs 9 (.tmp 41) (.tmp 42))⟩, ⟨none, (some 44), false, (.ldN 9 (.tmp 43))⟩, ⟨none, (some 45), false, (.call (.func 32) [(.tmp 44)])⟩, ⟨none, (some 46), false, (.cmp .neq (.tmp 45) (.const (.int .i64 0)))⟩, ⟨none, (some 47), false, (.mov (.tmp 46))⟩, ⟨(some ((some 47), false)), (some 48), false, (.mov (.tmp 5))⟩, ⟨(some ((some 47), false)), (some 49), false, (.mov (.tmp 6))⟩, ⟨(some ((some 47), false)), (some 50), false, (.ixs 9 (.tmp 48) (.tmp 49))⟩, ⟨(some ((some 47), false)), (some 51), false, (.faddr 1 (.tmp 50))⟩, ⟨(some ((some 47), false)), (some 52), false, (.ld1 (.tmp 51))⟩, ⟨(some ((some 47), false)), (some 53), false, (.cmp .neq (.tmp 52) (.const (.int .u8 5)))⟩, ⟨none, (some 54), false, (.pick (.tmp 47) (.const (.bool true)) (.tmp 53))⟩]
@[reducible] def c8s17 : C := (.ops c8r16 (some [0, 1, 5, 6, 54]))
@[reducible] def c8r18 : List J := [⟨none, (some 4), false, (.mov (.const (.bool false)))⟩]
@[reducible] def c8s19 : C := (.ops c8r18 (some [4]))
@[reducible] def c8s20 : C := (.seq c8s19 .ret)
@[reducible] def c8s21 : C := (.cond (.tmp 54) c8s20 .skip)
@[reducible] def c8s22 : C := (.seq c8s17 c8s21)
@[reducible] def c8s23 : C := (.block 1 c8s22)
@[reducible] def c8r24 : List J := [⟨none, (some 39), false, (.mov (.tmp 6))⟩, ⟨none, (some 40), false, (.arith .add (.tmp 39) (.const (.int .i64 1)))⟩, ⟨none, (some 6), false, (.mov (.tmp 40))⟩]
@[reducible] def c8s25 : C := (.ops c8r24 (some [0, 1, 5, 6]))
@[reducible] def c8s26 : C := (.seq c8s23 c8s25)
@[reducible] def c8s27 : C := (.seq c8s15 c8s26)
@[reducible] def c8s28 : C := (.loop c8s27)
@[reducible] def c8s29 : C := (.block 0 c8s28)
@[reducible] def c8s30 : C := (.seq c8s11 c8s29)
@[reducible] def c8r31 : List J := [⟨none, (some 55), false, (.call (.func 33) [])⟩, ⟨none, (some 56), false, (.call (.func 33) [])⟩, ⟨none, (some 7), false, (.mov (.tmp 55))⟩, ⟨none, (some 8), false, (.mov (.tmp 56))⟩]
@[reducible] def c8s32 : C := (.ops c8r31 (some [0, 1, 5, 7, 8]))
@[reducible] def c8r33 : List J := [⟨none, (some 9), false, (.mov (.const (.int .i64 0)))⟩]
@[reducible] def c8s34 : C := (.ops c8r33 (some [0, 1, 5, 7, 8, 9]))
@[reducible] def c8r35 : List J := [⟨none, (some 57), false, (.mov (.tmp 9))⟩, ⟨none, (some 58), false, (.mov (.tmp 5))⟩, ⟨none, (some 59), false, (.len (.tmp 58))⟩, ⟨none, (some 60), false, (.cmp .lss (.tmp 57) (.tmp 59))⟩]
@[reducible] def c8s36 : C := (.ops c8r35 (some [0, 1, 5, 7, 8, 9, 60]))
@[reducible] def c8s37 : C := (.cond (.tmp 60) .skip (.exit 2))
@[reducible] def c8s38 : C := (.seq c8s36 c8s37)
@[reducible] def c8r39 : List J := [⟨none, (some 63), false, (.mov (.tmp 7))⟩, ⟨none, (some 64), false, (.mov (.tmp 5))⟩, ⟨none, (some 65), false, (.mov (.tmp 9))⟩, ⟨none, (some 66), false, (.ixs 9 (.tmp 64) (.tmp 65))⟩, ⟨none, (some 67), false, (.ldN 9 (.tmp 66))⟩, ⟨none, (some 68), false, (.call (.func 19) [(.tmp 63), (.tmp 67)])⟩, ⟨none, (some 69), false, (.cmp .neq (.tmp 68) (.const (.int .i64 0)))⟩]
@[reducible] def c8s40 : C := (.ops c8r39 (some [0, 1, 5, 7, 8, 9, 69]))
@[reducible] def c8r41 : List J := [⟨none, (some 4), false, (.mov (.const (.bool false)))⟩]
@[reducible] def c8s42 : C := (.ops c8r41 (some [4]))
@[reducible] def c8s43 : C := (.seq c8s42 .ret)
@[reducible] def c8s44 : C := (.cond (.tmp 69) c8s43 .skip)
@[reducible] def c8s45 : C := (.seq c8s40 c8s44)
@[reducible] def c8s46 : C := (.block 3 c8s45)
@[reducible] def c8r47 : List J := [⟨none, (some 61), false, (.mov (.tmp 9))⟩, ⟨none, (some 62), false, (.arith .add (.tmp 61) (.const (.int .i64 1)))⟩, ⟨none, (some 9), false, (.mov (.tmp 62))⟩]
@[reducible] def c8s48 : C := (.ops c8r47 (some [0, 1, 5, 7, 8, 9]))
@[reducible] def c8s49 : C := (.seq c8s46 c8s48)
@[reducible] def c8s50 : C := (.seq c8s38 c8s49)
@[reducible] def c8s51 : C := (.loop c8s50)
@[reducible] def c8s52 : C := (.block 2 c8s51)
@[reducible] def c8s53 : C := (.seq c8s34 c8s52)
@[reducible] def c8r54 : List J := [⟨none, (some 10), false, (.mov (.const (.int .i64 0)))⟩]
@[reducible] def c8s55 : C := (.ops c8r54 (some [0, 1, 5, 7, 8, 10]))
@[reducible] def c8r56 : List J := [⟨none, (some 70), false, (.mov (.tmp 10))⟩, ⟨none, (some 71), false, (.mov (.tmp 0))⟩, ⟨none, (some 72), false, (.len (.tmp 71))⟩, ⟨none, (some 73), false, (.cmp .lss (.tmp 70) (.tmp 72))⟩, ⟨none, (some 74), false, (.mov (.tmp 73))⟩, ⟨(some ((some 74), true)), (some 75), false, (.mov (.tmp 10))⟩, ⟨(some ((some 74), true)), (some 76), false, (.cmp .lss (.tmp 75) (.const (.int .i64 100)))⟩, ⟨none, (some 77), false, (.pick (.tmp 74) (.tmp 76) (.const (.bool false)))⟩]
@[reducible] def c8s57 : C := (.ops c8r56 (some [0, 1, 5, 7, 8, 10, 77]))
@[reducible] def c8s58 : C := (.cond (.tmp 77) .skip (.exit 4))
@[reducible] def c8s59 : C := (.seq c8s57 c8s58)
@[reducible] def c8r60 : List (J × Bool) := [(⟨none, (some 80), false, (.mov (.tmp 0))⟩, false), (⟨none, (some 81), false, (.mov (.tmp 10))⟩, false), (⟨none, (some 82), false, (.ixs 1 (.tmp 80) (.tmp 81))⟩, false), (⟨none, (some 83), false, (.ld1 (.tmp 82))⟩, false), (⟨none, (some 84), false, (.mov (.tmp 5))⟩, false), (⟨none, (some 85), false, (.len (.tmp 84))⟩, false), (⟨none, (some 87), false, (.mov (.tmp 10))⟩, false), (⟨none, (some 88), false, (.mov (.tmp 5))⟩, false), (⟨none, (some 89), false, (.len (.tmp 88))⟩, false), (⟨none, (some 90), false, (.div .rem (.tmp 87) (.tmp 89))⟩, false), (⟨none, (some 86), false, (.call (.func 24) [(.tmp 83), (.tmp 85)])⟩, true), (⟨none, (some 11), false, (.mov (.tmp 86))⟩, false)]
@[reducible] def c8r61 : List J := [⟨none, (some 12), false, (.mov (.tmp 90))⟩]
@[reducible] def c8s62 : C := (.plan c8r60 c8r61 (some [0, 1, 5, 7, 8, 10, 11, 12]))
@[reducible] def c8r63 : List (J × Bool) := [(⟨none, (some 91), false, (.mov (.tmp 5))⟩, false), (⟨none, (some 92), false, (.mov (.tmp 11))⟩, false), (⟨none, (some 93), false, (.mov (.tmp 5))⟩, false), (⟨none, (some 94), false, (.mov (.tmp 12))⟩, false), (⟨none, (some 95), false, (.mov (.tmp 5))⟩, false), (⟨none, (some 96), false, (.mov (.tmp 12))⟩, false), (⟨none, (some 97), false, (.ixs 9 (.tmp 95) (.tmp 96))⟩, false), (⟨none, (some 98), false, (.ldN 9 (.tmp 97))⟩, false), (⟨none, (some 99), false, (.mov (.tmp 5))⟩, false), (⟨none, (some 100), false, (.mov (.tmp 11))⟩, false), (⟨none, (some 101), false, (.ixs 9 (.tmp 99) (.tmp 100))⟩, false), (⟨none, (some 102), false, (.ldN 9 (.tmp 101))⟩, false), (⟨none, (some 103), false, (.ixs 9 (.tmp 91) (.tmp 92))⟩, false), (⟨none, none, true, (.st 9 (.tmp 103) (.tmp 98))⟩, true)]
@[reducible] def c8r64 : List J := [⟨none, (some 104), false, (.ixs 9 (.tmp 93) (.tmp 94))⟩, ⟨none, none, false, (.st 9 (.tmp 104) (.tmp 102))⟩]
@[reducible] def c8s65 : C := (.plan c8r63 c8r64 (some [0, 1, 5, 7, 8, 10]))
@[reducible] def c8s66 : C := (.seq c8s62 c8s65)
@[reducible] def c8s67 : C := (.block 5 c8s66)
@[reducible] def c8r68 : List J := [⟨none, (some 78), false, (.mov (.tmp 10))⟩, ⟨none, (some 79), false, (.arith .add (.tmp 78) (.const (.int .i64 1)))⟩, ⟨none, (some 10), false, (.mov (.tmp 79))⟩]
@[reducible] def c8s69 : C := (.ops c8r68 (some [0, 1, 5, 7, 8, 10]))
@[reducible] def c8s70 : C := (.seq c8s67 c8s69)
@[reducible] def c8s71 : C := (.seq c8s59 c8s70)
@[reducible] def c8s72 : C := (.loop c8s71)
@[reducible] def c8s73 : C := (.block 4 c8s72)
@[reducible] def c8s74 : C := (.seq c8s55 c8s73)
@[reducible] def c8r75 : List J := [⟨none, (some 13), false, (.mov (.const (.int .i64 0)))⟩]
@[reducible] def c8s76 : C := (.ops c8r75 (some [1, 5, 7, 8, 13]))
@[reducible] def c8r77 : List J := [⟨none, (some 105), false, (.mov (.tmp 13))⟩, ⟨none, (some 106), false, (.mov (.tmp 5))⟩, ⟨none, (some 107), false, (.len (.tmp 106))⟩, ⟨none, (some 108), false, (.cmp .lss (.tmp 105) (.tmp 107))⟩]
@[reducible] def c8s78 : C := (.ops c8r77 (some [1, 5, 7, 8, 13, 108]))
@[reducible] def c8s79 : C := (.cond (.tmp 108) .skip (.exit 6))
@[reducible] def c8s80 : C := (.seq c8s78 c8s79)
@[reducible] def c8r81 : List J := [⟨none, (some 111), false, (.mov (.tmp 8))⟩, ⟨none, (some 112), false, (.mov (.tmp 5))⟩, ⟨none, (some 113), false, (.mov (.tmp 13))⟩, ⟨none, (some 114), false, (.ixs 9 (.tmp 112) (.tmp 113))⟩, ⟨none, (some 115), false, (.ldN 9 (.tmp 114))⟩, ⟨none, (some 116), false, (.call (.func 19) [(.tmp 111), (.tmp 115)])⟩, ⟨none, (some 117), false, (.cmp .neq (.tmp 116) (.const (.int .i64 0)))⟩]
@[reducible] def c8s82 : C := (.ops c8r81 (some [1, 5, 7, 8, 13, 117]))
@[reducible] def c8r83 : List J := [⟨none, (some 4), false, (.mov (.const (.bool false)))⟩]
@[reducible] def c8s84 : C := (.ops c8r83 (some [4]))
@[reducible] def c8s85 : C := (.seq c8s84 .ret)
@[reducible] def c8s86 : C := (.cond (.tmp 117) c8s85 .skip)
@[reducible] def c8s87 : C := (.seq c8s82 c8s86)
@[reducible] def c8s88 : C := (.block 7 c8s87)
@[reducible] def c8r89 : List J := [⟨none, (some 109), false, (.mov (.tmp 13))⟩, ⟨none, (some 110), false, (.arith .add (.tmp 109) (.const (.int .i64 1)))⟩, ⟨none, (some 13), false, (.mov (.tmp 110))⟩]
@[reducible] def c8s90 : C := (.ops c8r89 (some [1, 5, 7, 8, 13]))
@[reducible] def c8s91 : C := (.seq c8s88 c8s90)
@[reducible] def c8s92 : C := (.seq c8s80 c8s91)
@[reducible] def c8s93 : C := (.loop c8s92)
@[reducible] def c8s94 : C := (.block 6 c8s93)
@[reducible] def c8s95 : C := (.seq c8s76 c8s94)
@[reducible] def c8r96 : List J := [⟨none, (some 118), false, (.call (.func 39) [])⟩, ⟨none, (some 14), false, (.mov (.tmp 118))⟩]
@[reducible] def c8s97 : C := (.ops c8r96 (some [1, 5, 7, 8, 14]))
@[reducible] def c8r98 : List J := [⟨none, (some 119), false, (.call (.func 40) [])⟩, ⟨none, (some 15), false, (.mov (.tmp 119))⟩]
@[reducible] def c8s99 : C := (.ops c8r98 (some [1, 5, 7, 8, 14, 15]))
@[reducible] def c8r100 : List J := [⟨none, (some 16), false, (.mov (.const (.int .i64 0)))⟩]
@[reducible] def c8s101 : C := (.ops c8r100 (some [1, 5, 7, 8, 14, 15, 16]))
@[reducible] def c8r102 : List J := [⟨none, (some 120), false, (.mov (.tmp 16))⟩, ⟨none, (some 121), false, (.mov (.tmp 14))⟩, ⟨none, (some 122), false, (.len (.tmp 121))⟩, ⟨none, (some 123), false, (.cmp .lss (.tmp 120) (.tmp 122))⟩]
@[reducible] def c8s103 : C := (.ops c8r102 (some [1, 5, 7, 8, 14, 15, 16, 123]))
@[reducible] def c8s104 : C := (.cond (.tmp 123) .skip (.exit 8))
@[reducible] def c8s105 : C := (.seq c8s103 c8s104)
@[reducible] def c8r106 : List J := [⟨none, (some 126), false, (.mov (.tmp 7))⟩, ⟨none, (some 127), false, (.mov (.tmp 14))⟩, ⟨none, (some 128), false, (.mov (.tmp 16))⟩, ⟨none, (some 129), false, (.ixs 4 (.tmp 127) (.tmp 128))⟩, ⟨none, (some 130), false, (.ldN 4 (.tmp 129))⟩, ⟨none, (some 131), false, (.call (.func 21) [(.tmp 126), (.tmp 130)])⟩, ⟨none, (some 132), false, (.cmp .neq (.tmp 131) (.const (.int .i64 0)))⟩, ⟨none, (some 133), false, (.mov (.tmp 132))⟩, ⟨(some ((some 133), false)), (some 134), false, (.mov (.tmp 8))⟩, ⟨(some ((some 133), false)), (some 135), false, (.mov (.tmp 14))⟩, ⟨(some ((some 133), false)), (some 136), false, (.mov (.tmp 14))⟩, ⟨(some ((some 133), false)), (some 137), false, (.len (.tmp 136))⟩, ⟨(some ((some 133), false)), (some 138), false, (.arith .sub (.tmp 137) (.const (.int .i64 1)))⟩, ⟨(some ((some 133), false)), (some 139), false, (.mov (.tmp 16))⟩, ⟨(some ((some 133), false)), (some 140), false, (.arith .sub (.tmp 138) (.tmp 139))⟩, ⟨(some ((some 133), false)), (some 141), false, (.ixs 4 (.tmp 135) (.tmp 140))⟩, ⟨(some ((some 133), false)), (some 142), false, (.ldN 4 (.tmp 141))⟩, ⟨(some ((some 133), false)), (some 143), false, (.call (.func 21) [(.tmp 134), (.tmp 142)])⟩, ⟨(some ((some 133), false)), (some 144), false, (.cmp .neq (.tmp 143) (.const (.int .i64 0)))⟩, ⟨none, (some 145), false, (.pick (.tmp 133) (.const (.bool true)) (.tmp 144))⟩]
@[reducible] def c8s107 : C := (.ops c8r106 (some [1, 5, 7, 8, 14, 15, 16, 145]))
@[reducible] def c8r108 : List J := [⟨none, (some 4), false, (.mov (.const (.bool false)))⟩]
@[reducible] def c8s109 : C := (.ops c8r108 (some [4]))
@[reducible] def c8s110 : C := (.seq c8s109 .ret)
@[reducible] def c8s111 : C := (.cond (.tmp 145) c8s110 .skip)
@[reducible] def c8s112 : C := (.seq c8s107 c8s111)
@[reducible] def c8s113 : C := (.block 9 c8s112)
@[reducible] def c8r114 : List J := [⟨none, (some 124), false, (.mov (.tmp 16))⟩, ⟨none, (some 125), false, (.arith .add (.tmp 124) (.const (.int .i64 1)))⟩, ⟨none, (some 16), false, (.mov (.tmp 125))⟩]
@[reducible] def c8s115 : C := (.ops c8r114 (some [1, 5, 7, 8, 14, 15, 16]))
@[reducible] def c8s116 : C := (.seq c8s113 c8s115)
@[reducible] def c8s117 : C := (.seq c8s105 c8s116)
@[reducible] def c8s118 : C := (.loop c8s117)
@[reducible] def c8s119 : C := (.block 8 c8s118)
@[reducible] def c8s120 : C := (.seq c8s101 c8s119)
@[reducible] def c8r121 : List J := [⟨none, (some 17), false, (.mov (.const (.int .i64 0)))⟩]
@[reducible] def c8s122 : C := (.ops c8r121 (some [1, 5, 7, 8, 15, 17]))
@[reducible] def c8r123 : List J := [⟨none, (some 146), false, (.mov (.tmp 17))⟩, ⟨none, (some 147), false, (.mov (.tmp 15))⟩, ⟨none, (some 148), false, (.len (.tmp 147))⟩, ⟨none, (some 149), false, (.cmp .lss (.tmp 146) (.tmp 148))⟩]
@[reducible] def c8s124 : C := (.ops c8r123 (some [1, 5, 7, 8, 15, 17, 149]))
@[reducible] def c8s125 : C := (.cond (.tmp 149) .skip (.exit 10))
@[reducible] def c8s126 : C := (.seq c8s124 c8s125)
@[reducible] def c8r127 : List (J × Bool) := [(⟨none, (some 152), false, (.mov (.tmp 7))⟩, false), (⟨none, (some 153), false, (.mov (.tmp 15))⟩, false), (⟨none, (some 154), false, (.mov (.tmp 17))⟩, false), (⟨none, (some 155), false, (.ixs 1 (.tmp 153) (.tmp 154))⟩, false), (⟨none, (some 156), false, (.ld1 (.tmp 155))⟩, false), (⟨none, (some 157), false, (.mov (.tmp 17))⟩, false), (⟨none, (some 158), false, (.arith .add (.const (.int .i64 97)) (.tmp 157))⟩, false), (⟨none, (some 159), false, (.cnv .u8 (.tmp 158))⟩, false), (⟨none, (some 160), false, (.bsl [(.int .u8 0)] 2 1 5 [(0, (.const (.int .u8 116))), (1, (.tmp 159))])⟩, true), (⟨none, (some 161), false, (.bts (.tmp 160))⟩, true), (⟨none, (some 162), false, (.call (.func 20) [(.tmp 152), (.tmp 156), (.tmp 161)])⟩, true), (⟨none, (some 163), false, (.cmp .neq (.tmp 162) (.const (.int .i64 0)))⟩, false), (⟨none, (some 164), false, (.mov (.tmp 163))⟩, false), (⟨(some ((some 164), false)), (some 165), false, (.mov (.tmp 8))⟩, false), (⟨(some ((some 164), false)), (some 166), false, (.mov (.tmp 15))⟩, false), (⟨(some ((some 164), false)), (some 167), false, (.mov (.tmp 17))⟩, false), (⟨(some ((some 164), false)), (some 168), false, (.ixs 1 (.tmp 166) (.tmp 167))⟩, false), (⟨(some ((some 164), false)), (some 169), false, (.ld1 (.tmp 168))⟩, false), (⟨(some ((some 164), false)), (some 170), false, (.mov (.tmp 17))⟩, false), (⟨(some ((some 164), false)), (some 171), false, (.arith .add (.const (.int .i64 97)) (.tmp 170))⟩, false), (⟨(some ((some 164), false)), (some 172), false, (.cnv .u8 (.tmp 171))⟩, false), (⟨(some ((some 164), false)), (some 173), false, (.bsl [(.int .u8 0)] 2 1 5 [(0, (.const (.int .u8 116))), (1, (.tmp 172))])⟩, true), (⟨(some ((some 164), false)), (some 174), false, (.bts (.tmp 173))⟩, true)]
@[reducible] def c8r128 : List J := [⟨(some ((some 164), false)), (some 175), false, (.call (.func 20) [(.tmp 165), (.tmp 169), (.tmp 174)])⟩, ⟨(some ((some 164), false)), (some 176), false, (.cmp .neq (.tmp 175) (.const (.int .i64 0)))⟩, ⟨none, (some 177), false, (.pick (.tmp 164) (.const (.bool true)) (.tmp 176))⟩]
@[reducible] def c8s129 : C := (.plan c8r127 c8r128 (some [1, 5, 7, 8, 15, 17, 177]))
@[reducible] def c8r130 : List J := [⟨none, (some 4), false, (.mov (.const (.bool false)))⟩]
@[reducible] def c8s131 : C := (.ops c8r130 (some [4]))
@[reducible] def c8s132 : C := (.seq c8s131 .ret)
@[reducible] def c8s133 : C := (.cond (.tmp 177) c8s132 .skip)
@[reducible] def c8s134 : C := (.seq c8s129 c8s133)
@[reducible] def c8s135 : C := (.block 11 c8s134)
@[reducible] def c8r136 : List J := [⟨none, (some 150), false, (.mov (.tmp 17))⟩, ⟨none, (some 151), false, (.arith .add (.tmp 150) (.const (.int .i64 1)))⟩, ⟨none, (some 17), false, (.mov (.tmp 151))⟩]
@[reducible] def c8s137 : C := (.ops c8r136 (some [1, 5, 7, 8, 15, 17]))
@[reducible] def c8s138 : C := (.seq c8s135 c8s137)
@[reducible] def c8s139 : C := (.seq c8s126 c8s138)
@[reducible] def c8s140 : C := (.loop c8s139)
@[reducible] def c8s141 : C := (.block 10 c8s140)
@[reducible] def c8s142 : C := (.seq c8s122 c8s141)
@[reducible] def c8r143 : List J := [⟨none, (some 178), false, (.mov (.tmp 7))⟩, ⟨none, (some 179), false, (.call (.func 16) [(.tmp 178)])⟩, ⟨none, (some 180), false, (.mov (.tmp 8))⟩, ⟨none, (some 181), false, (.call (.func 16) [(.tmp 180)])⟩, ⟨none, (some 18), false, (.mov (.tmp 179))⟩, ⟨none, (some 19), false, (.mov (.tmp 181))⟩]
@[reducible] def c8s144 : C := (.ops c8r143 (some [1, 5, 7, 8, 18, 19]))
@[reducible] def c8r145 : List J := [⟨none, (some 182), false, (.mov (.tmp 1))⟩, ⟨none, (some 183), false, (.un .not (.tmp 182))⟩]
@[reducible] def c8s146 : C := (.ops c8r145 (some [5, 7, 8, 18, 19, 183]))
@[reducible] def c8r147 : List J := [⟨none, (some 184), false, (.mov (.tmp 18))⟩, ⟨none, (some 185), false, (.cmp .eql (.tmp 184) (.const (.int .i64 6)))⟩, ⟨none, (some 186), false, (.mov (.tmp 185))⟩, ⟨(some ((some 186), true)), (some 187), false, (.mov (.tmp 19))⟩, ⟨(some ((some 186), true)), (some 188), false, (.cmp .eql (.tmp 187) (.const (.int .i64 6)))⟩, ⟨none, (some 189), false, (.pick (.tmp 186) (.tmp 188) (.const (.bool false)))⟩, ⟨none, (some 190), false, (.mov (.tmp 189))⟩, ⟨(some ((some 190), true)), (some 191), false, (.call (.func 41) [])⟩, ⟨none, (some 192), false, (.pick (.tmp 190) (.tmp 191) (.const (.bool false)))⟩, ⟨none, (some 4), false, (.mov (.tmp 192))⟩]
@[reducible] def c8s148 : C := (.ops c8r147 (some [4]))
@[reducible] def c8s149 : C := (.seq c8s148 .ret)
@[reducible] def c8s150 : C := (.cond (.tmp 183) c8s149 .skip)
@[reducible] def c8s151 : C := (.seq c8s146 c8s150)
@[reducible] def c8r152 : List J := [⟨none, (some 20), false, (.mov (.const (.int .i64 0)))⟩]
@[reducible] def c8s153 : C := (.ops c8r152 (some [5, 7, 8, 18, 19, 20]))
@[reducible] def c8r154 : List J := [⟨none, (some 193), false, (.mov (.tmp 20))⟩, ⟨none, (some 194), false, (.mov (.tmp 5))⟩, ⟨none, (some 195), false, (.len (.tmp 194))⟩, ⟨none, (some 196), false, (.cmp .lss (.tmp 193) (.tmp 195))⟩]
@[reducible] def c8s155 : C := (.ops c8r154 (some [5, 7, 8, 18, 19, 20, 196]))
@[reducible] def c8s156 : C := (.cond (.tmp 196) .skip (.exit 12))
@[reducible] def c8s157 : C := (.seq c8s155 c8s156)
@[reducible] def c8r158 : List J := [⟨none, (some 200), false, (.mov (.tmp 7))⟩, ⟨none, (some 201), false, (.mov (.tmp 5))⟩, ⟨none, (some 202), false, (.mov (.tmp 20))⟩, ⟨none, (some 203), false, (.ixs 9 (.tmp 201) (.tmp 202))⟩, ⟨none, (some 204), false, (.faddr 0 (.tmp 203))⟩, ⟨none, (some 205), false, (.ld1 (.tmp 204))⟩, ⟨none, (some 206), false, (.call (.func 23) [(.tmp 200), (.tmp 205)])⟩, ⟨none, (some 199), false, (.mov (.tmp 206))⟩, ⟨none, (some 207), false, (.ext 0 (.tmp 199))⟩, ⟨none, (some 208), false, (.ext 1 (.tmp 199))⟩, ⟨none, (some 21), false, (.mov (.tmp 207))⟩, ⟨none, (some 22), false, (.mov (.tmp 208))⟩]
@[reducible] def c8s159 : C := (.ops c8r158 (some [5, 7, 8, 18, 19, 20, 21, 22]))
@[reducible] def c8r160 : List J := [⟨none, (some 210), false, (.mov (.tmp 8))⟩, ⟨none, (some 211), false, (.mov (.tmp 5))⟩, ⟨none, (some 212), false, (.mov (.tmp 20))⟩, ⟨none, (some 213), false, (.ixs 9 (.tmp 211) (.tmp 212))⟩, ⟨none, (some 214), false, (.faddr 0 (.tmp 213))⟩, ⟨none, (some 215), false, (.ld1 (.tmp 214))⟩, ⟨none, (some 216), false, (.call (.func 23) [(.tmp 210), (.tmp 215)])⟩, ⟨none, (some 209), false, (.mov (.tmp 216))⟩, ⟨none, (some 217), false, (.ext 0 (.tmp 209))⟩, ⟨none, (some 218), false, (.ext 1 (.tmp 209))⟩, ⟨none, (some 23), false, (.mov (.tmp 217))⟩, ⟨none, (some 24), false, (.mov (.tmp 218))⟩]
@[reducible] def c8s161 : C := (.ops c8r160 (some [5, 7, 8, 18, 19, 20, 21, 22, 23, 24]))
@[reducible] def c8r162 : List J := [⟨none, (some 219), false, (.mov (.tmp 22))⟩, ⟨none, (some 220), false, (.cmp .neq (.tmp 219) (.const (.int .i64 0)))⟩, ⟨none, (some 221), false, (.mov (.tmp 220))⟩, ⟨(some ((some 221), false)), (some 222), false, (.mov (.tmp 24))⟩, ⟨(some ((some 221), false)), (some 223), false, (.cmp .neq (.tmp 222) (.const (.int .i64 0)))⟩, ⟨none, (some 224), false, (.pick (.tmp 221) (.const (.bool true)) (.tmp 223))⟩, ⟨none, (some 225), false, (.mov (.tmp 224))⟩, ⟨(some ((some 225), false)), (some 226), false, (.mov (.tmp 21))⟩, ⟨(some ((some 225), false)), (some 227), false, (.mov (.tmp 23))⟩, ⟨(some ((some 225), false)), (some 228), false, (.cmp .neq (.tmp 226) (.tmp 227))⟩, ⟨none, (some 229), false, (.pick (.tmp 225) (.const (.bool true)) (.tmp 228))⟩]
@[reducible] def c8s163 : C := (.ops c8r162 (some [5, 7, 8, 18, 19, 20, 229]))
@[reducible] def c8r164 : List J := [⟨none, (some 4), false, (.mov (.const (.bool false)))⟩]
@[reducible] def c8s165 : C := (.ops c8r164 (some [4]))
@[reducible] def c8s166 : C := (.seq c8s165 .ret)
@[reducible] def c8s167 : C := (.cond (.tmp 229) c8s166 .skip)
@[reducible] def c8s168 : C := (.seq c8s163 c8s167)
@[reducible] def c8s169 : C := (.seq c8s161 c8s168)
@[reducible] def c8s170 : C := (.seq c8s159 c8s169)
@[reducible] def c8s171 : C := (.block 13 c8s170)
@[reducible] def c8r172 : List J := [⟨none, (some 197), false, (.mov (.tmp 20))⟩, ⟨none, (some 198), false, (.arith .add (.tmp 197) (.const (.int .i64 1)))⟩, ⟨none, (some 20), false, (.mov (.tmp 198))⟩]
@[reducible] def c8s173 : C := (.ops c8r172 (some [5, 7, 8, 18, 19, 20]))
@[reducible] def c8s174 : C := (.seq c8s171 c8s173)
@[reducible] def c8s175 : C := (.seq c8s157 c8s174)
@[reducible] def c8s176 : C := (.loop c8s175)
@[reducible] def c8s177 : C := (.block 12 c8s176)
@[reducible] def c8s178 : C := (.seq c8s153 c8s177)
@[reducible] def c8r179 : List J := [⟨none, (some 230), false, (.mov (.tmp 18))⟩, ⟨none, (some 231), false, (.cmp .eql (.tmp 230) (.const (.int .i64 0)))⟩, ⟨none, (some 232), false, (.mov (.tmp 231))⟩, ⟨(some ((some 232), true)), (some 233), false, (.mov (.tmp 19))⟩, ⟨(some ((some 232), true)), (some 234), false, (.cmp .eql (.tmp 233) (.const (.int .i64 0)))⟩, ⟨none, (some 235), false, (.pick (.tmp 232) (.tmp 234) (.const (.bool false)))⟩, ⟨none, (some 236), false, (.mov (.tmp 235))⟩, ⟨(some ((some 236), true)), (some 237), false, (.mov (.tmp 7))⟩, ⟨(some ((some 236), true)), (some 238), false, (.mov (.tmp 8))⟩, ⟨(some ((some 236), true)), (some 239), false, (.call (.func 29) [(.tmp 237), (.tmp 238)])⟩, ⟨none, (some 240), false, (.pick (.tmp 236) (.tmp 239) (.const (.bool false)))⟩, ⟨none, (some 241), false, (.mov (.tmp 240))⟩, ⟨(some ((some 241), true)), (some 242), false, (.mov (.tmp 7))⟩, ⟨(some ((some 241), true)), (some 243), false, (.call (.func 18) [(.tmp 242)])⟩, ⟨(some ((some 241), true)), (some 244), false, (.cmp .eql (.tmp 243) (.const (.int .i64 7)))⟩, ⟨none, (some 245), false, (.pick (.tmp 241) (.tmp 244) (.const (.bool false)))⟩, ⟨none, (some 246), false, (.mov (.tmp 245))⟩, ⟨(some ((some 246), true)), (some 247), false, (.call (.func 41) [])⟩, ⟨none, (some 248), false, (.pick (.tmp 246) (.tmp 247) (.const (.bool false)))⟩, ⟨none, (some 4), false, (.mov (.tmp 248))⟩]
@[reducible] def c8s180 : C := (.ops c8r179 (some [4]))
@[reducible] def c8s181 : C := (.seq c8s180 .ret)
@[reducible] def c8s182 : C := (.seq c8s178 c8s181)
@[reducible] def c8s183 : C := (.seq c8s151 c8s182)
@[reducible] def c8s184 : C := (.seq c8s144 c8s183)
@[reducible] def c8s185 : C := (.seq c8s142 c8s184)
@[reducible] def c8s186 : C := (.seq c8s120 c8s185)
@[reducible] def c8s187 : C := (.seq c8s99 c8s186)
@[reducible] def c8s188 : C := (.seq c8s97 c8s187)
@[reducible] def c8s189 : C := (.seq c8s95 c8s188)
@[reducible] def c8s190 : C := (.seq c8s74 c8s189)
@[reducible] def c8s191 : C := (.seq c8s53 c8s190)
@[reducible] def c8s192 : C := (.seq c8s32 c8s191)
@[reducible] def c8s193 : C := (.seq c8s30 c8s192)
@[reducible] def c8s194 : C := (.seq c8s9 c8s193)
@[reducible] def c8s195 : C := (.seq c8s3 c8s194)
@[reducible] def c8 : C := (.seq c8s1 c8s195)
theorem f8 : compF Go.Proofs.Tryd.prog 8 = some ⟨249, strip c8, [(.tmp 4)]⟩ := by kernel_rfl
theorem o8 : okC 249 c8 = true := by kernel_rfl

@[reducible] def c37r0 : List J := [⟨none, (some 0), false, (.mov (.const (.slice none 0 0)))⟩]
@[reducible] def c37s1 : C := (.ops c37r0 (some []))
@[reducible] def c37r2 : List J := [⟨none, (some 3), false, (.bld [(.int .u8 0), (.int .u8 0), (.int .u8 0), (.int .i64 0), (.int .u8 0), (.int .u8 0), (.int .u8 0), (.string ⟨#[]⟩)] [(0, 1), (1, 1), (2, 1), (3, 1), (4, 1), (5, 1), (6, 1), (7, 1)] [(0, (.const (.int .u8 1))), (1, (.const (.int .u8 9))), (2, (.const (.int .u8 3))), (3, (.const (.int .i64 2))), (6, (.const (.int .u8 2)))])⟩, ⟨none, (some 4), false, (.call (.func 75) [(.const (.int .u8 1)), (.const (.int .u8 1)), (.const (.int .u8 3)), (.const (.int .i64 1))])⟩, ⟨none, (some 5), false, (.bsl [(.int .u8 0), (.int .u8 0), (.int .u8 0), (.int .i64 0), (.int .u8 0), (.int .u8 0), (.int .u8 0), (.string ⟨#[]⟩)] 2 8 72 [(0, (.tmp 3)), (1, (.tmp 4))])⟩, ⟨none, (some 6), false, (.bld [(.string ⟨#[]⟩), (.int .u8 0), (.int .u8 0), (.int .i64 0), (.int .i64 0), (.int .i64 0), (.int .u16 0), (.bool false), (.slice none 0 0)] [(0, 1), (1, 1), (2, 1), (3, 1), (4, 1), (5, 1), (6, 1), (7, 1), (8, 1)] [(0, (.const (.string (btx [104, 117, 115, 104])))), (2, (.const (.int .u8 2))), (3, (.const (.int .i64 2))), (8, (.tmp 5))])⟩, ⟨none, (some 7), false, (.bld [(.int .u8 0), (.int .u8 0), (.int .u8 0), (.int .i64 0), (.int .u8 0), (.int .u8 0), (.int .u8 0), (.string ⟨#[]⟩)] [(0, 1), (1, 1), (2, 1), (3, 1), (4, 1), (5, 1), (6, 1), (7, 1)] [(0, (.const (.int .u8 5))), (1, (.const (.int .u8 12))), (2, (.const (.int .u8 9))), (4, (.const (.int .u8 3))), (5, (.const (.int .u8 6)))])⟩, ⟨none, (some 8), false, (.bld [(.int .u8 0), (.int .u8 0), (.int .u8 0), (.int .i64 0), (.int .u8 0), (.int .u8 0), (.int .u8 0), (.string ⟨#[]⟩)] [(0, 1), (1, 1), (2, 1), (3, 1), (4, 1), (5, 1), (6, 1), (7, 1)] [(0, (.const (.int .u8 5))), (1, (.const (.int .u8 13))), (2, (.const (.int .u8 6))), (5, (.const (.int .u8 8)))])⟩, ⟨none, (some 9), false, (.bsl [(.int .u8 0), (.int .u8 0), (.int .u8 0), (.int .i64 0), (.int .u8 0), (.int .u8 0), (.int .u8 0), (.string ⟨#[]⟩)] 2 8 72 [(0, (.tmp 7)), (1, (.tmp 8))])⟩, ⟨none, (some 10), false, (.bld [(.string ⟨#[]⟩), (.int .u8 0), (.int .u8 0), (.int .i64 0), (.int .i64 0), (.int .i64 0), (.int .u16 0), (.bool false), (.slice none 0 0)] [(0, 1), (1, 1), (2, 1), (3, 1), (4, 1), (5, 1), (6, 1), (7, 1), (8, 1)] [(0, (.const (.string (btx [110, 117, 108, 108, 105, 102, 105, 101, 114])))), (2, (.const (.int .u8 1))), (3, (.const (.int .i64 4))), (4, (.const (.int .i64 2))), (5, (.const (.int .i64 4))), (8, (.tmp 9))])⟩, ⟨none, (some 11), false, (.call (.func 67) [(.const (.int .u16 0)), (.const (.int .u8 4))])⟩, ⟨none, (some 12), false, (.bld [(.string ⟨#[]⟩), (.int .u8 0), (.int .u8 0), (.int .i64 0), (.int .i64 0), (.int .i64 0), (.int .u16 0), (.bool false), (.slice none 0 0)] [(0, 1), (1, 1), (2, 1), (3, 1), (4, 1), (5, 1), (6, 1), (7, 1), (8, 1)] [(0, (.const (.string (btx [115, 104, 97, 100, 101])))), (2, (.const (.int .u8 1))), (4, (.const (.int .i64 1))), (5, (.const (.int .i64 1))), (7, (.const (.bool true))), (6, (.tmp 11))])⟩, ⟨none, (some 13), false, (.call (.func 67) [(.const (.int .u16 0)), (.const (.int .u8 4))])⟩, ⟨none, (some 14), false, (.bld [(.int .u8 0), (.int .u8 0), (.int .u8 0), (.int .i64 0), (.int .u8 0), (.int .u8 0), (.int .u8 0), (.string ⟨#[]⟩)] [(0, 1), (1, 1), (2, 1), (3, 1), (4, 1), (5, 1), (6, 1), (7, 1)] [(0, (.const (.int .u8 5))), (1, (.const (.int .u8 10))), (2, (.const (.int .u8 10))), (5, (.const (.int .u8 2)))])⟩, ⟨none, (some 15), false, (.call (.func 75) [(.const (.int .u8 2)), (.const (.int .u8 1)), (.const (.int .u8 7)), (.const (.int .i64 1))])⟩, ⟨none, (some 16), false, (.bsl [(.int .u8 0), (.int .u8 0), (.int .u8 0), (.int .i64 0), (.int .u8 0), (.int .u8 0), (.int .u8 0), (.string ⟨#[]⟩)] 2 8 72 [(0, (.tmp 14)), (1, (.tmp 15))])⟩, ⟨none, (some 17), false, (.bld [(.string ⟨#[]⟩), (.int .u8 0), (.int .u8 0), (.int .i64 0), (.int .i64 0), (.int .i64 0), (.int .u16 0), (.bool false), (.slice none 0 0)] [(0, 1), (1, 1), (2, 1), (3, 1), (4, 1), (5, 1), (6, 1), (7, 1), (8, 1)] [(0, (.const (.string (btx [116, 104, 105, 101, 102])))), (2, (.const (.int .u8 1))), (3, (.const (.int .i64 6))), (4, (.const (.int .i64 2))), (5, (.const (.int .i64 2))), (6, (.tmp 13)), (8, (.tmp 16))])⟩, ⟨none, (some 18), false, (.call (.func 75) [(.const (.int .u8 6)), (.const (.int .u8 17)), (.const (.int .u8 2)), (.const (.int .i64 0))])⟩, ⟨none, (some 19), false, (.call (.func 75) [(.const (.int .u8 6)), (.const (.int .u8 18)), (.const (.int .u8 1)), (.const (.int .i64 0))])⟩, ⟨none, (some 20), false, (.bld [(.int .u8 0), (.int .u8 0), (.int .u8 0), (.int .i64 0), (.int .u8 0), (.int .u8 0), (.int .u8 0), (.string ⟨#[]⟩)] [(0, 1), (1, 1), (2, 1), (3, 1), (4, 1), (5, 1), (6, 1), (7, 1)] [(0, (.const (.int .u8 5))), (1, (.const (.int .u8 14))), (2, (.const (.int .u8 10))), (3, (.const (.int .i64 2))), (5, (.const (.int .u8 5)))])⟩, ⟨none, (some 21), false, (.bsl [(.int .u8 0), (.int .u8 0), (.int .u8 0), (.int .i64 0), (.int .u8 0), (.int .u8 0), (.int .u8 0), (.string ⟨#[]⟩)] 3 8 72 [(0, (.tmp 18)), (1, (.tmp 19)), (2, (.tmp 20))])⟩, ⟨none, (some 22), false, (.bld [(.string ⟨#[]⟩), (.int .u8 0), (.int .u8 0), (.int .i64 0), (.int .i64 0), (.int .i64 0), (.int .u16 0), (.bool false), (.slice none 0 0)] [(0, 1), (1, 1), (2, 1), (3, 1), (4, 1), (5, 1), (6, 1), (7, 1), (8, 1)] [(0, (.const (.string (btx [104, 111, 108, 108, 111, 119])))), (2, (.const (.int .u8 3))), (3, (.const (.int .i64 3))), (8, (.tmp 21))])⟩, ⟨none, (some 23), false, (.bld [(.int .u8 0), (.int .u8 0), (.int .u8 0), (.int .i64 0), (.int .u8 0), (.int .u8 0), (.int .u8 0), (.string ⟨#[]⟩)] [(0, 1), (1, 1), (2, 1), (3, 1), (4, 1), (5, 1), (6, 1), (7, 1)] [(0, (.const (.int .u8 1))), (1, (.const (.int .u8 7))), (2, (.const (.int .u8 1))), (3, (.const (.int .i64 2))), (7, (.const (.string (btx [119, 105, 115, 112]))))])⟩, ⟨none, (some 24), false, (.call (.func 75) [(.const (.int .u8 3)), (.const (.int .u8 3)), (.const (.int .u8 1)), (.const (.int .i64 1))])⟩, ⟨none, (some 25), false, (.bld [(.int .u8 0), (.int .u8 0), (.int .u8 0), (.int .i64 0), (.int .u8 0), (.int .u8 0), (.int .u8 0), (.string ⟨#[]⟩)] [(0, 1), (1, 1), (2, 1), (3, 1), (4, 1), (5, 1), (6, 1), (7, 1)] [(0, (.const (.int .u8 2))), (1, (.const (.int .u8 7))), (2, (.const (.int .u8 2))), (3, (.const (.int .i64 1))), (7, (.const (.string (btx [115, 104, 97, 100, 101]))))])⟩, ⟨none, (some 26), false, (.bld [(.int .u8 0), (.int .u8 0), (.int .u8 0), (.int .i64 0), (.int .u8 0), (.int .u8 0), (.int .u8 0), (.string ⟨#[]⟩)] [(0, 1), (1, 1), (2, 1), (3, 1), (4, 1), (5, 1), (6, 1), (7, 1)] [(0, (.const (.int .u8 5))), (1, (.const (.int .u8 11))), (2, (.const (.int .u8 8))), (4, (.const (.int .u8 5)))])⟩, ⟨none, (some 27), false, (.bsl [(.int .u8 0), (.int .u8 0), (.int .u8 0), (.int .i64 0), (.int .u8 0), (.int .u8 0), (.int .u8 0), (.string ⟨#[]⟩)] 4 8 72 [(0, (.tmp 23)), (1, (.tmp 24)), (2, (.tmp 25)), (3, (.tmp 26))])⟩, ⟨none, (some 28), false, (.bld [(.string ⟨#[]⟩), (.int .u8 0), (.int .u8 0), (.int .i64 0), (.int .i64 0), (.int .i64 0), (.int .u16 0), (.bool false), (.slice none 0 0)] [(0, 1), (1, 1), (2, 1), (3, 1), (4, 1), (5, 1), (6, 1), (7, 1), (8, 1)] [(0, (.const (.string (btx [101, 99, 104, 111])))), (2, (.const (.int .u8 1))), (3, (.const (.int .i64 3))), (4, (.const (.int .i64 2))), (5, (.const (.int .i64 2))), (8, (.tmp 27))])⟩, ⟨none, (some 29), false, (.bsl [(.string ⟨#[]⟩), (.int .u8 0), (.int .u8 0), (.int .i64 0), (.int .i64 0), (.int .i64 0), (.int .u16 0), (.bool false), (.slice none 0 0)] 6 9 51 [(0, (.tmp 6)), (1, (.tmp 10)), (2, (.tmp 12)), (3, (.tmp 17)), (4, (.tmp 22)), (5, (.tmp 28))])⟩, ⟨none, (some 1), false, (.mov (.tmp 29))⟩]
@[reducible] def c37s3 : C := (.ops c37r2 (some [1]))
@[reducible] def c37r4 : List J := [⟨none, (some 30), false, (.mov (.tmp 1))⟩, ⟨none, (some 31), false, (.len (.tmp 30))⟩, ⟨none, (some 32), false, (.mov (.const (.int .i64 0)))⟩]
@[reducible] def c37s5 : C := (.ops c37r4 (some [1, 31, 32]))
@[reducible] def c37r6 : List J := [⟨none, (some 33), false, (.cmp .lss (.tmp 32) (.tmp 31))⟩]
@[reducible] def c37s7 : C := (.ops c37r6 (some [1, 31, 32, 33]))
@[reducible] def c37s8 : C := (.cond (.tmp 33) .skip (.exit 0))
@[reducible] def c37r9 : List J := [⟨none, (some 34), false, (.mov (.tmp 32))⟩, ⟨none, (some 2), false, (.mov (.tmp 34))⟩]
@[reducible] def c37s10 : C := (.ops c37r9 (some [1, 2, 31, 32]))
@[reducible] def c37r11 : List J := [⟨none, (some 35), false, (.mov (.tmp 1))⟩, ⟨none, (some 36), false, (.mov (.tmp 2))⟩, ⟨none, (some 37), false, (.ixs 9 (.tmp 35) (.tmp 36))⟩, ⟨none, (some 38), false, (.faddr 1 (.tmp 37))⟩, ⟨none, none, false, (.st 1 (.tmp 38) (.const (.int .u8 5)))⟩]
@[reducible] def c37s12 : C := (.ops c37r11 (some [1, 31, 32]))
@[reducible] def c37s13 : C := (.seq c37s10 c37s12)
@[reducible] def c37s14 : C := (.block 1 c37s13)
@[reducible] def c37r15 : List J := [⟨none, (some 39), false, (.arith .add (.tmp 32) (.const (.int .i64 1)))⟩, ⟨none, (some 32), false, (.mov (.tmp 39))⟩]
@[reducible] def c37s16 : C := (.ops c37r15 (some [1, 31, 32]))
@[reducible] def c37s17 : C := (.seq c37s14 c37s16)
@[reducible] def c37s18 : C := (.seq c37s8 c37s17)
@[reducible] def c37s19 : C := (.seq c37s7 c37s18)
@[reducible] def c37s20 : C := (.loop c37s19)
@[reducible] def c37s21 : C := (.block 0 c37s20)
@[reducible] def c37s22 : C := (.seq c37s5 c37s21)
@[reducible] def c37r23 : List J := [⟨none, (some 40), false, (.mov (.tmp 1))⟩, ⟨none, (some 0), false, (.mov (.tmp 40))⟩]
@[reducible] def c37s24 : C := (.ops c37r23 (some [0]))
@[reducible] def c37s25 : C := (.seq c37s24 .ret)
@[reducible] def c37s26 : C := (.seq c37s22 c37s25)
@[reducible] def c37s27 : C := (.seq c37s3 c37s26)
@[reducible] def c37 : C := (.seq c37s1 c37s27)
theorem f37 : compF Go.Proofs.Tryd.prog 37 = some ⟨41, strip c37, [(.tmp 0)]⟩ := by kernel_rfl
theorem o37 : okC 41 c37 = true := by kernel_rfl

@[reducible] def c38r0 : List J := [⟨none, (some 0), false, (.alloc [(.string ⟨#[]⟩), (.int .u8 0), (.int .u8 0), (.int .i64 0), (.int .i64 0), (.int .i64 0), (.int .u16 0), (.bool false), (.slice none 0 0)] 9 51)⟩]
@[reducible] def c38s1 : C := (.ops c38r0 (some [0]))
@[reducible] def c38r2 : List J := [⟨none, (some 1), false, (.bld [(.string ⟨#[]⟩), (.int .u8 0), (.int .u8 0), (.int .i64 0), (.int .i64 0), (.int .i64 0), (.int .u16 0), (.bool false), (.slice none 0 0)] [(0, 1), (1, 1), (2, 1), (3, 1), (4, 1), (5, 1), (6, 1), (7, 1), (8, 1)] [(0, (.const (.string (btx [119, 105, 115, 112])))), (1, (.const (.int .u8 1))), (2, (.const (.int .u8 1))), (5, (.const (.int .i64 1))), (7, (.const (.bool true)))])⟩, ⟨none, none, false, (.st 9 (.tmp 0) (.tmp 1))⟩]
@[reducible] def c38s3 : C := (.ops c38r2 (some [0]))
@[reducible] def c38s4 : C := (.seq c38s3 .ret)
@[reducible] def c38 : C := (.seq c38s1 c38s4)
theorem f38 : compF Go.Proofs.Tryd.prog 38 = some ⟨2, strip c38, [(.cell 0 51)]⟩ := by kernel_rfl
theorem o38 : okC 2 c38 = true := by kernel_rfl

@[reducible] def c39r0 : List J := [⟨none, (some 0), false, (.mov (.const (.slice none 0 0)))⟩]
@[reducible] def c39s1 : C := (.ops c39r0 (some []))
@[reducible] def c39r2 : List J := [⟨none, (some 1), false, (.bld [(.int .u8 0), (.string ⟨#[]⟩), (.int .i64 0), (.int .i64 0)] [(0, 1), (1, 1), (2, 1), (3, 1)] [(0, (.const (.int .u8 2))), (1, (.const (.string (btx [100, 111, 119, 110])))), (2, (.const (.int .i64 (-1)))), (3, (.const (.int .i64 (-1))))])⟩, ⟨none, (some 2), false, (.bsl [(.int .u8 0), (.string ⟨#[]⟩), (.int .i64 0), (.int .i64 0)] 1 4 63 [(0, (.tmp 1))])⟩, ⟨none, (some 0), false, (.mov (.tmp 2))⟩]
@[reducible] def c39s3 : C := (.ops c39r2 (some [0]))
@[reducible] def c39s4 : C := (.seq c39s3 .ret)
@[reducible] def c39 : C := (.seq c39s1 c39s4)
theorem f39 : compF Go.Proofs.Tryd.prog 39 = some ⟨3, strip c39, [(.tmp 0)]⟩ := by kernel_rfl
theorem o39 : okC 3 c39 = true := by kernel_rfl

@[reducible] def c40r0 : List J := [⟨none, (some 0), false, (.mov (.const (.slice none 0 0)))⟩]
@[reducible] def c40s1 : C := (.ops c40r0 (some []))
@[reducible] def c40r2 : List J := [⟨none, (some 1), false, (.bsl [(.int .u8 0)] 1 1 59 [(0, (.const (.int .u8 6)))])⟩, ⟨none, (some 0), false, (.mov (.tmp 1))⟩]
@[reducible] def c40s3 : C := (.ops c40r2 (some [0]))
@[reducible] def c40s4 : C := (.seq c40s3 .ret)
@[reducible] def c40 : C := (.seq c40s1 c40s4)
theorem f40 : compF Go.Proofs.Tryd.prog 40 = some ⟨2, strip c40, [(.tmp 0)]⟩ := by kernel_rfl
theorem o40 : okC 2 c40 = true := by kernel_rfl

@[reducible] def c75r0 : List J := [⟨none, (some 8), false, (.alloc [(.int .u8 0), (.int .u8 0), (.int .u8 0), (.int .i64 0), (.int .u8 0), (.int .u8 0), (.int .u8 0), (.string ⟨#[]⟩)] 8 72)⟩]
@[reducible] def c75s1 : C := (.ops c75r0 (some [0, 1, 2, 3, 8]))
@[reducible] def c75r2 : List J := [⟨none, (some 9), false, (.mov (.tmp 0))⟩, ⟨none, (some 10), false, (.mov (.tmp 1))⟩, ⟨none, (some 11), false, (.mov (.tmp 2))⟩, ⟨none, (some 12), false, (.mov (.tmp 3))⟩, ⟨none, (some 13), false, (.bld [(.int .u8 0), (.int .u8 0), (.int .u8 0), (.int .i64 0), (.int .u8 0), (.int .u8 0), (.int .u8 0), (.string ⟨#[]⟩)] [(0, 1), (1, 1), (2, 1), (3, 1), (4, 1), (5, 1), (6, 1), (7, 1)] [(0, (.tmp 9)), (1, (.tmp 10)), (2, (.tmp 11)), (3, (.tmp 12))])⟩, ⟨none, none, false, (.st 8 (.tmp 8) (.tmp 13))⟩]
@[reducible] def c75s3 : C := (.ops c75r2 (some [8]))
@[reducible] def c75s4 : C := (.seq c75s3 .ret)
@[reducible] def c75 : C := (.seq c75s1 c75s4)
theorem f75 : compF Go.Proofs.Tryd.prog 75 = some ⟨14, strip c75, [(.cell 8 72)]⟩ := by kernel_rfl
theorem o75 : okC 14 c75 = true := by kernel_rfl

end Go.Proofs.YtdgbnaignpploaaDoor.k
