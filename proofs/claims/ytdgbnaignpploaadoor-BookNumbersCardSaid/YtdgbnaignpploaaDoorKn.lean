/- PRINTED BY symgen.py: the compiled code of functions 4. -/
import Derived.Test.YtdgbnaignpploaaDoorChecked
import Derived.Test.YtdgbnaignpploaaDoorSy
namespace Go.Proofs.YtdgbnaignpploaaDoor.k
open Go.Sym
set_option linter.unusedVariables false
set_option maxRecDepth 100000

@[reducible] def c4r0 : List J := [⟨none, (some 2), false, (.box 47 (.tmp 0))⟩, ⟨none, (some 3), false, (.box 51 (.tmp 1))⟩, ⟨none, (some 4), false, (.mov (.const (.bool false)))⟩]
@[reducible] def c4s1 : C := (.ops c4r0 (some [2, 3]))
@[reducible] def c4r2 : List J := [⟨none, (some 25), false, (.call (.func 14) [])⟩, ⟨none, (some 5), false, (.mov (.tmp 25))⟩]
@[reducible] def c4s3 : C := (.ops c4r2 (some [2, 3, 5]))
@[reducible] def c4r4 : List J := [⟨none, (some 26), false, (.faddr 0 (.tmp 2))⟩, ⟨none, (some 27), false, (.ld1 (.tmp 26))⟩, ⟨none, (some 28), false, (.len (.tmp 27))⟩, ⟨none, (some 29), false, (.cmp .gtr (.tmp 28) (.const (.int .i64 80)))⟩, ⟨none, (some 30), false, (.mov (.tmp 29))⟩, ⟨(some ((some 30), false)), (some 31), false, (.faddr 1 (.tmp 2))⟩, ⟨(some ((some 30), false)), (some 32), false, (.ld1 (.tmp 31))⟩, ⟨(some ((some 30), false)), (some 33), false, (.len (.tmp 32))⟩, ⟨(some ((some 30), false)), (some 34), false, (.cmp .gtr (.tmp 33) (.const (.int .i64 8)))⟩, ⟨none, (some 35), false, (.pick (.tmp 30) (.const (.bool true)) (.tmp 34))⟩, ⟨none, (some 36), false, (.mov (.tmp 35))⟩, ⟨(some ((some 36), false)), (some 37), false, (.faddr 2 (.tmp 2))⟩, ⟨(some ((some 36), false)), (some 38), false, (.ld1 (.tmp 37))⟩, ⟨(some ((some 36), false)), (some 39), false, (.len (.tmp 38))⟩, ⟨(some ((some 36), false)), (some 40), false, (.cmp .gtr (.tmp 39) (.const (.int .i64 8)))⟩, ⟨none, (some 41), false, (.pick (.tmp 36) (.const (.bool true)) (.tmp 40))⟩]
@[reducible] def c4s5 : C := (.ops c4r4 (some [2, 3, 5, 41]))
@[reducible] def c4r6 : List J := [⟨none, (some 42), false, (.mov (.tmp 5))⟩, ⟨none, (some 4), false, (.mov (.tmp 42))⟩]
@[reducible] def c4s7 : C := (.ops c4r6 (some [4]))
@[reducible] def c4s8 : C := (.seq c4s7 .ret)
@[reducible] def c4s9 : C := (.cond (.tmp 41) c4s8 .skip)
@[reducible] def c4s10 : C := (.seq c4s5 c4s9)
@[reducible] def c4r11 : List J := [⟨none, (some 44), false, (.ldN 3 (.tmp 2))⟩, ⟨none, (some 45), false, (.call (.func 15) [(.tmp 44), (.const (.slice none 0 0))])⟩, ⟨none, (some 43), false, (.mov (.tmp 45))⟩, ⟨none, (some 46), false, (.ext 0 (.tmp 43))⟩, ⟨none, (some 47), false, (.ext 1 (.tmp 43))⟩, ⟨none, (some 6), false, (.mov (.tmp 46))⟩, ⟨none, (some 7), false, (.mov (.tmp 47))⟩]
@[reducible] def c4s12 : C := (.ops c4r11 (some [3, 5, 6]))
@[reducible] def c4r13 : List J := [⟨none, (some 48), false, (.mov (.tmp 6))⟩, ⟨none, (some 49), false, (.call (.func 16) [(.tmp 48)])⟩, ⟨none, (some 8), false, (.mov (.tmp 49))⟩]
@[reducible] def c4s14 : C := (.ops c4r13 (some [3, 5, 6, 8]))
@[reducible] def c4r15 : List J := [⟨none, (some 50), false, (.mov (.tmp 8))⟩, ⟨none, (some 51), false, (.cmp .neq (.tmp 50) (.const (.int .i64 0)))⟩]
@[reducible] def c4s16 : C := (.ops c4r15 (some [3, 5, 6, 8, 51]))
@[reducible] def c4r17 : List J := [⟨none, (some 52), false, (.mov (.tmp 5))⟩, ⟨none, (some 53), false, (.mov (.tmp 52))⟩, ⟨(some ((some 53), true)), (some 54), false, (.mov (.tmp 6))⟩, ⟨(some ((some 53), true)), (some 55), false, (.call (.func 17) [(.tmp 54)])⟩, ⟨(some ((some 53), true)), (some 56), false, (.un .not (.tmp 55))⟩, ⟨none, (some 57), false, (.pick (.tmp 53) (.tmp 56) (.const (.bool false)))⟩, ⟨none, (some 58), false, (.mov (.tmp 57))⟩, ⟨(some ((some 58), true)), (some 59), false, (.mov (.tmp 8))⟩, ⟨(some ((some 58), true)), (some 60), false, (.cmp .eql (.tmp 59) (.const (.int .i64 6)))⟩, ⟨(some ((some 58), true)), (some 61), false, (.mov (.tmp 60))⟩, ⟨(some ((some 61), false)), (some 62), false, (.mov (.tmp 8))⟩, ⟨(some ((some 61), false)), (some 63), false, (.cmp .eql (.tmp 62) (.const (.int .i64 8)))⟩, ⟨(some ((some 58), true)), (some 64), false, (.pick (.tmp 61) (.const (.bool true)) (.tmp 63))⟩, ⟨none, (some 65), false, (.pick (.tmp 58) (.tmp 64) (.const (.bool false)))⟩, ⟨none, (some 4), false, (.mov (.tmp 65))⟩]
@[reducible] def c4s18 : C := (.ops c4r17 (some [4]))
@[reducible] def c4s19 : C := (.seq c4s18 .ret)
@[reducible] def c4s20 : C := (.cond (.tmp 51) c4s19 .skip)
@[reducible] def c4s21 : C := (.seq c4s16 c4s20)
@[reducible] def c4r22 : List J := [⟨none, (some 66), false, (.mov (.tmp 6))⟩, ⟨none, (some 67), false, (.call (.func 18) [(.tmp 66)])⟩, ⟨none, (some 9), false, (.mov (.tmp 67))⟩]
@[reducible] def c4s23 : C := (.ops c4r22 (some [3, 5, 6, 9]))
@[reducible] def c4r24 : List J := [⟨none, (some 68), false, (.mov (.tmp 6))⟩, ⟨none, (some 69), false, (.call (.func 16) [(.tmp 68)])⟩, ⟨none, (some 70), false, (.cmp .neq (.tmp 69) (.const (.int .i64 7)))⟩, ⟨none, (some 71), false, (.mov (.tmp 70))⟩, ⟨(some ((some 71), false)), (some 72), false, (.mov (.tmp 6))⟩, ⟨(some ((some 71), false)), (some 73), false, (.ldN 9 (.tmp 3))⟩, ⟨(some ((some 71), false)), (some 74), false, (.call (.func 19) [(.tmp 72), (.tmp 73)])⟩, ⟨(some ((some 71), false)), (some 75), false, (.cmp .neq (.tmp 74) (.const (.int .i64 7)))⟩, ⟨none, (some 76), false, (.pick (.tmp 71) (.const (.bool true)) (.tmp 75))⟩, ⟨none, (some 77), false, (.mov (.tmp 76))⟩, ⟨(some ((some 77), false)), (some 78), false, (.mov (.tmp 6))⟩, ⟨(some ((some 77), false)), (some 79), false, (.call (.func 20) [(.tmp 78), (.const (.int .u8 1)), (.const (.string (btx [113, 117, 105, 99, 107])))])⟩, ⟨(some ((some 77), false)), (some 80), false, (.cmp .neq (.tmp 79) (.const (.int .i64 7)))⟩, ⟨none, (some 81), false, (.pick (.tmp 77) (.const (.bool true)) (.tmp 80))⟩, ⟨none, (some 82), false, (.mov (.tmp 81))⟩, ⟨(some ((some 82), false)), (some 83), false, (.mov (.tmp 6))⟩, ⟨(some ((some 82), false)), (some 84), false, (.bld [(.int .u8 0), (.string ⟨#[]⟩), (.int .i64 0), (.int .i64 0)] [(0, 1), (1, 1), (2, 1), (3, 1)] [(0, (.const (.int .u8 1))), (1, (.const (.string (btx [109, 111, 114, 101]))))])⟩, ⟨(some ((some 82), false)), (some 85), false, (.call (.func 21) [(.tmp 83), (.tmp 84)])⟩, ⟨(some ((some 82), false)), (some 86), false, (.cmp .neq (.tmp 85) (.const (.int .i64 7)))⟩, ⟨none, (some 87), false, (.pick (.tmp 82) (.const (.bool true)) (.tmp 86))⟩, ⟨none, (some 88), false, (.mov (.tmp 87))⟩, ⟨(some ((some 88), false)), (some 89), false, (.mov (.tmp 6))⟩, ⟨(some ((some 88), false)), (some 90), false, (.call (.func 18) [(.tmp 89)])⟩, ⟨(some ((some 88), false)), (some 91), false, (.mov (.tmp 9))⟩, ⟨(some ((some 88), false)), (some 92), false, (.cmp .neq (.tmp 90) (.tmp 91))⟩, ⟨none, (some 93), false, (.pick (.tmp 88) (.const (.bool true)) (.tmp 92))⟩, ⟨none, (some 94), false, (.mov (.tmp 93))⟩, ⟨(some ((some 94), false)), (some 95), false, (.mov (.tmp 9))⟩, ⟨(some ((some 94), false)), (some 96), false, (.cmp .gtr (.tmp 95) (.const (.int .i64 64)))⟩, ⟨none, (some 97), false, (.pick (.tmp 94) (.const (.bool true)) (.tmp 96))⟩]
@[reducible] def c4s25 : C := (.ops c4r24 (some [5, 6, 9, 97]))
@[reducible] def c4r26 : List J := [⟨none, (some 4), false, (.mov (.const (.bool false)))⟩]
@[reducible] def c4s27 : C := (.ops c4r26 (some [4]))
@[reducible] def c4s28 : C := (.seq c4s27 .ret)
@[reducible] def c4s29 : C := (.cond (.tmp 97) c4s28 .skip)
@[reducible] def c4s30 : C := (.seq c4s25 c4s29)
@[reducible] def c4r31 : List J := [⟨none, (some 10), false, (.alloc [(.string ⟨#[]⟩), (.int .u8 0), (.int .u8 0), (.int .i64 0), (.int .i64 0), (.int .i64 0), (.int .u16 0), (.bool false), (.slice none 0 0)] 9 51)⟩]
@[reducible] def c4s32 : C := (.ops c4r31 (some [5, 6, 9, 10]))
@[reducible] def c4r33 : List J := [⟨none, (some 11), false, (.mov (.const (.int .i64 1)))⟩]
@[reducible] def c4s34 : C := (.ops c4r33 (some [5, 6, 9, 10, 11]))
@[reducible] def c4r35 : List J := [⟨none, (some 98), false, (.mov (.tmp 11))⟩, ⟨none, (some 99), false, (.mov (.tmp 9))⟩, ⟨none, (some 100), false, (.cmp .leq (.tmp 98) (.tmp 99))⟩]
@[reducible] def c4s36 : C := (.ops c4r35 (some [5, 6, 9, 10, 11, 100]))
@[reducible] def c4s37 : C := (.cond (.tmp 100) .skip (.exit 0))
@[reducible] def c4s38 : C := (.seq c4s36 c4s37)
@[reducible] def c4r39 : List J := [⟨none, (some 104), false, (.mov (.tmp 6))⟩, ⟨none, (some 105), false, (.mov (.tmp 11))⟩, ⟨none, (some 106), false, (.call (.func 22) [(.tmp 104), (.tmp 105)])⟩, ⟨none, (some 103), false, (.mov (.tmp 106))⟩, ⟨none, (some 107), false, (.ext 0 (.tmp 103))⟩, ⟨none, (some 108), false, (.ext 1 (.tmp 103))⟩, ⟨none, (some 12), false, (.alloc [(.string ⟨#[]⟩), (.int .u8 0), (.int .u8 0), (.int .i64 0), (.int .i64 0), (.int .i64 0), (.int .u16 0), (.bool false), (.slice none 0 0)] 9 51)⟩, ⟨none, none, false, (.st 9 (.tmp 12) (.tmp 107))⟩, ⟨none, (some 13), false, (.mov (.tmp 108))⟩]
@[reducible] def c4s40 : C := (.ops c4r39 (some [5, 6, 9, 10, 11, 12, 13]))
@[reducible] def c4r41 : List J := [⟨none, (some 110), false, (.mov (.tmp 6))⟩, ⟨none, (some 111), false, (.faddr 0 (.tmp 12))⟩, ⟨none, (some 112), false, (.ld1 (.tmp 111))⟩, ⟨none, (some 113), false, (.call (.func 23) [(.tmp 110), (.tmp 112)])⟩, ⟨none, (some 109), false, (.mov (.tmp 113))⟩, ⟨none, (some 114), false, (.ext 0 (.tmp 109))⟩, ⟨none, (some 115), false, (.ext 1 (.tmp 109))⟩, ⟨none, (some 14), false, (.mov (.tmp 114))⟩, ⟨none, (some 15), false, (.mov (.tmp 115))⟩]
@[reducible] def c4s42 : C := (.ops c4r41 (some [5, 6, 9, 10, 11, 12, 13, 14, 15]))
@[reducible] def c4r43 : List J := [⟨none, (some 116), false, (.mov (.tmp 13))⟩, ⟨none, (some 117), false, (.cmp .neq (.tmp 116) (.const (.int .i64 0)))⟩, ⟨none, (some 118), false, (.mov (.tmp 117))⟩, ⟨(some ((some 118), false)), (some 119), false, (.mov (.tmp 15))⟩, ⟨(some ((some 118), false)), (some 120), false, (.cmp .neq (.tmp 119) (.const (.int .i64 0)))⟩, ⟨none, (some 121), false, (.pick (.tmp 118) (.const (.bool true)) (.tmp 120))⟩, ⟨none, (some 122), false, (.mov (.tmp 121))⟩, ⟨(some ((some 122), false)), (some 123), false, (.mov (.tmp 14))⟩, ⟨(some ((some 122), false)), (some 124), false, (.mov (.tmp 11))⟩, ⟨(some ((some 122), false)), (some 125), false, (.cmp .neq (.tmp 123) (.tmp 124))⟩, ⟨none, (some 126), false, (.pick (.tmp 122) (.const (.bool true)) (.tmp 125))⟩, ⟨none, (some 127), false, (.mov (.tmp 126))⟩, ⟨(some ((some 127), false)), (some 128), false, (.mov (.tmp 11))⟩, ⟨(some ((some 127), false)), (some 129), false, (.cmp .gtr (.tmp 128) (.const (.int .i64 1)))⟩, ⟨(some ((some 127), false)), (some 130), false, (.mov (.tmp 129))⟩, ⟨(some ((some 130), true)), (some 131), false, (.faddr 1 (.tmp 12))⟩, ⟨(some ((some 130), true)), (some 132), false, (.ld1 (.tmp 131))⟩, ⟨(some ((some 130), true)), (some 133), false, (.faddr 1 (.tmp 10))⟩, ⟨(some ((some 130), true)), (some 134), false, (.ld1 (.tmp 133))⟩, ⟨(some ((some 130), true)), (some 135), false, (.cmp .lss (.tmp 132) (.tmp 134))⟩, ⟨(some ((some 130), true)), (some 136), false, (.mov (.tmp 135))⟩, ⟨(some ((some 136), false)), (some 137), false, (.faddr 1 (.tmp 12))⟩, ⟨(some ((some 136), false)), (some 138), false, (.ld1 (.tmp 137))⟩, ⟨(some ((some 136), false)), (some 139), false, (.faddr 1 (.tmp 10))⟩, ⟨(some ((some 136), false)), (some 140), false, (.ld1 (.tmp 139))⟩, ⟨(some ((some 136), false)), (some 141), false, (.cmp .eql (.tmp 138) (.tmp 140))⟩, ⟨(some ((some 136), false)), (some 142), false, (.mov (.tmp 141))⟩, ⟨(some ((some 142), true)), (some 143), false, (.faddr 0 (.tmp 12))⟩, ⟨(some ((some 142), true)), (some 144), false, (.ld1 (.tmp 143))⟩, ⟨(some ((some 142), true)), (some 145), false, (.faddr 0 (.tmp 10))⟩, ⟨(some ((some 142), true)), (some 146), false, (.ld1 (.tmp 145))⟩, ⟨(some ((some 142), true)), (some 147), false, (.sop .leq (.tmp 144) (.tmp 146))⟩, ⟨(some ((some 136), false)), (some 148), false, (.pick (.tmp 142) (.tmp 147) (.const (.bool false)))⟩, ⟨(some ((some 130), true)), (some 149), false, (.pick (.tmp 136) (.const (.bool true)) (.tmp 148))⟩, ⟨(some ((some 127), false)), (some 150), false, (.pick (.tmp 130) (.tmp 149) (.const (.bool false)))⟩, ⟨none, (some 151), false, (.pick (.tmp 127) (.const (.bool true)) (.tmp 150))⟩]
@[reducible] def c4s44 : C := (.ops c4r43 (some [5, 6, 9, 10, 11, 12, 151]))
@[reducible] def c4r45 : List J := [⟨none, (some 4), false, (.mov (.const (.bool false)))⟩]
@[reducible] def c4s46 : C := (.ops c4r45 (some [4]))
@[reducible] def c4s47 : C := (.seq c4s46 .ret)
@[reducible] def c4s48 : C := (.cond (.tmp 151) c4s47 .skip)
@[reducible] def c4s49 : C := (.seq c4s44 c4s48)
@[reducible] def c4r50 : List J := [⟨none, (some 16), false, (.mov (.const (.int .i64 0)))⟩]
@[reducible] def c4s51 : C := (.ops c4r50 (some [5, 6, 9, 10, 11, 12, 16]))
@[reducible] def c4r52 : List J := [⟨none, (some 152), false, (.mov (.tmp 16))⟩, ⟨none, (some 153), false, (.faddr 8 (.tmp 12))⟩, ⟨none, (some 154), false, (.ld1 (.tmp 153))⟩, ⟨none, (some 155), false, (.len (.tmp 154))⟩, ⟨none, (some 156), false, (.cmp .lss (.tmp 152) (.tmp 155))⟩]
@[reducible] def c4s53 : C := (.ops c4r52 (some [5, 6, 9, 10, 11, 12, 16, 156]))
@[reducible] def c4s54 : C := (.cond (.tmp 156) .skip (.exit 2))
@[reducible] def c4s55 : C := (.seq c4s53 c4s54)
@[reducible] def c4r56 : List J := [⟨none, (some 159), false, (.faddr 8 (.tmp 12))⟩, ⟨none, (some 160), false, (.ld1 (.tmp 159))⟩, ⟨none, (some 161), false, (.mov (.tmp 16))⟩, ⟨none, (some 162), false, (.ixs 8 (.tmp 160) (.tmp 161))⟩, ⟨none, (some 163), false, (.faddr 1 (.tmp 162))⟩, ⟨none, (some 164), false, (.ld1 (.tmp 163))⟩, ⟨none, (some 165), false, (.cmp .neq (.tmp 164) (.const (.int .u8 7)))⟩]
@[reducible] def c4s57 : C := (.ops c4r56 (some [5, 6, 9, 10, 11, 12, 16, 165]))
@[reducible] def c4s58 : C := (.cond (.tmp 165) (.exit 3) .skip)
@[reducible] def c4s59 : C := (.seq c4s57 c4s58)
@[reducible] def c4r60 : List J := [⟨none, (some 167), false, (.mov (.tmp 6))⟩, ⟨none, (some 168), false, (.faddr 8 (.tmp 12))⟩, ⟨none, (some 169), false, (.ld1 (.tmp 168))⟩, ⟨none, (some 170), false, (.mov (.tmp 16))⟩, ⟨none, (some 171), false, (.ixs 8 (.tmp 169) (.tmp 170))⟩, ⟨none, (some 172), false, (.faddr 7 (.tmp 171))⟩, ⟨none, (some 173), false, (.ld1 (.tmp 172))⟩, ⟨none, (some 174), false, (.call (.func 23) [(.tmp 167), (.tmp 173)])⟩, ⟨none, (some 166), false, (.mov (.tmp 174))⟩, ⟨none, (some 175), false, (.ext 0 (.tmp 166))⟩, ⟨none, (some 176), false, (.ext 1 (.tmp 166))⟩, ⟨none, (some 17), false, (.mov (.tmp 175))⟩, ⟨none, (some 18), false, (.mov (.tmp 176))⟩]
@[reducible] def c4s61 : C := (.ops c4r60 (some [5, 6, 9, 10, 11, 12, 16, 17, 18]))
@[reducible] def c4r62 : List J := [⟨none, (some 178), false, (.mov (.tmp 6))⟩, ⟨none, (some 179), false, (.mov (.tmp 17))⟩, ⟨none, (some 180), false, (.call (.func 22) [(.tmp 178), (.tmp 179)])⟩, ⟨none, (some 177), false, (.mov (.tmp 180))⟩, ⟨none, (some 181), false, (.ext 0 (.tmp 177))⟩, ⟨none, (some 182), false, (.ext 1 (.tmp 177))⟩, ⟨none, (some 19), false, (.alloc [(.string ⟨#[]⟩), (.int .u8 0), (.int .u8 0), (.int .i64 0), (.int .i64 0), (.int .i64 0), (.int .u16 0), (.bool false), (.slice none 0 0)] 9 51)⟩, ⟨none, none, false, (.st 9 (.tmp 19) (.tmp 181))⟩, ⟨none, (some 20), false, (.mov (.tmp 182))⟩]
@[reducible] def c4s63 : C := (.ops c4r62 (some [5, 6, 9, 10, 11, 12, 16, 18, 19, 20]))
@[reducible] def c4r64 : List J := [⟨none, (some 183), false, (.mov (.tmp 18))⟩, ⟨none, (some 184), false, (.cmp .neq (.tmp 183) (.const (.int .i64 0)))⟩, ⟨none, (some 185), false, (.mov (.tmp 184))⟩, ⟨(some ((some 185), false)), (some 186), false, (.mov (.tmp 20))⟩, ⟨(some ((some 185), false)), (some 187), false, (.cmp .neq (.tmp 186) (.const (.int .i64 0)))⟩, ⟨none, (some 188), false, (.pick (.tmp 185) (.const (.bool true)) (.tmp 187))⟩, ⟨none, (some 189), false, (.mov (.tmp 188))⟩, ⟨(some ((some 189), false)), (some 190), false, (.faddr 2 (.tmp 19))⟩, ⟨(some ((some 189), false)), (some 191), false, (.ld1 (.tmp 190))⟩, ⟨(some ((some 189), false)), (some 192), false, (.cmp .eql (.tmp 191) (.const (.int .u8 2)))⟩, ⟨none, (some 193), false, (.pick (.tmp 189) (.const (.bool true)) (.tmp 192))⟩]
@[reducible] def c4s65 : C := (.ops c4r64 (some [5, 6, 9, 10, 11, 12, 16, 193]))
@[reducible] def c4r66 : List J := [⟨none, (some 4), false, (.mov (.const (.bool false)))⟩]
@[reducible] def c4s67 : C := (.ops c4r66 (some [4]))
@[reducible] def c4s68 : C := (.seq c4s67 .ret)
@[reducible] def c4s69 : C := (.cond (.tmp 193) c4s68 .skip)
@[reducible] def c4s70 : C := (.seq c4s65 c4s69)
@[reducible] def c4s71 : C := (.seq c4s63 c4s70)
@[reducible] def c4s72 : C := (.seq c4s61 c4s71)
@[reducible] def c4s73 : C := (.seq c4s59 c4s72)
@[reducible] def c4s74 : C := (.block 3 c4s73)
@[reducible] def c4r75 : List J := [⟨none, (some 157), false, (.mov (.tmp 16))⟩, ⟨none, (some 158), false, (.arith .add (.tmp 157) (.const (.int .i64 1)))⟩, ⟨none, (some 16), false, (.mov (.tmp 158))⟩]
@[reducible] def c4s76 : C := (.ops c4r75 (some [5, 6, 9, 10, 11, 12, 16]))
@[reducible] def c4s77 : C := (.seq c4s74 c4s76)
@[reducible] def c4s78 : C := (.seq c4s55 c4s77)
@[reducible] def c4s79 : C := (.loop c4s78)
@[reducible] def c4s80 : C := (.block 2 c4s79)
@[reducible] def c4s81 : C := (.seq c4s51 c4s80)
@[reducible] def c4r82 : List J := [⟨none, (some 194), false, (.ldN 9 (.tmp 12))⟩, ⟨none, none, false, (.st 9 (.tmp 10) (.tmp 194))⟩]
@[reducible] def c4s83 : C := (.ops c4r82 (some [5, 6, 9, 10, 11]))
@[reducible] def c4s84 : C := (.seq c4s81 c4s83)
@[reducible] def c4s85 : C := (.seq c4s49 c4s84)
@[reducible] def c4s86 : C := (.seq c4s42 c4s85)
@[reducible] def c4s87 : C := (.seq c4s40 c4s86)
@[reducible] def c4s88 : C := (.block 1 c4s87)
@[reducible] def c4r89 : List J := [⟨none, (some 101), false, (.mov (.tmp 11))⟩, ⟨none, (some 102), false, (.arith .add (.tmp 101) (.const (.int .i64 1)))⟩, ⟨none, (some 11), false, (.mov (.tmp 102))⟩]
@[reducible] def c4s90 : C := (.ops c4r89 (some [5, 6, 9, 10, 11]))
@[reducible] def c4s91 : C := (.seq c4s88 c4s90)
@[reducible] def c4s92 : C := (.seq c4s38 c4s91)
@[reducible] def c4s93 : C := (.loop c4s92)
@[reducible] def c4s94 : C := (.block 0 c4s93)
@[reducible] def c4s95 : C := (.seq c4s34 c4s94)
@[reducible] def c4r96 : List J := [⟨none, (some 196), false, (.mov (.tmp 6))⟩, ⟨none, (some 197), false, (.call (.func 22) [(.tmp 196), (.const (.int .i64 0))])⟩, ⟨none, (some 195), false, (.mov (.tmp 197))⟩, ⟨none, (some 198), false, (.ext 0 (.tmp 195))⟩, ⟨none, (some 199), false, (.ext 1 (.tmp 195))⟩, ⟨none, (some 21), false, (.alloc [(.string ⟨#[]⟩), (.int .u8 0), (.int .u8 0), (.int .i64 0), (.int .i64 0), (.int .i64 0), (.int .u16 0), (.bool false), (.slice none 0 0)] 9 51)⟩, ⟨none, none, false, (.st 9 (.tmp 21) (.tmp 198))⟩, ⟨none, (some 22), false, (.mov (.tmp 199))⟩]
@[reducible] def c4s97 : C := (.ops c4r96 (some [5, 6, 9, 22]))
@[reducible] def c4r98 : List J := [⟨none, (some 201), false, (.mov (.tmp 6))⟩, ⟨none, (some 202), false, (.mov (.tmp 9))⟩, ⟨none, (some 203), false, (.arith .add (.tmp 202) (.const (.int .i64 1)))⟩, ⟨none, (some 204), false, (.call (.func 22) [(.tmp 201), (.tmp 203)])⟩, ⟨none, (some 200), false, (.mov (.tmp 204))⟩, ⟨none, (some 205), false, (.ext 0 (.tmp 200))⟩, ⟨none, (some 206), false, (.ext 1 (.tmp 200))⟩, ⟨none, (some 23), false, (.alloc [(.string ⟨#[]⟩), (.int .u8 0), (.int .u8 0), (.int .i64 0), (.int .i64 0), (.int .i64 0), (.int .u16 0), (.bool false), (.slice none 0 0)] 9 51)⟩, ⟨none, none, false, (.st 9 (.tmp 23) (.tmp 205))⟩, ⟨none, (some 24), false, (.mov (.tmp 206))⟩]
@[reducible] def c4s99 : C := (.ops c4r98 (some [5, 22, 24]))
@[reducible] def c4r100 : List J := [⟨none, (some 207), false, (.mov (.tmp 5))⟩, ⟨none, (some 208), false, (.mov (.tmp 207))⟩, ⟨(some ((some 208), true)), (some 209), false, (.mov (.tmp 22))⟩, ⟨(some ((some 208), true)), (some 210), false, (.cmp .eql (.tmp 209) (.const (.int .i64 6)))⟩, ⟨none, (some 211), false, (.pick (.tmp 208) (.tmp 210) (.const (.bool false)))⟩, ⟨none, (some 212), false, (.mov (.tmp 211))⟩, ⟨(some ((some 212), true)), (some 213), false, (.mov (.tmp 24))⟩, ⟨(some ((some 212), true)), (some 214), false, (.cmp .eql (.tmp 213) (.const (.int .i64 6)))⟩, ⟨none, (some 215), false, (.pick (.tmp 212) (.tmp 214) (.const (.bool false)))⟩, ⟨none, (some 4), false, (.mov (.tmp 215))⟩]
@[reducible] def c4s101 : C := (.ops c4r100 (some [4]))
@[reducible] def c4s102 : C := (.seq c4s101 .ret)
@[reducible] def c4s103 : C := (.seq c4s99 c4s102)
@[reducible] def c4s104 : C := (.seq c4s97 c4s103)
@[reducible] def c4s105 : C := (.seq c4s95 c4s104)
@[reducible] def c4s106 : C := (.seq c4s32 c4s105)
@[reducible] def c4s107 : C := (.seq c4s30 c4s106)
@[reducible] def c4s108 : C := (.seq c4s23 c4s107)
@[reducible] def c4s109 : C := (.seq c4s21 c4s108)
@[reducible] def c4s110 : C := (.seq c4s14 c4s109)
@[reducible] def c4s111 : C := (.seq c4s12 c4s110)
@[reducible] def c4s112 : C := (.seq c4s10 c4s111)
@[reducible] def c4s113 : C := (.seq c4s3 c4s112)
@[reducible] def c4 : C := (.seq c4s1 c4s113)
theorem f4 : compF Go.Proofs.Tryd.prog 4 = some ⟨216, strip c4, [(.tmp 4)]⟩ := by kernel_rfl
theorem o4 : okC 216 c4 = true := by kernel_rfl

end Go.Proofs.YtdgbnaignpploaaDoor.k
