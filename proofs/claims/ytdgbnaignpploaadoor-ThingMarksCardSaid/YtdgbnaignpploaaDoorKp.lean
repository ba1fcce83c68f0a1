/- PRINTED BY symgen.py: the compiled code of functions 24. -/
import Derived.Test.YtdgbnaignpploaaDoorChecked
import Derived.Test.YtdgbnaignpploaaDoorSy
namespace Go.Proofs.YtdgbnaignpploaaDoor.k
open Go.Sym
set_option linter.unusedVariables false
set_option maxRecDepth 100000

@[reducible] def c24r0 : List J := [⟨none, (some 4), false, (.mov (.const (.int .i64 0)))⟩]
@[reducible] def c24s1 : C := (.ops c24r0 (some [0, 1]))
@[reducible] def c24r2 : List J := [⟨none, (some 5), false, (.mov (.tmp 1))⟩, ⟨none, (some 6), false, (.cmp .lss (.tmp 5) (.const (.int .i64 1)))⟩]
@[reducible] def c24s3 : C := (.ops c24r2 (some [0, 1, 6]))
@[reducible] def c24r4 : List J := [⟨none, (some 4), false, (.mov (.const (.int .i64 0)))⟩]
@[reducible] def c24s5 : C := (.ops c24r4 (some [4]))
@[reducible] def c24s6 : C := (.seq c24s5 .ret)
@[reducible] def c24s7 : C := (.cond (.tmp 6) c24s6 .skip)
@[reducible] def c24s8 : C := (.seq c24s3 c24s7)
@[reducible] def c24r9 : List J := [⟨none, (some 7), false, (.mov (.tmp 0))⟩, ⟨none, (some 8), false, (.mov (.tmp 1))⟩, ⟨none, (some 9), false, (.div .rem (.tmp 7) (.tmp 8))⟩, ⟨none, (some 0), false, (.mov (.tmp 9))⟩]
@[reducible] def c24s10 : C := (.ops c24r9 (some [0, 1]))
@[reducible] def c24r11 : List J := [⟨none, (some 10), false, (.mov (.tmp 0))⟩, ⟨none, (some 11), false, (.cmp .lss (.tmp 10) (.const (.int .i64 0)))⟩]
@[reducible] def c24s12 : C := (.ops c24r11 (some [0, 1, 11]))
@[reducible] def c24r13 : List J := [⟨none, (some 12), false, (.mov (.tmp 0))⟩, ⟨none, (some 13), false, (.mov (.tmp 1))⟩, ⟨none, (some 14), false, (.arith .add (.tmp 12) (.tmp 13))⟩, ⟨none, (some 0), false, (.mov (.tmp 14))⟩]
@[reducible] def c24s14 : C := (.ops c24r13 (some [0]))
@[reducible] def c24s15 : C := (.cond (.tmp 11) c24s14 .skip)
@[reducible] def c24s16 : C := (.seq c24s12 c24s15)
@[reducible] def c24r17 : List J := [⟨none, (some 15), false, (.mov (.tmp 0))⟩, ⟨none, (some 4), false, (.mov (.tmp 15))⟩]
@[reducible] def c24s18 : C := (.ops c24r17 (some [4]))
@[reducible] def c24s19 : C := (.seq c24s18 .ret)
@[reducible] def c24s20 : C := (.seq c24s16 c24s19)
@[reducible] def c24s21 : C := (.seq c24s10 c24s20)
@[reducible] def c24s22 : C := (.seq c24s8 c24s21)
@[reducible] def c24 : C := (.seq c24s1 c24s22)
theorem f24 : compF Go.Proofs.Tryd.prog 24 = some ⟨16, strip c24, [(.tmp 4)]⟩ := by kernel_rfl
theorem o24 : okC 16 c24 = true := by kernel_rfl

end Go.Proofs.YtdgbnaignpploaaDoor.k
