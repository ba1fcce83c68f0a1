/- PRINTED BY symgen.py: the compiled code of functions 67 106. -/
import Derived.Test.YtdgbnaignpploaaDoorChecked
import Derived.Test.YtdgbnaignpploaaDoorSy
namespace Go.Proofs.YtdgbnaignpploaaDoor.k
open Go.Sym
set_option linter.unusedVariables false
set_option maxRecDepth 100000

@[reducible] def c67r0 : List J := [⟨none, (some 4), false, (.mov (.const (.int .u16 0)))⟩]
@[reducible] def c67s1 : C := (.ops c67r0 (some [0, 1]))
@[reducible] def c67r2 : List J := [⟨none, (some 5), false, (.mov (.tmp 0))⟩, ⟨none, (some 6), false, (.mov (.tmp 1))⟩, ⟨none, (some 7), false, (.call (.func 85) [(.tmp 6)])⟩, ⟨none, (some 8), false, (.bits .or (.tmp 5) (.tmp 7))⟩, ⟨none, (some 4), false, (.mov (.tmp 8))⟩]
@[reducible] def c67s3 : C := (.ops c67r2 (some [4]))
@[reducible] def c67s4 : C := (.seq c67s3 .ret)
@[reducible] def c67 : C := (.seq c67s1 c67s4)
theorem f67 : compF Go.Proofs.Tryd.prog 67 = some ⟨9, strip c67, [(.tmp 4)]⟩ := by kernel_rfl
theorem o67 : okC 9 c67 = true := by kernel_rfl

@[reducible] def c106r0 : List J := [⟨none, (some 2), false, (.mov (.const (.bool false)))⟩]
@[reducible] def c106s1 : C := (.ops c106r0 (some [0]))
@[reducible] def c106r2 : List J := [⟨none, (some 3), false, (.mov (.tmp 0))⟩, ⟨none, (some 4), false, (.cmp .geq (.tmp 3) (.const (.int .u8 1)))⟩, ⟨none, (some 5), false, (.mov (.tmp 4))⟩, ⟨(some ((some 5), true)), (some 6), false, (.mov (.tmp 0))⟩, ⟨(some ((some 5), true)), (some 7), false, (.cmp .leq (.tmp 6) (.const (.int .u8 8)))⟩, ⟨none, (some 8), false, (.pick (.tmp 5) (.tmp 7) (.const (.bool false)))⟩, ⟨none, (some 2), false, (.mov (.tmp 8))⟩]
@[reducible] def c106s3 : C := (.ops c106r2 (some [2]))
@[reducible] def c106s4 : C := (.seq c106s3 .ret)
@[reducible] def c106 : C := (.seq c106s1 c106s4)
theorem f106 : compF Go.Proofs.Tryd.prog 106 = some ⟨9, strip c106, [(.tmp 2)]⟩ := by kernel_rfl
theorem o106 : okC 9 c106 = true := by kernel_rfl

end Go.Proofs.YtdgbnaignpploaaDoor.k
