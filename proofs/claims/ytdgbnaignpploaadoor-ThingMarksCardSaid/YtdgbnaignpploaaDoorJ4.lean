/- What came in: parts, cards, marks within their kinds. -/
import Derived.Test.YtdgbnaignpploaaDoorJ3
import Derived.Test.YtdgbnaignpploaaDoorB0
namespace Go.Proofs.YtdgbnaignpploaaDoor.bk
open Go.Sym Go.RowKit
set_option linter.unusedVariables false
structure Part.U (p : Part) : Prop where
  wn : U8 p.wn
  vb : U8 p.vb
  wm : U8 p.wm
  ct : I64 p.ct
  su : U8 p.su
  tr : U8 p.tr
  ma : U8 p.ma
  nm : p.nm.size ≤ maxLen
structure KC.U (c : KC) : Prop where
  su : U8 c.h.su
  ki : U8 c.h.ki
  co : I64 c.h.co
  po : I64 c.h.po
  he : I64 c.h.he
  tr : 0 ≤ c.h.tr ∧ c.h.tr ≤ 65535
  nm : c.h.nm.size ≤ maxLen
  ps : ∀ p ∈ c.ps, p.U
  ln : c.ps.length ≤ maxLen
structure MK.U (m : MK) : Prop where
  ma : U8 m.ma
  po : I64 m.po
  he : I64 m.he
  nm : m.nm.size ≤ maxLen
end Go.Proofs.YtdgbnaignpploaaDoor.bk
