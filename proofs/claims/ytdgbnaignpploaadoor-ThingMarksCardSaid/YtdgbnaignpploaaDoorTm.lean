/- strings.Trim at an ASCII cutset over this translation, by the shelf's contract. -/
import Derived.Test.YtdgbnaignpploaaDoorChecked
import Derived.Test.YtdgbnaignpploaaDoorKe
import Derived.Ground.NamesProg
import Derived.Shelf.Lay
import Derived.Shelf.Strings.SlTrimAscii
namespace Go.Proofs
open Go.Shelf Go.RowKit

shelf_lay Lays.n160 Nm 160 at Tryd as Tryd.laysTrim

theorem YtdgbnaignpploaaDoor.d_trim {Bar : Nat} {X : Sym.St} (s c : ByteArray) (hs : s.size < 100000) (hl : c.size < 100000) (hc : ∀ b ∈ c.data.toList, b.toNat < 128) :
    Sym.Does Tryd.prog Bar 107 [.string s, .string c] X (fun v X' => v = .string ⟨(Lib.trimS s.data.toList c.data.toList).toArray⟩ ∧ X' = X) :=
  Sym.Does.of_below ⟨_, Tryd.func107, rfl⟩ fun w => Any.strings_Trim_laid Tryd.laysTrim (by kernel_rfl) s c w (by omega) (by omega) (fun j b hj => hc b (List.mem_of_getElem? hj))
end Go.Proofs
