/- What came in: numbers. -/
import Derived.Test.YtdgbnaignpploaaDoorJ1
import Derived.Test.YtdgbnaignpploaaDoorL4
namespace Go.Proofs.YtdgbnaignpploaaDoor.bk
open Go.Sym Go.RowKit
set_option linter.unusedVariables false
/-- numbers within their kinds -/
def U8 (n : Int) : Prop := 0 ≤ n ∧ n ≤ 255
def I64 (n : Int) : Prop := -9223372036854775808 ≤ n ∧ n ≤ 9223372036854775807
theorem wf8 {n : Int} (h : (Lit.int .u8 n).wf = true) : U8 n := by
  unfold Lit.wf at h
  simp only [Bool.and_eq_true, decide_eq_true_eq] at h
  exact h
theorem wf16 {n : Int} (h : (Lit.int .u16 n).wf = true) : 0 ≤ n ∧ n ≤ 65535 := by
  unfold Lit.wf at h
  simp only [Bool.and_eq_true, decide_eq_true_eq] at h
  exact h
theorem wf64 {n : Int} (h : (Lit.int .i64 n).wf = true) : I64 n := by
  unfold Lit.wf at h
  simp only [Bool.and_eq_true, decide_eq_true_eq] at h
  exact h
section
variable {H : Type} {enc : TypeId × Value → H} {w : World} {base : Nat} {spare : Nat → Bool} {held : Bool}
theorem open_ints {m : Nat} {cs : List Value} {y : DataW H × List MemPlace} (h : DataW.trod enc Go.Proofs.Tryd.prog w base spare held m 78 cs = some y) : ∃ po cap C, cs = [.slice po C.length cap] ∧ IntsK (Go.Sym.seen w) po C ∧ (∀ n ∈ C, I64 n) ∧ C.length ≤ maxLen := by
  obtain ⟨po, cap, C, e8, h8, h9, hl1, hl2⟩ := open_listF (e := 3) (n := 1) (f := fun s => [Value.int .i64 s]) (R := I64) (by kernel_rfl) (by kernel_rfl) (by decide) (fun m cs y h => by
    obtain ⟨z, e, -, w⟩ := DataW.trod_int (k := .i64) (by kernel_rfl) h
    exact ⟨z, e, wf64 w⟩) h
  rw [flatMap_one, Nat.mul_one] at h9
  exact ⟨po, cap, C, e8, h9, h8, Nat.le_trans hl1 hl2⟩
end
end Go.Proofs.YtdgbnaignpploaaDoor.bk
