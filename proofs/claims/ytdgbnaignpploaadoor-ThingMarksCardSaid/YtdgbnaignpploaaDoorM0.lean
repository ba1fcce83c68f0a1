/- Lists of cards, of texts, of marks, that lie somewhere. -/
import Derived.Test.YtdgbnaignpploaaDoorBD
import Derived.Test.YtdgbnaignpploaaDoorL4
namespace Go.Proofs.YtdgbnaignpploaaDoor.bk
open Go.Sym
set_option linter.unusedVariables false
set_option linter.unusedSimpArgs false
variable {Bar : Nat} {X : St}
/-- cards, texts and marks that lie somewhere -/
def CardsK (X : St) (po : Option Addr) (cs : List KC) : Prop := (cs = [] ∨ ∃ b o, po = some ⟨b, o, none⟩ ∧ cellsOf (X.get b) o (cs.length * 9) = some (cs.flatMap KC.cells)) ∧ ∀ c ∈ cs, PartsK X c.po c.ps
def TextsK (X : St) (po : Option Addr) (ts : List ByteArray) : Prop := ts = [] ∨ ∃ b o, po = some ⟨b, o, none⟩ ∧ cellsOf (X.get b) o ts.length = some (ts.map .string)
def MarksK (X : St) (po : Option Addr) (ms : List MK) : Prop := ms = [] ∨ ∃ b o, po = some ⟨b, o, none⟩ ∧ cellsOf (X.get b) o (ms.length * 4) = some (ms.flatMap MK.cells)
theorem CardsK.at {po : Option Addr} {cs : List KC} (h : CardsK X po cs) {k : Nat} {c : KC} (hc : cs[k]? = some c) : ∃ b o, po = some ⟨b, o, none⟩ ∧ cellsOf (X.get b) (o + k * 9) 9 = some c.cells := by
  rcases h.1 with rfl | ⟨b, o, rfl, h2⟩
  · simp at hc
  · have := (List.getElem?_eq_some_iff.1 hc).1
    exact ⟨b, o, rfl, by rw [cellsOf_sub h2 (by omega), flat_at hc]⟩
theorem MarksK.at {po : Option Addr} {ms : List MK} (h : MarksK X po ms) {k : Nat} {c : MK} (hc : ms[k]? = some c) : ∃ b o, po = some ⟨b, o, none⟩ ∧ cellsOf (X.get b) (o + k * 4) 4 = some c.cells := by
  rcases h with rfl | ⟨b, o, rfl, h⟩
  · simp at hc
  · have := (List.getElem?_eq_some_iff.1 hc).1
    exact ⟨b, o, rfl, by rw [cellsOf_sub h (by omega), mflat_at hc]⟩
theorem TextsK.at {po : Option Addr} {ts : List ByteArray} (h : TextsK X po ts) {k : Nat} {c : ByteArray} (hc : ts[k]? = some c) : ∃ b o, po = some ⟨b, o, none⟩ ∧ b < X.next ∧ cellOf (X.get b) (o + k * 1) = some (.string c) := by
  rcases h with rfl | ⟨b, o, rfl, h⟩
  · simp at hc
  · have hk := (List.getElem?_eq_some_iff.1 hc).1
    refine ⟨b, o, rfl, cellsOf_lt h, cellOf_of ?_⟩
    rw [Nat.mul_one, cellsOf_sub h (i := k) (m := 1) (by omega)]
    congr 1
    have : (ts.map Value.string)[k]? = some (.string c) := by rw [List.getElem?_map, hc]; rfl
    obtain ⟨h1, h2⟩ := List.getElem?_eq_some_iff.1 this
    rw [List.drop_eq_getElem_cons h1, h2]; rfl
theorem CardsK.le {Y : St} {po : Option Addr} {cs : List KC} (h : CardsK X po cs) (k : Le X Y) : CardsK Y po cs := by
  refine ⟨?_, fun c hc => (h.2 c hc).le k⟩
  rcases h.1 with h2 | ⟨b, o, rfl, h2⟩
  · exact .inl h2
  · exact .inr ⟨b, o, rfl, cellsOf_le h2 k⟩
theorem TextsK.le {Y : St} {po : Option Addr} {ts : List ByteArray} (h : TextsK X po ts) (k : Le X Y) : TextsK Y po ts := by
  rcases h with h | ⟨b, o, rfl, h⟩
  · exact .inl h
  · exact .inr ⟨b, o, rfl, cellsOf_le h k⟩
theorem MarksK.le {Y : St} {po : Option Addr} {ts : List MK} (h : MarksK X po ts) (k : Le X Y) : MarksK Y po ts := by
  rcases h with h | ⟨b, o, rfl, h⟩
  · exact .inl h
  · exact .inr ⟨b, o, rfl, cellsOf_le h k⟩
end Go.Proofs.YtdgbnaignpploaaDoor.bk
