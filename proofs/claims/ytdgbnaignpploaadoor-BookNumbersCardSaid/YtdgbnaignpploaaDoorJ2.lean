/- What came in: parts, cards, marks, texts, numbers, whole fills. -/
import Derived.Test.YtdgbnaignpploaaDoorJ1
import Derived.Test.YtdgbnaignpploaaDoorL3
namespace Go.Proofs.YtdgbnaignpploaaDoor.bk
open Go.Sym Go.RowKit
set_option linter.unusedVariables false
/-- numbers within their kinds -/
def U8 (n : Int) : Prop := 0 ≤ n ∧ n ≤ 255
def I64 (n : Int) : Prop := -9223372036854775808 ≤ n ∧ n ≤ 9223372036854775807
structure Part.U (p : Part) : Prop where
  wn : U8 p.wn
  vb : U8 p.vb
  wm : U8 p.wm
  ct : I64 p.ct
  su : U8 p.su
  tr : U8 p.tr
  ma : U8 p.ma
  nm : p.nm.size ≤ maxLen
structure KC.U (c : KC) : Prop where
  su : U8 c.h.su
  ki : U8 c.h.ki
  co : I64 c.h.co
  po : I64 c.h.po
  he : I64 c.h.he
  tr : 0 ≤ c.h.tr ∧ c.h.tr ≤ 65535
  nm : c.h.nm.size ≤ maxLen
  ps : ∀ p ∈ c.ps, p.U
  ln : c.ps.length ≤ maxLen
structure MK.U (m : MK) : Prop where
  ma : U8 m.ma
  po : I64 m.po
  he : I64 m.he
  nm : m.nm.size ≤ maxLen
theorem wf8 {n : Int} (h : (Lit.int .u8 n).wf = true) : U8 n := by
  unfold Lit.wf at h
  simp only [Bool.and_eq_true, decide_eq_true_eq] at h
  exact h
theorem wf16 {n : Int} (h : (Lit.int .u16 n).wf = true) : 0 ≤ n ∧ n ≤ 65535 := by
  unfold Lit.wf at h
  simp only [Bool.and_eq_true, decide_eq_true_eq] at h
  exact h
theorem wf64 {n : Int} (h : (Lit.int .i64 n).wf = true) : I64 n := by
  unfold Lit.wf at h
  simp only [Bool.and_eq_true, decide_eq_true_eq] at h
  exact h
section
variable {H : Type} {enc : TypeId × Value → H} {w : World} {base : Nat} {spare : Nat → Bool} {held : Bool}
theorem len2 {l : List Value} (h : l.length = 2) : ∃ a b, l = [a, b] := by
  obtain _ | ⟨a, _ | ⟨b, _ | ⟨c, l⟩⟩⟩ := l <;> simp at h
  exact ⟨a, b, rfl⟩
theorem len3 {l : List Value} (h : l.length = 3) : ∃ a b c, l = [a, b, c] := by
  obtain _ | ⟨a, l⟩ := l
  · cases h
  · obtain ⟨b, c, rfl⟩ := len2 (l := l) (by simpa using h); exact ⟨a, b, c, rfl⟩
theorem len4 {l : List Value} (h : l.length = 4) : ∃ a b c d, l = [a, b, c, d] := by
  obtain _ | ⟨a, l⟩ := l
  · cases h
  · obtain ⟨b, c, d, rfl⟩ := len3 (l := l) (by simpa using h); exact ⟨a, b, c, d, rfl⟩
theorem len8 {l : List Value} (h : l.length = 8) : ∃ a b c d e f g i, l = [a, b, c, d, e, f, g, i] := by
  obtain _ | ⟨a, _ | ⟨b, _ | ⟨c, _ | ⟨d, l⟩⟩⟩⟩ := l
  · cases h
  · simp at h
  · simp at h
  · simp at h
  · obtain ⟨e, f, g, i, rfl⟩ := len4 (l := l) (by simpa using h); exact ⟨a, b, c, d, e, f, g, i, rfl⟩
theorem len9 {l : List Value} (h : l.length = 9) : ∃ a b c d e f g i j, l = [a, b, c, d, e, f, g, i, j] := by
  obtain _ | ⟨a, l⟩ := l
  · cases h
  · obtain ⟨b, c, d, e, f, g, i, j, rfl⟩ := len8 (l := l) (by simpa using h); exact ⟨a, b, c, d, e, f, g, i, j, rfl⟩
theorem open_part {m : Nat} {cs : List Value} {y : DataW H × List MemPlace} (h : DataW.trod enc Go.Proofs.Tryd.prog w base spare held m 72 cs = some y) : ∃ p : Part, cs = p.cells ∧ p.U := by
  obtain ⟨xs, n, -, -, hl, hx, hf⟩ := DataW.trod_struct Go.Proofs.Tryd.underlying72 h
  have hl : cs.length = 8 := hl.trans (by kernel_rfl)
  obtain ⟨v0, v1, v2, v3, v4, v5, v6, v7, rfl⟩ := len8 hl
  obtain ⟨y0, h0⟩ := open_field hx hf 0 rfl (by kernel_rfl) rfl
  obtain ⟨z0, e0, -, w0⟩ := DataW.trod_int (k := .u8) (by kernel_rfl) h0
  cases e0
  obtain ⟨y1, h1⟩ := open_field hx hf 1 rfl (by kernel_rfl) rfl
  obtain ⟨z1, e1, -, w1⟩ := DataW.trod_int (k := .u8) (by kernel_rfl) h1
  cases e1
  obtain ⟨y2, h2⟩ := open_field hx hf 2 rfl (by kernel_rfl) rfl
  obtain ⟨z2, e2, -, w2⟩ := DataW.trod_int (k := .u8) (by kernel_rfl) h2
  cases e2
  obtain ⟨y3, h3⟩ := open_field hx hf 3 rfl (by kernel_rfl) rfl
  obtain ⟨z3, e3, -, w3⟩ := DataW.trod_int (k := .i64) (by kernel_rfl) h3
  cases e3
  obtain ⟨y4, h4⟩ := open_field hx hf 4 rfl (by kernel_rfl) rfl
  obtain ⟨z4, e4, -, w4⟩ := DataW.trod_int (k := .u8) (by kernel_rfl) h4
  cases e4
  obtain ⟨y5, h5⟩ := open_field hx hf 5 rfl (by kernel_rfl) rfl
  obtain ⟨z5, e5, -, w5⟩ := DataW.trod_int (k := .u8) (by kernel_rfl) h5
  cases e5
  obtain ⟨y6, h6⟩ := open_field hx hf 6 rfl (by kernel_rfl) rfl
  obtain ⟨z6, e6, -, w6⟩ := DataW.trod_int (k := .u8) (by kernel_rfl) h6
  cases e6
  obtain ⟨y7, h7⟩ := open_field hx hf 7 rfl (by kernel_rfl) rfl
  obtain ⟨z7, e7, -, w7⟩ := DataW.trod_string (by kernel_rfl) h7
  cases e7
  exact ⟨⟨z0, z1, z2, z3, z4, z5, z6, z7⟩, rfl, ⟨wf8 w0, wf8 w1, wf8 w2, wf64 w3, wf8 w4, wf8 w5, wf8 w6, w7⟩⟩
theorem open_mark {m : Nat} {cs : List Value} {y : DataW H × List MemPlace} (h : DataW.trod enc Go.Proofs.Tryd.prog w base spare held m 63 cs = some y) : ∃ p : MK, cs = p.cells ∧ p.U := by
  obtain ⟨xs, n, -, -, hl, hx, hf⟩ := DataW.trod_struct Go.Proofs.Tryd.underlying63 h
  have hl : cs.length = 4 := hl.trans (by kernel_rfl)
  obtain ⟨v0, v1, v2, v3, rfl⟩ := len4 hl
  obtain ⟨y0, h0⟩ := open_field hx hf 0 rfl (by kernel_rfl) rfl
  obtain ⟨z0, e0, -, w0⟩ := DataW.trod_int (k := .u8) (by kernel_rfl) h0
  cases e0
  obtain ⟨y1, h1⟩ := open_field hx hf 1 rfl (by kernel_rfl) rfl
  obtain ⟨z1, e1, -, w1⟩ := DataW.trod_string (by kernel_rfl) h1
  cases e1
  obtain ⟨y2, h2⟩ := open_field hx hf 2 rfl (by kernel_rfl) rfl
  obtain ⟨z2, e2, -, w2⟩ := DataW.trod_int (k := .i64) (by kernel_rfl) h2
  cases e2
  obtain ⟨y3, h3⟩ := open_field hx hf 3 rfl (by kernel_rfl) rfl
  obtain ⟨z3, e3, -, w3⟩ := DataW.trod_int (k := .i64) (by kernel_rfl) h3
  cases e3
  exact ⟨⟨z0, z1, z2, z3⟩, rfl, ⟨wf8 w0, wf64 w2, wf64 w3, w1⟩⟩
theorem open_card {m : Nat} {cs : List Value} {y : DataW H × List MemPlace} (h : DataW.trod enc Go.Proofs.Tryd.prog w base spare held m 51 cs = some y) : ∃ c : KC, cs = c.cells ∧ PartsK (Go.Sym.seen w) c.po c.ps ∧ c.U := by
  obtain ⟨xs, n, -, -, hl, hx, hf⟩ := DataW.trod_struct Go.Proofs.Tryd.underlying51 h
  have hl : cs.length = 9 := hl.trans (by kernel_rfl)
  obtain ⟨v0, v1, v2, v3, v4, v5, v6, v7, v8, rfl⟩ := len9 hl
  obtain ⟨y0, h0⟩ := open_field hx hf 0 rfl (by kernel_rfl) rfl
  obtain ⟨z0, e0, -, w0⟩ := DataW.trod_string (by kernel_rfl) h0
  cases e0
  obtain ⟨y1, h1⟩ := open_field hx hf 1 rfl (by kernel_rfl) rfl
  obtain ⟨z1, e1, -, w1⟩ := DataW.trod_int (k := .u8) (by kernel_rfl) h1
  cases e1
  obtain ⟨y2, h2⟩ := open_field hx hf 2 rfl (by kernel_rfl) rfl
  obtain ⟨z2, e2, -, w2⟩ := DataW.trod_int (k := .u8) (by kernel_rfl) h2
  cases e2
  obtain ⟨y3, h3⟩ := open_field hx hf 3 rfl (by kernel_rfl) rfl
  obtain ⟨z3, e3, -, w3⟩ := DataW.trod_int (k := .i64) (by kernel_rfl) h3
  cases e3
  obtain ⟨y4, h4⟩ := open_field hx hf 4 rfl (by kernel_rfl) rfl
  obtain ⟨z4, e4, -, w4⟩ := DataW.trod_int (k := .i64) (by kernel_rfl) h4
  cases e4
  obtain ⟨y5, h5⟩ := open_field hx hf 5 rfl (by kernel_rfl) rfl
  obtain ⟨z5, e5, -, w5⟩ := DataW.trod_int (k := .i64) (by kernel_rfl) h5
  cases e5
  obtain ⟨y6, h6⟩ := open_field hx hf 6 rfl (by kernel_rfl) rfl
  obtain ⟨z6, e6, -, w6⟩ := DataW.trod_int (k := .u16) (by kernel_rfl) h6
  cases e6
  obtain ⟨y7, h7⟩ := open_field hx hf 7 rfl (by kernel_rfl) rfl
  obtain ⟨z7, e7, -⟩ := DataW.trod_bool (by kernel_rfl) h7
  cases e7
  obtain ⟨y8, h8⟩ := open_field hx hf 8 rfl (by kernel_rfl) rfl
  obtain ⟨po, cap, C, e8, hU, h9, hl1, hl2⟩ := open_listF (e := 72) (n := 8) (f := Part.cells) (by kernel_rfl) (by kernel_rfl) (by decide) (fun m cs y h => open_part h) h8
  cases e8
  exact ⟨⟨⟨z0, z1, z2, z3, z4, z5, z6, z7⟩, po, cap, C⟩, rfl, h9, ⟨wf8 w1, wf8 w2, wf64 w3, wf64 w4, wf64 w5, wf16 w6, w0, hU, Nat.le_trans hl1 hl2⟩⟩
theorem open_cards {m : Nat} {cs : List Value} {y : DataW H × List MemPlace} (h : DataW.trod enc Go.Proofs.Tryd.prog w base spare held m 22 cs = some y) : ∃ po cap C, cs = [.slice po C.length cap] ∧ CardsK (Go.Sym.seen w) po C ∧ (∀ c ∈ C, c.U) ∧ C.length ≤ maxLen := by
  obtain ⟨po, cap, C, e8, h8, h9, hl1, hl2⟩ := open_listF (e := 51) (n := 9) (f := KC.cells) (by kernel_rfl) (by kernel_rfl) (by decide) (fun m cs y h => open_card h) h
  exact ⟨po, cap, C, e8, ⟨h9, fun c hc => (h8 c hc).1⟩, fun c hc => (h8 c hc).2, Nat.le_trans hl1 hl2⟩
theorem open_marks {m : Nat} {cs : List Value} {y : DataW H × List MemPlace} (h : DataW.trod enc Go.Proofs.Tryd.prog w base spare held m 23 cs = some y) : ∃ po cap C, cs = [.slice po C.length cap] ∧ MarksK (Go.Sym.seen w) po C ∧ (∀ c ∈ C, c.U) ∧ C.length ≤ maxLen := by
  obtain ⟨po, cap, C, e8, h8, h9, hl1, hl2⟩ := open_listF (e := 63) (n := 4) (f := MK.cells) (by kernel_rfl) (by kernel_rfl) (by decide) (fun m cs y h => open_mark h) h
  exact ⟨po, cap, C, e8, h9, h8, Nat.le_trans hl1 hl2⟩
theorem open_texts {m : Nat} {cs : List Value} {y : DataW H × List MemPlace} (h : DataW.trod enc Go.Proofs.Tryd.prog w base spare held m 45 cs = some y) : ∃ po cap C, cs = [.slice po C.length cap] ∧ TextsK (Go.Sym.seen w) po C ∧ C.length ≤ maxLen := by
  obtain ⟨po, cap, C, e8, h8, h9, hl1, hl2⟩ := open_listF (e := 9) (n := 1) (f := fun s => [Value.string s]) (R := fun _ => True) (by kernel_rfl) (by kernel_rfl) (by decide) (fun m cs y h => by
    obtain ⟨z, e, -, -⟩ := DataW.trod_string (by kernel_rfl) h
    exact ⟨z, e, trivial⟩) h
  rw [flatMap_one, Nat.mul_one] at h9
  exact ⟨po, cap, C, e8, h9, Nat.le_trans hl1 hl2⟩
theorem open_ints {m : Nat} {cs : List Value} {y : DataW H × List MemPlace} (h : DataW.trod enc Go.Proofs.Tryd.prog w base spare held m 78 cs = some y) : ∃ po cap C, cs = [.slice po C.length cap] ∧ IntsK (Go.Sym.seen w) po C ∧ (∀ n ∈ C, I64 n) ∧ C.length ≤ maxLen := by
  obtain ⟨po, cap, C, e8, h8, h9, hl1, hl2⟩ := open_listF (e := 3) (n := 1) (f := fun s => [Value.int .i64 s]) (R := I64) (by kernel_rfl) (by kernel_rfl) (by decide) (fun m cs y h => by
    obtain ⟨z, e, -, w⟩ := DataW.trod_int (k := .i64) (by kernel_rfl) h
    exact ⟨z, e, wf64 w⟩) h
  rw [flatMap_one, Nat.mul_one] at h9
  exact ⟨po, cap, C, e8, h9, h8, Nat.le_trans hl1 hl2⟩
theorem open_fill {m : Nat} {cs : List Value} {y : DataW H × List MemPlace} (h : DataW.trod enc Go.Proofs.Tryd.prog w base spare held m 47 cs = some y) :
    ∃ co cc cards to tc texts mo mc marks, cs = [.slice co cards.length cc, .slice to texts.length tc, .slice mo marks.length mc] ∧ CardsK (Go.Sym.seen w) co cards ∧ TextsK (Go.Sym.seen w) to texts ∧ MarksK (Go.Sym.seen w) mo marks ∧ (∀ c ∈ cards, c.U) ∧ (∀ c ∈ marks, c.U) := by
  obtain ⟨xs, n, -, -, hl, hx, hf⟩ := DataW.trod_struct Go.Proofs.Tryd.underlying47 h
  have hl : cs.length = 3 := hl.trans (by kernel_rfl)
  obtain ⟨v0, v1, v2, rfl⟩ := len3 hl
  obtain ⟨y0, h0⟩ := open_field hx hf 0 rfl (by kernel_rfl) rfl
  obtain ⟨y1, h1⟩ := open_field hx hf 1 rfl (by kernel_rfl) rfl
  obtain ⟨y2, h2⟩ := open_field hx hf 2 rfl (by kernel_rfl) rfl
  obtain ⟨co, cc, cards, e0, k0, u0, -⟩ := open_cards h0
  obtain ⟨to, tc, texts, e1, k1, -⟩ := open_texts h1
  obtain ⟨mo, mc, marks, e2, k2, u2, -⟩ := open_marks h2
  cases e0; cases e1; cases e2
  exact ⟨co, cc, cards, to, tc, texts, mo, mc, marks, rfl, k0, k1, k2, u0, u2⟩
end
end Go.Proofs.YtdgbnaignpploaaDoor.bk
