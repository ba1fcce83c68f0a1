/- What came in, with its weights: cards, marks, whole fills, features, things. -/
import Derived.OpenShut
import Derived.Test.YtdgbnaignpploaaDoorJ4
import Derived.Test.YtdgbnaignpploaaDoorS0
import Derived.Test.YtdgbnaignpploaaDoorM0
import Derived.Test.YtdgbnaignpploaaDoorT2
namespace Go.Sym
open Go.RowKit
set_option linter.unusedVariables false
section
variable {H : Type} {enc : TypeId × Value → H} {P : Program} {w : World} {base : Nat} {spare : Nat → Bool} {held : Bool}
theorem w_all {e : TypeId} : ∀ {ds : List (DataW H)} {i : Nat} {d : DataW H}, ds[i]? = some d → ∀ {z : Nat}, z ∈ d.weights P e → z ∈ DataW.weightsAll P e ds
  | [], _, _, h, _, _ => by simp at h
  | x :: r, 0, d, h, z, hz => by
    cases h
    simp only [DataW.weightsAll]
    exact List.mem_append_left _ hz
  | x :: r, i + 1, d, h, z, hz => by
    simp only [DataW.weightsAll]
    exact List.mem_append_right _ (w_all (ds := r) (i := i) (by simpa using h) hz)
theorem w_each : ∀ {ts : List TypeId} {ds : List (DataW H)} {i : Nat} {t : TypeId} {d : DataW H}, ts[i]? = some t → ds[i]? = some d → ∀ {z : Nat}, z ∈ d.weights P t → z ∈ DataW.weightsEach P ts ds
  | [], _, _, _, _, h, _, _, _ => by simp at h
  | _ :: _, [], _, _, _, _, h, _, _ => by simp at h
  | t0 :: ts, x :: r, 0, t, d, h1, h, z, hz => by
    cases h; cases h1
    simp only [DataW.weightsEach]
    exact List.mem_append_left _ hz
  | t0 :: ts, x :: r, i + 1, t, d, h1, h, z, hz => by
    simp only [DataW.weightsEach]
    exact List.mem_append_right _ (w_each (ts := ts) (ds := r) (i := i) (by simpa using h1) (by simpa using h) hz)
theorem open_listW {t e : TypeId} {n : Nat} (ht : P.underlying t = some (.slice e)) (hn : P.cellsOf e = n) (h0 : 0 < n) {Q : List Value → Prop} {B : Nat} (hQ : ∀ m cs y, DataW.trod enc P w base spare held m e cs = some y → (∀ z ∈ y.1.weights P e, z ≤ B) → Q cs)
    {fuel : Nat} {cs : List Value} {x : DataW H × List MemPlace} (h : DataW.trod enc P w base spare held fuel t cs = some x) (hw : ∀ z ∈ x.1.weights P t, z ≤ B) :
    ∃ (po : Option Addr) (cap : Nat) (L : List (List Value)), cs = [.slice po L.length cap] ∧ (∀ l ∈ L, l.length = n ∧ Q l) ∧ (L = [] ∨ ∃ b o, po = some ⟨b, o, none⟩ ∧ cellsOf ((seen w).get b) o (L.length * n) = some L.flatten) ∧ L.length ≤ cap ∧ cap ≤ maxLen ∧ L.length * P.bytesOf e ≤ B := by
  rcases DataW.trod_slice ht h with ⟨rfl, rfl⟩ | ⟨a, len, cap, elems, rest, m, _, rfl, rfl, hb, hl, hm, hlen, hel, -, -⟩
  · exact ⟨none, 0, [], rfl, (fun l hl => by cases hl), Or.inl rfl, Nat.le_refl _, Nat.zero_le _, by simp⟩
  have hW : (DataW.slice (elems.map (·.1)) (rest.map (·.1))).weights P t = ((elems.map (·.1)).length + (rest.map (·.1)).length) * P.bytesOf e :: (DataW.weightsAll P e (elems.map (·.1)) ++ DataW.weightsAll P e (rest.map (·.1))) := by
    simp only [DataW.weights, ht]
  have hwa : ∀ z ∈ DataW.weightsAll P e (elems.map (·.1)), z ∈ (DataW.slice (elems.map (·.1)) (rest.map (·.1))).weights P t := fun z hz => by
    rw [hW]; exact List.mem_cons_of_mem _ (List.mem_append_left _ hz)
  have hwl : len * P.bytesOf e ≤ B := by
    have h9 := hw _ (by rw [hW]; exact List.mem_cons_self ..)
    rw [List.length_map, hlen] at h9
    exact Nat.le_trans (Nat.mul_le_mul_right _ (Nat.le_add_right _ _)) h9
  rw [hn] at hel
  have each : ∀ i, i < len → ∃ cs', w.cells? base (a.add (i * n)) n = some cs' ∧ Q cs' := fun i hi => by
    have := hel i hi
    rw [List.getElem?_eq_getElem (by omega), Option.bind_eq_some_iff] at this
    obtain ⟨cs', h1, h2⟩ := this
    exact ⟨cs', h1, hQ _ _ _ h2 (fun z hz => hw z (hwa z (w_all (List.getElem?_eq_getElem (l := elems.map (·.1)) (i := i) (by rw [List.length_map]; omega)) (by rw [List.getElem_map]; exact hz))))⟩
  obtain ⟨L, hL⟩ : ∃ L, L = (List.range len).map fun i => (w.cells? base (a.add (i * n)) n).getD [] := ⟨_, rfl⟩
  have hLl : L.length = len := by rw [hL, List.length_map, List.length_range]
  have hLi : ∀ i, i < len → ∃ l, L[i]? = some l ∧ w.cells? base (a.add (i * n)) n = some l ∧ Q l := fun i hi => by
    obtain ⟨cs', h1, h2⟩ := each i hi
    refine ⟨cs', ?_, h1, h2⟩
    rw [hL, List.getElem?_map, List.getElem?_range hi, Option.map_some, h1]; rfl
  have hall : ∀ l ∈ L, l.length = n ∧ Q l := fun l hlm => by
    obtain ⟨i, hi⟩ := List.getElem?_of_mem hlm
    have := (List.getElem?_eq_some_iff.1 hi).1
    obtain ⟨l', h1, h2, h3⟩ := hLi i (by omega)
    rw [hi] at h1; cases h1
    exact ⟨(World.cells?_some h2).2.1, h3⟩
  refine ⟨some a, cap, L, by rw [hLl], hall, ?_, by omega, hm, by rw [hLl]; exact hwl⟩
  by_cases hz : len = 0
  · left; exact List.eq_nil_of_length_eq_zero (by omega)
  right
  obtain ⟨l0, h1, h2, -⟩ := hLi 0 (by omega)
  have hl0 := World.cells?_some h2
  have h3 := hl0.2.2 0 h0
  rw [List.getElem?_eq_getElem (by omega), Nat.zero_mul] at h3
  obtain ⟨b, o, rfl⟩ : ∃ b o, a = ⟨b, o, none⟩ := by
    obtain ⟨b, o, s⟩ := a
    cases s with
    | none => exact ⟨b, o, rfl⟩
    | some s =>
      exfalso
      have e : ((⟨b, o, some s⟩ : Addr).add 0).add 0 = ⟨b, o, some s⟩ := by unfold Addr.add; simp
      rw [e] at h3
      unfold World.cell? at h3
      split at h3 <;> simp at h3
  refine ⟨b, o, rfl, seen_cells (flatten_len fun l hl => (hall l hl).1) (by rw [hLl]; exact Nat.mul_pos (by omega) h0) fun k hk => ?_⟩
  have hi : k / n < len := Nat.div_lt_of_lt_mul (by rw [Nat.mul_comm, ← hLl]; exact hk)
  have hj : k % n < n := Nat.mod_lt _ h0
  have hk' : k / n * n + k % n = k := by rw [Nat.mul_comm]; exact Nat.div_add_mod k n
  obtain ⟨l, g1, g2, -⟩ := hLi (k / n) hi
  have g3 := (World.cells?_some g2).2.2 (k % n) hj
  rw [addr_add, addr_add, Nat.add_assoc, hk'] at g3
  have g4 := flatten_at (fun l hl => (hall l hl).1) (k / n) (k % n) hj
  rw [g1, hk'] at g4
  rw [g3, g4]; rfl
theorem open_listFW {t e : TypeId} {n : Nat} {α : Type} {f : α → List Value} {R : α → Prop} (ht : P.underlying t = some (.slice e)) (hn : P.cellsOf e = n) (h0 : 0 < n)
    {B : Nat} (hQ : ∀ m cs y, DataW.trod enc P w base spare held m e cs = some y → (∀ z ∈ y.1.weights P e, z ≤ B) → ∃ c, cs = f c ∧ R c)
    {fuel : Nat} {cs : List Value} {x : DataW H × List MemPlace} (h : DataW.trod enc P w base spare held fuel t cs = some x) (hw : ∀ z ∈ x.1.weights P t, z ≤ B) :
    ∃ (po : Option Addr) (cap : Nat) (C : List α), cs = [.slice po C.length cap] ∧ (∀ c ∈ C, R c) ∧ (C = [] ∨ ∃ b o, po = some ⟨b, o, none⟩ ∧ cellsOf ((seen w).get b) o (C.length * n) = some (C.flatMap f)) ∧ C.length ≤ cap ∧ cap ≤ maxLen ∧ C.length * P.bytesOf e ≤ B := by
  obtain ⟨po, cap, L, rfl, h1, h2, h3, h4, h5⟩ := open_listW ht hn h0 hQ h hw
  obtain ⟨C, rfl, hC⟩ := list_map (f := f) (R := R) (fun l hl => (h1 l hl).2)
  rw [List.length_map] at *
  refine ⟨po, cap, C, rfl, hC, ?_, h3, h4, h5⟩
  rcases h2 with h2 | ⟨b, o, rfl, h2⟩
  · exact .inl (List.map_eq_nil_iff.1 h2)
  · exact .inr ⟨b, o, rfl, by rw [h2, flatMap_map]⟩
/-- a field of a struct, of one cell, and its weights -/
theorem open_fieldW {t : TypeId} {B : Nat} {fs : Array Field} {n : Nat} {cs : List Value} {xs : List (DataW H × List MemPlace)} (ht : P.underlying t = some (.struct fs)) (hx : xs.length = fs.size) (hw : ∀ z ∈ (DataW.agg (xs.map (·.1))).weights P t, z ≤ B)
    (h : ∀ (i : Nat) (f : Field), fs[i]? = some f → DataW.trod enc P w base spare held n f.type ((cs.drop f.offset).take (P.cellsOf f.type)) = xs[i]?) (i : Nat) {f : Field} {v : Value} (hf : fs[i]? = some f) (hc : P.cellsOf f.type = 1) (hv : cs[f.offset]? = some v) :
    ∃ y, DataW.trod enc P w base spare held n f.type [v] = some y ∧ ∀ z ∈ y.1.weights P f.type, z ≤ B := by
  have h1 := h i f hf
  obtain ⟨hlt, he⟩ := List.getElem?_eq_some_iff.1 hv
  have hi : i < fs.size := (Array.getElem?_eq_some_iff.1 hf).1
  rw [hc, List.drop_eq_getElem_cons hlt, he, List.getElem?_eq_getElem (by omega)] at h1
  refine ⟨_, h1, fun z hz => hw z ?_⟩
  simp only [DataW.weights, ht]
  exact w_each (i := i) (t := f.type) (by rw [List.getElem?_map, Array.getElem?_toList, hf]; rfl) (by rw [List.getElem?_map, List.getElem?_eq_getElem (by omega)]; rfl) hz
end
end Go.Sym
namespace Go.Proofs.YtdgbnaignpploaaDoor.bk
open Go.Sym Go.RowKit
set_option linter.unusedVariables false
set_option maxRecDepth 100000
section
variable {H : Type} {enc : TypeId × Value → H} {w : World} {base : Nat} {spare : Nat → Bool} {held : Bool}
theorem len2 {l : List Value} (h : l.length = 2) : ∃ a b, l = [a, b] := by
  obtain _ | ⟨a, _ | ⟨b, _ | ⟨c, l⟩⟩⟩ := l <;> simp at h
  exact ⟨a, b, rfl⟩
theorem len3 {l : List Value} (h : l.length = 3) : ∃ a b c, l = [a, b, c] := by
  obtain _ | ⟨a, l⟩ := l
  · cases h
  · obtain ⟨b, c, rfl⟩ := len2 (l := l) (by simpa using h); exact ⟨a, b, c, rfl⟩
theorem len4 {l : List Value} (h : l.length = 4) : ∃ a b c d, l = [a, b, c, d] := by
  obtain _ | ⟨a, l⟩ := l
  · cases h
  · obtain ⟨b, c, d, rfl⟩ := len3 (l := l) (by simpa using h); exact ⟨a, b, c, d, rfl⟩
theorem len8 {l : List Value} (h : l.length = 8) : ∃ a b c d e f g i, l = [a, b, c, d, e, f, g, i] := by
  obtain _ | ⟨a, _ | ⟨b, _ | ⟨c, _ | ⟨d, l⟩⟩⟩⟩ := l
  · cases h
  · simp at h
  · simp at h
  · simp at h
  · obtain ⟨e, f, g, i, rfl⟩ := len4 (l := l) (by simpa using h); exact ⟨a, b, c, d, e, f, g, i, rfl⟩
theorem len9 {l : List Value} (h : l.length = 9) : ∃ a b c d e f g i j, l = [a, b, c, d, e, f, g, i, j] := by
  obtain _ | ⟨a, l⟩ := l
  · cases h
  · obtain ⟨b, c, d, e, f, g, i, j, rfl⟩ := len8 (l := l) (by simpa using h); exact ⟨a, b, c, d, e, f, g, i, j, rfl⟩
theorem open_part {m : Nat} {cs : List Value} {y : DataW H × List MemPlace} (h : DataW.trod enc Go.Proofs.Tryd.prog w base spare held m 72 cs = some y) : ∃ p : Part, cs = p.cells ∧ p.U := by
  obtain ⟨xs, n, -, -, hl, hx, hf⟩ := DataW.trod_struct Go.Proofs.Tryd.underlying72 h
  have hl : cs.length = 8 := hl.trans (by kernel_rfl)
  obtain ⟨v0, v1, v2, v3, v4, v5, v6, v7, rfl⟩ := len8 hl
  obtain ⟨y0, h0⟩ := open_field hx hf 0 rfl (by kernel_rfl) rfl
  obtain ⟨z0, e0, -, w0⟩ := DataW.trod_int (k := .u8) (by kernel_rfl) h0
  cases e0
  obtain ⟨y1, h1⟩ := open_field hx hf 1 rfl (by kernel_rfl) rfl
  obtain ⟨z1, e1, -, w1⟩ := DataW.trod_int (k := .u8) (by kernel_rfl) h1
  cases e1
  obtain ⟨y2, h2⟩ := open_field hx hf 2 rfl (by kernel_rfl) rfl
  obtain ⟨z2, e2, -, w2⟩ := DataW.trod_int (k := .u8) (by kernel_rfl) h2
  cases e2
  obtain ⟨y3, h3⟩ := open_field hx hf 3 rfl (by kernel_rfl) rfl
  obtain ⟨z3, e3, -, w3⟩ := DataW.trod_int (k := .i64) (by kernel_rfl) h3
  cases e3
  obtain ⟨y4, h4⟩ := open_field hx hf 4 rfl (by kernel_rfl) rfl
  obtain ⟨z4, e4, -, w4⟩ := DataW.trod_int (k := .u8) (by kernel_rfl) h4
  cases e4
  obtain ⟨y5, h5⟩ := open_field hx hf 5 rfl (by kernel_rfl) rfl
  obtain ⟨z5, e5, -, w5⟩ := DataW.trod_int (k := .u8) (by kernel_rfl) h5
  cases e5
  obtain ⟨y6, h6⟩ := open_field hx hf 6 rfl (by kernel_rfl) rfl
  obtain ⟨z6, e6, -, w6⟩ := DataW.trod_int (k := .u8) (by kernel_rfl) h6
  cases e6
  obtain ⟨y7, h7⟩ := open_field hx hf 7 rfl (by kernel_rfl) rfl
  obtain ⟨z7, e7, -, w7⟩ := DataW.trod_string (by kernel_rfl) h7
  cases e7
  exact ⟨⟨z0, z1, z2, z3, z4, z5, z6, z7⟩, rfl, ⟨wf8 w0, wf8 w1, wf8 w2, wf64 w3, wf8 w4, wf8 w5, wf8 w6, w7⟩⟩
theorem open_mark {m : Nat} {cs : List Value} {y : DataW H × List MemPlace} (h : DataW.trod enc Go.Proofs.Tryd.prog w base spare held m 63 cs = some y) : ∃ p : MK, cs = p.cells ∧ p.U := by
  obtain ⟨xs, n, -, -, hl, hx, hf⟩ := DataW.trod_struct Go.Proofs.Tryd.underlying63 h
  have hl : cs.length = 4 := hl.trans (by kernel_rfl)
  obtain ⟨v0, v1, v2, v3, rfl⟩ := len4 hl
  obtain ⟨y0, h0⟩ := open_field hx hf 0 rfl (by kernel_rfl) rfl
  obtain ⟨z0, e0, -, w0⟩ := DataW.trod_int (k := .u8) (by kernel_rfl) h0
  cases e0
  obtain ⟨y1, h1⟩ := open_field hx hf 1 rfl (by kernel_rfl) rfl
  obtain ⟨z1, e1, -, w1⟩ := DataW.trod_string (by kernel_rfl) h1
  cases e1
  obtain ⟨y2, h2⟩ := open_field hx hf 2 rfl (by kernel_rfl) rfl
  obtain ⟨z2, e2, -, w2⟩ := DataW.trod_int (k := .i64) (by kernel_rfl) h2
  cases e2
  obtain ⟨y3, h3⟩ := open_field hx hf 3 rfl (by kernel_rfl) rfl
  obtain ⟨z3, e3, -, w3⟩ := DataW.trod_int (k := .i64) (by kernel_rfl) h3
  cases e3
  exact ⟨⟨z0, z1, z2, z3⟩, rfl, ⟨wf8 w0, wf64 w2, wf64 w3, w1⟩⟩
theorem open_cardW {m : Nat} {cs : List Value} {y : DataW H × List MemPlace} (h : DataW.trod enc Go.Proofs.Tryd.prog w base spare held m 51 cs = some y) (hw : ∀ z ∈ y.1.weights Go.Proofs.Tryd.prog 51, z ≤ reachBytes) : ∃ c : KC, cs = c.cells ∧ PartsK (Go.Sym.seen w) c.po c.ps ∧ c.U ∧ Small c := by
  obtain ⟨xs, n, -, ey, hl, hx, hf⟩ := DataW.trod_struct Go.Proofs.Tryd.underlying51 h
  rw [ey] at hw
  have hl : cs.length = 9 := hl.trans (by kernel_rfl)
  obtain ⟨v0, v1, v2, v3, v4, v5, v6, v7, v8, rfl⟩ := len9 hl
  obtain ⟨y0, h0⟩ := open_field hx hf 0 rfl (by kernel_rfl) rfl
  obtain ⟨z0, e0, -, w0⟩ := DataW.trod_string (by kernel_rfl) h0
  cases e0
  obtain ⟨y1, h1⟩ := open_field hx hf 1 rfl (by kernel_rfl) rfl
  obtain ⟨z1, e1, -, w1⟩ := DataW.trod_int (k := .u8) (by kernel_rfl) h1
  cases e1
  obtain ⟨y2, h2⟩ := open_field hx hf 2 rfl (by kernel_rfl) rfl
  obtain ⟨z2, e2, -, w2⟩ := DataW.trod_int (k := .u8) (by kernel_rfl) h2
  cases e2
  obtain ⟨y3, h3⟩ := open_field hx hf 3 rfl (by kernel_rfl) rfl
  obtain ⟨z3, e3, -, w3⟩ := DataW.trod_int (k := .i64) (by kernel_rfl) h3
  cases e3
  obtain ⟨y4, h4⟩ := open_field hx hf 4 rfl (by kernel_rfl) rfl
  obtain ⟨z4, e4, -, w4⟩ := DataW.trod_int (k := .i64) (by kernel_rfl) h4
  cases e4
  obtain ⟨y5, h5⟩ := open_field hx hf 5 rfl (by kernel_rfl) rfl
  obtain ⟨z5, e5, -, w5⟩ := DataW.trod_int (k := .i64) (by kernel_rfl) h5
  cases e5
  obtain ⟨y6, h6⟩ := open_field hx hf 6 rfl (by kernel_rfl) rfl
  obtain ⟨z6, e6, -, w6⟩ := DataW.trod_int (k := .u16) (by kernel_rfl) h6
  cases e6
  obtain ⟨y7, h7⟩ := open_field hx hf 7 rfl (by kernel_rfl) rfl
  obtain ⟨z7, e7, -⟩ := DataW.trod_bool (by kernel_rfl) h7
  cases e7
  obtain ⟨y8, h8, w8⟩ := open_fieldW Go.Proofs.Tryd.underlying51 hx hw hf 8 rfl (by kernel_rfl) rfl
  obtain ⟨po, cap, C, e8, hU, h9, hl1, hl2, hl3⟩ := open_listFW (e := 72) (n := 8) (f := Part.cells) (by kernel_rfl) (by kernel_rfl) (by decide) (fun m cs y h _ => open_part h) h8 w8
  cases e8
  refine ⟨⟨⟨z0, z1, z2, z3, z4, z5, z6, z7⟩, po, cap, C⟩, rfl, h9, ⟨wf8 w1, wf8 w2, wf64 w3, wf64 w4, wf64 w5, wf16 w6, w0, hU, Nat.le_trans hl1 hl2⟩, ?_⟩
  rw [show Go.Proofs.Tryd.prog.bytesOf 72 = 40 by kernel_rfl] at hl3
  exact Nat.le_trans hl3 (by decide)
theorem okWide_array {P : Program} {w : World} {r : Reach} {base : Nat} {t e : TypeId} {n : Nat} {v : Value} (ht : P.underlying t = some (.array n e)) (h : Value.okWide P w r base t v) : ∃ cs, v = .agg cs := by
  simp only [Value.okWide, ht] at h
  obtain ⟨cs, h1, _⟩ := h
  exact ⟨cs, h1⟩
theorem open_kfill {m : Nat} {cs : List Value} {y : DataW H × List MemPlace} (h : DataW.trod enc Go.Proofs.Tryd.prog w base spare held m 25 cs = some y) (hw : ∀ z ∈ y.1.weights Go.Proofs.Tryd.prog 25, z ≤ reachBytes) :
    ∃ co cc cards mo mc marks op, cs = [.slice co cards.length cc, .slice mo marks.length mc, .bool op] ∧ CardsK (Go.Sym.seen w) co cards ∧ MarksK (Go.Sym.seen w) mo marks ∧ (∀ c ∈ cards, c.U ∧ Small c) ∧ (∀ c ∈ marks, c.U) ∧ cards.length ≤ maxLen ∧ marks.length ≤ maxLen := by
  obtain ⟨xs, n, -, ey, hl, hx, hf⟩ := DataW.trod_struct Go.Proofs.Tryd.underlying25 h
  rw [ey] at hw
  have hl : cs.length = 3 := hl.trans (by kernel_rfl)
  obtain ⟨v0, v1, v2, rfl⟩ := len3 hl
  obtain ⟨y0, h0, w0⟩ := open_fieldW Go.Proofs.Tryd.underlying25 hx hw hf 0 rfl (by kernel_rfl) rfl
  obtain ⟨po, cap, C, e8, h8, h9, hl1, hl2, -⟩ := open_listFW (e := 51) (n := 9) (f := KC.cells) (by kernel_rfl) (by kernel_rfl) (by decide) (fun m cs y h hw => open_cardW h hw) h0 w0
  cases e8
  obtain ⟨y1, h1⟩ := open_field hx hf 1 rfl (by kernel_rfl) rfl
  obtain ⟨mo, mc, M, e7, k8, k9, kl1, kl2⟩ := open_listF (e := 63) (n := 4) (f := MK.cells) (by kernel_rfl) (by kernel_rfl) (by decide) (fun m cs y h => open_mark h) h1
  cases e7
  obtain ⟨y2, h2⟩ := open_field hx hf 2 rfl (by kernel_rfl) rfl
  obtain ⟨z2, e2, -⟩ := DataW.trod_bool (by kernel_rfl) h2
  cases e2
  exact ⟨po, cap, C, mo, mc, M, z2, rfl, ⟨h9, fun c hc => (h8 c hc).1⟩, k9, fun c hc => (h8 c hc).2, k8, Nat.le_trans hl1 hl2, Nat.le_trans kl1 kl2⟩
theorem open_feature {m : Nat} {cs : List Value} {y : DataW H × List MemPlace} (h : DataW.trod enc Go.Proofs.Tryd.prog w base spare held m 30 cs = some y) : ∃ f : FK, cs = f.cells := by
  obtain ⟨xs, n, -, -, hl, hx, hf⟩ := DataW.trod_struct Go.Proofs.Tryd.underlying30 h
  have hl : cs.length = 5 := hl.trans (by kernel_rfl)
  obtain _ | ⟨v0, cs⟩ := cs
  · cases hl
  obtain ⟨v1, v2, v3, v4, rfl⟩ := len4 (l := cs) (by simpa using hl)
  obtain ⟨y0, h0⟩ := open_field hx hf 0 rfl (by kernel_rfl) rfl
  obtain ⟨z0, e0, -, -⟩ := DataW.trod_int (k := .i64) (by kernel_rfl) h0
  cases e0
  obtain ⟨y1, h1⟩ := open_field hx hf 1 rfl (by kernel_rfl) rfl
  obtain ⟨z1, e1, -, -⟩ := DataW.trod_int (k := .u8) (by kernel_rfl) h1
  cases e1
  obtain ⟨y2, h2⟩ := open_field hx hf 2 rfl (by kernel_rfl) rfl
  obtain ⟨z2, e2, -, -⟩ := DataW.trod_int (k := .u16) (by kernel_rfl) h2
  cases e2
  obtain ⟨y3, h3⟩ := open_field hx hf 3 rfl (by kernel_rfl) rfl
  obtain ⟨z3, e3, -, -⟩ := DataW.trod_int (k := .i64) (by kernel_rfl) h3
  cases e3
  obtain ⟨y4, h4⟩ := open_field hx hf 4 rfl (by kernel_rfl) rfl
  obtain ⟨z4, e4, -, -⟩ := DataW.trod_int (k := .i64) (by kernel_rfl) h4
  cases e4
  exact ⟨⟨z0, z1, z2, z3, z4⟩, rfl⟩
theorem open_four {m : Nat} {cs : List Value} {y : DataW H × List MemPlace} (h : DataW.trod enc Go.Proofs.Tryd.prog w base spare held m 31 cs = some y) : ∃ l : List Int, cs = ints l ∧ l.length = 4 := by
  obtain ⟨xs, n, -, -, hl, hx, hf⟩ := DataW.trod_array Go.Proofs.Tryd.underlying31 h
  have hl : cs.length = 4 := hl.trans (by kernel_rfl)
  obtain ⟨v0, v1, v2, v3, rfl⟩ := len4 hl
  have c1 : Go.Proofs.Tryd.prog.cellsOf 3 = 1 := by kernel_rfl
  rw [c1] at hf
  have g0 := hf 0 (by decide); have g1 := hf 1 (by decide); have g2 := hf 2 (by decide); have g3 := hf 3 (by decide)
  rw [List.getElem?_eq_getElem (by omega)] at g0 g1 g2 g3
  obtain ⟨z0, e0, -, -⟩ := DataW.trod_int (k := .i64) (by kernel_rfl) g0
  obtain ⟨z1, e1, -, -⟩ := DataW.trod_int (k := .i64) (by kernel_rfl) g1
  obtain ⟨z2, e2, -, -⟩ := DataW.trod_int (k := .i64) (by kernel_rfl) g2
  obtain ⟨z3, e3, -, -⟩ := DataW.trod_int (k := .i64) (by kernel_rfl) g3
  have e0 : [v0] = _ := e0
  have e1 : [v1] = _ := e1
  have e2 : [v2] = _ := e2
  have e3 : [v3] = _ := e3
  cases e0; cases e1; cases e2; cases e3
  exact ⟨[z0, z1, z2, z3], rfl, rfl⟩
theorem len11 {l : List Value} (h : l.length = 11) : ∃ a b c d e f g i j k m, l = [a, b, c, d, e, f, g, i, j, k, m] := by
  obtain _ | ⟨a, _ | ⟨b, l⟩⟩ := l
  · cases h
  · simp at h
  · obtain ⟨c, d, e, f, g, i, j, k, m, rfl⟩ := len9 (l := l) (by simpa using h); exact ⟨a, b, c, d, e, f, g, i, j, k, m, rfl⟩
theorem open_thing {m : Nat} {cs : List Value} {y : DataW H × List MemPlace} (h : DataW.trod enc Go.Proofs.Tryd.prog w base spare held m 34 cs = some y) : ∃ c : TKc, cs = c.cells ∧ c.ma.length = 4 := by
  obtain ⟨xs, n, -, -, hl, hx, hf⟩ := DataW.trod_struct Go.Proofs.Tryd.underlying34 h
  have hl : cs.length = 11 := hl.trans (by kernel_rfl)
  obtain ⟨v0, v1, v2, v3, v4, v5, v6, v7, v8, v9, v10, rfl⟩ := len11 hl
  obtain ⟨y0, h0⟩ := open_field hx hf 0 rfl (by kernel_rfl) rfl
  obtain ⟨z0, e0, -, -⟩ := DataW.trod_int (k := .i64) (by kernel_rfl) h0
  cases e0
  obtain ⟨y1, h1⟩ := open_field hx hf 1 rfl (by kernel_rfl) rfl
  obtain ⟨z1, e1, -, -⟩ := DataW.trod_int (k := .i64) (by kernel_rfl) h1
  cases e1
  obtain ⟨y2, h2⟩ := open_field hx hf 2 rfl (by kernel_rfl) rfl
  obtain ⟨z2, e2, -, -⟩ := DataW.trod_int (k := .u8) (by kernel_rfl) h2
  cases e2
  obtain ⟨y3, h3⟩ := open_field hx hf 3 rfl (by kernel_rfl) rfl
  obtain ⟨z3, e3, -, -⟩ := DataW.trod_int (k := .i64) (by kernel_rfl) h3
  cases e3
  obtain ⟨y4, h4⟩ := open_field hx hf 4 rfl (by kernel_rfl) rfl
  obtain ⟨z4, e4, -, -⟩ := DataW.trod_int (k := .i64) (by kernel_rfl) h4
  cases e4
  have h5 := hf 5 _ rfl
  have c31 : Go.Proofs.Tryd.prog.cellsOf 31 = 4 := by kernel_rfl
  have hx8 : 5 < xs.length := by rw [hx]; decide
  rw [List.getElem?_eq_getElem hx8] at h5
  obtain ⟨l, e5, l5⟩ := open_four h5
  have e5 : [v5, v6, v7, v8] = ints l := by rw [← e5]; show _ = List.take (Go.Proofs.Tryd.prog.cellsOf 31) _; rw [c31]; rfl
  obtain ⟨y9, h9⟩ := open_field hx hf 6 rfl (by kernel_rfl) rfl
  obtain ⟨z9, e9, -, -⟩ := DataW.trod_int (k := .i64) (by kernel_rfl) h9
  cases e9
  obtain ⟨y10, h10⟩ := open_field hx hf 7 rfl (by kernel_rfl) rfl
  obtain ⟨z10, e10, -⟩ := DataW.trod_bool (by kernel_rfl) h10
  cases e10
  refine ⟨⟨z0, z1, z2, z3, z4, l, z9, z10⟩, ?_, l5⟩
  show _ = [Value.int .i64 z0, .int .i64 z1, .int .u8 z2, .int .i64 z3, .int .i64 z4] ++ ints l ++ [.int .i64 z9, .bool z10]
  rw [← e5]; rfl
theorem TKc.len {c : TKc} (h : c.ma.length = 4) : c.cells.length = 11 := by
  unfold TKc.cells
  rw [List.length_append, List.length_append, ints_len, h]; rfl
theorem TKc.single (c : TKc) : (∀ v ∈ c.cells, Sym.single v = true) = True := eq_true (by
  intro v hv
  unfold TKc.cells at hv
  rcases List.mem_append.1 hv with hv | hv
  · rcases List.mem_append.1 hv with hv | hv
    · simp only [List.mem_cons, List.not_mem_nil, or_false] at hv
      rcases hv with rfl | rfl | rfl | rfl | rfl <;> rfl
    · exact of_eq_true (ints_single c.ma) v hv
  · simp only [List.mem_cons, List.not_mem_nil, or_false] at hv
    rcases hv with rfl | rfl <;> rfl)
theorem TKc.hurt (c : TKc) : c.cells[4]? = some (.int .i64 c.hu) := rfl
end
end Go.Proofs.YtdgbnaignpploaaDoor.bk
