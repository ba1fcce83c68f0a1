/- A list that came in: its cells in what is seen of a world. -/
import Derived.Test.YtdgbnaignpploaaDoorJ0
import Derived.ChangeSlices
namespace Go.Sym
set_option linter.unusedVariables false
set_option linter.unusedSimpArgs false
open Go.RowKit
theorem addr_of {w : World} {a : Addr} {v : Value} (h : w.cell? (a.add 0) = some v) : ∃ b o, a = ⟨b, o, none⟩ := by
  obtain ⟨b, o, s⟩ := a
  cases s with
  | none => exact ⟨b, o, rfl⟩
  | some s =>
    exfalso
    have : (⟨b, o, some s⟩ : Addr).add 0 = ⟨b, o, some s⟩ := by unfold Addr.add; simp
    rw [this] at h
    unfold World.cell? at h
    split at h <;> simp at h
theorem addr_add (b o j : Nat) : (⟨b, o, none⟩ : Addr).add j = ⟨b, o + j, none⟩ := by unfold Addr.add; split <;> simp_all
theorem seen_cells {w : World} {b o n : Nat} {l : List Value} (hl : l.length = n) (h0 : 0 < n) (h : ∀ i, i < n → w.cell? ⟨b, o + i, none⟩ = l[i]?) : cellsOf ((seen w).get b) o n = some l := by
  obtain ⟨arr, t, f, he⟩ : ∃ arr t f, w.heap[b]? = some (.cells arr t f) := by
    have h1 := h 0 h0
    rw [List.getElem?_eq_getElem (by omega)] at h1
    unfold World.cell? at h1
    simp only at h1
    split at h1
    · rename_i arr t f he; exact ⟨arr, t, f, he⟩
    · cases h1
  have hc : ∀ i, i < n → arr.toList[o + i]? = l[i]? := fun i hi => by
    have := h i hi
    unfold World.cell? at this
    simp only [he] at this
    rw [Array.getElem?_toList]
    simpa using this
  have hlen : o + n ≤ arr.toList.length := by
    have h1 := hc (n - 1) (by omega)
    rw [List.getElem?_eq_getElem (show n - 1 < l.length by omega)] at h1
    have := (List.getElem?_eq_some_iff.1 h1).1
    omega
  rw [seen_get he, cellsOf_some hlen]
  congr 1
  refine List.ext_getElem? fun i => ?_
  by_cases hi : i < n
  · rw [List.getElem?_take, if_pos hi, List.getElem?_drop]
    exact hc i hi
  · rw [List.getElem?_take, if_neg hi, List.getElem?_eq_none (by omega)]
theorem flatten_len {α : Type} {n : Nat} : ∀ {L : List (List α)}, (∀ l ∈ L, l.length = n) → L.flatten.length = L.length * n
  | [], _ => by simp
  | l :: L, h => by
    rw [List.flatten_cons, List.length_append, flatten_len (fun x hx => h x (List.mem_cons_of_mem _ hx)), h l (List.mem_cons_self ..), List.length_cons, Nat.add_mul, Nat.one_mul, Nat.add_comm]
theorem flatten_at {α : Type} {n : Nat} : ∀ {L : List (List α)}, (∀ l ∈ L, l.length = n) → ∀ (i j : Nat), j < n → L.flatten[i * n + j]? = (L[i]?).bind (fun l => l[j]?)
  | [], _, i, j, _ => by simp
  | l :: L, h, 0, j, hj => by
    rw [List.flatten_cons, List.getElem?_append_left (by rw [h l (List.mem_cons_self ..)]; omega)]
    simp
  | l :: L, h, i + 1, j, hj => by
    have hl := h l (List.mem_cons_self ..)
    rw [List.flatten_cons, List.getElem?_append_right (by rw [hl, Nat.add_mul]; omega), hl]
    rw [show (i + 1) * n + j - n = i * n + j by rw [Nat.add_mul]; omega, flatten_at (fun x hx => h x (List.mem_cons_of_mem _ hx)) i j hj]
    rfl
theorem list_map {α : Type} {f : α → List Value} {R : α → Prop} : ∀ {L : List (List Value)}, (∀ l ∈ L, ∃ c, l = f c ∧ R c) → ∃ C : List α, L = C.map f ∧ ∀ c ∈ C, R c
  | [], _ => ⟨[], rfl, fun c hc => by cases hc⟩
  | l :: L, h => by
    obtain ⟨c, rfl, hc⟩ := h l (List.mem_cons_self ..)
    obtain ⟨C, rfl, hC⟩ := list_map (f := f) (R := R) (fun x hx => h x (List.mem_cons_of_mem _ hx))
    exact ⟨c :: C, rfl, fun d hd => by
      rcases List.mem_cons.1 hd with rfl | hd
      · exact hc
      · exact hC d hd⟩
section
variable {H : Type} {enc : TypeId × Value → H} {P : Program} {w : World} {base : Nat} {spare : Nat → Bool} {held : Bool}
theorem open_list {t e : TypeId} {n : Nat} (ht : P.underlying t = some (.slice e)) (hn : P.cellsOf e = n) (h0 : 0 < n) {Q : List Value → Prop} (hQ : ∀ m cs y, DataW.trod enc P w base spare held m e cs = some y → Q cs)
    {fuel : Nat} {cs : List Value} {x : DataW H × List MemPlace} (h : DataW.trod enc P w base spare held fuel t cs = some x) :
    ∃ (po : Option Addr) (cap : Nat) (L : List (List Value)), cs = [.slice po L.length cap] ∧ (∀ l ∈ L, l.length = n ∧ Q l) ∧ (L = [] ∨ ∃ b o, po = some ⟨b, o, none⟩ ∧ cellsOf ((seen w).get b) o (L.length * n) = some L.flatten) ∧ L.length ≤ cap ∧ cap ≤ maxLen := by
  rcases DataW.trod_slice ht h with ⟨rfl, rfl⟩ | ⟨a, len, cap, elems, rest, m, _, rfl, rfl, hb, hl, hm, hlen, hel, -, -⟩
  · exact ⟨none, 0, [], rfl, (fun l hl => by cases hl), Or.inl rfl, Nat.le_refl _, Nat.zero_le _⟩
  rw [hn] at hel
  have each : ∀ i, i < len → ∃ cs', w.cells? base (a.add (i * n)) n = some cs' ∧ Q cs' := fun i hi => by
    have := hel i hi
    rw [List.getElem?_eq_getElem (by omega), Option.bind_eq_some_iff] at this
    obtain ⟨cs', h1, h2⟩ := this
    exact ⟨cs', h1, hQ _ _ _ h2⟩
  obtain ⟨L, hL⟩ : ∃ L, L = (List.range len).map fun i => (w.cells? base (a.add (i * n)) n).getD [] := ⟨_, rfl⟩
  have hLl : L.length = len := by rw [hL, List.length_map, List.length_range]
  have hLi : ∀ i, i < len → ∃ l, L[i]? = some l ∧ w.cells? base (a.add (i * n)) n = some l ∧ Q l := fun i hi => by
    obtain ⟨cs', h1, h2⟩ := each i hi
    refine ⟨cs', ?_, h1, h2⟩
    rw [hL, List.getElem?_map, List.getElem?_range hi, Option.map_some, h1]; rfl
  have hall : ∀ l ∈ L, l.length = n ∧ Q l := fun l hlm => by
    obtain ⟨i, hi⟩ := List.getElem?_of_mem hlm
    have := (List.getElem?_eq_some_iff.1 hi).1
    obtain ⟨l', h1, h2, h3⟩ := hLi i (by omega)
    rw [hi] at h1; cases h1
    exact ⟨(World.cells?_some h2).2.1, h3⟩
  refine ⟨some a, cap, L, by rw [hLl], hall, ?_, by omega, hm⟩
  by_cases hz : len = 0
  · left; exact List.eq_nil_of_length_eq_zero (by omega)
  right
  obtain ⟨l0, h1, h2, -⟩ := hLi 0 (by omega)
  have hl0 := World.cells?_some h2
  have h3 := hl0.2.2 0 h0
  rw [List.getElem?_eq_getElem (by omega), Nat.zero_mul] at h3
  obtain ⟨b, o, rfl⟩ : ∃ b o, a = ⟨b, o, none⟩ := by
    obtain ⟨b, o, s⟩ := a
    cases s with
    | none => exact ⟨b, o, rfl⟩
    | some s =>
      exfalso
      have e : ((⟨b, o, some s⟩ : Addr).add 0).add 0 = ⟨b, o, some s⟩ := by unfold Addr.add; simp
      rw [e] at h3
      unfold World.cell? at h3
      split at h3 <;> simp at h3
  refine ⟨b, o, rfl, seen_cells (flatten_len fun l hl => (hall l hl).1) (by rw [hLl]; exact Nat.mul_pos (by omega) h0) fun k hk => ?_⟩
  have hi : k / n < len := Nat.div_lt_of_lt_mul (by rw [Nat.mul_comm, ← hLl]; exact hk)
  have hj : k % n < n := Nat.mod_lt _ h0
  have hk' : k / n * n + k % n = k := by rw [Nat.mul_comm]; exact Nat.div_add_mod k n
  obtain ⟨l, g1, g2, -⟩ := hLi (k / n) hi
  have g3 := (World.cells?_some g2).2.2 (k % n) hj
  rw [addr_add, addr_add, Nat.add_assoc, hk'] at g3
  have g4 := flatten_at (fun l hl => (hall l hl).1) (k / n) (k % n) hj
  rw [g1, hk'] at g4
  rw [g3, g4]; rfl
/-- a field of a struct, of one cell -/
theorem open_field {fs : Array Field} {n : Nat} {cs : List Value} {xs : List (DataW H × List MemPlace)} (hx : xs.length = fs.size)
    (h : ∀ (i : Nat) (f : Field), fs[i]? = some f → DataW.trod enc P w base spare held n f.type ((cs.drop f.offset).take (P.cellsOf f.type)) = xs[i]?) (i : Nat) {f : Field} {v : Value} (hf : fs[i]? = some f) (hc : P.cellsOf f.type = 1) (hv : cs[f.offset]? = some v) :
    ∃ y, DataW.trod enc P w base spare held n f.type [v] = some y := by
  have h1 := h i f hf
  obtain ⟨hlt, he⟩ := List.getElem?_eq_some_iff.1 hv
  have hi : i < fs.size := (Array.getElem?_eq_some_iff.1 hf).1
  rw [hc, List.drop_eq_getElem_cons hlt, he, List.getElem?_eq_getElem (by omega)] at h1
  exact ⟨_, h1⟩
end
theorem flatMap_one {α : Type} (f : α → Value) : ∀ l : List α, l.flatMap (fun z => [f z]) = l.map f
  | [] => rfl
  | a :: l => by rw [List.flatMap_cons, flatMap_one f l]; rfl
theorem flatMap_map {α : Type} (f : α → List Value) : ∀ l : List α, (l.map f).flatten = l.flatMap f
  | [] => rfl
  | a :: l => by rw [List.map_cons, List.flatten_cons, flatMap_map f l, List.flatMap_cons]
section
variable {H : Type} {enc : TypeId × Value → H} {P : Program} {w : World} {base : Nat} {spare : Nat → Bool} {held : Bool}
/-- a list of things, each told by its cells -/
theorem open_listF {t e : TypeId} {n : Nat} {α : Type} {f : α → List Value} {R : α → Prop} (ht : P.underlying t = some (.slice e)) (hn : P.cellsOf e = n) (h0 : 0 < n)
    (hQ : ∀ m cs y, DataW.trod enc P w base spare held m e cs = some y → ∃ c, cs = f c ∧ R c)
    {fuel : Nat} {cs : List Value} {x : DataW H × List MemPlace} (h : DataW.trod enc P w base spare held fuel t cs = some x) :
    ∃ (po : Option Addr) (cap : Nat) (C : List α), cs = [.slice po C.length cap] ∧ (∀ c ∈ C, R c) ∧ (C = [] ∨ ∃ b o, po = some ⟨b, o, none⟩ ∧ cellsOf ((seen w).get b) o (C.length * n) = some (C.flatMap f)) ∧ C.length ≤ cap ∧ cap ≤ maxLen := by
  obtain ⟨po, cap, L, rfl, h1, h2, h3, h4⟩ := open_list ht hn h0 hQ h
  obtain ⟨C, rfl, hC⟩ := list_map (f := f) (R := R) (fun l hl => (h1 l hl).2)
  rw [List.length_map] at *
  refine ⟨po, cap, C, rfl, hC, ?_, h3, h4⟩
  rcases h2 with h2 | ⟨b, o, rfl, h2⟩
  · exact .inl (List.map_eq_nil_iff.1 h2)
  · exact .inr ⟨b, o, rfl, by rw [h2, flatMap_map]⟩
end
end Go.Sym
