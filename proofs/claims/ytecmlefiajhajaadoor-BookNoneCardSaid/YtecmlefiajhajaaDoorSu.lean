/- A struct that came in: each of its cells is one cell; it may stand in the executor as a struct of opaque values. -/
import Derived.Test.YtecmlefiajhajaaDoorTe
import Derived.WideShapes
namespace Go.Sim
open Go.RowKit

theorem okWide_one {P : Program} {w : World} {r : Reach} {base : Nat} {u : TypeId} {x : Value} (hu : (match P.underlying u with | some (.struct _) | some (.array _ _) => false | _ => true) = true) (h : Cell.okWide P w r base u x) : x.oneCell' = true ∧ x.cells = #[x] := by
  cases x with
  | agg cs => simp only [Cell.okWide, Cell.ok] at h; split at h <;> simp_all
  | tuple cs => simp only [Cell.okWide, Cell.ok] at h; split at h <;> simp_all
  | _ => exact ⟨rfl, rfl⟩

theorem struct_cells {P : Program} {w : World} {r : Reach} {base : Nat} {t : TypeId} {fs : Array Field} {v : Value} {n : Nat} {ts : List TypeId} (hs : P.underlying t = some (.struct fs)) (hts : P.cellTypes P.depth t = some ts) (hn : P.cellsOf t = n)
    (hall : (ts.all fun u => match P.underlying u with | some (.struct _) | some (.array _ _) => false | _ => true) = true) (h : Value.okWide P w r base t v) :
    ∃ cs : Array Value, v = .agg cs ∧ cs.size = n ∧ ∀ (i : Nat) (x : Value), cs[i]? = some x → x.oneCell' = true ∧ x.cells = #[x] := by
  simp only [Value.okWide, hs] at h
  obtain ⟨cs, h1, h2, ts', h3, _, h4⟩ := h
  rw [hts] at h3
  cases h3
  refine ⟨cs, h1, h2.trans hn, fun i x hx => ?_⟩
  obtain ⟨u, h5, h6⟩ := h4 i x hx
  exact okWide_one (List.all_eq_true.1 hall u (List.mem_of_getElem? h5)) h6

/-- what the opaque values stand for: the cells of a struct -/
@[instance_reducible] def valOf (cs : Array Value) (h : ∀ (i : Nat) (x : Value), cs[i]? = some x → x.oneCell' = true ∧ x.cells = #[x]) : Val where
  ρ := fun k => (cs[k]?).getD (.bool false)
  one := fun k => by
    cases hk : cs[k]? with
    | none => rfl
    | some x => exact (h k x hk).1
  cells := fun k => by
    cases hk : cs[k]? with
    | none => rfl
    | some x => exact (h k x hk).2

def opaques (n : Nat) : List Value := (List.range n).map fun k => Value.chan (some k)

theorem opaques_rv (cs : Array Value) (h : ∀ (i : Nat) (x : Value), cs[i]? = some x → x.oneCell' = true ∧ x.cells = #[x]) {n : Nat} (hn : cs.size = n) (e : Env) : @RV (valOf cs h) e (.agg ⟨opaques n⟩) (.agg cs) := by
  letI := valOf cs h
  obtain ⟨l⟩ := cs
  refine ⟨l, RVL.of_get (by simpa [opaques] using hn) fun i v hv => ?_, rfl⟩
  unfold opaques at hv
  rw [List.getElem?_map] at hv
  cases hi : (List.range n)[i]? with
  | none => rw [hi] at hv; cases hv
  | some k =>
    rw [hi] at hv
    cases hv
    obtain ⟨hlt, hk⟩ := List.getElem?_eq_some_iff.1 hi
    simp at hk hlt
    subst hk
    simp at hn
    have hl : i < l.length := by omega
    refine ⟨l[i], by simp [hl], ?_⟩
    show l[i] = ((⟨l⟩ : Array Value)[i]?).getD (.bool false)
    simp [hl]
end Go.Sim
