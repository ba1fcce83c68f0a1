/- What is known of a world at the start: its blocks, to be read. -/
import Derived.Test.YtdgbnaignpploaaDoorSy
namespace Go.Sym
set_option linter.unusedVariables false
set_option linter.unusedSimpArgs false
open Go.RowKit
/-- all blocks of a world, to be read alone -/
def seen (w : World) : St := { heap := fun b => match w.heap[b]? with | some (.cells arr t f) => some ⟨arr.toList, arr.size, t, false⟩ | _ => none, objs := fun _ => none, next := w.heap.size }
theorem seen_mod (w : World) : Mod w.heap.size (seen w) w := by
  refine ⟨Nat.le_refl _, Nat.le_refl _, fun b B h => ?_, fun b o h => ?_⟩
  · have hb := St.lt h
    unfold St.get at h
    rw [if_pos hb] at h
    unfold seen at h
    simp only at h
    split at h
    · rename_i arr t f he
      cases h
      exact ⟨arr, t, f, he, fun i v hv => by simpa using hv, fun hw => by cases hw⟩
    · cases h
  · unfold St.obj seen at h
    simp at h
theorem seen_get {w : World} {b : Nat} {arr : Array Value} {t : TypeId} {f : Nat × Nat} (h : w.heap[b]? = some (.cells arr t f)) : (seen w).get b = some ⟨arr.toList, arr.size, t, false⟩ := by
  have hb := (Array.getElem?_eq_some_iff.1 h).1
  unfold St.get
  rw [if_pos (show b < (seen w).next from hb)]
  show (match w.heap[b]? with | some (.cells arr t f) => some (Blk.mk arr.toList arr.size t false) | _ => none) = _
  rw [h]
/-- a contract over what is seen: a call in the world itself -/
theorem Does.calls {P : Program} {f : FuncId} {args : List Value} {w : World} {Q : Value → Prop} (h : Does P w.heap.size f args (seen w) (fun v _ => Q v)) : Calls P f args.toArray w fun e w' => ∃ v, e = .returned v ∧ Q v ∧ Below w.heap.size w w' :=
  (h.2 w (seen_mod w)).mono fun e w' ⟨v, X', h1, h2, _, h4⟩ => ⟨v, h1, h2, h4⟩
end Go.Sym
