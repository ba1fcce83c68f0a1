/- whole.Numbers as a map, and what is done with it; gambitref14.Number. -/
import Derived.Test.YtecmlefiajhajaaGreatDoorHk
namespace Go.Proofs.YtecmlefiajhajaaGreatDoor.nu
open Go.RowKit Go.Sim wh
set_option linter.unusedVariables false
set_option maxRecDepth 100000

def ns : List (ByteArray × Int) := [(⟨#[97, 105, 114]⟩, 27), (⟨#[101, 97, 114, 116, 104]⟩, 31), (⟨#[102, 105, 114, 101]⟩, 68), (⟨#[119, 97, 116, 101, 114]⟩, 51), (⟨#[118, 111, 105, 100]⟩, 147), (⟨#[103, 111, 108, 100]⟩, 215)]
noncomputable def run28 : Option (Value × St) := callH Tryz.prog H 1 60 1 28 [] (mkSt 1 [] [(0, gKB)])
noncomputable def isN (l : List (ByteArray × Value)) : Bool := Nat.beq l.length 6 && ((List.range 6).all fun i => match l[i]?, ns[i]? with | some (s, .int .i64 v), some (t, u) => beqL s.data.toList t.data.toList && eqI v u | _, _ => false)
noncomputable def chk28 : Bool := match run28 with
  | some (.map (some n), S) => (match S.maps.get n with | some (.map l) => isN l | _ => false) && Nat.ble 1 n
  | _ => false
theorem chk28_ok : chk28 = true := by kernel_rfl

/-- a map with these keys and values -/
def IsMap (w : World) (b : Nat) (l : List (ByteArray × Int)) : Prop := ∃ es clock, w.heap[b]? = some (.map es clock) ∧ es.size = l.length ∧ ∀ (i : Nat) s n, l[i]? = some (s, n) → ∃ m : MapEntry, es[i]? = some m ∧ m.key = .string s ∧ m.val = .int .i64 n

theorem IsMap.kept {w w' : World} {b : Nat} {l : List (ByteArray × Int)} (h : IsMap w b l) (hb : w'.heap[b]? = w.heap[b]?) : IsMap w' b l := by
  obtain ⟨es, clock, h1, h2⟩ := h
  exact ⟨es, clock, hb.trans h1, h2⟩
theorem bytes_of {s t : ByteArray} (h : beqL s.data.toList t.data.toList = true) : s = t := by
  rw [beqL_eq] at h
  have h : s.data.toList = t.data.toList := by simpa using h
  obtain ⟨⟨a⟩⟩ := s
  obtain ⟨⟨b⟩⟩ := t
  simp at h
  rw [h]
theorem isN_spec {l : List (ByteArray × Value)} (h : isN l = true) : l = ns.map fun p => (p.1, Value.int .i64 p.2) := by
  unfold isN at h
  rw [Bool.and_eq_true] at h
  have hl := nbeq h.1
  refine List.ext_getElem? fun i => ?_
  by_cases hi : i < 6
  · have := List.all_eq_true.1 h.2 i (List.mem_range.2 hi)
    split at this
    · rename_i s v t u h1 h2
      rw [Bool.and_eq_true] at this
      rw [h1, List.getElem?_map, h2, bytes_of this.1, eqI_spec this.2]
      rfl
    · cases this
  · rw [List.getElem?_eq_none (by omega), List.getElem?_eq_none (by simp [ns]; omega)]

theorem c_nums (w : World) (hk : Known 1 kn.gl w) : Calls Tryz.prog 28 #[] w fun e w' => (∃ b, e = .returned (.map (some b)) ∧ w.heap.size ≤ b ∧ b < w'.heap.size ∧ IsMap w' b ns) ∧ Below w.heap.size w w' := by
  obtain ⟨e, hS, h0⟩ := wh.start w hk
  have hc := chk28_ok
  unfold chk28 at hc
  split at hc
  · rename_i n S' hr
    rw [Bool.and_eq_true] at hc
    obtain ⟨h1, h2⟩ := hc
    rw [ble_dec] at h2
    have h2 := of_decide_eq_true h2
    split at h1
    · rename_i l hl
      refine ((callH_ok num mixed H_ok 60).calls (args' := []) hr rfl hS (globs1 h0)).mono fun en w' hp => ?_
      obtain ⟨e1, v', rfl, g1, g2, g3, g4⟩ := hp
      obtain ⟨b, k, g5, rfl⟩ := g2
      obtain ⟨b', k', g6, es, clock, g7, g8, g9⟩ := g3.mp n _ hl
      rw [g5] at g6
      cases g6
      refine ⟨⟨b, rfl, g3.bar n _ _ g5 h2, g3.hi n _ _ g5, es, clock, g7, ?_, fun i s v hi => ?_⟩, g4⟩
      · rw [g8, isN_spec h1]; simp
      · obtain ⟨m, q1, q2, q3⟩ := g9 i s (.int .i64 v) (by rw [isN_spec h1, List.getElem?_map, hi]; rfl)
        rw [RV] at q3
        exact ⟨m, q1, q2, q3⟩
    · cases h1
  · cases hc

theorem u79 : Tryz.prog.underlying 79 = some (.map 9 3) := by kernel_rfl
theorem u9 : Tryz.prog.underlying 9 = some .string := by kernel_rfl
theorem found {w : World} {b : Nat} {es : Array MapEntry} {l : List (ByteArray × Int)} (hsz : es.size = l.length) (h : ∀ (i : Nat) s n, l[i]? = some (s, n) → ∃ m : MapEntry, es[i]? = some m ∧ m.key = .string s ∧ m.val = .int .i64 n) {s : ByteArray} {n : Int}
    (hf : findM s.data.toList (l.map fun p => (p.1, Value.int .i64 p.2)) = some (.int .i64 n)) : ∃ i, Instr.findNow .string (.string s) es.toList 0 = some (some (i, .int .i64 n)) := by
  obtain ⟨f1, _⟩ := find_sound (e := fun _ => none) (s := s) (l := l.map fun p => (p.1, Value.int .i64 p.2)) (es := es.toList) 0 (by simpa using hsz) (fun i t v hi => by
    rw [List.getElem?_map] at hi
    cases hx : l[i]? with
    | none => rw [hx] at hi; cases hi
    | some p =>
      rw [hx] at hi
      cases hi
      obtain ⟨m, q1, q2, q3⟩ := h i p.1 p.2 hx
      exact ⟨m, by simpa using q1, q2, by rw [RV]; exact q3⟩)
  obtain ⟨i, v', g1, g2⟩ := f1 _ hf
  rw [RV] at g2
  subst g2
  exact ⟨i, g1⟩
theorem run_lookup {w : World} {b : Nat} {l : List (ByteArray × Int)} (h : IsMap w b l) {s : ByteArray} {n : Int} (hf : findM s.data.toList (l.map fun p => (p.1, Value.int .i64 p.2)) = some (.int .i64 n)) :
    (Instr.lookup 79 (.map (some b)) (.string s) true).run Tryz.prog w = .ok (.tuple #[.int .i64 n, .bool true]) w := by
  obtain ⟨es, clock, h1, h2, h3⟩ := h
  obtain ⟨i, hi⟩ := found (w := w) (b := b) h2 h3 hf
  unfold Instr.lookup
  simp only [Sem.run_bind, run_underlying u79 w, Result.andThen_ok, run_getObj_map w b es clock h1, Sem.run_pure, run_checkKey_string u9, run_findKey_string u9 hi]
  rfl

def air : ByteArray := ⟨#[97, 105, 114]⟩
def gold : ByteArray := ⟨#[103, 111, 108, 100]⟩
def ns2 : List (ByteArray × Int) := (air, -1) :: ns.tail
theorem grown_map {w : World} {b : Nat} {o : Obj} : w.grownBy { w with heap := w.heap.setIfInBounds b o } (some b) :=
  ⟨rfl, rfl, rfl, by simp, fun k hk hn => Array.getElem?_setIfInBounds_ne (fun h => hn (by rw [h]))⟩
/-- an entry that is there is stored anew -/
theorem run_update {w : World} {b : Nat} (h : IsMap w b ns) : ∃ w2, (Instr.mapUpdate 79 (.map (some b)) (.string air) (.int .i64 (-1))).run Tryz.prog w = .ok () w2 ∧ IsMap w2 b ns2 ∧ w.grownBy w2 (some b) := by
  obtain ⟨es, clock, h1, h2, h3⟩ := h
  obtain ⟨m0, q1, q2, q3⟩ := h3 0 air 27 rfl
  have hlt : b < w.heap.size := (Array.getElem?_eq_some_iff.1 h1).1
  have hfind : Instr.findNow .string (.string air) es.toList 0 = some (some (0, m0.val)) := by
    have hh : es.toList[0]? = some m0 := by simpa using q1
    cases hl : es.toList with
    | nil => rw [hl] at hh; cases hh
    | cons x r =>
      rw [hl] at hh
      cases hh
      unfold Instr.findNow
      have : Instr.sameNow .string (.string air) m0.key = some true := by rw [q2]; kernel_rfl
      rw [this]
  have hsame : Instr.sameBits 10000 (.string air) (.string air) = true := by kernel_rfl
  refine ⟨{ w with heap := w.heap.setIfInBounds b (.map (es.modify 0 fun e => { e with key := .string air, val := .int .i64 (-1) }) clock) }, ?_, ⟨_, clock, Array.getElem?_setIfInBounds_self_of_lt hlt, by simp [h2, ns2, ns], fun i s n hi => ?_⟩, grown_map⟩
  · unfold Instr.mapUpdate
    simp only [Sem.run_bind, run_underlying u79 w, Result.andThen_ok, run_getObj_map w b es clock h1, Sem.run_pure, run_checkKey_string u9, run_findKey_string u9 hfind, q1, Option.map_some, Option.getD_some, q2, Instr.keyThatStays, hsame, if_true]
    simp [setObj, Sem.run, h1]
  · cases i with
    | zero =>
      cases hi
      exact ⟨_, by rw [Array.getElem?_modify, if_pos rfl, q1]; rfl, rfl, rfl⟩
    | succ i =>
      obtain ⟨m, r1, r2, r3⟩ := h3 (i + 1) s n (by simpa [ns2, ns] using hi)
      exact ⟨m, by rw [Array.getElem?_modify, if_neg (by omega)]; exact r1, r2, r3⟩
/-- an entry is deleted -/
theorem run_delete {w : World} {b : Nat} (h : IsMap w b ns2) (ty : TypeId) : ∃ w2, (Builtin.delete_ #[79, 9] ty #[.map (some b), .string gold]).run Tryz.prog w = .ok (.tuple #[]) w2 ∧ w.grownBy w2 (some b) := by
  obtain ⟨es, clock, h1, h2, h3⟩ := h
  obtain ⟨i, hi⟩ := found (w := w) (b := b) (s := gold) (n := 215) h2 h3 (by kernel_rfl)
  refine ⟨{ w with heap := w.heap.setIfInBounds b (.map (es.eraseIdxIfInBounds i) clock) }, ?_, grown_map⟩
  unfold Builtin.delete_
  simp only [Sem.run_bind, run_underlying u79 w, Result.andThen_ok, run_getObj_map w b es clock h1, Sem.run_pure, run_checkKey_string u9, run_findKey_string u9 hi]
  simp [setObj, Sem.run, h1, run_underlying u79 w, Sem.run_bind, run_getObj_map w b es clock h1, run_checkKey_string u9, run_findKey_string u9 hi]
/-- how many entries there are -/
theorem run_len {w : World} {b : Nat} (h : IsMap w b ns) : (Builtin.len_ #[79] 3 #[.map (some b)]).run Tryz.prog w = .ok (.int .i64 6) w := by
  obtain ⟨es, clock, h1, h2, h3⟩ := h
  have h6 : es.size = 6 := h2
  unfold Builtin.len_
  simp [Sem.run_bind, run_underlying u79 w, run_getObj_map w b es clock h1, h6, goInt]

/-! ### the document's numbers -/
noncomputable def numB (i : Nat) : Bool := match ns[i]? with
  | some (s, n) => (match callH Tryz.prog H 1 60 1 35 [.string s] (mkSt 1 [] [(0, gKB)]) with | some (.tuple ⟨[.int .i64 v, .bool true]⟩, _) => eqI v n | _ => false)
  | none => false
theorem numB_ok : ((List.range 6).all fun i => numB i) = true := by kernel_rfl
theorem c_num (w : World) (hk : Known 1 kn.gl w) (i : Nat) (s : ByteArray) (n : Int) (hi : ns[i]? = some (s, n)) : Calls Tryz.prog 35 #[.string s] w fun e w' => e = .returned (.tuple #[.int .i64 n, .bool true]) ∧ Below w.heap.size w w' := by
  obtain ⟨e, hS, h0⟩ := wh.start w hk
  have hi6 : i < 6 := (List.getElem?_eq_some_iff.1 hi).1
  have hb := List.all_eq_true.1 numB_ok i (List.mem_range.2 hi6)
  unfold numB at hb
  rw [hi] at hb
  simp only at hb
  split at hb
  · rename_i v S' hr
    have hv := eqI_spec hb
    subst hv
    refine ((callH_ok num mixed H_ok 60).calls (args' := [.string s]) hr ⟨_, _, rfl, rfl, rfl⟩ hS (globs1 h0)).mono fun en w' hp => ?_
    obtain ⟨e1, v', rfl, g1, g2, g3, g4⟩ := hp
    exact ⟨by rw [RV.flat_eq rfl g2], g4⟩
  · cases hb
end Go.Proofs.YtecmlefiajhajaaGreatDoor.nu
