/- start.Log, by contracts: what New, Note, Close, Closed, List do to a log that holds a list of numbers. -/
import Derived.Test.YtdiifadfpnbnhaaChecked
import Derived.WalkKit
import Derived.ProofKit
import Derived.Below
import Derived.RegionTactic
import Derived.BigRegion
import Derived.ChangeAlike
import Derived.Deep.AppendLies
import Derived.Deep.RegionLaw
import Derived.OwnWalk
namespace Go.Proofs.Ytdiifadfpnbnhaa.lg
open Go.RowKit
set_option linter.unusedVariables false

/-- A log behind the pointer to block lb, what it keeps in block kb: the numbers L; closed or not. -/
structure IsLog (w : World) (lb kb : Nat) (L : List Int) (shut : Bool) : Prop where
  log : w.cell? ⟨lb, 0, none⟩ = some (.pointer (some ⟨kb, 0, none⟩))
  cells : ∀ i, i < 256 → w.cell? ⟨kb, i, none⟩ = some (.int .i64 (L.getD i 0))
  n : w.cell? ⟨kb, 256, none⟩ = some (.int .i64 L.length)
  sh : w.cell? ⟨kb, 257, none⟩ = some (.bool shut)
  fro : ∀ i, w.frozen? ⟨kb, i, none⟩ = false
  len : L.length ≤ 256
  ne : ¬ lb = kb

section
variable {w w1 w2 : World} {lb kb : Nat} {L : List Int} {shut : Bool} {row : Option Nat}

theorem IsLog.heap (h : IsLog w lb kb L shut) (e : w1.heap = w.heap) : IsLog w1 lb kb L shut := by
  have hc : ∀ a, w1.cell? a = w.cell? a := fun a => by simp [World.cell?, e]
  have hf : ∀ a, w1.frozen? a = w.frozen? a := fun a => by simp [World.frozen?, e]
  exact ⟨by rw [hc]; exact h.log, fun i hi => by rw [hc]; exact h.cells i hi, by rw [hc]; exact h.n, by rw [hc]; exact h.sh, fun i => by rw [hf]; exact h.fro i, h.len, h.ne⟩

theorem IsLog.lb_lt (h : IsLog w lb kb L shut) : lb < w.heap.size := World.block_lt_of_cell? w _ h.log
theorem IsLog.kb_lt (h : IsLog w lb kb L shut) : kb < w.heap.size := World.block_lt_of_cell? w _ h.n

theorem IsLog.grown (h : IsLog w lb kb L shut) (hg : w.grownBy w1 row) (h1 : some lb ≠ row) (h2 : some kb ≠ row) : IsLog w1 lb kb L shut := by
  have hb := hg.block kb h.kb_lt h2
  refine ⟨hg.cell h.log h1, fun i hi => hg.cell (h.cells i hi) h2, hg.cell h.n h2, hg.cell h.sh h2, fun i => ?_, h.len, h.ne⟩
  rw [World.frozen?_of_block (w := w) (a := ⟨kb, i, none⟩) hb]
  exact h.fro i

theorem grown_heap (h : w.grownBy w1 row) (e : w2.heap = w1.heap) (e1 : w2.os = w1.os) (e2 : w2.tape = w1.tape) (e3 : w2.output = w1.output) : w.grownBy w2 row :=
  ⟨e1.trans h.os, e2.trans h.tape, e3.trans h.output, by rw [e]; exact h.size, fun k hk hr => by rw [e]; exact h.block k hk hr⟩

theorem grown_refl (w : World) (row : Option Nat) : w.grownBy w row := ⟨rfl, rfl, rfl, Nat.le_refl _, fun _ _ _ => rfl⟩

theorem grown_trans {a b c : World} (h : a.grownBy b row) (k : b.grownBy c row) : a.grownBy c row :=
  ⟨k.os.trans h.os, k.tape.trans h.tape, k.output.trans h.output, Nat.le_trans h.size k.size, fun i hi hne => (k.block i (Nat.lt_of_lt_of_le hi h.size) hne).trans (h.block i hi hne)⟩

theorem grown_setCell (w : World) (i : Nat) (v : Value) : w.grownBy (w.setCell ⟨kb, i, none⟩ v) (some kb) :=
  ⟨rfl, rfl, rfl, by simp, fun k _ hne => Below.heap_setCell w _ v k (fun e => hne (by rw [e]))⟩

theorem far {i j : Nat} (v : Value) (h : ¬ i = j) : (w.setCell ⟨kb, i, none⟩ v).cell? ⟨kb, j, none⟩ = w.cell? ⟨kb, j, none⟩ :=
  World.cell?_setCell_other _ _ _ _ (fun e => h (by injection e))
theorem farB {i j b : Nat} (v : Value) (h : ¬ b = kb) : (w.setCell ⟨kb, i, none⟩ v).cell? ⟨b, j, none⟩ = w.cell? ⟨b, j, none⟩ :=
  World.cell?_setCell_other _ _ _ _ (fun e => h (by injection e with e _ _; exact e.symm))

/-- a number noted: two cells are written -/
def noted (w : World) (kb m : Nat) (x : Int) : World := (w.setCell ⟨kb, m, none⟩ (.int .i64 x)).setCell ⟨kb, 256, none⟩ (.int .i64 (m + 1))

theorem IsLog.noted (h : IsLog w lb kb L shut) (hl : L.length < 256) (x : Int) : IsLog (noted w kb L.length x) lb kb (L ++ [x]) shut ∧ w.grownBy (lg.noted w kb L.length x) (some kb) := by
  have hw : ∀ j, j ≠ L.length → j ≠ 256 → (lg.noted w kb L.length x).cell? ⟨kb, j, none⟩ = w.cell? ⟨kb, j, none⟩ := by
    intro j h1 h2
    unfold lg.noted
    rw [far _ (Ne.symm h2), far _ (Ne.symm h1)]
  have h256 : (w.setCell ⟨kb, L.length, none⟩ (.int .i64 x)).cell? ⟨kb, 256, none⟩ = some (.int .i64 L.length) := by
    rw [far _ (by omega)]; exact h.n
  refine ⟨⟨?_, fun i hi => ?_, ?_, ?_, fun i => ?_, ?_, h.ne⟩, grown_trans (grown_setCell w _ _) (grown_setCell _ _ _)⟩
  · unfold lg.noted
    rw [farB _ h.ne, farB _ h.ne]
    exact h.log
  · by_cases e : i = L.length
    · subst e
      unfold lg.noted
      rw [far _ (by omega), World.cell?_setCell_same _ _ _ (h.cells _ hi)]
      simp [List.getD]
    · rw [hw i e (by omega), h.cells i hi]
      simp only [List.getD, List.getElem?_append]
      split
      · rfl
      · rw [List.getElem?_eq_none (by omega), List.getElem?_eq_none (by simp; omega)]
  · unfold lg.noted
    rw [World.cell?_setCell_same _ _ _ h256]
    simp
  · rw [hw 257 (by omega) (by omega)]; exact h.sh
  · unfold lg.noted
    simp only [World.frozen?_setCell]
    exact h.fro i
  · simp; omega

theorem IsLog.closed (h : IsLog w lb kb L shut) : IsLog (w.setCell ⟨kb, 257, none⟩ (.bool true)) lb kb L true ∧ w.grownBy (w.setCell ⟨kb, 257, none⟩ (.bool true)) (some kb) := by
  refine ⟨⟨?_, fun i hi => ?_, ?_, World.cell?_setCell_same _ _ _ h.sh, fun i => ?_, h.len, h.ne⟩, grown_setCell w _ _⟩
  · rw [farB _ h.ne]; exact h.log
  · rw [far _ (by omega)]; exact h.cells i hi
  · rw [far _ (by omega)]; exact h.n
  · simp only [World.frozen?_setCell]; exact h.fro i
end

/-! ### the contracts -/
set_option maxRecDepth 100000 in
set_option maxHeartbeats 1600000 in
theorem note_open (lb kb : Nat) (L : List Int) (x : Int) (w : World) (h : IsLog w lb kb L false) (hl : L.length < 256) :
    Calls Try.prog 11 #[.pointer (some ⟨lb, 0, none⟩), .int .i64 x] w fun e w' => e = .returned (.int .i64 L.length) ∧ IsLog w' lb kb (L ++ [x]) false ∧ w.grownBy w' (some kb) := by
  have hlog := h.log
  have hn := h.n
  have hsh := h.sh
  have hf := h.fro
  have hold := h.cells L.length hl
  have hne := h.ne
  have hfin := h.noted hl x
  have hb : (L.length : Int) < 256 := by omega
  have hc256 : (w.setCell ⟨kb, L.length, none⟩ (.int .i64 x)).cell? ⟨kb, 256, none⟩ = some (.int .i64 L.length) := by
    rw [far _ (by omega)]; exact h.n
  clear h
  go_enter Try.func11, Try.ntmps11
  go_wp2
  go_region
  all_goals go_wp2
  all_goals go_ret
  all_goals exact ⟨rfl, hfin.1.heap rfl, grown_heap hfin.2 rfl rfl rfl rfl⟩

set_option maxRecDepth 100000 in
set_option maxHeartbeats 1600000 in
theorem note_shut (lb kb : Nat) (L : List Int) (x : Int) (w : World) (h : IsLog w lb kb L true) :
    Calls Try.prog 11 #[.pointer (some ⟨lb, 0, none⟩), .int .i64 x] w fun e w' => e = .returned (.int .i64 (-1)) ∧ w' = w := by
  have hlog := h.log
  have hn := h.n
  have hsh := h.sh
  clear h
  go_enter Try.func11, Try.ntmps11
  go_wp2
  go_ret
  exact ⟨rfl, rfl⟩

set_option maxRecDepth 100000 in
set_option maxHeartbeats 1600000 in
theorem note_full (lb kb : Nat) (L : List Int) (x : Int) (w : World) (h : IsLog w lb kb L false) (hl : L.length = 256) :
    Calls Try.prog 11 #[.pointer (some ⟨lb, 0, none⟩), .int .i64 x] w fun e w' => e = .returned (.int .i64 (-1)) ∧ w' = w := by
  have hlog := h.log
  have hn := h.n
  have hsh := h.sh
  rw [hl] at hn
  clear h
  go_enter Try.func11, Try.ntmps11
  go_wp2
  go_ret
  exact ⟨rfl, rfl⟩

set_option maxRecDepth 100000 in
set_option maxHeartbeats 1600000 in
theorem note_none (lb : Nat) (x : Int) (w : World) (h : w.cell? ⟨lb, 0, none⟩ = some (.pointer none)) :
    Calls Try.prog 11 #[.pointer (some ⟨lb, 0, none⟩), .int .i64 x] w fun e w' => e = .returned (.int .i64 (-1)) ∧ w' = w := by
  go_enter Try.func11, Try.ntmps11
  go_wp2
  go_ret
  exact ⟨rfl, rfl⟩

set_option maxRecDepth 100000 in
set_option maxHeartbeats 1600000 in
theorem close_open (lb kb : Nat) (L : List Int) (w : World) (h : IsLog w lb kb L false) :
    Calls Try.prog 13 #[.pointer (some ⟨lb, 0, none⟩)] w fun e w' => e = .returned (.tuple #[]) ∧ IsLog w' lb kb L true ∧ w.grownBy w' (some kb) := by
  have hlog := h.log
  have hn := h.n
  have hsh := h.sh
  have hf := h.fro
  have hfin := h.closed
  clear h
  go_enter Try.func13, Try.ntmps13
  go_wp2
  first | go_end0 | skip
  all_goals first | go_wp2 | skip
  all_goals first | go_end0 | skip
  all_goals exact ⟨rfl, hfin.1.heap rfl, grown_heap hfin.2 rfl rfl rfl rfl⟩

set_option maxRecDepth 100000 in
set_option maxHeartbeats 1600000 in
theorem closed_any (lb kb : Nat) (L : List Int) (shut : Bool) (w : World) (h : IsLog w lb kb L shut) :
    Calls Try.prog 15 #[.pointer (some ⟨lb, 0, none⟩)] w fun e w' => e = .returned (.bool shut) ∧ w' = w := by
  have hlog := h.log
  have hsh := h.sh
  clear h
  go_enter Try.func15, Try.ntmps15
  go_wp2
  go_ret
  exact ⟨rfl, rfl⟩

/-- AT A STEP OF A REGION THAT DRAWS: append of a row that has an address, be it empty. -/
theorem step_append_any {P : Program} (w : World) {ops : Array Oper} {o : Oper} {a : Act} {K : Act → World → Prop} {Q : Exit → Act → World → Prop} {E : Prop} (hgd : o.guard = none) (s x : Operand) (t : TypeId)
    (ho : o.op = .call { callee := .builtin .append, args := #[s, x], argTypes := #[t, t] })
    (base : Nat) (e : TypeId) (i : TypeInfo) (z : Value) (size bytes : Nat) (ht : P.underlying t = some (.slice e)) (hi : P.info? e = some i) (hz : i.zero = some z)
    (hsize : i.size = size) (hby : i.bytes = bytes) (hzs : z.cells.size = size) (hsz : 0 < size)
    (v : Value) (n : Nat) (xs : List Value) (hs : a.eval s = v) (hown : w.ownsRow base e size v n xs)
    (ad : Addr) (m c : Nat) (news : List Value) (hx : a.eval x = .slice (some ad) m c) (hl : news.length = m * size) (hnews : ∀ j u, news[j]? = some u → w.cell? (ad.add j) = some u) (h1 : ∀ u ∈ news, u.oneCell' = true)
    (h63 : n + m ≤ maxLen) (hbytes : (n + m) * bytes ≤ 140737488355328) (hbase : base ≤ w.heap.size)
    (h : ∀ v' w', w'.ownsRow base e size v' (n + m) (xs ++ news) → w.grownBy w' v.ownBlock → K (a.put o.dst v') w') :
    if Region.wanted o (yielded ops a.tmps) = true then Oper.wp P o a w K Q else E := by
  have hw : Region.wanted o (yielded ops a.tmps) = true := by simp [Region.wanted, hgd]
  rw [if_pos hw]
  obtain ⟨v', w', hr, h2, h3, _, _⟩ := run_append_own_at (P := P) w base t o.type e i z size bytes ht hi hz hsize hby hzs hsz v n xs hown ad m c news hl hnews h1 h63 hbytes hbase
  unfold Oper.wp execOp
  simp only [ho, resolve, invoke, builtin, Sem.run_bind, Sem.run_pure, Result.andThen_ok, List.map_toArray, List.map_cons, List.map_nil, hs, hx, hr]
  exact h v' w' h2 h3

theorem Try.infoI : (Try.prog.info? 3).map (fun i => (i.zero, i.size, i.bytes)) = some (some (.int .i64 0), 1, 8) := by kernel_rfl

theorem Try.arrU : Try.prog.underlying 41 = some (.array (Try.prog.arrayLen 41) (Try.prog.elem 41)) := by kernel_rfl
theorem Try.arrL : Try.prog.arrayLen 41 = 256 := by kernel_rfl
theorem Try.arrE (w : World) : (sizeOf (Try.prog.elem 41)).run Try.prog w = .ok 1 w := by kernel_rfl
theorem slice_notes (kb m : Nat) (hm : m ≤ 256) (w : World) : (Instr.sliceAt 41 (.pointer (some ⟨kb, 0, none⟩)) none (some (.int .i64 m)) none).run Try.prog w = .ok (.slice (some ⟨kb, 0, none⟩) m 256) w := by
  rw [run_sliceAt_array_h w 41 _ Try.arrU .i64 m (by omega) (by rw [Try.arrL]; omega), Try.arrE, Try.arrL]
  simp [slicedAt, Addr.add]

set_option maxRecDepth 100000 in
set_option maxHeartbeats 1600000 in
theorem list_any (lb kb : Nat) (L : List Int) (shut : Bool) (w : World) (h : IsLog w lb kb L shut) :
    Calls Try.prog 7 #[.pointer (some ⟨lb, 0, none⟩)] w fun e w' => ∃ v, e = .returned v ∧ w'.ownsRow w.heap.size 3 1 v L.length (L.map (Value.int .i64)) ∧ w.grownBy w' none := by
  obtain ⟨i0, hi, hz0, hz1, hz2⟩ := info_parts Try.infoI
  have hlog := h.log
  have hn := h.n
  have hkb := h.kb_lt
  have hlen := h.len
  have hsl := slice_notes kb L.length hlen
  have hown : (w.alloc (.cells #[] 3)).drew.ownsRow w.heap.size 3 1 (.slice (some ⟨w.heap.size, 0, none⟩) 0 0) 0 [] := ⟨rfl, .inr ⟨w.heap.size, 0, #[], rfl, Nat.le_refl _, heap_alloc_new w _, Nat.le_refl _, Nat.zero_le _, rfl, rfl⟩⟩
  have hnews : ∀ j u, (L.map (Value.int .i64))[j]? = some u → (w.alloc (.cells #[] 3)).drew.cell? ((⟨kb, 0, none⟩ : Addr).add j) = some u := by
    intro j u hu
    rw [List.getElem?_map] at hu
    cases hj : L[j]? with
    | none => rw [hj] at hu; cases hu
    | some z =>
      rw [hj] at hu
      cases hu
      have hjl : j < L.length := (List.getElem?_eq_some_iff.1 hj).1
      have := h.cells j (by omega)
      rw [List.getD, hj] at this
      have e : (⟨kb, 0, none⟩ : Addr).add j = ⟨kb, j, none⟩ := by unfold Addr.add; split <;> simp_all
      rw [e, World.cell?_drew, World.cell?_alloc_lt _ _ _ hkb]
      exact this
  have hone : ∀ u ∈ L.map (Value.int .i64), u.oneCell' = true := ints_oneCell _ _
  have hnl : (L.map (Value.int .i64)).length = L.length * 1 := by simp
  have hfin : ∀ (v' : Value) (w' : World), w'.ownsRow w.heap.size 3 1 v' (0 + L.length) ([] ++ L.map (Value.int .i64)) → (w.alloc (.cells #[] 3)).drew.grownBy w' (some w.heap.size) → w'.ownsRow w.heap.size 3 1 v' L.length (L.map (Value.int .i64)) ∧ w.grownBy w' none := by
    intro v' w' h1 h2
    refine ⟨by simpa using h1, h2.os, h2.tape, h2.output, Nat.le_trans (by simp) h2.size, fun k hk _ => ?_⟩
    rw [h2.block k (by simp; omega) (by simp; omega)]
    exact Below.heap_alloc w _ k hk
  clear h
  go_enter Try.func7, Try.ntmps7
  go_wp2
  go_region_law (refine step_append_any _ rfl (.tmp 3) (.tmp 11) 35 rfl w.heap.size 3 i0 (.int .i64 0) 1 8 Try.underlying35 hi hz0 hz1 hz2 rfl (by decide) _ 0 [] rfl hown ⟨kb, 0, none⟩ L.length 256 (L.map (Value.int .i64)) rfl hnl hnews hone (by unfold maxLen; omega) (by omega) (by simp) ?_; intro v' w1 hown' hgrow)
  all_goals go_wp2
  all_goals go_ret
  all_goals exact ⟨_, rfl, hfin _ _ hown' hgrow⟩

/-- a slice value whose elements are the numbers xs -/
def Ints (w : World) (v : Value) (xs : List Int) : Prop :=
  ∃ ao c, v = .slice ao xs.length c ∧ (∀ i, i < xs.length → ∃ b, ao = some ⟨b, 0, none⟩ ∧ ∀ j, j < xs.length → w.cell? ⟨b, j, none⟩ = some (.int .i64 (xs.getD j 0))) ∧ xs.length ≤ maxLen

theorem Ints.of_owns {w : World} {base : Nat} {v : Value} {n : Nat} {xs : List Int} (h : w.ownsRow base 3 1 v n (xs.map (Value.int .i64))) : Ints w v xs := by
  obtain ⟨h1, h2⟩ := h
  have hn : n = xs.length := by simpa using h1.symm
  subst hn
  rcases h2 with ⟨rfl, h0⟩ | ⟨g, cap, cur, rfl, _, hg, hle, hmax, hsz, htk⟩
  · exact ⟨none, 0, by rw [h0], fun i hi => by omega, by rw [h0]; exact Nat.zero_le _⟩
  · refine ⟨some ⟨g, 0, none⟩, cap, rfl, fun i _ => ⟨g, rfl, fun j hj => ?_⟩, by omega⟩
    have h3 : (cur.toList.take (xs.length * 1))[j]? = (xs.map (Value.int .i64))[j]? := by rw [htk]
    rw [List.getElem?_take] at h3
    rw [if_pos (by omega)] at h3
    simp only [World.cell?, hg]
    rw [if_neg (by simp)]
    rw [← Array.getElem?_toList, h3, List.getElem?_map, List.getD, List.getElem?_eq_getElem hj]
    rfl

theorem Ints.heap {w w1 : World} {v : Value} {xs : List Int} (h : Ints w v xs) (e : w1.heap = w.heap) : Ints w1 v xs := by
  obtain ⟨ao, c, h1, h2, h3⟩ := h
  exact ⟨ao, c, h1, fun i hi => by obtain ⟨b, h4, h5⟩ := h2 i hi; exact ⟨b, h4, fun j hj => by rw [show w1.cell? ⟨b, j, none⟩ = w.cell? ⟨b, j, none⟩ by simp [World.cell?, e]]; exact h5 j hj⟩, h3⟩

/-- the same world but for draws -/
def Dr (w w' : World) : Prop := w'.heap = w.heap ∧ w'.os = w.os ∧ w'.tape = w.tape ∧ w'.output = w.output
theorem Dr.refl (w : World) : Dr w w := ⟨rfl, rfl, rfl, rfl⟩
theorem Dr.cell {w w' : World} (h : Dr w w') (a : Addr) : w'.cell? a = w.cell? a := by simp [World.cell?, h.1]
theorem Dr.drew {w w' : World} (h : Dr w w') : Dr w w'.drew := ⟨h.1, h.2.1, h.2.2.1, h.2.2.2⟩
theorem Dr.grown {w w' : World} (h : Dr w w') (row : Option Nat) : w.grownBy w' row := ⟨h.2.1, h.2.2.1, h.2.2.2, by rw [h.1]; exact Nat.le_refl _, fun k _ _ => by rw [h.1]⟩

set_option maxRecDepth 100000 in
set_option maxHeartbeats 1600000 in
theorem same_true (xs : List Int) (u v : Value) (w : World) (hu : Ints w u xs) (hv : Ints w v xs) :
    Calls Try.prog 8 #[u, v] w fun e w' => e = .returned (.bool true) ∧ Dr w w' := by
  obtain ⟨au, cu, rfl, hcu, hmx⟩ := hu
  obtain ⟨av, cv, rfl, hcv, _⟩ := hv
  unfold maxLen at hmx
  go_enter Try.func8, Try.ntmps8
  go_wp2
  go_loopw [5] (fun i wr => ∃ k : Nat, k ≤ xs.length ∧ i = .int .i64 k ∧ Dr w wr) (fun i _ => xs.length - (intOf i).toNat)
  case atStart => exact ⟨0, Nat.zero_le _, rfl, Dr.refl w⟩
  case round =>
    obtain ⟨k, hk, rfl, hd⟩ := hrel
    by_cases hkl : k < xs.length
    · obtain ⟨bu, rfl, hbu⟩ := hcu k hkl
      obtain ⟨bv, rfl, hbv⟩ := hcv k hkl
      have c1 : wr.cell? ⟨bu, k, none⟩ = some (.int .i64 (xs.getD k 0)) := by rw [hd.cell]; exact hbu k hkl
      have c2 : wr.cell? ⟨bv, k, none⟩ = some (.int .i64 (xs.getD k 0)) := by rw [hd.cell]; exact hbv k hkl
      clear hbu hbv hcu hcv
      go_wp2
      go_region
      all_goals go_wp2
      all_goals go_roundw
      case rel => exact ⟨k + 1, by omega, by go_num, hd.drew⟩
      case measure => simp [intOf]; omega
    · have : k = xs.length := by omega
      subst this
      go_wp2
      go_ret
      exact ⟨rfl, hd⟩

set_option maxRecDepth 100000 in
set_option maxHeartbeats 1600000 in
theorem note_nil (x : Int) (w : World) :
    Calls Try.prog 11 #[.pointer none, .int .i64 x] w fun e w' => e = .returned (.int .i64 (-1)) ∧ w' = w := by
  go_enter Try.func11, Try.ntmps11
  go_wp2
  go_ret
  exact ⟨rfl, rfl⟩

/-- whether a log takes a number -/
def add (shut : Bool) (L : List Int) (x : Int) : List Int := if shut = false ∧ L.length < 256 then L ++ [x] else L
def adds (shut : Bool) (L xs : List Int) : List Int := xs.foldl (add shut) L

theorem adds_step (shut : Bool) (L xs : List Int) (k : Nat) (hk : k < xs.length) : adds shut L (xs.take (k + 1)) = add shut (adds shut L (xs.take k)) (xs.getD k 0) := by
  unfold adds
  rw [List.take_add_one, List.getElem?_eq_getElem hk, List.foldl_append]
  simp [List.getD, List.getElem?_eq_getElem hk]

theorem add_len (shut : Bool) (L : List Int) (x : Int) : L.length ≤ (add shut L x).length ∧ ((add shut L x).length ≤ 256 ∨ 256 < L.length) := by
  unfold add
  split
  · simp; omega
  · omega

theorem adds_len (shut : Bool) : ∀ (xs L : List Int), L.length ≤ (adds shut L xs).length
  | [], L => Nat.le_refl _
  | x :: xs, L => Nat.le_trans (add_len shut L x).1 (adds_len shut xs (add shut L x))

/-- no log: nil, or one that nobody made -/
def NoLog (w : World) (p : Value) : Prop := p = .pointer none ∨ ∃ lb, p = .pointer (some ⟨lb, 0, none⟩) ∧ w.cell? ⟨lb, 0, none⟩ = some (.pointer none)
theorem NoLog.heap {w w1 : World} {p : Value} (h : NoLog w p) (e : w1.heap = w.heap) : NoLog w1 p := by
  rcases h with h | ⟨lb, h1, h2⟩
  · exact .inl h
  · exact .inr ⟨lb, h1, by rw [show w1.cell? ⟨lb, 0, none⟩ = w.cell? ⟨lb, 0, none⟩ by simp [World.cell?, e]]; exact h2⟩

theorem note_no (p : Value) (x : Int) (w : World) (h : NoLog w p) :
    Calls Try.prog 11 #[p, .int .i64 x] w fun e w' => e = .returned (.int .i64 (-1)) ∧ w' = w := by
  rcases h with rfl | ⟨lb, rfl, h⟩
  · exact note_nil x w
  · exact note_none lb x w h

theorem note_off (lb kb : Nat) (L : List Int) (shut : Bool) (x : Int) (w : World) (h : IsLog w lb kb L shut) (hno : ¬ (shut = false ∧ L.length < 256)) :
    Calls Try.prog 11 #[.pointer (some ⟨lb, 0, none⟩), .int .i64 x] w fun e w' => e = .returned (.int .i64 (-1)) ∧ w' = w := by
  cases shut with
  | true => exact note_shut lb kb L x w h
  | false => exact note_full lb kb L x w h (by have := h.len; simp at hno; omega)

def zeros : Array Value := (List.replicate 256 (Value.int .i64 0) ++ [Value.int .i64 0, Value.bool false]).toArray
theorem zero_kept (w : World) : (zeroValue 43).run Try.prog w = .ok (.agg zeros) w := by kernel_rfl

theorem zero_log (w : World) : (zeroValue 45).run Try.prog w = .ok (.agg #[.pointer none]) w := by kernel_rfl

theorem zeros_at (i : Nat) (h : i < 256) : zeros[i]? = some (.int .i64 0) := by
  unfold zeros
  rw [List.getElem?_toArray, List.getElem?_append_left (by rw [List.length_replicate]; exact h), List.getElem?_replicate, if_pos h]
theorem zeros_256 : zeros[256]? = some (.int .i64 0) := by kernel_rfl
theorem zeros_257 : zeros[257]? = some (.bool false) := by kernel_rfl

theorem isLog_new (w : World) : IsLog ((w.alloc (.cells zeros 43)).alloc (.cells #[.pointer (some ⟨w.heap.size, 0, none⟩)] 45)) (w.heap.size + 1) w.heap.size [] false := by
  have hb : ((w.alloc (.cells zeros 43)).alloc (.cells #[.pointer (some ⟨w.heap.size, 0, none⟩)] 45)).heap[w.heap.size]? = some (.cells zeros 43 (0, 0)) := by
    rw [Below.heap_alloc _ _ _ (by simp)]
    exact heap_alloc_new w _
  have hb2 : ((w.alloc (.cells zeros 43)).alloc (.cells #[.pointer (some ⟨w.heap.size, 0, none⟩)] 45)).heap[w.heap.size + 1]? = some (.cells #[.pointer (some ⟨w.heap.size, 0, none⟩)] 45 (0, 0)) := by
    have := heap_alloc_new (w.alloc (.cells zeros 43)) (.cells #[.pointer (some ⟨w.heap.size, 0, none⟩)] 45)
    simpa using this
  have hc : ∀ i, ((w.alloc (.cells zeros 43)).alloc (.cells #[.pointer (some ⟨w.heap.size, 0, none⟩)] 45)).cell? ⟨w.heap.size, i, none⟩ = zeros[i]? := fun i => by
    simp only [World.cell?, hb]
    rfl
  refine ⟨?_, fun i hi => by rw [hc, zeros_at i hi]; simp, by rw [hc, zeros_256]; rfl, by rw [hc, zeros_257], fun i => ?_, by simp, by omega⟩
  · simp only [World.cell?, hb2]
    rfl
  · simp only [World.frozen?, hb]
    simp

set_option maxRecDepth 100000 in
set_option maxHeartbeats 1600000 in
theorem new_log (w : World) :
    Calls Try.prog 4 #[] w fun e w' => ∃ lb kb, e = .returned (.pointer (some ⟨lb, 0, none⟩)) ∧ IsLog w' lb kb [] false ∧ Below w.heap.size w w' ∧ w.heap.size ≤ lb ∧ w.heap.size ≤ kb := by
  have h1 := zero_kept
  have hf := isLog_new w
  go_enter Try.func4, Try.ntmps4
  go_wp2
  go_ret
  exact ⟨_, _, rfl, hf, ((Below.refl _ w).alloc (Nat.le_refl _) _).alloc (by simp) _, by omega, Nat.le_refl _⟩

/-- what First tells: -1, and the number is nowhere; or its first place -/
def FirstOf (L : List Int) (x f : Int) : Prop := (f = -1 ∧ ∀ j, j < L.length → L.getD j 0 ≠ x) ∨ ∃ j : Nat, f = j ∧ j < L.length ∧ L.getD j 0 = x ∧ ∀ i, i < j → L.getD i 0 ≠ x

set_option maxRecDepth 100000 in
set_option maxHeartbeats 1600000 in
theorem first_any (lb kb : Nat) (L : List Int) (shut : Bool) (x : Int) (w : World) (h : IsLog w lb kb L shut) :
    Calls Try.prog 17 #[.pointer (some ⟨lb, 0, none⟩), .int .i64 x] w fun e w' => ∃ f : Int, e = .returned (.int .i64 f) ∧ FirstOf L x f ∧ w.grownBy w' none := by
  have hlen := h.len
  go_enter Try.func17, Try.ntmps17
  go_wp2_with fail
  refine (list_any lb kb L shut w h).mono ?_
  rintro e w1 ⟨v, rfl, hown, hgr⟩
  obtain ⟨ao, cp, rfl, hcell, _⟩ := Ints.of_owns hown
  go_wp2
  go_loop [10] (fun i => ∃ k : Nat, k ≤ L.length ∧ i = .int .i64 k ∧ ∀ j, j < k → L.getD j 0 ≠ x) (fun i => L.length - (intOf i).toNat)
  case atStart => exact ⟨0, Nat.zero_le _, rfl, fun j hj => by omega⟩
  case round =>
    obtain ⟨k, hk, rfl, hbefore⟩ := hrel
    by_cases hkl : k < L.length
    · obtain ⟨b, rfl, hb⟩ := hcell k hkl
      have c1 := hb k hkl
      clear hb hcell
      by_cases hx : L.getD k 0 = x
      · rw [hx] at c1
        go_wp2
        go_ret
        exact ⟨k, rfl, .inr ⟨k, rfl, hkl, hx, hbefore⟩, hgr⟩
      · obtain ⟨y, hy⟩ : ∃ y, L.getD k 0 = y := ⟨_, rfl⟩
        rw [hy] at c1 hx
        go_wp2
        go_round
        case rel => exact ⟨k + 1, by omega, by go_num, fun j hj => by
          by_cases hjk : j = k
          · subst hjk; rw [hy]; exact hx
          · exact hbefore j (by omega)⟩
        case measure => simp [intOf]; omega
    · have : k = L.length := by omega
      subst this
      go_wp2
      go_ret
      exact ⟨-1, rfl, .inl ⟨rfl, hbefore⟩, hgr⟩
end Go.Proofs.Ytdiifadfpnbnhaa.lg
