/- The cards of fire: what the tables tell of calls in any world. -/
import Derived.Test.YtfahpjgfcndefaaDoorFiFire
namespace Go.Proofs.YtfahpjgfcndefaaDoor.fiFire
open Go.Sim Go.RowKit
set_option linter.unusedVariables false
set_option maxRecDepth 100000

theorem num : Sim.NumOK Tryd.prog := Sim.numOK_of (by kernel_rfl)
theorem mixed : Tryd.prog.follows .mixedOrders = true := by kernel_rfl
theorem globs0 (e : Env) : Globs 0 e := fun g hg => absurd hg (by omega)

/-- a card, with its parts in block q -/
def cw (q : Nat → Nat) (j : Nat) : List Value := cardV (cdAt t j) (q j) (nps j)
/-- six cards lie in block cb: at place i card p i -/
structure Lie (w : World) (cb : Nat) (q p : Nat → Nat) : Prop where
  cell : ∀ i s v, i < 6 → (cw q (p i))[s]? = some v → w.cell? ⟨cb, i * 9 + s, none⟩ = some v
  fro : ∀ o, w.frozen? ⟨cb, o, none⟩ = false
theorem Lie.kept {w w' : World} {cb : Nat} {q p : Nat → Nat} (h : Lie w cb q p) (hb : w'.heap[cb]? = w.heap[cb]?) : Lie w' cb q p :=
  ⟨fun i s v hi hs => by rw [World.cell?_of_block (w := w) (a := ⟨cb, i * 9 + s, none⟩) hb]; exact h.cell i s v hi hs, fun o => by rw [World.frozen?_of_block (w := w) (a := ⟨cb, o, none⟩) hb]; exact h.fro o⟩

theorem grown_refl (w : World) (row : Option Nat) : w.grownBy w row := ⟨rfl, rfl, rfl, Nat.le_refl _, fun _ _ _ => rfl⟩
theorem grown_trans {a b c : World} {row : Option Nat} (h : a.grownBy b row) (k : b.grownBy c row) : a.grownBy c row :=
  ⟨k.os.trans h.os, k.tape.trans h.tape, k.output.trans h.output, Nat.le_trans h.size k.size, fun i hi hne => (k.block i (Nat.lt_of_lt_of_le hi h.size) hne).trans (h.block i hi hne)⟩
theorem grown_setCell {kb : Nat} (w : World) (i : Nat) (v : Value) : w.grownBy (w.setCell ⟨kb, i, none⟩ v) (some kb) :=
  ⟨rfl, rfl, rfl, by simp, fun k _ hne => Below.heap_setCell w _ v k (fun e => hne (by rw [e]))⟩
theorem grown_of_below {w w' : World} {row : Option Nat} (h : Below w.heap.size w w') : w.grownBy w' row := ⟨h.os, h.tape, h.output, h.size, fun k hk _ => h.block k hk⟩

theorem start (w : World) : RS 0 w.heap.size (fun _ => none) (S0 0) w :=
  ⟨fun n B h => by simp [S0, Tr.get] at h, fun n B h => by simp [S0, Tr.get] at h, fun n m B C b k k' h => by simp [S0, Tr.get] at h, fun n m B C b k k' h => by simp [S0, Tr.get] at h,
    fun n hn => rfl, fun n b k hn => (by cases hn), fun n b k hn => (by cases hn), Nat.le_refl _, Nat.le_refl _, fun n hn => absurd hn (Nat.not_lt_zero n),
    fun n l h => by simp [S0, Tr.get] at h, fun n m l l' b k k' h => by simp [S0, Tr.get] at h, fun n B h => by simp [S0, Tr.get] at h, fun n m B C b k k' h => by simp [S0, Tr.get] at h, fun n m B C b k k' h => by simp [S0, Tr.get] at h⟩

theorem hpC_get : ∃ B, (blOf hpC).get 6 = some B ∧ ((List.range 6).all fun i => (List.range 9).all fun s => match B.get (i * 9 + s), (cardV (cdAt t i) i (nps i))[s]? with | some u, some v => eqC u v | _, _ => false) = true :=
  ⟨_, rfl, by kernel_rfl⟩
theorem lens : ((List.range 6).all fun i => Nat.beq (cardV (cdAt t i) i (nps i)).length 9) = true := by kernel_rfl

/-- what the list's elements are in the world -/
theorem rv_card {e : Env} {q : Nat → Nat} {i : Nat} (hi : i < 6) (hq : ∃ k, e i = some (q i, k)) : ∀ (s : Nat) (v v' : Value), (cardV (cdAt t i) i (nps i))[s]? = some v → RV e v v' → (cw q i)[s]? = some v' := by
  obtain ⟨k, hk⟩ := hq
  have hbig : ¬ (nps i = big) := by
    have : ((List.range 6).all fun i => Nat.blt (nps i) 100) = true := by kernel_rfl
    have := List.all_eq_true.1 this i (List.mem_range.2 hi)
    rw [blt_dec] at this
    have := of_decide_eq_true this
    unfold big
    omega
  have hfl : ((List.range 6).all fun i => flatL (cdAt t i).c8) = true := by kernel_rfl
  have hfl := List.all_eq_true.1 hfl i (List.mem_range.2 hi)
  intro s v v' hs hv
  unfold cw cardV at *
  rw [List.getElem?_append] at hs ⊢
  split at hs
  · rename_i hlt
    rw [if_pos hlt]
    rw [hs, RV.flat_eq (flat_get hfl hs) hv]
  · rename_i hlt
    rw [if_neg hlt]
    have h0 : s - (cdAt t i).c8.length = 0 := by
      have := (List.getElem?_eq_some_iff.1 hs).1
      simp at this
      omega
    rw [h0] at hs ⊢
    simp only [List.getElem?_cons_zero, Option.some.injEq] at hs ⊢
    subst hs
    unfold nps at *
    generalize (cdAt t i).np = n at *
    cases n with
    | zero =>
      rw [partsV, RV] at hv
      rw [hv, partsV]
    | succ n =>
      rw [partsV, RV] at hv
      obtain ⟨b, k', h1, h2, h3, h4⟩ := hv
      have h1 : e i = some (b, k') := h1
      rw [hk] at h1
      cases h1
      rw [h3, partsV, if_neg hbig]

theorem nine {α : Type} {l : List α} (h : l.length = 9) : ∃ a b c d e f g i j, l = [a, b, c, d, e, f, g, i, j] := by
  match l, h with
  | [a, b, c, d, e, f, g, i, j], _ => exact ⟨a, b, c, d, e, f, g, i, j, rfl⟩
theorem cw_len (q : Nat → Nat) {i : Nat} (hi : i < 6) : (cw q i).length = 9 := by
  have := List.all_eq_true.1 lens i (List.mem_range.2 hi)
  have h := Nat.eq_of_beq_eq_true this
  simpa [cw, cardV] using h
theorem cw_nine (q : Nat → Nat) {i : Nat} (hi : i < 6) : ∃ a b c d e f g h j, cw q i = [a, b, c, d, e, f, g, h, j] := nine (cw_len q hi)

theorem cw_form (q : Nat → Nat) {i : Nat} (hi : i < 6) : ∃ (a0 : ByteArray) (a1 a2 a3 a4 a5 a6 : Int) (a7 : Bool) (a8 : Option Addr) (a9 a10 : Nat), cw q i = [.string a0, .int .u8 a1, .int .u8 a2, .int .i64 a3, .int .i64 a4, .int .i64 a5, .int .u16 a6, .bool a7, .slice a8 a9 a10] := by
  match i, hi with
  | 0, _ => exact ⟨_, _, _, _, _, _, _, _, _, _, _, rfl⟩
  | 1, _ => exact ⟨_, _, _, _, _, _, _, _, _, _, _, rfl⟩
  | 2, _ => exact ⟨_, _, _, _, _, _, _, _, _, _, _, rfl⟩
  | 3, _ => exact ⟨_, _, _, _, _, _, _, _, _, _, _, rfl⟩
  | 4, _ => exact ⟨_, _, _, _, _, _, _, _, _, _, _, rfl⟩
  | 5, _ => exact ⟨_, _, _, _, _, _, _, _, _, _, _, rfl⟩
def suitNo : Int := match (cdAt t 0).c8 with | [_, .int _ n, _, _, _, _, _, _] => n | _ => 0
theorem cw_suit (q : Nat → Nat) {i : Nat} (hi : i < 6) : ∃ a c d e f g h j, cw q i = [a, .int .u8 suitNo, c, d, e, f, g, h, j] := by
  match i, hi with
  | 0, _ => exact ⟨_, _, _, _, _, _, _, _, rfl⟩
  | 1, _ => exact ⟨_, _, _, _, _, _, _, _, rfl⟩
  | 2, _ => exact ⟨_, _, _, _, _, _, _, _, rfl⟩
  | 3, _ => exact ⟨_, _, _, _, _, _, _, _, rfl⟩
  | 4, _ => exact ⟨_, _, _, _, _, _, _, _, rfl⟩
  | 5, _ => exact ⟨_, _, _, _, _, _, _, _, rfl⟩
/-- cells written one behind the other -/
def put (w : World) (cb o : Nat) : List Value → World
  | [] => w
  | v :: l => put (w.setCell ⟨cb, o, none⟩ v) cb (o + 1) l
theorem put_out {cb y : Nat} : ∀ (l : List Value) (w : World) (o : Nat), (y < o ∨ o + l.length ≤ y) → (put w cb o l).cell? ⟨cb, y, none⟩ = w.cell? ⟨cb, y, none⟩
  | [], w, o, _ => rfl
  | v :: l, w, o, h => by
    simp only [List.length_cons] at h
    rw [put, put_out l _ (o + 1) (by omega), World.cell?_setCell_other _ _ _ _ (fun e => by injection e with _ e _; omega)]
theorem put_in {cb y : Nat} {v : Value} : ∀ (l : List Value) (w : World) (o : Nat), (∀ z, o ≤ z → z < o + l.length → ∃ u, w.cell? ⟨cb, z, none⟩ = some u) → o ≤ y → l[y - o]? = some v → (put w cb o l).cell? ⟨cb, y, none⟩ = some v
  | [], w, o, _, _, h => by simp at h
  | u :: l, w, o, hw, hy, h => by
    rw [put]
    by_cases hyo : y = o
    · subst hyo
      simp at h
      subst h
      obtain ⟨x, hx⟩ := hw y (Nat.le_refl _) (by simp)
      rw [put_out l _ (y + 1) (by omega), World.cell?_setCell_same _ _ _ hx]
    · refine put_in l _ (o + 1) (fun z h1 h2 => ?_) (by omega) ?_
      · obtain ⟨x, hx⟩ := hw z (by omega) (by simp; omega)
        exact ⟨x, by rw [World.cell?_setCell_other _ _ _ _ (fun e => by injection e with _ e _; omega)]; exact hx⟩
      · rw [show y - o = (y - (o + 1)) + 1 by omega] at h
        simpa using h
theorem put_fro {cb : Nat} {a : Addr} : ∀ (l : List Value) (w : World) (o : Nat), (put w cb o l).frozen? a = w.frozen? a
  | [], _, _ => rfl
  | v :: l, w, o => by rw [put, put_fro l]; simp
theorem put_grown {cb : Nat} : ∀ (l : List Value) (w : World) (o : Nat), w.grownBy (put w cb o l) (some cb)
  | [], w, _ => grown_refl w _
  | v :: l, w, o => grown_trans (grown_setCell w o v) (put_grown l _ (o + 1))
def swp (p : Nat → Nat) (s r i : Nat) : Nat := if i = r then p s else if i = s then p r else p i
theorem Lie.swap {w : World} {cb s r : Nat} {q p : Nat → Nat} (h : Lie w cb q p) (hs : s < 6) (hr : r < 6) (hp : ∀ i, i < 6 → p i < 6) : Lie (put (put w cb (s * 9) (cw q (p r))) cb (r * 9) (cw q (p s))) cb q (swp p s r) := by
  have ls := cw_len q (hp s hs)
  have lr := cw_len q (hp r hr)
  have at9 : ∀ (w : World) (i t : Nat), i < 6 → t < 9 → Lie w cb q p → ∃ u, w.cell? ⟨cb, i * 9 + t, none⟩ = some u := fun w i t hi ht h => by
    have hl := cw_len q (hp i hi)
    exact ⟨_, h.cell i t _ hi (List.getElem?_eq_getElem (by omega))⟩
  have hd := h
  have ex1 : ∀ z, s * 9 ≤ z → z < s * 9 + (cw q (p r)).length → ∃ u, w.cell? ⟨cb, z, none⟩ = some u := fun z h1 h2 => by
    have := at9 w s (z - s * 9) hs (by omega) hd
    rwa [show s * 9 + (z - s * 9) = z by omega] at this
  have ex2 : ∀ z, r * 9 ≤ z → z < r * 9 + (cw q (p s)).length → ∃ u, (put w cb (s * 9) (cw q (p r))).cell? ⟨cb, z, none⟩ = some u := fun z h1 h2 => by
    by_cases hin : s * 9 ≤ z ∧ z < s * 9 + (cw q (p r)).length
    · exact ⟨_, put_in _ _ _ ex1 hin.1 (List.getElem?_eq_getElem (by omega))⟩
    · rw [put_out _ _ _ (by omega)]
      have := at9 w r (z - r * 9) hr (by omega) hd
      rwa [show r * 9 + (z - r * 9) = z by omega] at this
  refine ⟨fun i t v hi hv => ?_, fun o => by rw [put_fro, put_fro]; exact h.fro o⟩
  have ht : t < 9 := by
    have h1 := (List.getElem?_eq_some_iff.1 hv).1
    have h2 : swp p s r i < 6 := by unfold swp; split; exact hp s hs; split; exact hp r hr; exact hp i hi
    have := cw_len q h2
    omega
  unfold swp at hv
  by_cases hir : i = r
  · subst hir
    rw [if_pos rfl] at hv
    exact put_in _ _ _ ex2 (by omega) (by rw [show i * 9 + t - i * 9 = t by omega]; exact hv)
  · rw [if_neg hir] at hv
    rw [put_out _ _ _ (by omega)]
    by_cases his : i = s
    · subst his
      rw [if_pos rfl] at hv
      exact put_in _ _ _ ex1 (by omega) (by rw [show i * 9 + t - i * 9 = t by omega]; exact hv)
    · rw [if_neg his] at hv
      rw [put_out _ _ _ (by omega)]
      exact hd.cell i t v hi hv
theorem mid {w : World} {cb s r : Nat} {q p : Nat → Nat} (h : Lie w cb q p) (hs : s < 6) (hr : r < 6) (hp : ∀ i, i < 6 → p i < 6) : ∀ t v, (cw q (p r))[t]? = some v → (put w cb (s * 9) (cw q (p r))).cell? ⟨cb, r * 9 + t, none⟩ = some v := fun t v hv => by
  have lr := cw_len q (hp r hr)
  have ls := cw_len q (hp s hs)
  have ht : t < 9 := by have := (List.getElem?_eq_some_iff.1 hv).1; omega
  by_cases hrs : r = s
  · subst hrs
    refine put_in _ _ _ (fun z h1 h2 => ?_) (by omega) (by rw [show r * 9 + t - r * 9 = t by omega]; exact hv)
    have := h.cell r (z - r * 9) _ hr (List.getElem?_eq_getElem (by omega))
    rw [show r * 9 + (z - r * 9) = z by omega] at this
    exact ⟨_, this⟩
  · rw [put_out _ _ _ (by omega)]
    exact h.cell r t v hr hv
theorem Lie.heap {w w' : World} {cb : Nat} {q p : Nat → Nat} (h : Lie w cb q p) (e : w'.heap = w.heap) : Lie w' cb q p := h.kept (by rw [e])
theorem grown_heap {a w w' : World} {row : Option Nat} (h : a.grownBy w row) (e : w'.heap = w.heap) (e1 : w'.os = w.os) (e2 : w'.tape = w.tape) (e3 : w'.output = w.output) : a.grownBy w' row :=
  ⟨e1.trans h.os, e2.trans h.tape, e3.trans h.output, by rw [e]; exact h.size, fun k hk hr => by rw [e]; exact h.block k hk hr⟩
theorem grown_drew (w : World) (row : Option Nat) : w.grownBy w.drew row := ⟨rfl, rfl, rfl, Nat.le_refl _, fun _ _ _ => rfl⟩
theorem cw_one (q : Nat → Nat) {i : Nat} (hi : i < 6) : ∀ v ∈ cw q i, v.oneCell' = true := by
  obtain ⟨a0, a1, a2, a3, a4, a5, a6, a7, a8, a9, a10, h⟩ := cw_form q hi
  rw [h]
  simp [Value.oneCell']
theorem run_put {P : Program} {cb : Nat} {off : Nat} : ∀ (l : List Value) (i : Nat) (w : World), (∀ z, off + i ≤ z → z < off + i + l.length → ∃ u, w.cell? ⟨cb, z, none⟩ = some u) → (∀ o, w.frozen? ⟨cb, o, none⟩ = false) → (∀ v ∈ l, v.oneCell' = true) →
    (storeCells ⟨cb, off, none⟩ l i).run P w = .ok () (put w cb (off + i) l)
  | [], i, w, _, _, _ => rfl
  | v :: l, i, w, h1, h2, h3 => by
    have hadd : (⟨cb, off, none⟩ : Addr).add i = ⟨cb, off + i, none⟩ := by unfold Addr.add; split <;> simp_all
    obtain ⟨u, hu⟩ := h1 (off + i) (Nat.le_refl _) (by simp)
    have hs : (store ((⟨cb, off, none⟩ : Addr).add i) v).run P w = .ok () (w.setCell ⟨cb, off + i, none⟩ v) := by
      rw [hadd, run_store P w _ v _ (h3 v (List.mem_cons_self ..)), hu]
      simp [h2]
    rw [storeCells, Sem.run_bind, hs, Result.andThen_ok, put]
    exact run_put l (i + 1) _ (fun z a b => by
      obtain ⟨x, hx⟩ := h1 z (by omega) (by simp; omega)
      exact cell?_setCell_some hx) (fun o => by simp [h2]) (fun x hx => h3 x (List.mem_cons_of_mem _ hx))
theorem put_take {cb : Nat} {v : Value} : ∀ (l : List Value) (w : World) (o j : Nat), l[j]? = some v → put w cb o (l.take (j + 1)) = (put w cb o (l.take j)).setCell ⟨cb, o + j, none⟩ v
  | [], _, _, _, h => by simp at h
  | u :: l, w, o, 0, h => by
    simp at h
    subst h
    rfl
  | u :: l, w, o, j + 1, h => by
    have := put_take (cb := cb) l (w.setCell ⟨cb, o, none⟩ u) (o + 1) j (by simpa using h)
    rw [List.take_succ_cons, List.take_succ_cons, put, put, this, show o + 1 + j = o + (j + 1) by omega]
/-- some cells stored, one behind the other: the worlds between -/
theorem run_chain (P : Program) {w : World} {cb off : Nat} {l : List Value} (hone : ∀ v ∈ l, v.oneCell' = true) (hc : ∀ z, off ≤ z → z < off + l.length → ∃ u, w.cell? ⟨cb, z, none⟩ = some u) (hf : ∀ o, w.frozen? ⟨cb, o, none⟩ = false) :
    ∃ Ws : Nat → World, Ws 0 = w ∧ Ws l.length = put w cb off l ∧ ∀ j v, l[j]? = some v → (store ⟨cb, off + j, none⟩ v).run P (Ws j) = .ok () (Ws (j + 1)) := by
  refine ⟨fun j => put w cb off (l.take j), rfl, by simp, fun j v hj => ?_⟩
  have hjl : j < l.length := (List.getElem?_eq_some_iff.1 hj).1
  obtain ⟨u, hu⟩ := hc (off + j) (by omega) (by omega)
  show (store ⟨cb, off + j, none⟩ v).run P (put w cb off (l.take j)) = .ok () (put w cb off (l.take (j + 1)))
  rw [put_take l w off j hj, run_store P _ _ v _ (hone v (List.mem_of_getElem? hj)), put_out _ _ _ (by rw [List.length_take]; omega), hu, put_fro]
  simp [hf]
theorem run_storeAt_put {P : Program} {w : World} {t : TypeId} {i : TypeInfo} (hi : P.info? t = some i) {b off : Nat} {l : List Value} (hsz : l.length = i.size) (hone : ∀ v ∈ l, v.oneCell' = true)
    (hc : ∀ z, off ≤ z → z < off + l.length → ∃ u, w.cell? ⟨b, z, none⟩ = some u) (hf : ∀ o, w.frozen? ⟨b, o, none⟩ = false) : (Instr.storeAt t (.pointer (some ⟨b, off, none⟩)) (.agg l.toArray)).run P w = .ok () (put w b off l) := by
  have hrun : (storeCells ⟨b, off, none⟩ l).run P w = .ok () (put w b off l) := run_put l 0 w hc hf hone
  simp [Instr.storeAt, Instr.sureAddr, storeVar, sizeOf, typeInfo, hi, hsz, Value.cells, hrun]
/-- a store of some cells -/
theorem wpList_store {P : Program} {w : World} {ops : Array Oper} {rest : List Oper} {o : Oper} {a : Act} {Q : Exit → Act → World → Prop} (hgd : o.guard = none) (x y : Operand) (t : TypeId) (ho : o.op = .store t x y)
    (i : TypeInfo) (hi : P.info? t = some i) (b off : Nat) (l : List Value) (hx : a.eval x = .pointer (some ⟨b, off, none⟩)) (hy : a.eval y = .agg l.toArray) (hsz : l.length = i.size) (hone : ∀ v ∈ l, v.oneCell' = true)
    (hc : ∀ z, off ≤ z → z < off + l.length → ∃ u, w.cell? ⟨b, z, none⟩ = some u) (hf : ∀ o, w.frozen? ⟨b, o, none⟩ = false) (h : wpList P ops Q rest (a.put o.dst undef) (put w b off l)) : wpList P ops Q (o :: rest) a w := by
  refine wpList_plain hgd fun K hK => ?_
  have hrun : (storeCells ⟨b, off, none⟩ l).run P w = .ok () (put w b off l) := run_put l 0 w hc hf hone
  have hr : (execOp a.eval o).run P w = .ok .skip (put w b off l) := by
    simp [execOp, ho, hx, hy, Instr.storeAt, Instr.sureAddr, storeVar, sizeOf, typeInfo, hi, hsz, Value.cells, hrun]
  unfold Oper.wp
  rw [hr]
  exact hK _ _ h
/-- AT A STEP OF A REGION THAT DRAWS: a store of some cells -/
theorem step_store {P : Program} (w : World) {ops : Array Oper} {o : Oper} {a : Act} {K : Act → World → Prop} {Q : Exit → Act → World → Prop} {E : Prop} (hgd : o.guard = none) (x y : Operand) (t : TypeId) (ho : o.op = .store t x y)
    (i : TypeInfo) (hi : P.info? t = some i) (b off : Nat) (l : List Value) (hx : a.eval x = .pointer (some ⟨b, off, none⟩)) (hy : a.eval y = .agg l.toArray) (hsz : l.length = i.size) (hone : ∀ v ∈ l, v.oneCell' = true)
    (hc : ∀ z, off ≤ z → z < off + l.length → ∃ u, w.cell? ⟨b, z, none⟩ = some u) (hf : ∀ o, w.frozen? ⟨b, o, none⟩ = false) (h : K (a.put o.dst undef) (put w b off l)) :
    if Region.wanted o (yielded ops a.tmps) = true then Oper.wp P o a w K Q else E := by
  have hw : Region.wanted o (yielded ops a.tmps) = true := by simp [Region.wanted, hgd]
  rw [if_pos hw]
  have hrun : (storeCells ⟨b, off, none⟩ l).run P w = .ok () (put w b off l) := run_put l 0 w hc hf hone
  have hr : (execOp a.eval o).run P w = .ok .skip (put w b off l) := by
    simp [execOp, ho, hx, hy, Instr.storeAt, Instr.sureAddr, storeVar, sizeOf, typeInfo, hi, hsz, Value.cells, hrun]
  unfold Oper.wp
  rw [hr]
  exact h
theorem Lie.ex {w : World} {cb s : Nat} {q p : Nat → Nat} {l : List Value} (h : Lie w cb q p) (hs : s < 6) (hp : ∀ i, i < 6 → p i < 6) (hl : l.length = 9) : ∀ z, s * 9 ≤ z → z < s * 9 + l.length → ∃ u, w.cell? ⟨cb, z, none⟩ = some u := fun z h1 h2 => by
  have hl2 := cw_len q (hp s hs)
  have := h.cell s (z - s * 9) _ hs (List.getElem?_eq_getElem (by omega))
  rw [show s * 9 + (z - s * 9) = z by omega] at this
  exact ⟨_, this⟩
theorem Lie.ex2 {w : World} {cb s r : Nat} {q p : Nat → Nat} (h : Lie w cb q p) (hs : s < 6) (hr : r < 6) (hp : ∀ i, i < 6 → p i < 6) : ∀ z, r * 9 ≤ z → z < r * 9 + (cw q (p s)).length → ∃ u, (put w cb (s * 9) (cw q (p r))).cell? ⟨cb, z, none⟩ = some u := fun z h1 h2 => by
  have ls := cw_len q (hp s hs)
  have lr := cw_len q (hp r hr)
  by_cases hin : s * 9 ≤ z ∧ z < s * 9 + (cw q (p r)).length
  · exact ⟨_, put_in _ _ _ (h.ex hs hp lr) hin.1 (List.getElem?_eq_getElem (by omega))⟩
  · rw [put_out _ _ _ (by omega)]
    exact h.ex (l := cw q (p s)) hr hp ls z h1 h2
theorem infoC : ∃ i : TypeInfo, Tryd.prog.info? 32 = some i ∧ i.size = 9 := by
  have h : (Tryd.prog.info? 32).map (·.size) = some 9 := by kernel_rfl
  cases hi : Tryd.prog.info? 32 with
  | none => rw [hi] at h; cases h
  | some i => rw [hi] at h; exact ⟨i, rfl, Option.some.inj h⟩
theorem swp_lt {p : Nat → Nat} {s r : Nat} (hs : s < 6) (hr : r < 6) (hp : ∀ i, i < 6 → p i < 6) : ∀ i, i < 6 → swp p s r i < 6 := fun i hi => by
  unfold swp; split; exact hp s hs; split; exact hp r hr; exact hp i hi
theorem swp_inj {p : Nat → Nat} {s r : Nat} (hs : s < 6) (hr : r < 6) (hp : ∀ i j, i < 6 → j < 6 → p i = p j → i = j) : ∀ i j, i < 6 → j < 6 → swp p s r i = swp p s r j → i = j := fun i j hi hj h => by
  unfold swp at h
  by_cases hir : i = r
  · rw [if_pos hir] at h
    by_cases hjr : j = r
    · omega
    · rw [if_neg hjr] at h
      by_cases hjs : j = s
      · rw [if_pos hjs] at h; have := hp s r hs hr h; omega
      · rw [if_neg hjs] at h; have := hp s j hs hj h; omega
  · rw [if_neg hir] at h
    by_cases his : i = s
    · rw [if_pos his] at h
      by_cases hjr : j = r
      · rw [if_pos hjr] at h; have := hp r s hr hs h; omega
      · rw [if_neg hjr] at h
        by_cases hjs : j = s
        · omega
        · rw [if_neg hjs] at h; have := hp r j hr hj h; omega
    · rw [if_neg his] at h
      by_cases hjr : j = r
      · rw [if_pos hjr] at h; have := hp i s hi hs h; omega
      · rw [if_neg hjr] at h
        by_cases hjs : j = s
        · rw [if_pos hjs] at h; have := hp i r hi hr h; omega
        · rw [if_neg hjs] at h; exact hp i j hi hj h

theorem c_list (w : World) : Calls Tryd.prog 23 #[] w fun en w' => (∃ (cb cap : Nat) (q : Nat → Nat) (e : Env), en = .returned (.slice (some ⟨cb, 0, none⟩) 6 cap) ∧ 6 ≤ cap ∧ w.heap.size ≤ cb ∧ cb < w'.heap.size ∧
    (∀ i, i < 6 → ∃ k, e i = some (q i, k)) ∧ RS 0 w.heap.size e (stQ t 6) w' ∧ (∀ n b k, e n = some (b, k) → b ≠ cb) ∧ Lie w' cb q fun i => i) ∧ Below w.heap.size w w' := by
  refine (callV_ok num mixed H_ok listB (start w) (globs0 _) (args' := []) rfl).mono fun en w' ⟨⟨e, v', hen, hv, hS, _⟩, hb⟩ => ⟨?_, hb⟩
  rw [RV] at hv
  obtain ⟨cb, cap, h1, h2, h3, h4⟩ := hv
  have h1 : e 6 = some (cb, cap) := h1
  obtain ⟨B, hB, hcells⟩ := hpC_get
  obtain ⟨b', k', g1, cs, g2, g3, g4, g5, g6⟩ := hS.blk 6 B hB
  rw [h1] at g1
  cases g1
  have hfull : ∀ n, n < 7 → ∃ p, e n = some p := hS.full
  have hq : ∀ i, i < 6 → ∃ k, e i = some ((((e i).getD (0, 0)).1), k) := fun i hi => by
    obtain ⟨⟨b, k⟩, hp⟩ := hfull i (by omega)
    exact ⟨k, by rw [hp]; rfl⟩
  obtain ⟨e2, k1, k2⟩ := hS.rename weakQ
  have hne : ∀ n b k, n < 6 → e n = some (b, k) → b ≠ cb := fun n b k hn hen heq => by
    subst heq
    have hro : ∃ C, (blOf (roQ t 6)).get n = some C := by
      have : ((List.range 6).all fun n => ((blOf (roQ t 6)).get n).isSome) = true := by kernel_rfl
      have := List.all_eq_true.1 this n (List.mem_range.2 hn)
      exact Option.isSome_iff_exists.1 this
    obtain ⟨C, hC⟩ := hro
    exact hS.roi n 6 C B b k cap hC hB hen h1
  refine ⟨cb, cap, fun i => ((e i).getD (0, 0)).1, e2, by rw [hen, h3]; rfl, h4 rfl, hS.bar 6 cb cap h1 (Nat.zero_le _), hS.hi 6 cb cap h1, fun i hi => ?_, k1, fun n b k hn => ?_, ⟨fun i s v hi hs => ?_, fun o => by simp [World.frozen?, g2]⟩⟩
  · obtain ⟨k, hk⟩ := hq i hi
    exact ⟨k, (k2 i hi).trans hk⟩
  · rcases Nat.lt_or_ge n 6 with hn6 | hn6
    · rw [k2 n hn6] at hn
      exact hne n b k hn6 hn
    · rw [k1.fresh n hn6] at hn
      cases hn
  · have h9 : (cw (fun i => ((e i).getD (0, 0)).1) i).length = 9 := by
      have := List.all_eq_true.1 lens i (List.mem_range.2 hi)
      have h := Nat.eq_of_beq_eq_true this
      simpa [cw, cardV] using h
    have hs9 : s < 9 := by rw [← h9]; exact (List.getElem?_eq_some_iff.1 hs).1
    have := List.all_eq_true.1 (List.all_eq_true.1 hcells i (List.mem_range.2 hi)) s (List.mem_range.2 hs9)
    split at this
    · rename_i u v0 hu hv0
      obtain ⟨v1, g7, g8⟩ := g6 _ _ hu
      rw [eqC_spec this] at g8
      have := rv_card (q := fun i => ((e i).getD (0, 0)).1) hi (hq i hi) s v0 v1 hv0 g8
      rw [hs] at this
      cases this
      simp [World.cell?, g2, g7]
    · cases this

/-- a book that holds the cards of T -/
def Holds (w : World) (Bar bk : Nat) (q : Nat → Nat) (l : List Nat) (shut : Bool) (rest : List (Nat × Value)) : Prop :=
  ∃ e k, RS 6 Bar e (stB t 6 72 l shut rest) w ∧ e 6 = some (bk, k) ∧ ∀ i, i < 6 → ∃ k, e i = some (q i, k)
/-- the cards' parts lie in their blocks -/
def Parts (w : World) (q : Nat → Nat) : Prop := ∃ e, RS 6 w.heap.size e (stQ t 6) w ∧ ∀ i, i < 6 → ∃ k, e i = some (q i, k)

theorem bar6 {NG Bar : Nat} {e : Env} {w : World} (hS : RS NG Bar e (stQ t 6) w) : RS 6 w.heap.size e (stQ t 6) w :=
  hS.rebar (fun n b k hn hle => by rw [hS.fresh n hle] at hn; cases hn) (Nat.le_refl _) (Nat.le_refl _)
theorem Parts.frame {w w' : World} {q : Nat → Nat} {NG Bar cb : Nat} {e : Env} (hS : RS NG Bar e (stQ t 6) w) (hq : ∀ i, i < 6 → ∃ k, e i = some (q i, k)) (hne : ∀ n b k, e n = some (b, k) → b ≠ cb) (hg : w.grownBy w' (some cb)) : Parts w' q :=
  ⟨e, hS.frame (fun n b k hn => hg.block b (hS.hi n b k hn) (fun h => hne n b k hn (Option.some.inj h))) hg.size (fun n b k hn hle => by rw [hS.fresh n hle] at hn; cases hn) (Nat.le_refl _) (Nat.le_refl _), hq⟩

theorem c_new (q : Nat → Nat) (w : World) (h : Parts w q) : Calls Tryd.prog 11 #[] w fun en w' => (∃ bk, en = .returned (.pointer (some ⟨bk, 0, none⟩)) ∧ Holds w' w.heap.size bk q [] false rest0) ∧ Below w.heap.size w w' := by
  obtain ⟨e, hS, hq⟩ := h
  refine (callV_ok num mixed H_ok newB hS (globs0 _) (args' := []) rfl).mono fun en w' ⟨⟨e2, v', hen, hv, h1, h2⟩, hb⟩ => ⟨?_, hb⟩
  rw [RV] at hv
  obtain ⟨bk, k, g1, g2, g3⟩ := hv
  refine ⟨bk, by rw [hen, g3], e2, k, h1, g1, fun i hi => ?_⟩
  obtain ⟨k, hk⟩ := hq i hi
  exact ⟨k, (h2 i (by omega) (fun _ => if_pos (by simp; omega)) (show i < 6 from hi)).trans hk⟩

theorem rv_arg {e : Env} {q : Nat → Nat} {i : Nat} (hi : i < 6) (hq : ∃ k, e i = some (q i, k)) : RV e (.agg ⟨cardV (cdAt t i) i (nps i)⟩) (.agg ⟨cw q i⟩) := by
  rw [RV]
  refine ⟨cw q i, RVL.of_get (by simp [cw, cardV]) fun s v hs => ?_, rfl⟩
  have hfl : ((List.range 6).all fun i => flatL (cdAt t i).c8) = true := by kernel_rfl
  have hfl := List.all_eq_true.1 hfl i (List.mem_range.2 hi)
  obtain ⟨k, hk⟩ := hq
  have hbig : nps i ≠ big := by
    have : ((List.range 6).all fun i => Nat.blt (nps i) 100) = true := by kernel_rfl
    have := List.all_eq_true.1 this i (List.mem_range.2 hi)
    rw [blt_dec] at this
    have := of_decide_eq_true this
    unfold big
    omega
  have hex : ∃ v', RV e v v' := by
    unfold cardV at hs
    rw [List.getElem?_append] at hs
    split at hs
    · exact ⟨v, RV.of_flat (flat_get hfl hs)⟩
    · have h0 : s - (cdAt t i).c8.length = 0 := by
        have := (List.getElem?_eq_some_iff.1 hs).1
        simp at this
        omega
      rw [h0] at hs
      simp only [List.getElem?_cons_zero, Option.some.injEq] at hs
      subst hs
      unfold nps at *
      generalize (cdAt t i).np = n at *
      cases n with
      | zero => exact ⟨_, RV.of_flat rfl⟩
      | succ n => exact ⟨_, RV.slice_k hk hbig⟩
  obtain ⟨v', hv⟩ := hex
  exact ⟨v', rv_card hi ⟨k, hk⟩ s v v' hs hv, hv⟩

theorem Holds.parts {w : World} {Bar bk : Nat} {q : Nat → Nat} {T : Nat} (h : Holds w Bar bk q (mem order T) false rest0) (hT : T < 64) : Parts w q := by
  obtain ⟨e, k, h1, h2, h3⟩ := h
  obtain ⟨e2, g1, g2⟩ := h1.rename (List.all_eq_true.1 back T (List.mem_range.2 hT))
  exact ⟨e2, bar6 g1, fun i hi => by obtain ⟨k, hk⟩ := h3 i hi; exact ⟨k, (g2 i hi).trans hk⟩⟩
theorem Holds.kept {w w' : World} {Bar bk : Nat} {q : Nat → Nat} {l : List Nat} {shut : Bool} {rest : List (Nat × Value)} (h : Holds w Bar bk q l shut rest) (hb : Below w.heap.size w w') : Holds w' Bar bk q l shut rest := by
  obtain ⟨e, k, h1, h2, h3⟩ := h
  exact ⟨e, k, (Cl.keep ⟨h1, Below.refl _ _⟩ h1 hb).1, h2, h3⟩

theorem c_check (q : Nat → Nat) (i : Nat) (hi : i < 6) (w : World) (h : Parts w q) : Calls Tryd.prog 12 #[.agg ⟨cw q i⟩] w fun en w' => en = .returned (.int .i64 0) ∧ Below w.heap.size w w' := by
  obtain ⟨e, hS, hq⟩ := h
  exact (callV_ok num mixed H_ok (List.all_eq_true.1 chkB i (List.mem_range.2 hi)) hS (globs0 _) (args' := [.agg ⟨cw q i⟩]) ⟨_, _, rv_arg hi (hq i hi), rfl, rfl⟩).mono
    fun en w' ⟨⟨e2, v', hen, hv, _⟩, hb⟩ => ⟨by rw [hen, RV.flat_eq rfl hv], hb⟩

theorem add_all (T i : Nat) (hT : T < 64) (hi : i < 6) : addB T i = true := by
  have hd : T = 8 * (T / 8) + T % 8 := by omega
  have h8 : T % 8 < 8 := by omega
  have hk : T / 8 < 8 := by omega
  have go : ∀ k, (((List.range 8).all fun T => (List.range 6).all fun i => addB (8 * k + T) i) = true) → k = T / 8 → addB T i = true := fun k h hkk => by
    have := List.all_eq_true.1 (List.all_eq_true.1 h (T % 8) (List.mem_range.2 h8)) i (List.mem_range.2 hi)
    rw [hkk, ← hd] at this
    exact this
  have : T / 8 = 0 ∨ T / 8 = 1 ∨ T / 8 = 2 ∨ T / 8 = 3 ∨ T / 8 = 4 ∨ T / 8 = 5 ∨ T / 8 = 6 ∨ T / 8 = 7 := by omega
  rcases this with h | h | h | h | h | h | h | h
  · exact go 0 add0 h.symm
  · exact go 1 add1 h.symm
  · exact go 2 add2 h.symm
  · exact go 3 add3 h.symm
  · exact go 4 add4 h.symm
  · exact go 5 add5 h.symm
  · exact go 6 add6 h.symm
  · exact go 7 add7 h.symm

theorem c_add (q : Nat → Nat) (T i Bar bk : Nat) (hT : T < 64) (hi : i < 6) (hno : hasM T i = false) (w : World) (h : Holds w Bar bk q (mem order T) false rest0) :
    Calls Tryd.prog 13 #[.pointer (some ⟨bk, 0, none⟩), .agg ⟨cw q i⟩] w fun en w' => en = .returned (.int .i64 0) ∧ Holds w' Bar bk q (mem order (T + 2 ^ i)) false rest0 ∧ Below Bar w w' := by
  obtain ⟨e, k, hS, hbk, hq⟩ := h
  have ha := add_all T i hT hi
  unfold addB at ha
  rw [hno, Bool.false_or] at ha
  refine (callV_ok num mixed H_ok ha hS (globs0 _) (args' := [.pointer (some ⟨bk, 0, none⟩), .agg ⟨cw q i⟩]) ⟨_, _, RV.ptr hbk, ⟨_, _, rv_arg hi (hq i hi), rfl, rfl⟩, rfl⟩).mono fun en w' ⟨⟨e2, v', hen, hv, h1, h2⟩, hb⟩ => ?_
  have same : ∀ n, n < 7 → e2 n = e n := fun n hn => h2 n (by omega) (fun S1 => by unfold rhoC; rw [if_neg (by simp; omega)]) (show n < 13 by omega)
  exact ⟨by rw [hen, RV.flat_eq rfl hv], ⟨e2, k, h1, (same 6 (by omega)).trans hbk, fun j hj => by obtain ⟨k, hk⟩ := hq j hj; exact ⟨k, (same j (by omega)).trans hk⟩⟩, hb⟩

/-- any call on the book of which a table tells that the book stands as said -/
theorem c_book {f : FuncId} {args args' : List Value} {v : Value} {l l2 : List Nat} {shut shut2 : Bool} {rest rest2 : List (Nat × Value)} (hB : callV Tryd.prog H 0 60 6 f (.pointer (some ⟨6, 0, none⟩) :: args) (stB t 6 72 l shut rest) v (fun _ n => n) 13 (hpB t 6 72 l2 shut2 rest2) (roB t 6 l2) = true)
    (hv : flat v = true) (ha : flatL args = true) (q : Nat → Nat) (Bar bk : Nat) (w : World) (h : Holds w Bar bk q l shut rest) :
    Calls Tryd.prog f (.pointer (some ⟨bk, 0, none⟩) :: args).toArray w fun en w' => en = .returned v ∧ Holds w' Bar bk q l2 shut2 rest2 ∧ Below Bar w w' := by
  obtain ⟨e, k, hS, hbk, hq⟩ := h
  refine (callV_ok num mixed H_ok hB hS (globs0 _) (args' := .pointer (some ⟨bk, 0, none⟩) :: args) ⟨_, _, RV.ptr hbk, RVL.of_flat ha, rfl⟩).mono fun en w' ⟨⟨e2, v', hen, hv', h1, h2⟩, hb⟩ => ?_
  have same : ∀ n, n < 7 → e2 n = e n := fun n hn => h2 n (by omega) (fun _ => rfl) (show n < 13 by omega)
  exact ⟨by rw [hen, RV.flat_eq hv hv'], ⟨e2, k, h1, (same 6 (by omega)).trans hbk, fun j hj => by obtain ⟨k, hk⟩ := hq j hj; exact ⟨k, (same j (by omega)).trans hk⟩⟩, hb⟩

noncomputable def okAt (nm : List UInt8) : Value → Bool
  | .tuple ⟨[.agg ⟨[.string s, .int _ _, .int _ _, .int _ _, .int _ _, .int _ _, .int _ _, .bool _, .slice _ _ _]⟩, .int .i64 (.ofNat 0)]⟩ => beqL s.data.toList nm
  | _ => false
/-- a card that is told -/
def Told (nm : List UInt8) (v : Value) : Prop := ∃ (k1 k2 k3 k4 k5 k6 : IntKind) (n1 n2 n3 n4 n5 n6 : Int) (b : Bool) (o : Option Addr) (l c : Nat), v = .agg #[.string ⟨nm.toArray⟩, .int k1 n1, .int k2 n2, .int k3 n3, .int k4 n4, .int k5 n5, .int k6 n6, .bool b, .slice o l c]
theorem okAt_spec {nm : List UInt8} {u v' : Value} {e : Env} (h : okAt nm u = true) (hv : RV e u v') : ∃ x, Told nm x ∧ v' = .tuple #[x, .int .i64 0] := by
  unfold okAt at h
  split at h
  · rename_i s k1 n1 k2 n2 k3 n3 k4 n4 k5 n5 k6 n6 b o l c
    rw [beqL_eq] at h
    have hs : s = ⟨nm.toArray⟩ := by
      obtain ⟨⟨a⟩⟩ := s
      simp at h
      rw [← h]
    subst hs
    rw [RV] at hv
    obtain ⟨l1, ⟨v1, r1, h1, ⟨v2, r2, h2, h3, rfl⟩, rfl⟩, rfl⟩ := hv
    rw [RVL] at h3
    subst h3
    rw [RV] at h1
    obtain ⟨l2, ⟨z0, q0, g0, ⟨z1, q1, g1, ⟨z2, q2, g2, ⟨z3, q3, g3, ⟨z4, q4, g4, ⟨z5, q5, g5, ⟨z6, q6, g6, ⟨z7, q7, g7, ⟨z8, q8, g8, h9, rfl⟩, rfl⟩, rfl⟩, rfl⟩, rfl⟩, rfl⟩, rfl⟩, rfl⟩, rfl⟩, rfl⟩ := h1
    rw [RVL] at h9
    subst h9
    have g0 : z0 = Value.string ⟨nm.toArray⟩ := g0
    have h2 : v2 = Value.int .i64 0 := h2
    have g1 : z1 = .int k1 n1 := g1
    have g2 : z2 = .int k2 n2 := g2
    have g3 : z3 = .int k3 n3 := g3
    have g4 : z4 = .int k4 n4 := g4
    have g5 : z5 = .int k5 n5 := g5
    have g6 : z6 = .int k6 n6 := g6
    have g7 : z7 = .bool b := g7
    subst g0 h2 g1 g2 g3 g4 g5 g6 g7
    cases o with
    | none =>
      have g8 : z8 = .slice none l c := g8
      subst g8
      exact ⟨_, ⟨_, _, _, _, _, _, _, _, _, _, _, _, _, _, _, _, rfl⟩, rfl⟩
    | some a =>
      rw [RV] at g8
      obtain ⟨b', k', -, -, rfl, -⟩ := g8
      exact ⟨_, ⟨_, _, _, _, _, _, _, _, _, _, _, _, _, _, _, _, rfl⟩, rfl⟩
  · cases h
theorem c_at {f : FuncId} {nm : List UInt8} {k : Int} {l : List Nat} {rest : List (Nat × Value)} (hB : callB Tryd.prog H 0 60 6 f [.pointer (some ⟨6, 0, none⟩), .int .i64 k] (stB t 6 72 l true rest) (okAt nm) (fun _ n => n) 13 (hpB t 6 72 l true rest) (roB t 6 l) = true)
    (q : Nat → Nat) (Bar bk : Nat) (w : World) (h : Holds w Bar bk q l true rest) :
    Calls Tryd.prog f #[.pointer (some ⟨bk, 0, none⟩), .int .i64 k] w fun en w' => (∃ x, Told nm x ∧ en = .returned (.tuple #[x, .int .i64 0])) ∧ Holds w' Bar bk q l true rest ∧ Below Bar w w' := by
  obtain ⟨e, kk, hS, hbk, hq⟩ := h
  refine (callB_ok num mixed H_ok hB hS (globs0 _) (args' := [.pointer (some ⟨bk, 0, none⟩), .int .i64 k]) ⟨_, _, RV.ptr hbk, RVL.of_flat rfl, rfl⟩).mono fun en w' ⟨⟨u, v', e1, ho, hv, hen⟩, ⟨e2, h1, h2⟩, hb⟩ => ?_
  have same : ∀ n, n < 7 → e2 n = e n := fun n hn => h2 n (by omega) (fun _ => rfl) (show n < 13 by omega)
  obtain ⟨x, hx, rfl⟩ := okAt_spec ho hv
  exact ⟨⟨x, hx, hen⟩, ⟨e2, kk, h1, (same 6 (by omega)).trans hbk, fun j hj => by obtain ⟨k, hk⟩ := hq j hj; exact ⟨k, (same j (by omega)).trans hk⟩⟩, hb⟩

/-! ### sets of cards -/
theorem bits_all : ((List.range 64).all fun T => (List.range 6).all fun j => hasM T j || (Nat.blt (T + 2 ^ j) 64 && (List.range 6).all fun i => (hasM (T + 2 ^ j) i == (hasM T i || Nat.beq i j)))) = true := by kernel_rfl
theorem bits_add {T j : Nat} (hT : T < 64) (hj : j < 6) (hno : hasM T j = false) : T + 2 ^ j < 64 ∧ ∀ i, i < 6 → hasM (T + 2 ^ j) i = (hasM T i || decide (i = j)) := by
  have := List.all_eq_true.1 (List.all_eq_true.1 bits_all T (List.mem_range.2 hT)) j (List.mem_range.2 hj)
  rw [hno, Bool.false_or, Bool.and_eq_true, blt_dec] at this
  refine ⟨of_decide_eq_true this.1, fun i hi => ?_⟩
  have := List.all_eq_true.1 this.2 i (List.mem_range.2 hi)
  rw [beq_iff_eq] at this
  rw [this]
  congr 1
  exact beq_dec i j
def cntM (T : Nat) : Nat := ((List.range 6).filter (hasM T)).length
theorem cnt_all : ((List.range 64).all fun T => (List.range 6).all fun j => hasM T j || Nat.beq (cntM (T + 2 ^ j)) (cntM T + 1)) = true := by kernel_rfl
theorem cnt_add {T j : Nat} (hT : T < 64) (hj : j < 6) (hno : hasM T j = false) : cntM (T + 2 ^ j) = cntM T + 1 := by
  have := List.all_eq_true.1 (List.all_eq_true.1 cnt_all T (List.mem_range.2 hT)) j (List.mem_range.2 hj)
  rw [hno, Bool.false_or] at this
  exact Nat.eq_of_beq_eq_true this
theorem cnt_six : ((List.range 64).all fun T => !(Nat.beq (cntM T) 6) || Nat.beq T 63) = true := by kernel_rfl
theorem cnt_full {T : Nat} (hT : T < 64) (h : cntM T = 6) : T = 63 := by
  have h1 := List.all_eq_true.1 cnt_six T (List.mem_range.2 hT)
  rw [h] at h1
  exact Nat.eq_of_beq_eq_true (by simpa using h1)
theorem none_all : ((List.range 6).all fun i => !(hasM 0 i)) = true := by kernel_rfl
theorem none0 (i : Nat) (hi : i < 6) : hasM 0 i = false := by
  have := List.all_eq_true.1 none_all i (List.mem_range.2 hi)
  simpa using this
theorem full_all : ((List.range 64).all fun T => !((List.range 6).all fun i => hasM T i) || Nat.beq T 63) = true := by kernel_rfl
theorem bits_full {T : Nat} (hT : T < 64) (h : ∀ i, i < 6 → hasM T i = true) : T = 63 := by
  have h1 := List.all_eq_true.1 full_all T (List.mem_range.2 hT)
  have h2 : ((List.range 6).all fun i => hasM T i) = true := List.all_eq_true.2 fun i hi => h i (List.mem_range.1 hi)
  rw [h2] at h1
  exact Nat.eq_of_beq_eq_true (by simpa using h1)
end Go.Proofs.YtfahpjgfcndefaaDoor.fiFire
