/- A named state, told anew: other names, and what is no longer needed left out. -/
import Derived.Test.YtecmlefiajhajaaGreatDoorSim
namespace Go.Sim
variable [Val]
open Go.RowKit
variable {P : Program} {e : Env} {NG Bar : Nat} {S : St} {w : World}

/-- a cell's value under other names -/
def mapC (r : Nat → Nat) : Value → Value
  | .pointer (some ⟨b, o, none⟩) => .pointer (some ⟨r b, o, none⟩)
  | .slice (some ⟨b, o, none⟩) l c => .slice (some ⟨r b, o, none⟩) l c
  | v => v
def okC (next : Nat) : Value → Bool
  | .pointer (some ⟨b, _, none⟩) => Nat.blt b next
  | .slice (some ⟨b, _, none⟩) _ _ => Nat.blt b next
  | v => flat v

theorem okC_map {next : Nat} {r : Nat → Nat} {e2 : Env} {v v' : Value} (h2 : ∀ n, n < next → e2 n = e (r n)) (hok : okC next v = true) (h : RV e (mapC r v) v') : RV e2 v v' := by
  unfold okC at hok
  split at hok
  · rename_i b o
    rw [blt_dec] at hok
    have hb := of_decide_eq_true hok
    rw [mapC, RV] at h
    obtain ⟨b', k, h3, h4, h5⟩ := h
    rw [RV]
    exact ⟨b', k, (h2 b hb).trans h3, rfl, h5⟩
  · rename_i b o l c
    rw [blt_dec] at hok
    have hb := of_decide_eq_true hok
    rw [mapC, RV] at h
    obtain ⟨b', k, h3, h4, h5, h6⟩ := h
    rw [RV]
    exact ⟨b', k, (h2 b hb).trans h3, rfl, h5, h6⟩
  · have hm : mapC r v = v := by
      unfold mapC
      split
      · simp [flat] at hok
      · simp [flat] at hok
      · rfl
    rw [hm] at h
    rw [RV.flat_eq hok h]
    exact RV.of_flat hok

def eqI : Int → Int → Bool
  | .ofNat a, .ofNat b => Nat.beq a b
  | .negSucc a, .negSucc b => Nat.beq a b
  | _, _ => false
/-- are two cells the same? -/
noncomputable def eqC : Value → Value → Bool
  | .bool a, .bool b => match a, b with | true, true => true | false, false => true | _, _ => false
  | .int k a, .int k' b => Nat.beq (kcode k) (kcode k') && eqI a b
  | .string a, .string b => beqL a.data.toList b.data.toList
  | .pointer none, .pointer none => true
  | .pointer (some ⟨b, o, none⟩), .pointer (some ⟨b', o', none⟩) => Nat.beq b b' && Nat.beq o o'
  | .slice none l c, .slice none l' c' => Nat.beq l l' && Nat.beq c c'
  | .slice (some ⟨b, o, none⟩) l c, .slice (some ⟨b', o', none⟩) l' c' => Nat.beq b b' && Nat.beq o o' && Nat.beq l l' && Nat.beq c c'
  | .tuple ⟨[]⟩, .tuple ⟨[]⟩ => true
  | .func (.func a) ⟨[]⟩ ⟨[]⟩, .func (.func b) ⟨[]⟩ ⟨[]⟩ => Nat.beq a b
  | _, _ => false
omit [Val] in
theorem nbeq {a b : Nat} (h : Nat.beq a b = true) : a = b := Nat.eq_of_beq_eq_true h
omit [Val] in
theorem eqI_spec : ∀ {a b : Int}, eqI a b = true → a = b
  | .ofNat a, .ofNat b, h => by rw [nbeq h]
  | .negSucc a, .negSucc b, h => by rw [nbeq h]
  | .ofNat _, .negSucc _, h => by cases h
  | .negSucc _, .ofNat _, h => by cases h
omit [Val] in
theorem eqC_spec {a b : Value} (h : eqC a b = true) : a = b := by
  unfold eqC at h
  split at h
  · split at h <;> first | rfl | cases h
  · rw [Bool.and_eq_true] at h
    rw [kcode_inj h.1, eqI_spec h.2]
  · rename_i s t
    rw [beqL_eq] at h
    obtain ⟨⟨a⟩⟩ := s
    obtain ⟨⟨b⟩⟩ := t
    simp at h
    rw [h]
  · rfl
  · rw [Bool.and_eq_true] at h
    rw [nbeq h.1, nbeq h.2]
  · rw [Bool.and_eq_true] at h
    rw [nbeq h.1, nbeq h.2]
  · simp only [Bool.and_eq_true] at h
    rw [nbeq h.1.1.1, nbeq h.1.1.2, nbeq h.1.2, nbeq h.2]
  · rfl
  · rw [nbeq h]
  · cases h

/-- cells that are known, a size, the elements' type, the size of a row's element -/
structure KB where
  cells : List (Nat × Value)
  size : Nat
  elem : TypeId
  es : Nat

noncomputable def trOf {α : Type} (l : List (Nat × α)) : Tr α := l.foldr (fun p t => t.set (some p.2) p.1) .leaf
omit [Val] in
theorem trOf_get {α : Type} : ∀ {l : List (Nat × α)} {n : Nat} {v : α}, (∀ p ∈ l, p.1 < 1000000) → (trOf l).get n = some v → (n, v) ∈ l
  | [], n, v, _, h => by simp [trOf, Tr.get] at h
  | p :: l, n, v, hl, h => by
    have hp := hl p (List.mem_cons_self ..)
    have h' : ((trOf l).set (some p.2) p.1).get n = some v := h
    rw [get_set _ _ _ _ (by omega)] at h'
    split at h'
    · rename_i hn
      cases h'
      rw [hn]
      exact List.mem_cons_self ..
    · exact List.mem_cons_of_mem _ (trOf_get (fun p hp => hl p (List.mem_cons_of_mem _ hp)) h')

noncomputable def KB.blk (k : KB) : Blk := Blk.mk [] (trOf k.cells) k.size k.elem k.es
omit [Val] in
theorem KB.get {k : KB} {i : Nat} {v : Value} (hl : ∀ p ∈ k.cells, p.1 < 1000000) (h : k.blk.get i = some v) : (i, v) ∈ k.cells ∧ i < k.size := by
  unfold KB.blk Blk.get at h
  rw [br_eq, blt_dec] at h
  split at h
  · rename_i hlt
    have hlt : i < k.size := of_decide_eq_true hlt
    simp only at h
    split at h
    · rename_i u hu
      cases h
      exact ⟨trOf_get hl hu, hlt⟩
    · simp at h
  · cases h

noncomputable def blOf (l : List (Nat × KB)) : Tr Blk := l.foldr (fun p t => t.set (some p.2.blk) p.1) .leaf
omit [Val] in
theorem blOf_get : ∀ {l : List (Nat × KB)} {n : Nat} {B : Blk}, (∀ p ∈ l, p.1 < 1000000) → (blOf l).get n = some B → ∃ k, (n, k) ∈ l ∧ B = k.blk
  | [], n, B, _, h => by simp [blOf, Tr.get] at h
  | p :: l, n, B, hl, h => by
    have hp := hl p (List.mem_cons_self ..)
    have h' : ((blOf l).set (some p.2.blk) p.1).get n = some B := h
    rw [get_set _ _ _ _ (by omega)] at h'
    split at h'
    · rename_i hn
      cases h'
      exact ⟨p.2, by rw [hn]; exact List.mem_cons_self .., rfl⟩
    · obtain ⟨k, h1, h2⟩ := blOf_get (fun p hp => hl p (List.mem_cons_of_mem _ hp)) h'
      exact ⟨k, List.mem_cons_of_mem _ h1, h2⟩

/-- a state: the blocks that may be written to; those that are read -/
noncomputable def mkSt (next : Nat) (hp ro : List (Nat × KB)) : St := { heap := blOf hp, old := .leaf, next := next, maps := .leaf, ro := blOf ro }

noncomputable def cellsOK (next : Nat) (r : Nat → Nat) (B : Blk) (l : List (Nat × Value)) : Bool :=
  l.all fun p => Nat.blt p.1 1000000 && okC next p.2 && match B.get p.1 with | some u => eqC u (mapC r p.2) | none => false

noncomputable def renOK (NG : Nat) (r : Nat → Nat) (S1 : St) (next : Nat) (hp ro : List (Nat × KB)) : Bool :=
  Nat.ble NG next &&
  ((List.range next).all fun n => Nat.blt (r n) S1.next && (Nat.blt n NG || Nat.ble NG (r n))) &&
  (hp.all fun p => Nat.blt p.1 1000000 && Nat.blt p.1 next && match S1.heap.get (r p.1) with
    | some B => Nat.beq B.size p.2.size && Nat.beq B.elem p.2.elem && Nat.beq B.es p.2.es && cellsOK next r B p.2.cells
    | none => false) &&
  (ro.all fun p => Nat.blt p.1 1000000 && Nat.blt p.1 next && match S1.heap.get (r p.1) with
    | some B => cellsOK next r B p.2.cells && hp.all fun q => !Nat.beq (r q.1) (r p.1)
    | none => match S1.ro.get (r p.1) with | some B => cellsOK next r B p.2.cells | none => false) &&
  (hp.all fun p => hp.all fun q => Nat.beq p.1 q.1 || !Nat.beq (r p.1) (r q.1))

theorem cellsOK_spec {next : Nat} {r : Nat → Nat} {B : Blk} {k : KB} {e2 : Env} {cs : Array Value} (h2 : ∀ n, n < next → e2 n = e (r n)) (h : cellsOK next r B k.cells = true)
    (hB : ∀ i v, B.get i = some v → ∃ v', cs[i]? = some v' ∧ RV e v v') : ∀ i v, k.blk.get i = some v → ∃ v', cs[i]? = some v' ∧ RV e2 v v' := by
  unfold cellsOK at h
  rw [List.all_eq_true] at h
  intro i v hv
  obtain ⟨hm, -⟩ := KB.get (fun p hp => by have := h p hp; simp only [Bool.and_eq_true, blt_dec, decide_eq_true_eq] at this; exact this.1.1) hv
  have := h _ hm
  simp only [Bool.and_eq_true] at this
  obtain ⟨⟨-, hok⟩, h3⟩ := this
  split at h3
  · rename_i u hu
    obtain ⟨v', h4, h5⟩ := hB i u hu
    rw [eqC_spec h3] at h5
    exact ⟨v', h4, okC_map h2 hok h5⟩
  · cases h3

theorem RS.rename {r : Nat → Nat} {next : Nat} {hp ro : List (Nat × KB)} (hS : RS NG Bar e S w) (h : renOK NG r S next hp ro = true) :
    ∃ e2, RS NG Bar e2 (mkSt next hp ro) w ∧ ∀ n, n < next → e2 n = e (r n) := by
  unfold renOK at h
  simp only [Bool.and_eq_true] at h
  obtain ⟨⟨⟨⟨hng, hall⟩, hhp⟩, hro⟩, hinj⟩ := h
  rw [List.all_eq_true] at hall hhp hro hinj
  have hng : NG ≤ next := Nat.le_of_ble_eq_true hng
  have hr : ∀ n, n < next → r n < S.next ∧ (NG ≤ n → NG ≤ r n) := fun n hn => by
    have := hall n (List.mem_range.2 hn)
    simp only [Bool.and_eq_true, Bool.or_eq_true, blt_dec, ble_dec, decide_eq_true_eq] at this
    exact ⟨this.1, fun hle => this.2.resolve_left (by omega)⟩
  have e2 : ∃ e2 : Env, (∀ n, n < next → e2 n = e (r n)) ∧ ∀ n, next ≤ n → e2 n = none :=
    ⟨fun n => if n < next then e (r n) else none, fun n hn => if_pos hn, fun n hn => if_neg (by omega)⟩
  obtain ⟨e2, h2, h0⟩ := e2
  have hlt : ∀ n p, e2 n = some p → n < next := fun n p hn => by
    rcases Nat.lt_or_ge n next with h | h
    · exact h
    · rw [h0 n h] at hn; cases hn
  have hpl : ∀ p ∈ hp, p.1 < 1000000 := fun p hm => by have := hhp p hm; simp only [Bool.and_eq_true, blt_dec, decide_eq_true_eq] at this; exact this.1.1
  have rol : ∀ p ∈ ro, p.1 < 1000000 := fun p hm => by have := hro p hm; simp only [Bool.and_eq_true, blt_dec, decide_eq_true_eq] at this; exact this.1.1
  -- the blocks that may be written to
  have heap1 : ∀ n k, (n, k) ∈ hp → n < next ∧ ∃ B, S.heap.get (r n) = some B ∧ B.size = k.size ∧ B.elem = k.elem ∧ B.es = k.es ∧ cellsOK next r B k.cells = true := fun n k hm => by
    have := hhp _ hm
    simp only [Bool.and_eq_true, blt_dec, decide_eq_true_eq] at this
    obtain ⟨⟨-, h1⟩, h3⟩ := this
    split at h3
    · rename_i B hB
      simp only [Bool.and_eq_true] at h3
      exact ⟨h1, B, hB, nbeq h3.1.1.1, nbeq h3.1.1.2, nbeq h3.1.2, h3.2⟩
    · cases h3
  have ro1 : ∀ n k, (n, k) ∈ ro → n < next ∧ ((∃ B, S.heap.get (r n) = some B ∧ cellsOK next r B k.cells = true ∧ ∀ m q, (m, q) ∈ hp → r m ≠ r n) ∨ ∃ B, S.ro.get (r n) = some B ∧ cellsOK next r B k.cells = true) := fun n k hm => by
    have := hro _ hm
    simp only [Bool.and_eq_true, blt_dec, decide_eq_true_eq] at this
    obtain ⟨⟨-, h1⟩, h3⟩ := this
    refine ⟨h1, ?_⟩
    split at h3
    · rename_i B hB
      simp only [Bool.and_eq_true] at h3
      refine .inl ⟨B, hB, h3.1, fun m q hmq heq => ?_⟩
      have := List.all_eq_true.1 h3.2 _ hmq
      rw [heq] at this
      simp at this
    · split at h3
      · rename_i B hB
        exact .inr ⟨B, hB, h3⟩
      · cases h3
  refine ⟨e2, ⟨fun n B hB => ?_, fun n B hB => by simp [mkSt, Tr.get] at hB, fun n m B C b k k' hB hC hn hm => ?_, fun n m B C b k k' hB => by simp [mkSt, Tr.get] at hB, h0, fun n b k hn hle => ?_, fun n b k hn => ?_, hS.room, hng, fun n hn => ?_,
    fun n l hl => by simp [mkSt, Tr.get] at hl, fun n m l l' b k k' hl => by simp [mkSt, Tr.get] at hl, fun n B hB => ?_, fun n m B C b k k' hB hC hn hm => ?_, fun n m B C b k k' _ hC => by simp [mkSt, Tr.get] at hC⟩, h2⟩
  · obtain ⟨k, hm, rfl⟩ := blOf_get hpl hB
    obtain ⟨hn, B1, h3, h4, h5, h6, h7⟩ := heap1 n k hm
    obtain ⟨b, c, g1, ⟨cs, g2, g3, g4, g5, g6⟩⟩ := hS.blk _ _ h3
    refine ⟨b, c, (h2 n hn).trans g1, ⟨cs, ?_, ?_, ?_, ?_, cellsOK_spec h2 h7 g6⟩⟩
    · show w.heap[b]? = some (.cells cs k.elem (0, 0))
      rw [← h5]; exact g2
    · intro hes; have : B1.es = 0 := h6.trans hes; rw [g3 this]; exact h4
    · intro hes; rw [show k.blk.es = B1.es from h6.symm]; exact g4 (fun h => hes (h6.symm.trans h))
    · rw [show k.blk.size = B1.size from h4.symm]; exact g5
  · obtain ⟨k1, hm1, -⟩ := blOf_get hpl hB
    obtain ⟨k2, hm2, -⟩ := blOf_get hpl hC
    obtain ⟨hn1, B1, g1, -⟩ := heap1 n k1 hm1
    obtain ⟨hn2, B2, g2, -⟩ := heap1 m k2 hm2
    rw [h2 n hn1] at hn
    rw [h2 m hn2] at hm
    have heq := hS.inj _ _ _ _ _ _ _ g1 g2 hn hm
    have := List.all_eq_true.1 (hinj _ hm1) _ hm2
    rw [heq] at this
    simp only [Bool.or_eq_true] at this
    rcases this with h | h
    · exact nbeq h
    · simp at h
  · have hl := hlt n _ hn
    rw [h2 n hl] at hn
    exact hS.bar _ _ _ hn ((hr n hl).2 hle)
  · have hl := hlt n _ hn
    rw [h2 n hl] at hn
    exact hS.hi _ _ _ hn
  · rw [h2 n hn]
    exact hS.full _ (hr n hn).1
  · obtain ⟨k, hm, rfl⟩ := blOf_get rol hB
    obtain ⟨hn, h3⟩ := ro1 n k hm
    rcases h3 with ⟨B1, h3, h4, -⟩ | ⟨B1, h3, h4⟩
    · obtain ⟨b, c, g1, g2⟩ := hS.blk _ _ h3
      obtain ⟨cs, t, f, g3, g4⟩ := g2.r
      exact ⟨b, c, (h2 n hn).trans g1, cs, t, f, g3, cellsOK_spec h2 h4 g4⟩
    · obtain ⟨b, c, g1, cs, t, f, g3, g4⟩ := hS.ro _ _ h3
      exact ⟨b, c, (h2 n hn).trans g1, cs, t, f, g3, cellsOK_spec h2 h4 g4⟩
  · obtain ⟨k1, hm1, -⟩ := blOf_get rol hB
    obtain ⟨k2, hm2, -⟩ := blOf_get hpl hC
    obtain ⟨hn1, h3⟩ := ro1 n k1 hm1
    obtain ⟨hn2, B2, g2, -⟩ := heap1 m k2 hm2
    rw [h2 n hn1] at hn
    rw [h2 m hn2] at hm
    rcases h3 with ⟨B1, h3, -, h5⟩ | ⟨B1, h3, -⟩
    · exact h5 m k2 hm2 (hS.inj _ _ _ _ _ _ _ g2 h3 hm hn)
    · exact hS.roi _ _ _ _ _ _ _ h3 g2 hn hm

/-- a call, and its state told anew -/
noncomputable def callB (P : Program) (H : CallT) (G fuel NG : Nat) (f : FuncId) (args : List Value) (S : St) (ok : Value → Bool) (r : St → Nat → Nat) (next : Nat) (hp ro : List (Nat × KB)) : Bool :=
  match callH P H G fuel NG f args S with
  | some (u, S1) => ok u && renOK NG (r S1) S1 next hp ro
  | none => false

theorem callB_ok (hn : NumOK P) (hm : P.follows .mixedOrders = true) {G fuel : Nat} {H : CallT} (hH : CallOK P G H) {f : FuncId} {args args' : List Value} {ok : Value → Bool} {r : St → Nat → Nat} {next : Nat} {hp ro : List (Nat × KB)}
    (h : callB P H G fuel NG f args S ok r next hp ro = true) (hS : RS NG Bar e S w) (hG : Globs G e) (ha : RVL e args args') :
    Calls P f args'.toArray w fun en w' => (∃ u v' e1, ok u = true ∧ RV e1 u v' ∧ en = .returned v') ∧ (∃ e2, RS NG Bar e2 (mkSt next hp ro) w' ∧ ∀ n, n < next → (∀ S1, r S1 n = n) → n < S.next → e2 n = e n) ∧ Below Bar w w' := by
  unfold callB at h
  split at h
  · rename_i u S1 hc
    rw [Bool.and_eq_true] at h
    refine ((callH_ok hn hm hH fuel).calls hc ha hS hG).mono fun en w' hp => ?_
    obtain ⟨e1, v', rfl, h1, h2, h3, h4⟩ := hp
    obtain ⟨e2, g1, g2⟩ := h3.rename h.2
    refine ⟨⟨u, v', e1, h.1, h2, rfl⟩, ⟨e2, g1, fun n hn hr hl => ?_⟩, h4⟩
    rw [g2 n hn, hr]
    obtain ⟨p, hp⟩ := hS.full n hl
    rw [hp, h1 _ _ hp]
  · cases h

/-- where the answer is a number, a truth, nothing -/
theorem callB_flat (hn : NumOK P) (hm : P.follows .mixedOrders = true) {G fuel : Nat} {H : CallT} (hH : CallOK P G H) {f : FuncId} {args args' : List Value} {v : Value} {r : St → Nat → Nat} {next : Nat} {hp ro : List (Nat × KB)}
    (h : callB P H G fuel NG f args S (eqC v) r next hp ro = true) (hv : flat v = true) (hS : RS NG Bar e S w) (hG : Globs G e) (ha : RVL e args args') :
    Calls P f args'.toArray w fun en w' => en = .returned v ∧ (∃ e2, RS NG Bar e2 (mkSt next hp ro) w' ∧ ∀ n, n < next → (∀ S1, r S1 n = n) → n < S.next → e2 n = e n) ∧ Below Bar w w' :=
  (callB_ok hn hm hH h hS hG ha).mono fun en w' ⟨⟨u, v', e1, h1, h2, h3⟩, h4, h5⟩ => by
    have := eqC_spec h1
    subst this
    exact ⟨by rw [h3, RV.flat_eq hv h2], h4, h5⟩

/-- a call whose answer has a name, and its state told anew -/
noncomputable def callV (P : Program) (H : CallT) (G fuel NG : Nat) (f : FuncId) (args : List Value) (S : St) (v : Value) (r : St → Nat → Nat) (next : Nat) (hp ro : List (Nat × KB)) : Bool :=
  match callH P H G fuel NG f args S with
  | some (u, S1) => eqC u (mapC (r S1) v) && okC next v && renOK NG (r S1) S1 next hp ro
  | none => false

theorem callV_ok (hn : NumOK P) (hm : P.follows .mixedOrders = true) {G fuel : Nat} {H : CallT} (hH : CallOK P G H) {f : FuncId} {args args' : List Value} {v : Value} {r : St → Nat → Nat} {next : Nat} {hp ro : List (Nat × KB)}
    (h : callV P H G fuel NG f args S v r next hp ro = true) (hS : RS NG Bar e S w) (hG : Globs G e) (ha : RVL e args args') :
    Calls P f args'.toArray w fun en w' => (∃ e2 v', en = .returned v' ∧ RV e2 v v' ∧ RS NG Bar e2 (mkSt next hp ro) w' ∧ ∀ n, n < next → (∀ S1, r S1 n = n) → n < S.next → e2 n = e n) ∧ Below Bar w w' := by
  unfold callV at h
  split at h
  · rename_i u S1 hc
    simp only [Bool.and_eq_true] at h
    obtain ⟨⟨h0, h0'⟩, h1⟩ := h
    refine ((callH_ok hn hm hH fuel).calls hc ha hS hG).mono fun en w' hp => ?_
    obtain ⟨e1, v', rfl, g1, g2, g3, g4⟩ := hp
    obtain ⟨e2, k1, k2⟩ := g3.rename h1
    rw [eqC_spec h0] at g2
    refine ⟨⟨e2, v', rfl, okC_map k2 h0' g2, k1, fun n hn hr hl => ?_⟩, g4⟩
    rw [k2 n hn, hr]
    obtain ⟨p, hp⟩ := hS.full n hl
    rw [hp, g1 _ _ hp]
  · cases h

/-- what is named stands where the world changed elsewhere -/
theorem RS.frame {NG2 Bar2 : Nat} {w' : World} (h : RS NG Bar e S w) (hk : ∀ n b k, e n = some (b, k) → w'.heap[b]? = w.heap[b]?) (hsz : w.heap.size ≤ w'.heap.size)
    (h1 : ∀ n b k, e n = some (b, k) → NG2 ≤ n → Bar2 ≤ b) (h2 : Bar2 ≤ w'.heap.size) (h3 : NG2 ≤ S.next) : RS NG2 Bar2 e S w' :=
  ⟨fun n B hB => let ⟨b, k, g1, g2⟩ := h.blk n B hB; ⟨b, k, g1, g2.congr (Sub.refl _) (hk n b k g1)⟩, fun n B hB => let ⟨b, k, g1, g2⟩ := h.old n B hB; ⟨b, k, g1, g2.congr (Sub.refl _) (hk n b k g1)⟩, h.inj, h.sep, h.fresh, h1,
    fun n b k hn => Nat.lt_of_lt_of_le (h.hi n b k hn) hsz, h2, h3, h.full, fun n l hl => let ⟨b, k, g1, g2⟩ := h.mp n l hl; ⟨b, k, g1, g2.congr (Sub.refl _) (hk n b k g1)⟩, h.mpi,
    fun n B hB => let ⟨b, k, g1, g2⟩ := h.ro n B hB; ⟨b, k, g1, g2.congr (Sub.refl _) (hk n b k g1)⟩, h.roi, h.roo⟩

/-! ### a book, card by card -/
/-- a card: eight cells, so many parts, the parts' cells -/
structure CD where
  c8 : List Value
  np : Nat
  ps : List Value

def idx (off : Nat) : List Value → List (Nat × Value)
  | [] => []
  | v :: r => (off, v) :: idx (off + 1) r
def partsV (name np cap : Nat) : Value :=
  match np with
  | 0 => .slice none 0 0
  | n + 1 => .slice (some ⟨name, 0, none⟩) (n + 1) cap
def cardV (c : CD) (name cap : Nat) : List Value := c.c8 ++ [partsV name c.np cap]
def cdAt (t : List CD) (j : Nat) : CD := (t[j]?).getD ⟨[], 0, []⟩
def bookGo (t : List CD) (base : Nat) : List Nat → Nat → List (Nat × Value)
  | [], _ => []
  | j :: r, off => idx off (cardV (cdAt t j) (base + j) big) ++ bookGo t base r (off + 9)
def bookKB (t : List CD) (base el : Nat) (l : List Nat) (shut : Bool) (rest : List (Nat × Value)) : KB :=
  { cells := (0, .bool true) :: (1, .bool shut) :: (2, .int .i64 (.ofNat l.length)) :: (bookGo t base l 3 ++ rest), size := 608, elem := el, es := 0 }
def qKB (c : CD) : KB := { cells := idx 0 c.ps, size := c.ps.length, elem := 0, es := 0 }
def roQ (t : List CD) (m : Nat) : List (Nat × KB) := (List.range m).map fun j => (j, qKB (cdAt t j))
def roP (t : List CD) (m : Nat) (l : List Nat) : List (Nat × KB) := l.filterMap fun j => match (cdAt t j).np with | 0 => none | _ + 1 => some (m + 1 + j, qKB (cdAt t j))
def hasM (T j : Nat) : Bool := Nat.beq ((T / 2 ^ j) % 2) 1
def mem (order : List Nat) (T : Nat) : List Nat := order.filter (hasM T)
/-- the names and the marks of a new book -/
def rest0 : List (Nat × Value) := idx 579 (List.replicate 9 (.string ⟨#[]⟩)) ++ idx 588 ((List.replicate 5 [Value.int .u8 0, .string ⟨#[]⟩, .int .i64 0, .int .i64 0]).flatten)
def hpB (t : List CD) (m el : Nat) (l : List Nat) (shut : Bool) (rest : List (Nat × Value)) : List (Nat × KB) := [(m, bookKB t (m + 1) el l shut rest)]
def roB (t : List CD) (m : Nat) (l : List Nat) : List (Nat × KB) := roQ t m ++ roP t m l
noncomputable def stB (t : List CD) (m el : Nat) (l : List Nat) (shut : Bool) (rest : List (Nat × Value)) : St := mkSt (2 * m + 1) (hpB t m el l shut rest) (roB t m l)
noncomputable def stQ (t : List CD) (m : Nat) : St := mkSt m [] (roQ t m)
/-- where a card stands in a list -/
def posOf (i : Nat) : List Nat → Nat
  | [] => 0
  | j :: r => if Nat.beq j i then 0 else posOf i r + 1
/-- the names behind a card's adding: its parts' copy has a name now -/
noncomputable def rhoC (m i : Nat) (l : List Nat) (S1 : St) (n : Nat) : Nat :=
  if Nat.beq n (m + 1 + i) then
    match S1.heap.get m with
    | some B => (match B.get (3 + 9 * posOf i l + 8) with | some (.slice (some ⟨k, _, _⟩) _ _) => k | _ => n)
    | none => n
  else n
end Go.Sim
