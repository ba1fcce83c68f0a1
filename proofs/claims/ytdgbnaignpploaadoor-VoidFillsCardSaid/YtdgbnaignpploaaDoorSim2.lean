/- A small executor of the model's code over named blocks: the proof that what it tells of a call holds in whatever world. -/
import Derived.Test.YtdgbnaignpploaaDoorSimA
import Derived.Laws.CopyOwn
import Derived.Deep.DeepAppendWide
import Derived.MapKept
import Derived.Deep.Quiet
import Derived.StillTail
import Derived.OrdersHeld
import Derived.LoopN
namespace Go.Sim
variable [Val]
open Go.RowKit
variable {P : Program} {e : Env} {NG Bar : Nat} {S : St} {w : World}

theorem RB.congr {B : Blk} {b k : Nat} {e' : Env} {w' : World} (h : RB e B b k w) (hs : Sub e e') (hw : w'.heap[b]? = w.heap[b]?) : RB e' B b k w' := by
  obtain ⟨c, h1, h2, h3, h4, h5⟩ := h.cells
  exact ⟨c, hw.trans h1, h2, h3, h4, fun i v hv => let ⟨v', a, b⟩ := h5 i v hv; ⟨v', a, b.mono hs⟩⟩

theorem RBr.congr {B : Blk} {b : Nat} {e' : Env} {w' : World} (h : RBr e B b w) (hs : Sub e e') (hw : w'.heap[b]? = w.heap[b]?) : RBr e' B b w' := by
  obtain ⟨c, t, f, h1, h5⟩ := h
  exact ⟨c, t, f, hw.trans h1, fun i v hv => let ⟨v', a, b⟩ := h5 i v hv; ⟨v', a, b.mono hs⟩⟩

theorem RM.congr {l : MO} {b : Nat} {e' : Env} {w' : World} (h : RM e l b w) (hs : Sub e e') (hw : w'.heap[b]? = w.heap[b]?) : RM e' l b w' := by
  cases l with
  | iter s pos => exact hw.trans h
  | map l =>
    obtain ⟨es, clock, h1, h2, h3⟩ := h
    exact ⟨es, clock, hw.trans h1, h2, fun i s v hi => let ⟨m, a, b, c⟩ := h3 i s v hi; ⟨m, a, b, c.mono hs⟩⟩

theorem RM.ne {l : MO} {b x : Nat} {cs : Array Value} {t : TypeId} {f : Nat × Nat} (h : RM e l b w) (hx : w.heap[x]? = some (.cells cs t f)) : b ≠ x := by
  intro hb
  subst hb
  cases l with
  | iter s pos =>
    have h1 : w.heap[b]? = some (.stringIter s pos) := h
    rw [hx] at h1
    cases h1
  | map l =>
    obtain ⟨es, clock, h1, _⟩ := h
    rw [hx] at h1
    cases h1

theorem RS.heap_eq {w' : World} (h : RS NG Bar e S w) (hw : w'.heap = w.heap) : RS NG Bar e S w' :=
  ⟨fun n B hB => let ⟨b, k, h1, h2⟩ := h.blk n B hB; ⟨b, k, h1, h2.congr (Sub.refl _) (by rw [hw])⟩,
   fun n B hB => let ⟨b, k, h1, h2⟩ := h.old n B hB; ⟨b, k, h1, h2.congr (Sub.refl _) (by rw [hw])⟩,
   h.inj, h.sep, h.fresh, h.bar, fun n b k hn => by rw [hw]; exact h.hi n b k hn, by rw [hw]; exact h.room, h.low, h.full,
   fun n l hl => let ⟨b, k, h1, h2⟩ := h.mp n l hl; ⟨b, k, h1, h2.congr (Sub.refl _) (by rw [hw])⟩, h.mpi,
   fun n B hB => let ⟨b, k, h1, h2⟩ := h.ro n B hB; ⟨b, k, h1, h2.congr (Sub.refl _) (by rw [hw])⟩, h.roi, h.roo⟩

def upd (e : Env) (n : Nat) (p : Nat × Nat) : Env := fun m => if m = n then some p else e m
omit [Val] in
theorem upd_same (e : Env) (n : Nat) (p : Nat × Nat) : upd e n p n = some p := by simp [upd]
omit [Val] in
theorem upd_sub {n : Nat} {p : Nat × Nat} (h : e n = none) : Sub e (upd e n p) := fun m q hq => by
  unfold upd
  by_cases hm : m = n
  · subst hm; rw [h] at hq; cases hq
  · rw [if_neg hm]; exact hq

omit [Val] in
theorem heap_alloc_at (w : World) (o : Obj) : (w.alloc o).heap[w.heap.size]? = some o := by show (w.heap.push o)[w.heap.size]? = some o; simp
omit [Val] in
theorem heap_alloc_lt (w : World) (o : Obj) {b : Nat} (h : b < w.heap.size) : (w.alloc o).heap[b]? = w.heap[b]? := Below.heap_alloc w o b h

omit [Val] in
theorem blk_get_leaf {l : List Value} {size elem es i : Nat} {v : Value} (h : (Blk.mk l .leaf size elem es).get i = some v) : i < size ∧ l[i]? = some v := by
  unfold Blk.get at h
  rw [br_eq, blt_dec] at h
  split at h
  · rename_i hlt
    exact ⟨by simpa using hlt, h⟩
  · cases h

theorem upd_mpi (hS : RS NG Bar e S w) {p : Nat × Nat} : ∀ n m l l' b k k', S.maps.get n = some l → S.maps.get m = some l' → upd e S.next p n = some (b, k) → upd e S.next p m = some (b, k') → n = m := by
  intro n m l l' b k k' hn hm h1 h2
  obtain ⟨_, _, g1, _⟩ := hS.mp n l hn
  obtain ⟨_, _, g2, _⟩ := hS.mp m l' hm
  have hf := hS.fresh S.next (Nat.le_refl _)
  have e1 : n ≠ S.next := fun h => by rw [h, hf] at g1; cases g1
  have e2 : m ≠ S.next := fun h => by rw [h, hf] at g2; cases g2
  simp only [upd, e1, if_false] at h1
  simp only [upd, e2, if_false] at h2
  exact hS.mpi n m l l' b k k' hn hm h1 h2

theorem upd_roi (hS : RS NG Bar e S w) {heap' : Tr Blk} {NB : Blk} (hget : ∀ m, heap'.get m = if m = S.next then some NB else S.heap.get m) {p : Nat × Nat} (hp : ∀ n B k, S.ro.get n = some B → e n ≠ some (p.1, k)) :
    ∀ n m B C b k k', S.ro.get n = some B → heap'.get m = some C → upd e S.next p n = some (b, k) → upd e S.next p m = some (b, k') → False := by
  intro n m B C b k k' hn hm h1 h2
  obtain ⟨_, _, g1, _⟩ := hS.ro n B hn
  have hf := hS.fresh S.next (Nat.le_refl _)
  have e1 : n ≠ S.next := fun h => by rw [h, hf] at g1; cases g1
  simp only [upd, e1, if_false] at h1
  rw [hget] at hm
  by_cases e2 : m = S.next
  · subst e2
    rw [upd_same] at h2
    cases h2
    exact hp n B k hn h1
  · rw [if_neg e2] at hm
    simp only [upd, e2, if_false] at h2
    exact hS.roi n m B C b k k' hn hm h1 h2

theorem upd_roo (hS : RS NG Bar e S w) {p : Nat × Nat} :
    ∀ n m B C b k k', S.ro.get n = some B → S.old.get m = some C → upd e S.next p n = some (b, k) → upd e S.next p m = some (b, k') → False := by
  intro n m B C b k k' hn hm h1 h2
  obtain ⟨_, _, g1, _⟩ := hS.ro n B hn
  obtain ⟨_, _, g2, _⟩ := hS.old m C hm
  have hf := hS.fresh S.next (Nat.le_refl _)
  have e1 : n ≠ S.next := fun h => by rw [h, hf] at g1; cases g1
  have e2 : m ≠ S.next := fun h => by rw [h, hf] at g2; cases g2
  simp only [upd, e1, if_false] at h1
  simp only [upd, e2, if_false] at h2
  exact hS.roo n m B C b k k' hn hm h1 h2

theorem add_new (hS : RS NG Bar e S w) (hlim : S.next < 1099511627775) (NB : Blk) (cells : Array Value) (cp : Nat) (h0 : NB.es = 0 → cells.size = NB.size) (h1 : NB.es ≠ 0 → cells.size = cp * NB.es ∧ cp ≤ maxLen) (h2 : NB.size ≤ cells.size)
    (h3 : ∀ i v, NB.get i = some v → ∃ v', cells[i]? = some v' ∧ RV e v v') :
    Sub e (upd e S.next (w.heap.size, cp)) ∧ RS NG Bar (upd e S.next (w.heap.size, cp)) (St.mk (S.heap.set (some NB) S.next) S.old (S.next + 1) S.maps S.ro) (w.alloc (.cells cells NB.elem)) := by
  have hfr := hS.fresh S.next (Nat.le_refl _)
  have hsub := upd_sub (p := (w.heap.size, cp)) hfr
  have hget : ∀ m, (S.heap.set (some NB) S.next).get m = if m = S.next then some NB else S.heap.get m := fun m => get_set _ _ _ _ (by omega)
  refine ⟨hsub, ?_⟩
  have hold : ∀ n b c, e n = some (b, c) → b < w.heap.size := hS.hi
  refine ⟨fun n B hB => ?_, fun n B hB => ?_, fun n m B C b k k' hn hm h4 h5 => ?_, fun n m B C b k k' hn hm h4 h5 => ?_, fun n hn => ?_, fun n b c hn hNG => ?_, fun n b c hn => ?_, ?_, ?_, fun n hn => ?_,
    fun n l hl => let ⟨b, k, h1, h2⟩ := hS.mp n l hl; ⟨b, k, hsub _ _ h1, h2.congr hsub (heap_alloc_lt _ _ (hS.hi _ _ _ h1))⟩, upd_mpi hS,
    fun n B hB => let ⟨b, k, h1, h2⟩ := hS.ro n B hB; ⟨b, k, hsub _ _ h1, h2.congr hsub (heap_alloc_lt _ _ (hS.hi _ _ _ h1))⟩, upd_roi hS hget (fun n B k _ hn => absurd (hS.hi _ _ _ hn) (Nat.lt_irrefl _)), upd_roo hS⟩
  · rw [hget] at hB
    split at hB
    · rename_i hn
      cases hB
      subst hn
      refine ⟨w.heap.size, cp, upd_same _ _ _, ⟨cells, by rw [heap_alloc_at], h0, h1, h2, fun i v hv => ?_⟩⟩
      obtain ⟨v', h8, h9⟩ := h3 i v hv
      exact ⟨v', h8, h9.mono hsub⟩
    · obtain ⟨b, c, h4, h5⟩ := hS.blk n B hB
      exact ⟨b, c, hsub _ _ h4, h5.congr hsub (heap_alloc_lt _ _ (hold _ _ _ h4))⟩
  · obtain ⟨b, c, h4, h5⟩ := hS.old n B hB
    exact ⟨b, c, hsub _ _ h4, h5.congr hsub (heap_alloc_lt _ _ (hold _ _ _ h4))⟩
  · rw [hget] at hn hm
    by_cases e1 : n = S.next <;> by_cases e2 : m = S.next
    · rw [e1, e2]
    · subst e1
      rw [upd_same] at h4
      simp only [upd, e2, if_false] at h5
      have := hold _ _ _ h5
      simp at h4; omega
    · subst e2
      rw [upd_same] at h5
      simp only [upd, e1, if_false] at h4
      have := hold _ _ _ h4
      simp at h5; omega
    · simp only [e1, e2, if_false] at hn hm
      simp only [upd, e1, e2, if_false] at h4 h5
      exact hS.inj n m B C b k k' hn hm h4 h5
  · rw [hget] at hm
    obtain ⟨b2, c2, h6, -⟩ := hS.old n B hn
    have e1 : n ≠ S.next := fun h => by rw [h, hfr] at h6; cases h6
    simp only [upd, e1, if_false] at h4
    by_cases e2 : m = S.next
    · subst e2
      rw [upd_same] at h5
      have := hold _ _ _ h4
      simp at h5; omega
    · simp only [e2, if_false] at hm
      simp only [upd, e2, if_false] at h5
      exact hS.sep n m B C b k k' hn hm h4 h5
  · have hn' : S.next + 1 ≤ n := hn
    have : n ≠ S.next := by omega
    simp only [upd, this, if_false]
    exact hS.fresh n (by omega)
  · by_cases e1 : n = S.next
    · subst e1
      rw [upd_same] at hn
      cases hn
      exact hS.room
    · simp only [upd, e1, if_false] at hn
      exact hS.bar n b c hn hNG
  · have hsz : (w.alloc (.cells cells NB.elem)).heap.size = w.heap.size + 1 := by simp
    rw [hsz]
    by_cases e1 : n = S.next
    · subst e1
      rw [upd_same] at hn
      cases hn
      omega
    · simp only [upd, e1, if_false] at hn
      have := hold _ _ _ hn
      omega
  · have hsz : (w.alloc (.cells cells NB.elem)).heap.size = w.heap.size + 1 := by simp
    rw [hsz]; have := hS.room; omega
  · show NG ≤ S.next + 1
    have := hS.low; omega
  · by_cases e1 : n = S.next
    · subst e1; exact ⟨_, upd_same _ _ _⟩
    · have hn' : n < S.next + 1 := hn
      obtain ⟨p, hp⟩ := hS.full n (by omega)
      exact ⟨p, hsub _ _ hp⟩

theorem new_sound {β : Type} {l : List Value} {size elem es : Nat} {k : Nat → St → Option β} {r : β} (hS : RS NG Bar e S w) (h : newK S l size elem es k = some r)
    (cells : Array Value) (cp : Nat) (h0 : es = 0 → cells.size = size) (h1 : es ≠ 0 → cells.size = cp * es ∧ cp ≤ maxLen) (h2 : size ≤ cells.size)
    (h3 : ∀ i v, i < size → l[i]? = some v → ∃ v', cells[i]? = some v' ∧ RV e v v') :
    ∃ S', k S.next S' = some r ∧ Sub e (upd e S.next (w.heap.size, cp)) ∧ RS NG Bar (upd e S.next (w.heap.size, cp)) S' (w.alloc (.cells cells elem)) := by
  unfold newK at h
  rw [br_eq, blt_dec] at h
  split at h
  · rename_i hlim
    have hlim : S.next < 1099511627775 := of_decide_eq_true hlim
    simp only [forceN_eq, setK_eq] at h
    have := add_new hS hlim (Blk.mk l .leaf size elem es) cells cp h0 h1 h2 (fun i v hv => by
      obtain ⟨h6, h7⟩ := blk_get_leaf hv
      exact h3 i v h6 h7)
    exact ⟨_, h, this.1, this.2⟩
  · cases h

/-- a block is let go: it is read, no more written -/
theorem to_old {n : Nat} {B : Blk} (hS : RS NG Bar e S w) (hB : S.heap.get n = some B) (hlim : n < 1099511627775) :
    RS NG Bar e (St.mk (S.heap.set none n) (S.old.set (some B) n) S.next S.maps S.ro) w := by
  have hget : ∀ m, (S.heap.set none n).get m = if m = n then none else S.heap.get m := fun m => get_set _ _ _ _ (by omega)
  have hgo : ∀ m, (S.old.set (some B) n).get m = if m = n then some B else S.old.get m := fun m => get_set _ _ _ _ (by omega)
  refine ⟨fun m C hC => ?_, fun m C hC => ?_, fun m m' C D b k k' hm hm' h4 h5 => ?_, fun m m' C D b k k' hm hm' h4 h5 => ?_, hS.fresh, hS.bar, hS.hi, hS.room, hS.low, hS.full, hS.mp, hS.mpi, hS.ro,
    fun m m' C D b k k' hm hm' h4 h5 => (by
      have hm2 : (S.heap.set none n).get m' = some D := hm'
      rw [hget] at hm2
      split at hm2
      · cases hm2
      · exact hS.roi m m' C D b k k' hm hm2 h4 h5), fun m m' C D b k k' hm hm' h4 h5 => (by
      have hm2 : (S.old.set (some B) n).get m' = some D := hm'
      rw [hgo] at hm2
      split at hm2
      · rename_i hx; exact hS.roi m n C B b k k' hm hB h4 (hx ▸ h5)
      · exact hS.roo m m' C D b k k' hm hm2 h4 h5)⟩
  · rw [hget] at hC
    split at hC
    · cases hC
    · exact hS.blk m C hC
  · rw [hgo] at hC
    split at hC
    · rename_i hm
      cases hC
      rw [hm]
      exact hS.blk n B hB
    · exact hS.old m C hC
  · rw [hget] at hm hm'
    split at hm
    · cases hm
    · split at hm'
      · cases hm'
      · exact hS.inj m m' C D b k k' hm hm' h4 h5
  · rw [hgo] at hm
    rw [hget] at hm'
    split at hm'
    · cases hm'
    · rename_i hne
      split at hm
      · rename_i he
        cases hm
        subst he
        exact absurd (hS.inj m m' B D b k k' hB hm' h4 h5).symm hne
      · exact hS.sep m m' C D b k k' hm hm' h4 h5

/-- a block that is let go is written beyond what is known of it, under a new name -/
theorem add_alias (hS : RS NG Bar e S w) (hlim : S.next < 1099511627775) {n b cp : Nat} {B NB : Blk} (he : e n = some (b, cp)) (_hB : S.old.get n = some B) (hNG : NG ≤ n) (hno : ∀ m C c, S.heap.get m = some C → e m ≠ some (b, c))
    (hmax : ∀ m C c, S.old.get m = some C → e m = some (b, c) → C.size ≤ B.size) (hes : NB.es ≠ 0) (hle : B.size ≤ NB.size) {c' : Array Value}
    (hRB : RB e NB b cp (w.setRow b c')) (hkeep : ∀ m C c, S.old.get m = some C → e m = some (b, c) → RB e C b c (w.setRow b c')) :
    Sub e (upd e S.next (b, cp)) ∧ RS NG Bar (upd e S.next (b, cp)) (St.mk (S.heap.set (some NB) S.next) S.old (S.next + 1) S.maps S.ro) (w.setRow b c') := by
  have hfr := hS.fresh S.next (Nat.le_refl _)
  have hsub := upd_sub (p := (b, cp)) hfr
  have hget : ∀ m, (S.heap.set (some NB) S.next).get m = if m = S.next then some NB else S.heap.get m := fun m => get_set _ _ _ _ (by omega)
  refine ⟨hsub, ?_⟩
  have hcs1 : ∃ cs t f, w.heap[b]? = some (.cells cs t f) := by
    obtain ⟨b', c1, he', hRB'⟩ := hS.old n B _hB
    obtain ⟨cs1, hcs1, _⟩ := hRB'.cells
    rw [he] at he'
    cases he'
    exact ⟨_, _, _, hcs1⟩
  obtain ⟨cs1, t1, f1, hcs1⟩ := hcs1
  refine ⟨fun m C hC => ?_, fun m C hC => ?_, fun m m' C D x k k' hm hm' h4 h5 => ?_, fun m m' C D x k k' hm hm' h4 h5 => ?_, fun m hm => ?_, fun m x c hm hNG' => ?_, fun m x c hm => ?_, ?_, ?_, fun m hm => ?_,
    fun m l hl => let ⟨x, c, h4, h5⟩ := hS.mp m l hl; ⟨x, c, hsub _ _ h4, h5.congr hsub (setRow_other w b x c' (h5.ne hcs1))⟩, upd_mpi hS,
    fun m B0 hB0 => let ⟨x, c, h4, h5⟩ := hS.ro m B0 hB0; ⟨x, c, hsub _ _ h4, h5.congr hsub (setRow_other w b x c' (fun hx => hS.roo m n B0 B b c cp hB0 _hB (hx ▸ h4) he))⟩,
    upd_roi hS hget (fun m B0 k hB0 hm => hS.roo m n B0 B b k cp hB0 _hB hm he), upd_roo hS⟩
  · rw [hget] at hC
    split at hC
    · rename_i hm
      cases hC
      subst hm
      exact ⟨b, cp, upd_same _ _ _, hRB.congr hsub rfl⟩
    · obtain ⟨x, c, h4, h5⟩ := hS.blk m C hC
      refine ⟨x, c, hsub _ _ h4, h5.congr hsub (setRow_other w b x c' (fun hx => ?_))⟩
      subst hx
      exact hno m C c hC h4
  · obtain ⟨x, c, h4, h5⟩ := hS.old m C hC
    by_cases hx : x = b
    · subst hx
      exact ⟨x, c, hsub _ _ h4, (hkeep m C c hC h4).congr hsub rfl⟩
    · exact ⟨x, c, hsub _ _ h4, h5.congr hsub (setRow_other w b x c' hx)⟩
  · rw [hget] at hm hm'
    by_cases e1 : m = S.next <;> by_cases e2 : m' = S.next
    · rw [e1, e2]
    · subst e1
      rw [upd_same] at h4
      simp only [upd, e2, if_false] at h5 hm'
      cases h4
      exact absurd h5 (hno m' D k' hm')
    · subst e2
      rw [upd_same] at h5
      simp only [upd, e1, if_false] at h4 hm
      cases h5
      exact absurd h4 (hno m C k hm)
    · simp only [e1, e2, if_false] at hm hm'
      simp only [upd, e1, e2, if_false] at h4 h5
      exact hS.inj m m' C D x k k' hm hm' h4 h5
  · rw [hget] at hm'
    obtain ⟨b2, c2, h6, -⟩ := hS.old m C hm
    have e1 : m ≠ S.next := fun h => by rw [h, hfr] at h6; cases h6
    simp only [upd, e1, if_false] at h4
    by_cases e2 : m' = S.next
    · subst e2
      rw [upd_same] at h5
      simp only [if_true] at hm'
      cases hm'
      cases h5
      exact ⟨hes, Nat.le_trans (hmax m C k hm h4) hle⟩
    · simp only [e2, if_false] at hm'
      simp only [upd, e2, if_false] at h5
      exact hS.sep m m' C D x k k' hm hm' h4 h5
  · have hn' : S.next + 1 ≤ m := hm
    have : m ≠ S.next := by omega
    simp only [upd, this, if_false]
    exact hS.fresh m (by omega)
  · by_cases e1 : m = S.next
    · subst e1
      rw [upd_same] at hm
      cases hm
      exact hS.bar n _ _ he hNG
    · simp only [upd, e1, if_false] at hm
      exact hS.bar m x c hm hNG'
  · rw [setRow_size]
    by_cases e1 : m = S.next
    · subst e1
      rw [upd_same] at hm
      cases hm
      exact hS.hi n _ _ he
    · simp only [upd, e1, if_false] at hm
      exact hS.hi m x c hm
  · rw [setRow_size]; exact hS.room
  · show NG ≤ S.next + 1
    have := hS.low; omega
  · by_cases e1 : m = S.next
    · subst e1; exact ⟨_, upd_same _ _ _⟩
    · have hn' : m < S.next + 1 := hm
      obtain ⟨p, hp⟩ := hS.full m (by omega)
      exact ⟨p, hsub _ _ hp⟩

omit [Val] in
theorem write_spec {β : Type} (size : Nat) : ∀ (l : List Value) (over : Tr Value) (off : Nat) (k : Tr Value → Option β) (r : β), writeK size l over off k = some r →
    ∃ over', k over' = some r ∧ (l ≠ [] → off + l.length ≤ size) ∧ ∀ i, over'.get i = if off ≤ i ∧ i < off + l.length then l[i - off]? else over.get i
  | [], over, off, k, r, h => ⟨over, h, fun h => absurd rfl h, fun i => by
    rw [if_neg (by simp only [List.length_nil]; omega)]⟩
  | v :: l, over, off, k, r, h => by
    have h' : br (Nat.blt off size) (br (Nat.blt off lim) (setK (some v) over off fun over => writeK size l over (Nat.succ off) k) none) none = some r := h
    rw [br_eq, blt_dec] at h'
    split at h'
    · rename_i h1
      rw [br_eq, blt_dec] at h'
      split at h'
      · rename_i h2
        rw [setK_eq] at h'
        obtain ⟨over', h3, h4, h5⟩ := write_spec size l _ _ k r h'
        have h1 : off < size := by simpa using h1
        have h2 : off < 1099511627775 := of_decide_eq_true h2
        refine ⟨over', h3, fun _ => ?_, fun i => ?_⟩
        · by_cases hl : l = []
          · subst hl; simp; omega
          · have := h4 hl; simp at this ⊢; omega
        · rw [h5 i]
          by_cases c1 : Nat.succ off ≤ i ∧ i < Nat.succ off + l.length
          · have c2 : off ≤ i ∧ i < off + (v :: l).length := by simp; omega
            rw [if_pos c1, if_pos c2, show i - off = (i - Nat.succ off) + 1 by omega, List.getElem?_cons_succ]
          · rw [if_neg c1, get_set _ _ _ _ (by omega)]
            by_cases c3 : i = off
            · have c2 : off ≤ i ∧ i < off + (v :: l).length := by simp; omega
              rw [if_pos c3, if_pos c2, c3]; simp
            · have c2 : ¬ (off ≤ i ∧ i < off + (v :: l).length) := by simp; omega
              rw [if_neg c3, if_neg c2]
      · cases h'
    · cases h'

omit [Val] in
theorem list_written (c : List Value) (off : Nat) (vs : List Value) (h : off + vs.length ≤ c.length) (i : Nat) :
    (c.take off ++ vs ++ c.drop (off + vs.length))[i]? = if off ≤ i ∧ i < off + vs.length then vs[i - off]? else c[i]? := by
  have ht : (c.take off).length = off := by simp; omega
  by_cases h1 : i < off
  · have : ¬ (off ≤ i ∧ i < off + vs.length) := by omega
    rw [if_neg this, List.append_assoc, List.getElem?_append_left (by omega), List.getElem?_take, if_pos h1]
  · by_cases h2 : i < off + vs.length
    · rw [if_pos ⟨by omega, h2⟩, List.getElem?_append_left (by simp; omega), List.getElem?_append_right (by omega), ht]
    · have : ¬ (off ≤ i ∧ i < off + vs.length) := by omega
      rw [if_neg this, List.getElem?_append_right (by simp; omega), List.getElem?_drop]
      congr 1
      simp; omega

/-- cells of one block written: what stands there then -/
theorem rb_written {B : Blk} {b k : Nat} {over' : Tr Value} {off : Nat} {l l' : List Value} {size' : Nat} {c : Array Value} (hRV : RVL e l l')
    (hc : w.heap[b]? = some (.cells c B.elem (0, 0))) (h2 : B.es = 0 → c.size = size') (h3 : B.es ≠ 0 → c.size = k * B.es ∧ k ≤ maxLen) (h4 : size' ≤ c.size)
    (h5 : ∀ i v, B.get i = some v → ∃ v', c[i]? = some v' ∧ RV e v v') (hfit : off + l.length ≤ c.size)
    (ho : ∀ i, over'.get i = if off ≤ i ∧ i < off + l.length then l[i - off]? else B.over.get i) (hsz : ∀ i, i < size' → i < B.size ∨ (off ≤ i ∧ i < off + l.length)) :
    RB e (Blk.mk B.base over' size' B.elem B.es) b k (w.setRow b (c.toList.take off ++ l' ++ c.toList.drop (off + l'.length)).toArray) := by
  have hl := hRV.length
  have hlen : (c.toList.take off ++ l' ++ c.toList.drop (off + l'.length)).length = c.size := by
    simp only [List.length_append, List.length_take, List.length_drop, Array.length_toList, hl]; omega
  refine ⟨_, setRow_heap w b c _ B.elem (0, 0) hc, ?_, ?_, ?_, fun i v hv => ?_⟩
  · intro h; rw [List.size_toArray, hlen]; exact h2 h
  · intro h; rw [List.size_toArray, hlen]; exact h3 h
  · rw [List.size_toArray, hlen]; exact h4
  · unfold Blk.get at hv
    rw [br_eq, blt_dec] at hv
    split at hv
    · rename_i hlt
      have hlt : i < size' := by simpa using hlt
      simp only [ho] at hv
      simp only [List.getElem?_toArray]
      rw [list_written c.toList off l' (by simp only [Array.length_toList, hl]; omega) i, hl]
      by_cases cd : off ≤ i ∧ i < off + l.length
      · rw [if_pos cd] at hv ⊢
        have hsome : ∃ u, l[i - off]? = some u := ⟨l[i - off]'(by omega), List.getElem?_eq_getElem (by omega)⟩
        obtain ⟨u, hu⟩ := hsome
        rw [hu] at hv
        cases hv
        exact hRV.get hu
      · rw [if_neg cd] at hv ⊢
        have hlt2 : i < B.size := (hsz i hlt).resolve_right cd
        have : B.get i = some v := by
          unfold Blk.get
          rw [br_eq, blt_dec, if_pos (by simpa using hlt2)]
          exact hv
        obtain ⟨v', h6, h7⟩ := h5 i v this
        exact ⟨v', by simpa using h6, h7⟩
    · cases hv

theorem singles_one {l l' : List Value} (h : singles l = true) (k : RVL e l l') : ∀ v ∈ l', v.oneCell' = true := RVL.one h k

theorem store_sound {β : Type} {n off : Nat} {l l' : List Value} {k : St → Option β} {r : β} (hS : RS NG Bar e S w) (h : storeK NG S n off l k = some r) (hRV : RVL e l l') {b c : Nat} (he : e n = some (b, c)) :
    ∃ S' w', k S' = some r ∧ RS NG Bar e S' w' ∧ Below Bar w w' ∧ (∀ i, i = 0 → (storeCells ⟨b, off, none⟩ l' i).run P w = .ok () w') ∧ S'.next = S.next ∧ ∀ m, m ≠ b → w'.heap[m]? = w.heap[m]? := by
  cases l with
  | nil =>
    rw [RVL] at hRV
    subst hRV
    exact ⟨S, w, h, hS, Below.refl _ _, fun i _ => rfl, rfl, fun _ _ => rfl⟩
  | cons v0 l0 =>
    simp only [storeK, br_eq] at h
    split at h
    · rename_i hone
      split at h
      · rename_i hNG
        split at h
        · rename_i hlim
          split at h
          · cases h
          · rename_i B hB
            obtain ⟨over', h1, h2, h3⟩ := write_spec B.size _ _ _ _ _ h
            rw [setK_eq] at h1
            obtain ⟨b', c', h4, ⟨cs, h5, h6, h7, h8, h9⟩⟩ := hS.blk n B hB
            have hbb : b' = b ∧ c' = c := by rw [he] at h4; cases h4; exact ⟨rfl, rfl⟩
            obtain ⟨rfl, rfl⟩ := hbb
            have hlim : n < 1099511627775 := by rw [blt_dec] at hlim; exact of_decide_eq_true hlim
            have hNG : NG ≤ n := by rw [ble_dec] at hNG; simpa using hNG
            have hfit : off + (v0 :: l0).length ≤ cs.size := Nat.le_trans (h2 (by simp)) h8
            have hbar := hS.bar n _ _ he hNG
            have hget : ∀ m, (S.heap.set (some (Blk.mk B.base over' B.size B.elem B.es)) n).get m = if m = n then some (Blk.mk B.base over' B.size B.elem B.es) else S.heap.get m := fun m => get_set _ _ _ _ (by omega)
            have hother : ∀ m, m ≠ b' → ∀ x, (w.setRow b' x).heap[m]? = w.heap[m]? := fun m hm x => setRow_other w b' m x hm
            have hrun : ∀ i, i = 0 → (storeCells ⟨b', off, none⟩ l' i).run P w = .ok () (w.setRow b' (cs.toList.take off ++ l' ++ cs.toList.drop (off + l'.length)).toArray) := by
              intro i hi
              subst hi
              have := run_storeCells_at P b' off B.elem l' 0 cs w h5 (by rw [hRV.length]; simpa using hfit) (singles_one hone hRV)
              simpa using this
            refine ⟨_, _, h1, ?_, ?_, hrun, rfl, fun m hm => hother m hm _⟩
            · have hRB := rb_written hRV h5 h6 h7 h8 h9 hfit h3 (fun i hi => .inl hi)
              refine ⟨fun m C hC => ?_, fun m C hC => ?_, fun m m' C D x y y' hm hm' h10 h11 => ?_, fun m m' C D x y y' hm hm' h10 h11 => ?_, hS.fresh, hS.bar, fun m x y hm => ?_, ?_, hS.low, hS.full,
                fun m l hl => let ⟨x, y, g1, g2⟩ := hS.mp m l hl; ⟨x, y, g1, g2.congr (Sub.refl _) (hother _ (g2.ne h5) _)⟩, hS.mpi,
                fun m B0 hB0 => let ⟨x, y, g1, g2⟩ := hS.ro m B0 hB0; ⟨x, y, g1, g2.congr (Sub.refl _) (hother _ (fun hx => hS.roi m n B0 B b' y c' hB0 hB (hx ▸ g1) he) _)⟩,
                fun m m' C D x y y' hm hm' h10 h11 => (by
                  rw [hget] at hm'
                  split at hm'
                  · rename_i hx; exact hS.roi m n C B x y y' hm hB h10 (hx ▸ h11)
                  · exact hS.roi m m' C D x y y' hm hm' h10 h11), fun m m' C D x y y' hm hm' h10 h11 => (by
                  by_cases hes : B.es = 0
                  · have : Nat.beq B.es 0 = true := by rw [beq_dec]; simpa using hes
                    simp only [this] at hm'
                    exact hS.roo m m' C D x y y' hm hm' h10 h11
                  · have : Nat.beq B.es 0 = false := by rw [beq_dec]; simpa using hes
                    simp only [this, Tr.get] at hm'
                    cases hm')⟩
              · rw [hget] at hC
                split at hC
                · rename_i hmn
                  cases hC
                  subst hmn
                  exact ⟨b', c', he, hRB⟩
                · rename_i hmn
                  obtain ⟨x, y, h10, h11⟩ := hS.blk m C hC
                  refine ⟨x, y, h10, h11.congr (Sub.refl _) (hother _ (fun hx => hmn ?_) _)⟩
                  subst hx
                  exact hS.inj m n C B _ y c' hC hB h10 he
              · by_cases hes : B.es = 0
                · have : Nat.beq B.es 0 = true := by rw [beq_dec]; simpa using hes
                  simp only [this] at hC
                  obtain ⟨x, y, h10, h11⟩ := hS.old m C hC
                  refine ⟨x, y, h10, h11.congr (Sub.refl _) (hother _ (fun hx => ?_) _)⟩
                  subst hx
                  exact (hS.sep m n C B _ y c' hC hB h10 he).1 hes
                · have : Nat.beq B.es 0 = false := by rw [beq_dec]; simpa using hes
                  simp only [this, Tr.get] at hC
                  cases hC
              · rw [hget] at hm hm'
                have g1 : ∃ C', S.heap.get m = some C' := by
                  split at hm
                  · rename_i hx; exact ⟨B, by rw [hx]; exact hB⟩
                  · exact ⟨C, hm⟩
                have g2 : ∃ C', S.heap.get m' = some C' := by
                  split at hm'
                  · rename_i hx; exact ⟨B, by rw [hx]; exact hB⟩
                  · exact ⟨D, hm'⟩
                obtain ⟨C', g1⟩ := g1
                obtain ⟨D', g2⟩ := g2
                exact hS.inj m m' C' D' x y y' g1 g2 h10 h11
              · by_cases hes : B.es = 0
                · have : Nat.beq B.es 0 = true := by rw [beq_dec]; simpa using hes
                  simp only [this] at hm
                  rw [hget] at hm'
                  split at hm'
                  · rename_i hx
                    cases hm'
                    exact hS.sep m n C B x y y' hm hB h10 (hx ▸ h11)
                  · exact hS.sep m m' C D x y y' hm hm' h10 h11
                · have : Nat.beq B.es 0 = false := by rw [beq_dec]; simpa using hes
                  simp only [this, Tr.get] at hm
                  cases hm
              · rw [setRow_size]; exact hS.hi m x y hm
              · rw [setRow_size]; exact hS.room
            · exact below_setRow (Below.refl _ _) hbar _
        · cases h
      · cases h
    · cases h
end Go.Sim
namespace Go.Sim
variable [Val]
open Go.RowKit
variable {P : Program} {e : Env} {NG Bar : Nat} {S : St} {w : World}

/-- what an operation comes to: an answer, a state -/
def Eff (P : Program) (a : Act) (o : Oper) (e : Env) (NG Bar : Nat) (v : Value) (S' : St) (w : World) : Prop :=
  ∀ (K : Act → World → Prop) (Q : Exit → Act → World → Prop), (∀ e' v' w', Sub e e' → RV e' v v' → RS NG Bar e' S' w' → Below Bar w w' → K (a.put o.dst v') w') → o.wp P a w K Q

theorem Does.eff {a : Act} {o : Oper} {v : Value} (hS : RS NG Bar e S w) (h : Does P a o e v w) : Eff P a o e NG Bar v S w := by
  obtain ⟨v', h1, h2⟩ := h
  intro K Q hK
  unfold Oper.wp
  rw [h1]
  exact hK e v' w (Sub.refl _) h2 hS (Below.refl _ _)

theorem eff_run {a : Act} {o : Oper} {v v' : Value} {S' : St} {e' : Env} {w' : World} (hr : (execOp a.eval o).run P w = .ok (.value v') w') (hs : Sub e e') (hv : RV e' v v') (hS : RS NG Bar e' S' w') (hb : Below Bar w w') :
    Eff P a o e NG Bar v S' w := by
  intro K Q hK
  unfold Oper.wp
  rw [hr]
  exact hK e' v' w' hs hv hS hb

theorem eff_skip {a : Act} {o : Oper} {S' : St} {e' : Env} {w' : World} (hr : (execOp a.eval o).run P w = .ok .skip w') (hs : Sub e e') (hS : RS NG Bar e' S' w') (hb : Below Bar w w') :
    Eff P a o e NG Bar undef S' w := by
  intro K Q hK
  unfold Oper.wp
  rw [hr]
  exact hK e' undef w' hs (RV.of_flat rfl) hS hb

theorem below_alloc (hS : RS NG Bar e S w) (o : Obj) : Below Bar w (w.alloc o) := (Below.refl _ _).alloc hS.room o

omit [Val] in
theorem flat_get : ∀ {l : List Value} {i : Nat} {v : Value}, flatL l = true → l[i]? = some v → flat v = true
  | [], _, _, _, h => by simp at h
  | x :: r, 0, v, hf, h => by simp [flatL] at hf; simp at h; subst h; exact hf.1
  | x :: r, i + 1, v, hf, h => by simp [flatL] at hf; exact flat_get hf.2 (by simpa using h)

omit [Val] in
theorem made_rep (z : Array Value) (c : Nat) : (madeCells z (c * z.size)).toList = (List.replicate c z.toList).flatten := by
  unfold madeCells
  induction c with
  | zero => simp
  | succ c ih =>
    rw [List.replicate_succ', List.flatten_append, ← ih]
    apply List.ext_getElem?
    intro i
    simp only [Array.toList_map, Array.toList_range, List.flatten_cons, List.flatten_nil, List.append_nil]
    have hs : (c + 1) * z.size = c * z.size + z.size := Nat.succ_mul _ _
    by_cases h1 : i < c * z.size
    · rw [List.getElem?_append_left (by simpa using h1)]
      simp [h1, show i < (c + 1) * z.size by omega]
    · rw [List.getElem?_append_right (by simpa using h1)]
      by_cases h2 : i < (c + 1) * z.size
      · have h3 : i - c * z.size < z.size := by omega
        have h4 : i % z.size = i - c * z.size := by
          have : i = (i - c * z.size) + z.size * c := by rw [Nat.mul_comm z.size c]; omega
          rw [this, Nat.add_mul_mod_self_left, Nat.mod_eq_of_lt h3, Nat.mul_comm z.size c]; omega
        simp [h2, h4, h3, getElem!_pos]
      · simp [h2]
        omega

omit [Val] in
theorem flat_rep {z : List Value} (hz : flatL z = true) (c : Nat) : flatL (List.replicate c z).flatten = true := by
  have app : ∀ a b : List Value, flatL a = true → flatL b = true → flatL (a ++ b) = true := by
    intro a
    induction a with
    | nil => intro b _ h; exact h
    | cons x r ih => intro b h1 h2; simp [flatL] at h1 ⊢; exact ⟨h1.1, ih b h1.2 h2⟩
  induction c with
  | zero => rfl
  | succ c ih => rw [List.replicate_succ]; exact app _ _ hz ih

section
variable {A : Fr} {a : Act} (hF : RF e A a) {o : Oper} {NG Bar : Nat} {S : St} (hS : RS NG Bar e S w) {β : Type} {k : Value → St → Option β} {r : β}
include hS

theorem eff_alloc {elem : TypeId} {z : List Value} (ho : o.op = .alloc elem) (hz : zeroOf P elem = some z)
    (h : newK S z z.length elem 0 (fun n S => k (.pointer (some ⟨n, 0, none⟩)) S) = some r) : ∃ v S', k v S' = some r ∧ Eff P a o e NG Bar v S' w := by
  obtain ⟨it, zv, hi, hz2, hz3, hz4, hz5⟩ := zeroOf_spec hz
  obtain ⟨S', h1, h2, h3⟩ := new_sound hS h zv.cells 0 (fun _ => by rw [hz3]; simp) (fun h => absurd rfl h) (by rw [hz3]; simp)
    (fun i v _ hv => ⟨v, by rw [hz3] at hv; simpa using hv, RV.of_flat (flat_get hz4 hv)⟩)
  refine ⟨_, S', h1, eff_run (e' := upd e S.next (w.heap.size, 0)) (v' := .pointer (some ⟨w.heap.size, 0, none⟩)) ?_ h2 (RV.ptr (upd_same _ _ _)) h3 (below_alloc hS _)⟩
  simp [execOp, ho, Instr.alloc, zeroValue, typeInfo, hi, hz2, newVar, newRow]

include hF in
theorem eff_box {elem : TypeId} {x : Operand} {v0 : Value} (ho : o.op = .box elem x) (hx : ev A x = some v0)
    (h : newK S v0.cells.toList v0.cells.toList.length elem 0 (fun n S => k (.pointer (some ⟨n, 0, none⟩)) S) = some r) : ∃ v S', k v S' = some r ∧ Eff P a o e NG Bar v S' w := by
  have hv := hF.ev hx
  have hc := hv.cells
  obtain ⟨S', h1, h2, h3⟩ := new_sound hS h (a.eval x).cells 0 (fun _ => by rw [← Array.length_toList, hc.length]) (fun h => absurd rfl h) (by rw [← Array.length_toList, hc.length]; exact Nat.le_refl _)
    (fun i v _ hv => by obtain ⟨v', h4, h5⟩ := hc.get hv; exact ⟨v', by simpa using h4, h5⟩)
  refine ⟨_, S', h1, eff_run (e' := upd e S.next (w.heap.size, 0)) (v' := .pointer (some ⟨w.heap.size, 0, none⟩)) ?_ h2 (RV.ptr (upd_same _ _ _)) h3 (below_alloc hS _)⟩
  simp [execOp, ho, Instr.box, newVar, newRow]

include hF in
theorem eff_bsl {t elem : TypeId} {len : Nat} {ps : Array (Nat × Operand)} {it : TypeInfo} {z : List Value} (ho : o.op = .buildSlice t len ps) (hu : P.underlying t = some (.slice elem)) (hi : P.info? elem = some it) (hz : zeroOf P elem = some z) (hle : len * it.size ≤ 16777216 ∧ len ≤ 16777216)
    (h : (match evP A ps.toList with
      | some vs =>
        match fillL (fun j => some (j * it.size, it.size)) ((List.replicate len z).flatten) vs with
        | none => none
        | some cells => forceL0 cells fun l => newK S l (len * it.size) elem 0 fun n S => k (.slice (some ⟨n, 0, none⟩) len len) S
      | none => none) = some r) : ∃ v S', k v S' = some r ∧ Eff P a o e NG Bar v S' w := by
  split at h
  · rename_i vs hvs
    split at h
    · cases h
    · rename_i cells hc
      simp only [forceL0_eq] at h
      obtain ⟨it', zv, hi', hz2, hz3, hz4, hz5⟩ := zeroOf_spec hz
      rw [hi] at hi'; cases hi'
      obtain ⟨r', h1, h2⟩ := fillL_sound (RVL.of_flat (flat_rep hz4 len)) (evP_sound hF hvs) hc
      have hzs : zv.cells.size = it.size := by rw [← Array.length_toList, ← hz3]; exact hz5
      have hfl : ∀ (place : Nat → Option (Nat × Nat)) (vs : List (Nat × Value)) (a r : List Value), fillL place a vs = some r → r.length = a.length := by
        have hset : ∀ (v cs : List Value) (off : Nat), (setRange cs off v).length = cs.length := by
          intro v
          induction v with
          | nil => intro cs off; rfl
          | cons x r ih => intro cs off; rw [setRange, ih]; simp
        intro place vs
        induction vs with
        | nil => intro a r h; simp [fillL] at h; rw [h]
        | cons x vs ih =>
          obtain ⟨i, v⟩ := x
          intro a r h
          simp only [fillL] at h
          split at h
          · cases h
          · rw [br_eq] at h
            split at h
            · rw [ih _ _ h, hset]
            · cases h
      have hlen : r'.length = len * it.size := by
        rw [hfl _ _ _ _ h1]
        simp [hz5]
      obtain ⟨S', h3, h4, h5⟩ := new_sound hS h r'.toArray 0 (fun _ => by simpa using hlen) (fun h => absurd rfl h) (by rw [List.size_toArray]; omega)
        (fun i v _ hv => by obtain ⟨v', h6, h7⟩ := h2.get hv; exact ⟨v', by simpa using h6, h7⟩)
      have hbig : len ≠ big := by have := hle.2; unfold big; omega
      refine ⟨_, S', h3, eff_run (e' := upd e S.next (w.heap.size, 0)) (v' := .slice (some ⟨w.heap.size, 0, none⟩) len len) ?_ h4 (RV.slice_k (upd_same _ _ _) hbig) h5 (below_alloc hS _)⟩
      have hb : ¬ (len * it.size > 2 ^ 24) := by have : (2 : Nat) ^ 24 = 16777216 := by decide
                                                 omega
      have hfill : Instr.fill (fun i => some (i * it.size, it.size)) ((Array.range (len * it.size)).map ((if len * it.size = 0 then #[] else zv.cells)[· % (if len * it.size = 0 then #[] else zv.cells : Array Value).size]!)) (ps.map fun (i, x) => (i, a.eval x)).toList = some r'.toArray := by
        rw [fill_eq]
        have : ((Array.range (len * it.size)).map ((if len * it.size = 0 then #[] else zv.cells)[· % (if len * it.size = 0 then #[] else zv.cells : Array Value).size]!)).toList = (List.replicate len z).flatten := by
          by_cases h0 : len * it.size = 0
          · have : (List.replicate len z).flatten = [] := by
              apply List.eq_nil_of_length_eq_zero
              simp [hz5, h0]
            rw [this]; simp [h0]
          · rw [hz3, ← made_rep zv.cells len, hzs]
            simp [h0, madeCells]
        rw [this, Array.toList_map, h1]; rfl
      rw [Array.toList_map] at hfill
      by_cases h0 : len * it.size = 0
      · have he : ∀ f : Nat → Value, Array.map f (Array.range 0) = #[] := fun f => by simp [Array.range_zero']
        simp only [h0, if_true, he] at hfill
        simp [execOp, ho, Instr.buildSlice, run_underlying hu, sizeOf, typeInfo, hi, h0, hfill, newRow, he]
      · simp only [h0, if_false] at hfill
        simp [execOp, ho, Instr.buildSlice, run_underlying hu, sizeOf, typeInfo, hi, hb, h0, zeroValue, hz2, hfill, newRow]
  · cases h
end
end Go.Sim
namespace Go.Sim
variable [Val]
open Go.RowKit
variable {P : Program} {e : Env} {NG Bar : Nat} {S : St} {w : World}

omit [Val] in
theorem flatL_bytes : ∀ l : List UInt8, flatL (l.map fun b => Value.int .u8 (.ofNat b.toNat)) = true
  | [] => rfl
  | _ :: r => show (true && _) = true from flatL_bytes r

theorem src_sound (hS : RS NG Bar e S w) {str : Bool} {size : Nat} {tx : TypeId} {x x' : Value} {n : Nat} {new : List Value} (h : appended S str size x = some (n, new)) (hx : RV e x x')
    (hk : (str = false ∧ ∃ e', P.underlying tx = some (.slice e')) ∨ (str = true ∧ P.underlying tx = some .string ∧ size = 1)) (h1 : singles new = true) :
    ∃ news, RVL e new news ∧ Src P size tx x' n news w := by
  unfold appended at h
  split at h
  · rename_i n0 c
    rw [br_eq] at h
    split at h
    · cases h
    · rename_i hs
      rw [br_eq, beq_dec] at h
      split at h
      · rename_i h0
        cases h
        have h0 : n0 = 0 := of_decide_eq_true h0
        subst h0
        rw [RV] at hx
        subst hx
        rcases hk with ⟨-, e', hk⟩ | ⟨h, -⟩
        · exact ⟨[], rfl, Src.ofNil w hk _⟩
        · exact absurd h hs
      · cases h
  · rename_i b o n0 c
    rw [br_eq] at h
    split at h
    · cases h
    · rename_i hs
      split at h
      · cases h
      · rename_i l hl
        cases h
        rw [RV] at hx
        obtain ⟨b', k, h2, h3, h4, -⟩ := hx
        obtain ⟨b2, k2, l', h5, h6, h7, h8⟩ := loadN_sound hS.rr hl ⟨_, h2⟩
        have hb : b' = b2 := by have := h2.symm.trans h5; simp at this; exact this.1
        subst hb
        subst h4
        rcases hk with ⟨-, e', hk⟩ | ⟨h, -⟩
        · exact ⟨l', h7, Src.ofSlice w hk _ _ _ _ (by rw [h7.length, h8]) (fun j u hj => by rw [Addr.add_mid]; exact h6 j u hj) (RVL.one h1 h7)⟩
        · exact absurd h hs
  · rename_i s
    rw [br_eq] at h
    split at h
    · rename_i hs
      cases h
      rw [RV] at hx
      subst hx
      rcases hk with ⟨h, -⟩ | ⟨-, hk, rfl⟩
      · rw [h] at hs; cases hs
      · have : (s.data.toList.map fun b => Value.int .u8 (.ofNat b.toNat)) = byteCells s := rfl
        refine ⟨byteCells s, by rw [← this]; exact RVL.of_flat (flatL_bytes _), ?_⟩
        have hz : s.data.toList.length = s.size := Array.length_toList
        rw [hz]
        exact Src.ofString w hk s
    · cases h
  · cases h

omit [Val] in
/-- nothing is appended -/
theorem run_append_zero {t tx ty el : TypeId} {i : TypeInfo} (ht : P.underlying t = some (.slice el)) (hi : P.info? el = some i) {base : Option Addr} {sLen sCap : Nat} {x : Value} {news : List Value} (hs : Src P i.size tx x 0 news w) (hc : sLen ≤ sCap) :
    (Builtin.append_ #[t, tx] ty #[.slice base sLen sCap, x]).run P w = .ok (.slice base sLen sCap) w := by
  have hn : news = [] := List.eq_nil_of_length_eq_zero (by rw [hs.newsLen]; simp)
  subst hn
  have h2 : (Builtin.firstCells i.size 0 x).run P w = .ok #[] w := hs.cells
  rcases hs.kind with ⟨e', hk⟩ | hk <;> cases base <;> simp [Builtin.append_, run_underlying ht, run_underlying hk, sizeOf, typeInfo, hi, hs.len, hc, h2, storeCells]

omit [Val] in
theorem run_append_room {t tx ty el : TypeId} {i : TypeInfo} (ht : P.underlying t = some (.slice el)) (hi : P.info? el = some i) {b off sLen sCap n : Nat} {x : Value} {news : List Value} (hs : Src P i.size tx x n news w) (hc : sLen + n ≤ sCap)
    {w' : World} (hst : (storeCells ⟨b, off + sLen * i.size, none⟩ news 0).run P w = .ok () w') :
    (Builtin.append_ #[t, tx] ty #[.slice (some ⟨b, off, none⟩) sLen sCap, x]).run P w = .ok (.slice (some ⟨b, off, none⟩) (sLen + n) sCap) w' := by
  rcases hs.kind with ⟨e', hk⟩ | hk <;> simp [Builtin.append_, run_underlying ht, run_underlying hk, sizeOf, typeInfo, hi, hs.len, hc, hs.cells, Addr.add_lit, hst]

omit [Val] in
theorem size_zeroCells (z : Array Value) (n : Nat) : (Builtin.zeroCells z n).size = n * z.size := by simp [Builtin.zeroCells]

omit [Val] in
theorem grownCap_ge (w : World) (need old : Nat) (t : TypeId) : need ≤ grownCap w need old t := by
  unfold grownCap Question.cut
  exact Nat.le_add_right _ _

omit [Val] in
theorem mul_lim {a b c : Nat} (h : a * (b + 1) < c) : a < c ∧ a * b < c := by
  have : a * (b + 1) = a * b + a := Nat.mul_succ _ _
  omega

/-- the arm that grows -/
theorem grow_sound {t tx ty el : TypeId} {i : TypeInfo} {z : Value} (hS : RS NG Bar e S w) (hlim : S.next < 1099511627775) (ht : P.underlying t = some (.slice el)) (hi : P.info? el = some i) (hz : i.zero = some z) (hzs : z.cells.size = i.size) (h0 : i.size ≠ 0)
    {base : Option Addr} {sLen sCap n : Nat} {x : Value} {olds news : List Value} (hold : (Builtin.firstCells i.size sLen (.slice base sLen sCap)).run P w.drew = .ok olds.toArray w.drew) (hol : olds.length = sLen * i.size) (hs : Src P i.size tx x n news w) (hg : sCap < sLen + n)
    (hfit : (sLen + n) * (i.bytes + 1) < 1099511627775) {NB : Blk} (hel : NB.elem = el) (hes : NB.es = i.size) (hsz : NB.size = (sLen + n) * i.size) (hget : ∀ j v, NB.get j = some v → ∃ v', (olds ++ news)[j]? = some v' ∧ RV e v v') :
    ∃ e' w', (Builtin.append_ #[t, tx] ty #[.slice base sLen sCap, x]).run P w = .ok (.slice (some ⟨w.heap.size, 0, none⟩) (sLen + n) (grownCap w (sLen + n) sCap el)) w' ∧ Sub e e' ∧
      RS NG Bar e' (St.mk (S.heap.set (some NB) S.next) S.old (S.next + 1) S.maps S.ro) w' ∧ e' S.next = some (w.heap.size, grownCap w (sLen + n) sCap el) ∧ Below Bar w w' := by
  obtain ⟨hf1, hf2⟩ := mul_lim hfit
  have hrun := run_append_grow_src (P := P) w t tx ty el i z ht hi hz base sLen sCap olds hold x n news hs hg (by omega) (growslice_fits (by omega) (by omega))
  have hSd : RS NG Bar e S w.drew := hS.heap_eq rfl
  have hge := grownCap_ge w (sLen + n) sCap el
  have hsize : ((olds ++ news).toArray ++ Builtin.zeroCells z.cells (grownCap w (sLen + n) sCap el - (sLen + n))).size = grownCap w (sLen + n) sCap el * i.size := by
    rw [Array.size_append, size_zeroCells, hzs, List.size_toArray, List.length_append, hol, hs.newsLen, ← Nat.add_mul, ← Nat.add_mul]
    congr 1; omega
  have := add_new hSd hlim NB ((olds ++ news).toArray ++ Builtin.zeroCells z.cells (grownCap w (sLen + n) sCap el - (sLen + n))) (grownCap w (sLen + n) sCap el)
    (fun h => absurd (hes.symm.trans h) h0) (fun _ => ⟨by rw [hes]; exact hsize, grownCap_le_maxLen _ _ _ _ (by unfold maxLen; omega)⟩) (by rw [hsize, hsz]; exact Nat.mul_le_mul_right _ hge)
    (fun j v hv => by
      obtain ⟨v', h1, h2⟩ := hget j v hv
      have hlt : j < (olds ++ news).length := (List.getElem?_eq_some_iff.1 h1).1
      refine ⟨v', ?_, h2⟩
      rw [Array.getElem?_append_left (by simpa using hlt)]
      simpa using h1)
  rw [hel] at this
  exact ⟨_, _, hrun, this.1, this.2, upd_same _ _ _, ((Below.refl _ _).drew).alloc hS.room _⟩

theorem append_sound {β : Type} {str : Bool} {elem : TypeId} {t tx ty : TypeId} {it : TypeInfo} {s x s' x' : Value} {k : Value → St → Option β} {r : β} (hS : RS NG Bar e S w)
    (ht : P.underlying t = some (.slice elem)) (hi : P.info? elem = some it) (hz : ∃ z, zeroOf P elem = some z) (h0 : it.size ≠ 0)
    (hk : (str = false ∧ ∃ e', P.underlying tx = some (.slice e')) ∨ (str = true ∧ P.underlying tx = some .string ∧ it.size = 1)) (hs : RV e s s') (hx : RV e x x')
    (h : appendK NG S str it.size it.bytes elem s x k = some r) :
    ∃ v S', k v S' = some r ∧ ∃ e' v' w', (Builtin.append_ #[t, tx] ty #[s', x']).run P w = .ok v' w' ∧ Sub e e' ∧ RV e' v v' ∧ RS NG Bar e' S' w' ∧ Below Bar w w' := by
  obtain ⟨z, hz⟩ := hz
  obtain ⟨it', zv, hi', hz2, hz3, hz4, hz5⟩ := zeroOf_spec hz
  rw [hi] at hi'
  cases hi'
  have hzs : zv.cells.size = it.size := by rw [← Array.length_toList, ← hz3]; exact hz5
  unfold appendK at h
  split at h
  · cases h
  · rename_i n new happ
    rw [br_eq] at h
    split at h
    · rename_i hsing
      obtain ⟨news, hRV, hsrc⟩ := src_sound (P := P) (tx := tx) hS happ hx hk hsing
      have hnl : new.length = n * it.size := by rw [← hRV.length]; exact hsrc.newsLen
      split at h
      · rename_i sLen sCap
        rw [br_eq] at h
        split at h
        · rename_i hc
          rw [Bool.and_eq_true, beq_dec, beq_dec, decide_eq_true_eq, decide_eq_true_eq] at hc
          obtain ⟨rfl, rfl⟩ := hc
          rw [RV] at hs
          subst hs
          rw [br_eq, beq_dec] at h
          split at h
          · rename_i hn
            have hn : n = 0 := of_decide_eq_true hn
            subst hn
            exact ⟨_, S, h, e, _, w, run_append_zero ht hi hsrc (Nat.le_refl _), Sub.refl _, rfl, hS, Below.refl _ _⟩
          · rename_i hn
            have hn : n ≠ 0 := by simpa using hn
            rw [br_eq, blt_dec] at h
            split at h
            · rename_i hfit
              have hfit : n * (it.bytes + 1) < 1099511627775 := of_decide_eq_true hfit
              unfold newK at h
              rw [br_eq, blt_dec] at h
              split at h
              · rename_i hlim
                simp only [forceN_eq, setK_eq] at h
                obtain ⟨e', w', h1, h2, h3, h4, h5⟩ := grow_sound (ty := ty) (base := none) (sLen := 0) (sCap := 0) (olds := []) hS (of_decide_eq_true hlim) ht hi hz2 hzs h0 (run_firstCells_none _ _ _ _ _) (by simp) hsrc (by omega) (by simpa using hfit)
                  (NB := Blk.mk new .leaf (n * it.size) elem it.size) rfl rfl (by simp) (fun j v hv => by
                    obtain ⟨_, h7⟩ := blk_get_leaf hv
                    simpa using hRV.get h7)
                rw [Nat.zero_add] at h1 h4
                exact ⟨_, _, h, e', _, w', h1, h2, RV.slice_u h4 (grownCap_ge _ _ _ _), h3, h5⟩
              · cases h
            · cases h
        · cases h
      · rename_i b o sLen sCap
        rw [RV] at hs
        obtain ⟨ab, cp, he, hsp, hs', hle⟩ := hs
        rw [br_eq, beq_dec] at h
        split at h
        · rename_i hbig
          have hbig : sCap = big := of_decide_eq_true hbig
          subst hbig
          rw [if_pos rfl] at hs'
          have hle := hle rfl
          rw [br_eq, beq_dec] at h
          split at h
          · rename_i hn
            have hn : n = 0 := of_decide_eq_true hn
            subst hn
            subst hs'
            exact ⟨_, S, h, e, _, w, run_append_zero ht hi hsrc hle, Sub.refl _, RV.slice_u he hle, hS, Below.refl _ _⟩
          · split at h
            · cases h
            · rename_i B hB
              rw [br_eq] at h
              split at h
              · rename_i hc
                simp only [Bool.and_eq_true, beq_dec, blt_dec, ble_dec, decide_eq_true_eq] at hc
                obtain ⟨⟨⟨⟨⟨⟨⟨ho, hes⟩, hsz⟩, hel⟩, hfit⟩, hNG⟩, hblim⟩, hnlim⟩ := hc
                have hblim : b < 1099511627775 := hblim
                have hnlim : S.next < 1099511627775 := hnlim
                have hfit : (sLen + n) * (it.bytes + 1) < 1099511627775 := hfit
                subst ho
                rw [forceN_eq] at h
                obtain ⟨over', h, hw1, hw2⟩ := write_spec _ _ _ _ _ _ h
                simp only [forceN_eq, setK_eq] at h
                have hS1 := to_old hS hB (by omega)
                obtain ⟨ab', cp', he', hRB⟩ := hS.blk b B hB
                have : ab' = ab ∧ cp' = cp := by rw [he] at he'; cases he'; exact ⟨rfl, rfl⟩
                obtain ⟨rfl, rfl⟩ := this
                obtain ⟨cs, hc1, hc2, hc3, hc4, hc5⟩ := hRB.cells
                have hcs : cs.size = cp' * it.size := by rw [← hes]; exact (hc3 (by rw [hes]; exact h0)).1
                have hget : ∀ j v, (Blk.mk B.base over' ((sLen + n) * it.size) B.elem B.es).get j = some v → (j < B.size ∧ B.get j = some v) ∨ (B.size ≤ j ∧ j < B.size + new.length ∧ new[j - B.size]? = some v) := by
                  intro j v hv
                  unfold Blk.get at hv
                  rw [br_eq, blt_dec] at hv
                  split at hv
                  · rename_i hlt
                    have hlt : j < (sLen + n) * it.size := of_decide_eq_true hlt
                    simp only [hw2] at hv
                    by_cases cd : B.size ≤ j ∧ j < B.size + new.length
                    · rw [if_pos cd] at hv
                      right
                      refine ⟨cd.1, cd.2, ?_⟩
                      have hu : new[j - B.size]? = some (new[j - B.size]'(by omega)) := List.getElem?_eq_getElem (by omega)
                      rw [hu] at hv ⊢
                      exact hv
                    · rw [if_neg cd] at hv
                      have hl : j < B.size := by
                        rw [hsz, hnl] at cd
                        rw [Nat.add_mul] at hlt
                        omega
                      left
                      refine ⟨hl, ?_⟩
                      unfold Blk.get
                      rw [br_eq, blt_dec, if_pos (decide_eq_true hl)]
                      exact hv
                  · cases hv
                by_cases hroom : sLen + n ≤ cp'
                · have hfitc : B.size + new.length ≤ cs.size := by
                    rw [hcs, hsz, hnl, ← Nat.add_mul]
                    exact Nat.mul_le_mul_right _ hroom
                  have hst : (storeCells ⟨ab', 0 + sLen * it.size, none⟩ news 0).run P w = .ok () (w.setRow ab' (cs.toList.take B.size ++ news ++ cs.toList.drop (B.size + news.length)).toArray) := by
                    have := run_storeCells_at P ab' B.size B.elem news 0 cs w hc1 (by rw [hRV.length]; simpa using hfitc) hsrc.one
                    rw [Nat.zero_add, ← hsz]
                    simpa using this
                  have hrun := run_append_room (ty := ty) ht hi hsrc hroom hst
                  have hRBn := rb_written (size' := (sLen + n) * it.size) hRV hc1 (fun h => absurd (hes.symm.trans h) h0) hc3 (by rw [hcs]; exact Nat.mul_le_mul_right _ hroom) hc5 hfitc hw2
                    (fun j hj => by rw [hsz, hnl]; rw [Nat.add_mul] at hj; omega)
                  have hgo : ∀ m, (S.old.set (some B) b).get m = if m = b then some B else S.old.get m := fun m => get_set _ _ _ _ (by omega)
                  have hgh : ∀ m, (S.heap.set none b).get m = if m = b then none else S.heap.get m := fun m => get_set _ _ _ _ (by omega)
                  have hkeepB : ∀ (C : Blk) (c : Nat), C.size ≤ B.size → RB e C ab' c w → RB e C ab' c (w.setRow ab' (cs.toList.take B.size ++ news ++ cs.toList.drop (B.size + news.length)).toArray) := by
                    intro C c hCs hC
                    obtain ⟨cs2, g1, g2, g3, g4, g5⟩ := hC.cells
                    have g1' := hc1.symm.trans g1
                    simp only [Option.some.injEq, Obj.cells.injEq] at g1'
                    obtain ⟨rfl, hce, -⟩ := g1'
                    have hlen : (cs.toList.take B.size ++ news ++ cs.toList.drop (B.size + news.length)).length = cs.size := by
                      have := hRV.length
                      simp only [List.length_append, List.length_take, List.length_drop, Array.length_toList]; omega
                    refine ⟨_, setRow_heap w ab' cs _ _ (0, 0) g1, fun h => by rw [List.size_toArray, hlen]; exact g2 h, fun h => by rw [List.size_toArray, hlen]; exact g3 h, by rw [List.size_toArray, hlen]; exact g4, fun j v hv => ?_⟩
                    obtain ⟨v', g6, g7⟩ := g5 j v hv
                    have hj : j < C.size := by
                      unfold Blk.get at hv
                      rw [br_eq, blt_dec] at hv
                      split at hv
                      · rename_i hh; exact of_decide_eq_true hh
                      · cases hv
                    refine ⟨v', ?_, g7⟩
                    rw [List.getElem?_toArray, list_written _ _ _ (by rw [hRV.length]; simpa using hfitc), if_neg (by omega)]
                    simpa using g6
                  have hal := add_alias (NB := Blk.mk B.base over' ((sLen + n) * it.size) B.elem B.es) hS1 hnlim he (B := B) (by show (S.old.set (some B) b).get b = _; rw [hgo]; simp) hNG
                    (fun m C c hC hm => by
                      have hC' : (S.heap.set none b).get m = some C := hC
                      rw [hgh] at hC'
                      split at hC'
                      · cases hC'
                      · rename_i hne; exact hne (hS.inj m b C B _ c cp' hC' hB hm he))
                    (fun m C c hC hm => by
                      have hC' : (S.old.set (some B) b).get m = some C := hC
                      rw [hgo] at hC'
                      split at hC'
                      · cases hC'; exact Nat.le_refl _
                      · exact (hS.sep m b C B _ c cp' hC' hB hm he).2)
                    (by show B.es ≠ 0; rw [hes]; exact h0) (by show B.size ≤ (sLen + n) * it.size; rw [hsz, Nat.add_mul]; omega) hRBn
                    (fun m C c hC hm => by
                      have hC' : (S.old.set (some B) b).get m = some C := hC
                      rw [hgo] at hC'
                      split at hC'
                      · rename_i hmb
                        cases hC'
                        subst hmb
                        rw [he] at hm
                        cases hm
                        exact hkeepB B _ (Nat.le_refl _) hRB
                      · obtain ⟨x2, y2, g1, g2⟩ := hS.old m C hC'
                        rw [hm] at g1
                        cases g1
                        exact hkeepB C _ (hS.sep m b C B _ _ cp' hC' hB hm he).2 g2)
                  subst hs'
                  exact ⟨_, _, h, _, _, _, hrun, hal.1, RV.slice_u (upd_same _ _ _) hroom, hal.2, below_setRow (Below.refl _ _) (hS.bar b _ _ he hNG) _⟩
                · have hold : (Builtin.firstCells it.size sLen (.slice (some ⟨ab', 0, none⟩) sLen cp')).run P w.drew = .ok (cs.toList.take B.size).toArray w.drew :=
                    run_firstCells_some w.drew it.size sLen _ _ _ _ (by simp only [List.length_take, Array.length_toList]; rw [Nat.min_eq_left hc4, hsz])
                      (fun j v hj => by
                        rw [Addr.add_mid, Nat.zero_add]
                        rw [List.getElem?_take] at hj
                        split at hj
                        · rw [show w.drew.cell? ⟨ab', j, none⟩ = w.cell? ⟨ab', j, none⟩ from rfl]
                          simpa [World.cell?, hc1] using hj
                        · cases hj)
                  obtain ⟨e', w', g1, g2, g3, g4, g5⟩ := grow_sound (ty := ty) (base := some ⟨ab', 0, none⟩) (sLen := sLen) (sCap := cp') (olds := cs.toList.take B.size) hS1 hnlim ht hi hz2 hzs h0 hold
                    (by simp only [List.length_take, Array.length_toList]; rw [Nat.min_eq_left hc4, hsz]) hsrc (by omega) hfit
                    (NB := Blk.mk B.base over' ((sLen + n) * it.size) B.elem B.es) hel hes rfl (fun j v hv => by
                      have htl : (cs.toList.take B.size).length = B.size := by simp only [List.length_take, Array.length_toList]; exact Nat.min_eq_left hc4
                      rcases hget j v hv with ⟨h2, h3⟩ | ⟨h2, h3, h4⟩
                      · obtain ⟨v', h5, h6⟩ := hc5 j v h3
                        exact ⟨v', by rw [List.getElem?_append_left (by omega), List.getElem?_take, if_pos h2]; simpa using h5, h6⟩
                      · obtain ⟨v', h5, h6⟩ := hRV.get h4
                        exact ⟨v', by rw [List.getElem?_append_right (by omega), htl]; exact h5, h6⟩)
                  subst hs'
                  exact ⟨_, _, h, e', _, w', g1, g2, RV.slice_u g4 (grownCap_ge _ _ _ _), g3, g5⟩
              · cases h
        · rename_i hnb
          have hnb : sCap ≠ big := fun h => hnb (decide_eq_true h)
          have hs' := hs'.trans (by rw [if_neg hnb])
          rw [br_eq, blt_dec] at h
          split at h
          · rename_i hcb
            have hcb : sCap < big := of_decide_eq_true hcb
            rw [br_eq, ble_dec] at h
            split at h
            · rename_i hroom
              have hroom : sLen + n ≤ sCap := of_decide_eq_true hroom
              rw [forceN_eq] at h
              obtain ⟨S', w', h1, h2, h3, h4, -⟩ := store_sound (P := P) hS h hRV he
              subst hs'
              exact ⟨_, S', h1, e, _, w', run_append_room ht hi hsrc hroom (h4 0 rfl), Sub.refl _, RV.slice_k he hnb, h2, h3⟩
            · rename_i hroom
              have hroom : ¬ sLen + n ≤ sCap := fun h => hroom (decide_eq_true h)
              rw [br_eq, blt_dec] at h
              split at h
              · rename_i hfit
                have hfit : (sLen + n + sCap) * (it.bytes + 1) < 1099511627775 := of_decide_eq_true hfit
                split at h
                · cases h
                · rename_i l hl
                  simp only [forceL0_eq, forceN_eq] at h
                  obtain ⟨b2, k2, l', h5, h6, h7, h8⟩ := loadN_sound hS.rr hl ⟨_, he⟩
                  have : ab = b2 := by rw [he] at h5; cases h5; rfl
                  subst this
                  unfold newK at h
                  rw [br_eq, blt_dec] at h
                  split at h
                  · rename_i hlim
                    simp only [forceN_eq, setK_eq] at h
                    have hold : (Builtin.firstCells it.size sLen (.slice (some ⟨ab, o, none⟩) sLen sCap)).run P w.drew = .ok l'.toArray w.drew :=
                      run_firstCells_some w.drew it.size sLen _ _ _ _ (by rw [h7.length, h8]) (fun j v hj => by rw [Addr.add_mid]; exact h6 j v hj)
                    obtain ⟨e', w', g1, g2, g3, g4, g5⟩ := grow_sound (ty := ty) (base := some ⟨ab, o, none⟩) (sLen := sLen) (sCap := sCap) (olds := l') hS (of_decide_eq_true hlim) ht hi hz2 hzs h0 hold (by rw [h7.length, h8]) hsrc (by omega)
                      (by have : (sLen + n) * (it.bytes + 1) ≤ (sLen + n + sCap) * (it.bytes + 1) := Nat.mul_le_mul_right _ (by omega)
                          omega)
                      (NB := Blk.mk (l ++ new) .leaf ((sLen + n) * it.size) elem it.size) rfl rfl rfl (fun j v hv => by
                        obtain ⟨_, h9⟩ := blk_get_leaf hv
                        exact (h7.append hRV).get h9)
                    subst hs'
                    exact ⟨_, _, h, e', _, w', g1, g2, RV.slice_u g4 (grownCap_ge _ _ _ _), g3, g5⟩
                  · cases h
              · cases h
          · cases h
      · cases h
    · cases h
end Go.Sim
namespace Go.Sim
variable [Val]
open Go.RowKit
variable {P : Program} {e : Env} {NG Bar : Nat} {S : St} {w : World}

def Globs (G : Nat) (e : Env) : Prop := ∀ g, g < G → e g = some (g, 0)

/-- what is asked of calls -/
structure CallOK (P : Program) (G : Nat) (call : CallT) : Prop where
  body : ∀ {NG f args S r}, call NG f args S = some r → ∃ fn, P.funcs[f]? = some fn ∧ fn.body.isSome = true
  calls : ∀ {NG Bar f args S v S' e w args'}, call NG f args S = some (v, S') → RVL e args args' → RS NG Bar e S w → Globs G e →
    Calls P f args'.toArray w fun en w' => ∃ e' v', en = .returned v' ∧ Sub e e' ∧ RV e' v v' ∧ RS NG Bar e' S' w' ∧ Below Bar w w'

def NumOK (P : Program) : Prop := ∀ (f : FuncId) (fn : Func), P.funcs[f]? = some fn → fn.body.isSome = true → (fn.name == "runtime.NumGoroutine") = false

theorem callee_sound {A : Fr} {a : Act} (hF : RF e A a) {f : Operand} {args : List Operand} {fid : FuncId} {vs : List Value} (h : callee A f args = some (fid, vs)) :
    ∃ vs' first captured, a.eval f = .func (.func fid) first captured ∧ RVL e vs vs' ∧ vs' = first.toList ++ args.map a.eval ++ captured.toList := by
  unfold callee at h
  split at h
  · rename_i f' first captured vs0 hf hv
    cases h
    have h1 := hF.ev hf
    rw [RV] at h1
    obtain ⟨f2, c2, h2, h3, h4⟩ := h1
    exact ⟨_, _, _, h4, (h2.append (evL_sound hF hv)).append h3, rfl⟩
  · cases h

omit [Val] in
theorem run_call {a : Act} {o : Oper} {c : Call} {f : Operand} {fid : FuncId} {first captured : Array Value} {fn : Func} (ho : o.op = .call c) (hc : c.callee = .value f) (hf : a.eval f = .func (.func fid) first captured) (hfn : P.funcs[fid]? = some fn) (hb : fn.body.isSome = true) (hn : NumOK P) :
    (execOp a.eval o).run P w = .ok (.enter fid (first.toList ++ c.args.toList.map a.eval ++ captured.toList).toArray) w := by
  have h1 := hn fid fn hfn hb
  have h2 : fn.body.isNone = false := by cases h : fn.body <;> simp_all
  have h3 : (first ++ c.args.map a.eval ++ captured) = (first.toList ++ c.args.toList.map a.eval ++ captured.toList).toArray := by
    apply Array.ext'; simp
  have h1' : ¬ fn.name = "runtime.NumGoroutine" := by simpa using h1
  have h2' : ¬ fn.body = none := by intro h; rw [h] at h2; cases h2
  rw [← h3]
  simp [execOp, ho, resolve, hc, hf, Deferred.ofValue, invoke, callFunc, hfn, h1', h2']

section
variable {A : Fr} {a : Act} (hF : RF e A a) {o : Oper} (hS : RS NG Bar e S w) {β : Type} {k : Value → St → Option β} {r : β}
include hF hS

theorem eff_st {t : TypeId} {x y : Operand} {it : TypeInfo} (ho : o.op = .store t x y) (hi : P.info? t = some it)
    (h : (match ev A x, ev A y with | some (.pointer (some ⟨b, o, none⟩)), some v => br (Nat.beq v.cells.toList.length it.size) (storeK NG S b o v.cells.toList fun S => k undef S) none | _, _ => none) = some r) :
    ∃ v S', k v S' = some r ∧ Eff P a o e NG Bar v S' w := by
  split at h
  · rename_i b off v hx hy
    rw [br_eq, beq_dec] at h
    split at h
    · rename_i hsz
      have hsz : v.cells.toList.length = it.size := of_decide_eq_true hsz
      have h1 := hF.ev hx
      have h2 := hF.ev hy
      rw [RV] at h1
      obtain ⟨b', c, h3, h4, h5⟩ := h1
      obtain ⟨S', w', h6, h7, h8, h9, -⟩ := store_sound (P := P) hS h h2.cells h3
      refine ⟨undef, S', h6, eff_skip ?_ (Sub.refl _) h7 h8⟩
      have hsz' : (a.eval y).cells.size = it.size := by rw [← Array.length_toList, h2.cells.length]; exact hsz
      have hrun : (storeCells ⟨b', off, none⟩ (a.eval y).cells.toList).run P w = .ok () w' := h9 0 rfl
      simp [execOp, ho, h5, Instr.storeAt, Instr.sureAddr, storeVar, sizeOf, typeInfo, hi, hsz', hrun]
    · cases h
  · cases h

theorem eff_mks {t elem : TypeId} {l c : Operand} {it : TypeInfo} {z : List Value} (ho : o.op = .makeSlice t l c) (hu : P.underlying t = some (.slice elem)) (hi : P.info? elem = some it) (hz : zeroOf P elem = some z)
    (h : (match ev A l, ev A c with
    | some (.int _ (.ofNat l)), some (.int _ (.ofNat c)) =>
      br (Nat.ble l c) (br (Nat.blt (c * (it.bytes + 1)) lim) (br (Nat.blt c big) (forceN (c * it.size) fun n => newK S ((List.replicate c z).flatten) n elem 0 fun m S => k (.slice (some ⟨m, 0, none⟩) l c) S) none) none) none
    | _, _ => none) = some r) : ∃ v S', k v S' = some r ∧ Eff P a o e NG Bar v S' w := by
  split at h
  · rename_i k1 l k2 c hl hc
    rw [br_eq, ble_dec] at h
    split at h
    · rename_i hlc
      have hlc : l ≤ c := of_decide_eq_true hlc
      rw [br_eq, blt_dec] at h
      split at h
      · rename_i hfit
        have hfit : c * (it.bytes + 1) < 1099511627775 := of_decide_eq_true hfit
        rw [br_eq, blt_dec] at h
        split at h
        · rename_i hcb
          have hcb : c < big := of_decide_eq_true hcb
          rw [forceN_eq] at h
          obtain ⟨it', zv, hi', hz2, hz3, hz4, hz5⟩ := zeroOf_spec hz
          rw [hi] at hi'; cases hi'
          have hzs : zv.cells.size = it.size := by rw [← Array.length_toList, ← hz3]; exact hz5
          obtain ⟨hf1, hf2⟩ := mul_lim hfit
          have hx := hF.ev hl
          have hy := hF.ev hc
          rw [RV] at hx
          rw [RV] at hy
          have hb : ((it.bytes : Int) * (c : Int)) ≤ 281474976710656 := by
            have h : ((it.bytes * c : Nat) : Int) ≤ 281474976710656 := by rw [Nat.mul_comm]; omega
            rwa [Int.natCast_mul] at h
          have hrun := run_make (P := P) w t elem it zv hu hi hz2 k1 k2 (l : Int) (c : Int) (by omega) (by omega) hb (by omega)
          have hml : (madeCells zv.cells (c * it.size)).toList = (List.replicate c z).flatten := by rw [← hzs, made_rep, hz3]
          have hflat := flat_rep hz4 c
          obtain ⟨S', h1, h2, h3⟩ := new_sound hS h (madeCells zv.cells (c * it.size)) 0 (fun _ => size_madeCells _ _) (fun h => absurd rfl h) (by rw [size_madeCells]; exact Nat.le_refl _)
            (fun i v _ hv => ⟨v, by rw [← hml] at hv; simpa using hv, RV.of_flat (flat_get hflat hv)⟩)
          refine ⟨_, S', h1, eff_run (e' := upd e S.next (w.heap.size, 0)) (v' := .slice (some ⟨w.heap.size, 0, none⟩) l c) ?_ h2 (RV.slice_k (upd_same _ _ _) (by omega)) h3 (below_alloc hS _)⟩
          simp only [Int.toNat_natCast] at hrun
          simp [execOp, ho, hx, hy]
          have hrun' : (Instr.makeSlice t (.int k1 (Int.ofNat l)) (.int k2 (Int.ofNat c))).run P w = .ok (.slice (some ⟨w.heap.size, 0, none⟩) l c) (w.alloc (.cells (madeCells zv.cells (c * it.size)) elem)) := hrun
          simpa using congrArg (fun x => x.andThen fun a w' => Result.ok (Next.value a) w') hrun'
        · cases h
      · cases h
    · cases h
  · cases h

theorem eff_app {str : Bool} {s x : Operand} {st xt elem : TypeId} {it : TypeInfo} {c : Call} (ho : o.op = .call c) (hc : c = { callee := .builtin .append, args := ⟨[s, x]⟩, argTypes := ⟨[st, xt]⟩ })
    (hu : P.underlying st = some (.slice elem)) (hi : P.info? elem = some it) (hz : ∃ z, zeroOf P elem = some z) (h0 : it.size ≠ 0)
    (hk : (str = false ∧ ∃ e', P.underlying xt = some (.slice e')) ∨ (str = true ∧ P.underlying xt = some .string ∧ it.size = 1))
    (h : (match ev A s, ev A x with | some s, some x => appendK NG S str it.size it.bytes elem s x k | _, _ => none) = some r) : ∃ v S', k v S' = some r ∧ Eff P a o e NG Bar v S' w := by
  split at h
  · rename_i sv xv hs hx
    obtain ⟨v, S', h1, e', v', w', h2, h3, h4, h5, h6⟩ := append_sound (t := st) (tx := xt) (ty := o.type) hS hu hi hz h0 hk (hF.ev hs) (hF.ev hx) h
    refine ⟨v, S', h1, eff_run ?_ h3 h4 h5 h6⟩
    subst hc
    simp [execOp, ho, resolve, invoke, builtin, h2]
  · cases h

theorem eff_call {G : Nat} {call : CallT} (hC : CallOK P G call) (hG : Globs G e) (hn : NumOK P) {c : Call} {f : Operand} (ho : o.op = .call c) (hc : c.callee = .value f)
    (h : (match callee A f c.args.toList with | none => none | some (f, args) => match call NG f args S with | none => none | some (v, S) => k v S) = some r) :
    ∃ v S', k v S' = some r ∧ Eff P a o e NG Bar v S' w := by
  split at h
  · cases h
  · rename_i fid vs hcal
    split at h
    · cases h
    · rename_i v S' hcall
      obtain ⟨vs', first, captured, h1, h2, h3⟩ := callee_sound hF hcal
      obtain ⟨fn, h4, h5⟩ := hC.body hcall
      refine ⟨v, S', h, fun K Q hK => ?_⟩
      unfold Oper.wp
      rw [run_call ho hc h1 h4 h5 hn, ← h3]
      refine (hC.calls hcall h2 hS hG).mono fun en w' hpost => ?_
      obtain ⟨e', v', rfl, h6, h7, h8, h9⟩ := hpost
      exact hK e' v' w' h6 h7 h8 h9
end

/-! ### maps -/
omit [Val] in
theorem upd_old {e : Env} {n m : Nat} {p q : Nat × Nat} (hf : e m = none) (h : e n = some p) : upd e m q n = e n := by
  have : n ≠ m := fun hh => by rw [hh, hf] at h; cases h
  simp only [upd, this, if_false]

theorem add_map (hS : RS NG Bar e S w) (hlim : S.next < 1099511627775) (o : MO) (ob : Obj) (ho : ∀ e' w' b, w'.heap[b]? = some ob → RM e' o b w') :
    Sub e (upd e S.next (w.heap.size, 0)) ∧ RS NG Bar (upd e S.next (w.heap.size, 0)) (St.mk S.heap S.old (S.next + 1) (S.maps.set (some o) S.next) S.ro) (w.alloc ob) := by
  have hfr := hS.fresh S.next (Nat.le_refl _)
  have hsub := upd_sub (p := (w.heap.size, 0)) hfr
  have hget : ∀ m, (S.maps.set (some o) S.next).get m = if m = S.next then some o else S.maps.get m := fun m => get_set _ _ _ _ (by omega)
  have hsz : (w.alloc ob).heap.size = w.heap.size + 1 := by show (w.heap.push _).size = _; simp
  have key : ∀ {n p}, e n = some p → upd e S.next (w.heap.size, 0) n = e n := fun h => upd_old hfr h
  refine ⟨hsub, ?_⟩
  refine ⟨fun n B hB => ?_, fun n B hB => ?_, fun n m B C b k k' hn hm h4 h5 => ?_, fun n m B C b k k' hn hm h4 h5 => ?_, fun n hn => ?_, fun n b c hn hNG => ?_, fun n b c hn => ?_, ?_, ?_, fun n hn => ?_, fun n l hl => ?_, fun n m l l' b k k' hn hm h4 h5 => ?_,
    fun n B hB => let ⟨b, k, h1, h2⟩ := hS.ro n B hB; ⟨b, k, hsub _ _ h1, h2.congr hsub (heap_alloc_lt _ _ (hS.hi _ _ _ h1))⟩, fun n m B C b k k' hn hm h4 h5 => ?_, upd_roo hS⟩
  · obtain ⟨b, c, h4, h5⟩ := hS.blk n B hB
    exact ⟨b, c, hsub _ _ h4, h5.congr hsub (heap_alloc_lt _ _ (hS.hi _ _ _ h4))⟩
  · obtain ⟨b, c, h4, h5⟩ := hS.old n B hB
    exact ⟨b, c, hsub _ _ h4, h5.congr hsub (heap_alloc_lt _ _ (hS.hi _ _ _ h4))⟩
  · obtain ⟨_, _, g1, _⟩ := hS.blk n B hn
    obtain ⟨_, _, g2, _⟩ := hS.blk m C hm
    rw [key g1] at h4
    rw [key g2] at h5
    exact hS.inj n m B C b k k' hn hm h4 h5
  · obtain ⟨_, _, g1, _⟩ := hS.old n B hn
    obtain ⟨_, _, g2, _⟩ := hS.blk m C hm
    rw [key g1] at h4
    rw [key g2] at h5
    exact hS.sep n m B C b k k' hn hm h4 h5
  · have hn' : S.next + 1 ≤ n := hn
    have : n ≠ S.next := by omega
    simp only [upd, this, if_false]
    exact hS.fresh n (by omega)
  · by_cases e1 : n = S.next
    · subst e1
      rw [upd_same] at hn
      cases hn
      exact hS.room
    · simp only [upd, e1, if_false] at hn
      exact hS.bar n b c hn hNG
  · rw [hsz]
    by_cases e1 : n = S.next
    · subst e1
      rw [upd_same] at hn
      cases hn
      omega
    · simp only [upd, e1, if_false] at hn
      have := hS.hi n b c hn
      omega
  · rw [hsz]; have := hS.room; omega
  · show NG ≤ S.next + 1
    have := hS.low; omega
  · by_cases e1 : n = S.next
    · subst e1; exact ⟨_, upd_same _ _ _⟩
    · have hn' : n < S.next + 1 := hn
      obtain ⟨p, hp⟩ := hS.full n (by omega)
      exact ⟨p, hsub _ _ hp⟩
  · have hl' : (S.maps.set (some o) S.next).get n = some l := hl
    rw [hget] at hl'
    split at hl'
    · rename_i hn
      cases hl'
      subst hn
      exact ⟨w.heap.size, 0, upd_same _ _ _, ho _ _ _ (heap_alloc_at _ _)⟩
    · obtain ⟨b, k, h4, h5⟩ := hS.mp n l hl'
      exact ⟨b, k, hsub _ _ h4, h5.congr hsub (heap_alloc_lt _ _ (hS.hi _ _ _ h4))⟩
  · have hn' : (S.maps.set (some o) S.next).get n = some l := hn
    have hm' : (S.maps.set (some o) S.next).get m = some l' := hm
    rw [hget] at hn' hm'
    by_cases e1 : n = S.next <;> by_cases e2 : m = S.next
    · rw [e1, e2]
    · subst e1
      rw [if_neg e2] at hm'
      rw [upd_same] at h4
      cases h4
      simp only [upd, e2, if_false] at h5
      exact absurd (hS.hi _ _ _ h5) (Nat.lt_irrefl _)
    · subst e2
      rw [if_neg e1] at hn'
      rw [upd_same] at h5
      cases h5
      simp only [upd, e1, if_false] at h4
      exact absurd (hS.hi _ _ _ h4) (Nat.lt_irrefl _)
    · rw [if_neg e1] at hn'
      rw [if_neg e2] at hm'
      simp only [upd, e1, e2, if_false] at h4 h5
      exact hS.mpi n m l l' b k k' hn' hm' h4 h5
  · obtain ⟨_, _, g1, _⟩ := hS.ro n B hn
    obtain ⟨_, _, g2, _⟩ := hS.blk m C hm
    rw [key g1] at h4
    rw [key g2] at h5
    exact hS.roi n m B C b k k' hn hm h4 h5

theorem set_map (hS : RS NG Bar e S w) {n b c : Nat} {l o : MO} (hlim : n < 1099511627775) (hNG : NG ≤ n) (hl : S.maps.get n = some l) (he : e n = some (b, c))
    {ob0 ob : Obj} (hb : w.heap[b]? = some ob0) (hno : ∀ cs t f, ob0 ≠ .cells cs t f) (hnew : ∀ w' : World, w'.heap[b]? = some ob → RM e o b w') :
    RS NG Bar e (St.mk S.heap S.old S.next (S.maps.set (some o) n) S.ro) { w with heap := w.heap.setIfInBounds b ob } ∧ Below Bar w { w with heap := w.heap.setIfInBounds b ob } := by
  have hget : ∀ m, (S.maps.set (some o) n).get m = if m = n then some o else S.maps.get m := fun m => get_set _ _ _ _ (by omega)
  have hlt : b < w.heap.size := (Array.getElem?_eq_some_iff.1 hb).1
  have hother : ∀ o x, x ≠ b → (w.heap.setIfInBounds b o)[x]? = w.heap[x]? := fun o x hx => Array.getElem?_setIfInBounds_ne (fun h => hx h.symm)
  have hcells : ∀ {B x k}, RB e B x k w → x ≠ b := fun h hx => by
    obtain ⟨cs, h1, _⟩ := h.cells
    subst hx
    rw [hb] at h1
    cases h1
    exact hno _ _ _ rfl
  refine ⟨⟨fun m B hB => ?_, fun m B hB => ?_, hS.inj, hS.sep, hS.fresh, hS.bar, fun m x y hm => ?_, ?_, hS.low, hS.full, fun m lm hm => ?_, fun m m' lm lm' x k k' h1 h2 h4 h5 => ?_,
    fun m B hB => let ⟨x, k, h4, h5⟩ := hS.ro m B hB; ⟨x, k, h4, h5.congr (Sub.refl _) (hother _ _ (fun hx => by obtain ⟨_, _, _, g, _⟩ := h5; rw [hx, hb] at g; cases g; exact hno _ _ _ rfl))⟩, hS.roi, hS.roo⟩, ⟨rfl, rfl, rfl, ?_, fun k hk => ?_⟩⟩
  · obtain ⟨x, k, h4, h5⟩ := hS.blk m B hB
    exact ⟨x, k, h4, h5.congr (Sub.refl _) (hother _ _ (hcells h5))⟩
  · obtain ⟨x, k, h4, h5⟩ := hS.old m B hB
    exact ⟨x, k, h4, h5.congr (Sub.refl _) (hother _ _ (hcells h5))⟩
  · show x < (w.heap.setIfInBounds b _).size
    rw [Array.size_setIfInBounds]
    exact hS.hi m x y hm
  · show Bar ≤ (w.heap.setIfInBounds b _).size
    rw [Array.size_setIfInBounds]
    exact hS.room
  · have hm' : (S.maps.set (some o) n).get m = some lm := hm
    rw [hget] at hm'
    split at hm'
    · rename_i hmn
      cases hm'
      subst hmn
      exact ⟨b, c, he, hnew _ (Array.getElem?_setIfInBounds_self_of_lt hlt)⟩
    · rename_i hmn
      obtain ⟨x, k, h4, h5⟩ := hS.mp m lm hm'
      refine ⟨x, k, h4, h5.congr (Sub.refl _) (hother _ _ (fun hx => hmn ?_))⟩
      subst hx
      exact hS.mpi m n lm l x k c hm' hl h4 he
  · have h1' : (S.maps.set (some o) n).get m = some lm := h1
    have h2' : (S.maps.set (some o) n).get m' = some lm' := h2
    rw [hget] at h1' h2'
    have g1 : ∃ q, S.maps.get m = some q := by
      split at h1'
      · rename_i hx; exact ⟨l, by rw [hx]; exact hl⟩
      · exact ⟨_, h1'⟩
    have g2 : ∃ q, S.maps.get m' = some q := by
      split at h2'
      · rename_i hx; exact ⟨l, by rw [hx]; exact hl⟩
      · exact ⟨_, h2'⟩
    obtain ⟨q1, g1⟩ := g1
    obtain ⟨q2, g2⟩ := g2
    exact hS.mpi m m' q1 q2 x k k' g1 g2 h4 h5
  · show w.heap.size ≤ (w.heap.setIfInBounds b _).size
    rw [Array.size_setIfInBounds]
    exact Nat.le_refl _
  · have := hS.bar n b c he hNG
    exact hother _ _ (by omega)

/-- a map with one entry more -/
theorem rm_push {b : Nat} {l : List (ByteArray × Value)} {s : ByteArray} {v v' : Value} (hv : RV e v v') {es : Array MapEntry} (hsz : es.size = l.length)
    (hes : ∀ (i : Nat) s v, l[i]? = some (s, v) → ∃ m : MapEntry, es[i]? = some m ∧ m.key = .string s ∧ RV e v m.val) (born cl : Nat) (w' : World)
    (hw : w'.heap[b]? = some (.map (es.push { key := .string s, val := v', born := born }) cl)) : RM e (.map (l ++ [(s, v)])) b w' := by
  refine ⟨_, cl, hw, by simp [hsz], fun i s' u hi => ?_⟩
  rw [List.getElem?_append] at hi
  split at hi
  · rename_i hil
    obtain ⟨m0, g1, g2, g3⟩ := hes i s' u hi
    refine ⟨m0, ?_, g2, g3⟩
    rw [Array.getElem?_push, if_neg (by omega)]
    exact g1
  · rename_i hil
    have hi0 : i - l.length = 0 := by
      have := (List.getElem?_eq_some_iff.1 hi).1
      simp at this
      omega
    rw [hi0] at hi
    simp at hi
    obtain ⟨rfl, rfl⟩ := hi
    exact ⟨_, by rw [Array.getElem?_push, if_pos (by omega)], rfl, hv⟩

section
variable {A : Fr} {a : Act} (hF : RF e A a) {o : Oper} (hS : RS NG Bar e S w) {β : Type} {k : Value → St → Option β} {r : β}
include hF hS

omit hF in
theorem eff_mkm {call : CallT} {t : TypeId} (ho : o.op = .makeMap t none) (h : effI call NG A S (.cold .mkm) k = some r) : ∃ v S', k v S' = some r ∧ Eff P a o e NG Bar v S' w := by
  simp only [effI, effCold] at h
  rw [br_eq, blt_dec] at h
  split at h
  · rename_i hlim
    simp only [forceN_eq, setK_eq] at h
    obtain ⟨h1, h2⟩ := add_map hS (of_decide_eq_true hlim) (.map []) (.map #[] 0) (fun e' w' b hb => ⟨#[], 0, hb, rfl, fun i s v h => by simp at h⟩)
    refine ⟨_, _, h, eff_run (v' := .map (some w.heap.size)) ?_ h1 ⟨_, _, upd_same _ _ _, rfl⟩ h2 (below_alloc hS _)⟩
    simp [execOp, ho, Instr.makeMap]
  · cases h

theorem eff_ins {call : CallT} {t kt et : TypeId} {m key v : Operand} (ho : o.op = .insert t m key v ∨ o.op = .mapUpdate t m key v) (ht : P.underlying t = some (.map kt et)) (hk : strKey P kt = true)
    (h : effI call NG A S (.cold (.ins m key v)) k = some r) : ∃ v S', k v S' = some r ∧ Eff P a o e NG Bar v S' w := by
  simp only [effI, effCold] at h
  split at h
  · rename_i n s u hm hs hu
    rw [br_eq] at h
    split at h
    · rename_i hc
      simp only [Bool.and_eq_true, blt_dec, ble_dec, decide_eq_true_eq] at hc
      obtain ⟨hNG, hlim⟩ := hc
      have hlim : n < 1099511627775 := hlim
      split at h
      · rename_i l hl
        split at h
        · cases h
        · rename_i hfind
          simp only [forceL0_eq, setK_eq, List.map_cons, List.map_nil] at h
          have h1 := hF.ev hm
          have h2 : a.eval key = .string s := hF.ev hs
          have h3 := hF.ev hu
          rw [RV] at h1
          obtain ⟨b, c, h4, h5⟩ := h1
          obtain ⟨b', c', h6, es, clock, h7, h8, h9⟩ := hS.mp n _ hl
          rw [h4] at h6
          cases h6
          have hks := strKey_spec hk
          obtain ⟨-, f2⟩ := find_sound (e := e) (s := s) (l := l) (es := es.toList) 0 (by simpa using h8) (fun i t v hi => by simpa using h9 i t v hi)
          obtain ⟨g1, g2⟩ := set_map hS hlim hNG hl h4 h7 (fun _ _ _ hh => by cases hh) (rm_push (s := s) (v := u) h3 h8 h9 clock (clock + 1))
          have hrun : (Instr.mapUpdate t (.map (some b)) (.string s) (a.eval v)).run P w = .ok () { w with heap := w.heap.setIfInBounds b (.map (es.push { key := .string s, val := a.eval v, born := clock }) (clock + 1)) } := by
            unfold Instr.mapUpdate
            simp only [Sem.run_bind, run_underlying ht w, Result.andThen_ok, run_getObj_map w b es clock h7, Sem.run_pure, run_checkKey_string hks, run_findKey_string hks (f2 hfind)]
            simp [setObj, Sem.run, h7]
          refine ⟨_, _, h, eff_skip ?_ (Sub.refl _) g1 g2⟩
          rcases ho with ho | ho <;> simp [execOp, ho, h5, h2, hrun]
      · cases h
    · cases h
  · cases h

theorem eff_rng {call : CallT} {t : TypeId} {x : Operand} (ho : o.op = .range t x) (ht : P.underlying t = some .string) (h : effI call NG A S (.cold (.rng x)) k = some r) : ∃ v S', k v S' = some r ∧ Eff P a o e NG Bar v S' w := by
  simp only [effI, effCold] at h
  split at h
  · rename_i s hs
    rw [br_eq, blt_dec] at h
    split at h
    · rename_i hlim
      simp only [forceN_eq, setK_eq] at h
      have h2 : a.eval x = .string s := hF.ev hs
      obtain ⟨g1, g2⟩ := add_map hS (of_decide_eq_true hlim) (.iter s 0) (.stringIter s 0) (fun e' w' b hb => hb)
      refine ⟨_, _, h, eff_run (v' := .pointer (some ⟨w.heap.size, 0, none⟩)) ?_ g1 (RV.ptr (upd_same _ _ _)) g2 (below_alloc hS _)⟩
      simp [execOp, ho, Instr.range, h2, run_underlying ht w]
    · cases h
  · cases h

theorem eff_nxt {call : CallT} {x : Operand} (ho : o.op = .next x true) (h : effI call NG A S (.cold (.nxt x)) k = some r) : ∃ v S', k v S' = some r ∧ Eff P a o e NG Bar v S' w := by
  simp only [effI, effCold] at h
  split at h
  · rename_i n hx
    rw [br_eq] at h
    split at h
    · rename_i hc
      simp only [Bool.and_eq_true, blt_dec, ble_dec, decide_eq_true_eq] at hc
      obtain ⟨hNG, hlim⟩ := hc
      have hlim : n < 1099511627775 := hlim
      split at h
      · rename_i s pos hl
        have h1 := hF.ev hx
        rw [RV] at h1
        obtain ⟨b, c, h3, -, h4⟩ := h1
        obtain ⟨b', c', h5, h6⟩ := hS.mp n _ hl
        rw [h3] at h5
        cases h5
        have h6 : w.heap[b]? = some (.stringIter s pos) := h6
        have hget : (getObj b).run P w = .ok (.stringIter s pos) w := by simp [getObj, Sem.run, h6]
        rw [br_eq, blt_dec] at h
        split at h
        · rename_i hlt
          have hlt : pos < s.size := by
            have hh := of_decide_eq_true hlt
            rw [show s.data.toList.length = s.size from Array.length_toList] at hh
            exact hh
          cases hd : Utf8.decode s pos with
          | mk cc width =>
            rw [hd] at h
            simp only [forceN_eq, setK_eq, force_eq] at h
            obtain ⟨g1, g2⟩ := set_map hS (o := .iter s (pos + width)) hlim hNG hl h3 h6 (fun _ _ _ hh => by cases hh) (ob := .stringIter s (pos + width)) (fun w' hw => hw)
            refine ⟨_, _, h, eff_run (v' := .tuple #[.bool true, .int .i64 pos, .int .i32 cc]) ?_ (Sub.refl _) ⟨_, RVL.cons rfl (RVL.cons rfl (RVL.cons rfl RVL.nil)), rfl⟩ g1 g2⟩
            have hset : (setObj b (.stringIter s (pos + width))).run P w = .ok () { w with heap := w.heap.setIfInBounds b (.stringIter s (pos + width)) } := by simp [setObj, Sem.run, h6]
            have hnx : ∀ ty, (Instr.next (.pointer (some ⟨b, 0, none⟩)) true ty).run P w = .ok (.tuple #[.bool true, .int .i64 pos, .int .i32 cc]) { w with heap := w.heap.setIfInBounds b (.stringIter s (pos + width)) } := fun ty => by
              unfold Instr.next
              simp only [Sem.run_bind, hget, Result.andThen_ok]
              rw [if_pos hlt, hd]
              simp only [Sem.run_bind, hset, Result.andThen_ok, Sem.run_pure]
              rfl
            simp only [execOp, ho, h4]
            rw [Sem.run_bind, hnx]
            rfl
        · rename_i hlt
          have hlt : ¬ pos < s.size := by
            intro hh
            exact hlt (decide_eq_true (by rw [show s.data.toList.length = s.size from Array.length_toList]; exact hh))
          refine ⟨_, _, h, eff_run (v' := .tuple #[.bool false]) ?_ (Sub.refl _) ⟨_, RVL.cons rfl RVL.nil, rfl⟩ hS (Below.refl _ _)⟩
          have hnx : ∀ ty, (Instr.next (.pointer (some ⟨b, 0, none⟩)) true ty).run P w = .ok (.tuple #[.bool false]) w := fun ty => by
            unfold Instr.next
            simp only [Sem.run_bind, hget, Result.andThen_ok]
            rw [if_neg hlt]
            rfl
          simp only [execOp, ho, h4]
          rw [Sem.run_bind, hnx]
          rfl
      · cases h
    · cases h
  · cases h
end

section
variable {A : Fr} {a : Act} (hF : RF e A a) {o : Oper} (hS : RS NG Bar e S w) {β : Type} {k : Value → St → Option β} {r : β}
include hF hS

theorem effI_sound {G : Nat} {call : CallT} (hC : CallOK P G call) (hG : Globs G e) (hn : NumOK P) (h : effI call NG A S (compOp P o) k = some r) : ∃ v S', k v S' = some r ∧ Eff P a o e NG Bar v S' w := by
  have bad : ∀ {B : Prop}, effI call NG A S (.cold .bad) k = some r → B := fun h => by simp [effI, effCold] at h
  have gen : ∀ {B : Prop} {q}, effI call NG A S (.cold (.gen q)) k = some r → B := fun h => by simp [effI, effCold] at h
  unfold compOp at h
  split at h
  case h_1 => simp [effI] at h
  case h_2 => simp [effI] at h
  case h_3 => simp [effI] at h
  case h_4 => split at h <;> first | (split at h <;> simp [effI, effCold] at h; done) | exact bad h
  case h_5 => simp [effI, effCold] at h
  case h_6 =>
    split at h
    · split at h
      · split at h
        · split at h <;> simp [effI, effCold] at h
        · exact bad h
      · exact bad h
    · exact bad h
  case h_7 =>
    split at h
    · split at h <;> simp [effI, effCold] at h
    · split at h <;> simp [effI, effCold] at h
    · exact bad h
  case h_8 =>
    split at h
    · split at h
      · split at h
        · split at h <;> simp [effI, effCold] at h
        · exact bad h
      · exact bad h
    · exact bad h
  case h_9 => simp [effI] at h
  case h_10 =>
    split at h
    · split at h <;> simp [effI, effCold] at h
    · simp [effI, effCold] at h
    · split at h <;> simp [effI, effCold] at h
    · exact gen h
  case h_11 => simp [effI, effCold] at h
  case h_12 =>
    split at h
    · split at h <;> simp [effI, effCold] at h
    · split at h <;> simp [effI, effCold] at h
    · exact bad h
  case h_13 =>
    split at h
    · split at h <;> simp [effI, effCold] at h
    · split at h <;> simp [effI, effCold] at h
    · exact gen h
  case h_14 elem ho =>
    split at h
    · rename_i z hz; exact eff_alloc hS ho hz h
    · exact bad h
  case h_15 elem x ho =>
    simp only [effI, effCold] at h
    split at h
    · rename_i v hv; exact eff_box hF hS ho hv h
    · cases h
  case h_16 t len ps ho =>
    split at h
    · rename_i elem hu
      split at h
      · rename_i it z hi hz
        split at h
        · rename_i hle; exact eff_bsl hF hS ho hu hi hz hle h
        · exact bad h
      · exact bad h
    · exact bad h
  case h_17 t x y ho =>
    split at h
    · rename_i it hi; exact eff_st hF hS ho hi h
    · exact bad h
  case h_18 t l c ho =>
    split at h
    · rename_i elem hu
      split at h
      · rename_i it z hi hz; exact eff_mks hF hS ho hu hi hz h
      · exact bad h
    · exact bad h
  case h_19 f args ts ho =>
    split at h
    · split at h
      · exact gen h
      · exact eff_call hF hS hC hG hn ho rfl h
    · exact eff_call hF hS hC hG hn ho rfl h
  case h_20 b args ts ho =>
    split at h
    · split at h <;> simp [effI, effCold] at h
    · split at h <;> simp [effI, effCold] at h
    · rename_i s x st xt ha ht
      have hc : ({ callee := .builtin .append, args := args, argTypes := ts } : Call) = { callee := .builtin .append, args := ⟨[s, x]⟩, argTypes := ⟨[st, xt]⟩ } := by
        obtain ⟨args⟩ := args
        obtain ⟨ts⟩ := ts
        simp at ha ht
        subst ha ht
        rfl
      split at h
      · rename_i elem e2 hu hu2
        split at h
        · rename_i it z hi hz
          split at h
          · exact bad h
          · rename_i h0; exact eff_app (str := false) hF hS ho hc hu hi ⟨z, hz⟩ h0 (.inl ⟨rfl, e2, hu2⟩) h
        · exact bad h
      · rename_i elem hu hu2
        split at h
        · rename_i it z hi hz
          split at h
          · rename_i h0; exact eff_app (str := true) hF hS ho hc hu hi ⟨z, hz⟩ (by omega) (.inr ⟨rfl, hu2, h0⟩) h
          · exact bad h
        · exact bad h
      · exact bad h
    · exact gen h
  case h_21 =>
    split at h
    · split at h
      · simp [effI, effCold] at h
      · exact gen h
    · exact gen h
  case h_22 t ho => exact eff_mkm hS ho h
  case h_23 t x ho =>
    split at h
    · rename_i ht; exact eff_rng hF hS ho ht h
    · exact bad h
  case h_24 x ho => exact eff_nxt hF hS ho h
  case h_25 t m key v ho =>
    split at h
    · rename_i kt et ht
      split at h
      · rename_i hk; exact eff_ins hF hS (.inl ho) ht hk h
      · exact bad h
    · exact bad h
  case h_26 t m key v ho =>
    split at h
    · rename_i kt et ht
      split at h
      · rename_i hk; exact eff_ins hF hS (.inr ho) ht hk h
      · exact bad h
    · exact bad h
  case h_27 =>
    split at h
    · split at h <;> simp [effI, effCold] at h
    · exact bad h
  case h_28 => exact gen h
end
end Go.Sim
namespace Go.Sim
variable [Val]
open Go.RowKit
variable {P : Program} {e : Env} {NG Bar : Nat} {S : St} {w : World}

theorem Eff.mono {a : Act} {o : Oper} {v : Value} {S' : St} (h : Eff P a o e NG Bar v S' w) {K : Act → World → Prop} {Q : Exit → Act → World → Prop}
    (hK : ∀ e' v' w', Sub e e' → RV e' v v' → RS NG Bar e' S' w' → Below Bar w w' → K (a.put o.dst v') w') : o.wp P a w K Q := h K Q hK

theorem put_sound {β : Type} {A : Fr} {a : Act} {dst : Option Tmp} {v v' : Value} {k : Fr → Option β} {r : β} (hF : RF e A a) (hv : RV e v v') (h : putK A dst v k = some r) :
    ∃ A', k A' = some r ∧ RF e A' (a.put dst v') ∧ A'.ng = A.ng := by
  unfold putK at h
  split at h
  · exact ⟨A, h, hF, rfl⟩
  · rename_i d
    rw [br_eq, blt_dec] at h
    split at h
    · rename_i h1
      rw [br_eq, blt_dec] at h
      split at h
      · rename_i h2
        have h1 : d < A.nt := of_decide_eq_true h1
        have h2 : d < 1099511627775 := of_decide_eq_true h2
        rw [setK_eq] at h
        refine ⟨_, h, ⟨?_, hF.glob, fun t u hu => ?_⟩, rfl⟩
        · simp [Act.put, hF.size]
        · have hu' : (A.t.set (some v) d).get t = some u := hu
          rw [get_set _ _ _ _ (Nat.succ_lt_succ h2)] at hu'
          split at hu'
          · rename_i htd
            cases hu'
            subst htd
            refine ⟨v', ?_, hv⟩
            simp only [Act.put]
            rw [Array.getElem?_setIfInBounds_self_of_lt (by rw [hF.size]; exact h1)]
          · rename_i htd
            obtain ⟨u', h3, h4⟩ := hF.tmp t u hu'
            refine ⟨u', ?_, h4⟩
            simp only [Act.put]
            rw [Array.getElem?_setIfInBounds_ne (fun h => htd h.symm)]
            exact h3
      · cases h
    · cases h

theorem guard_sound {A : Fr} {a : Act} {ops : Array Oper} {o : Oper} {b : Bool} (hF : RF e A a) (h : guardS A (o.guard.map fun (j, want) => ((ops[j]?).bind (·.dst), want)) = some b) :
    Region.wanted o (yielded ops a.tmps) = b := by
  unfold Region.wanted
  cases hg : o.guard with
  | none => rw [hg] at h; simp [guardS] at h; subst h; rfl
  | some jw =>
    obtain ⟨j, want⟩ := jw
    rw [hg] at h
    simp only [Option.map_some] at h
    cases ht : (ops[j]?).bind (·.dst) with
    | none => rw [ht] at h; simp [guardS] at h
    | some t =>
      rw [ht] at h
      simp only [guardS] at h
      split at h
      · rename_i c hc
        obtain ⟨v', h1, h2⟩ := hF.tmp t _ hc
        rw [RV] at h2
        subst h2
        have : yielded ops a.tmps j = some c := by unfold yielded; rw [ht]; simp [h1]
        simp only [this]
        cases c <;> cases want <;> simp at h <;> subst h <;> rfl
      · rename_i hc
        cases h
        obtain ⟨v', h1, h2⟩ := hF.tmp t _ hc
        rw [RV] at h2
        obtain ⟨l', h3, h4⟩ := h2
        have : yielded ops a.tmps j = none := by unfold yielded; rw [ht]; simp [h1, h4]
        simp only [this]
        cases want <;> rfl
      · cases h

/-! ### one operation behind the other -/
/-- what a piece of code leaves -/
def Left (e : Env) (NG Bar : Nat) (A' : Fr) (S' : St) (a : Act) (w : World) (a' : Act) (w' : World) : Prop :=
  ∃ e', Sub e e' ∧ RF e' A' a' ∧ RS NG Bar e' S' w' ∧ Below Bar w w' ∧ a'.defers = a.defers

theorem Left.refl {A : Fr} {a : Act} (hF : RF e A a) (hS : RS NG Bar e S w) : Left e NG Bar A S a w a w := ⟨e, Sub.refl _, hF, hS, Below.refl _ _, rfl⟩

omit [Val] in
theorem put_defs (a : Act) (d : Option Tmp) (v : Value) : (a.put d v).defers = a.defers := by cases d <;> rfl

theorem Left.trans {_e1 : Env} {A1 A' : Fr} {S1 S' : St} {a a1 a' : Act} {w1 w' : World} (h : Left e NG Bar A1 S1 a w a1 w1) (he : ∀ e2, Sub e e2 → RF e2 A1 a1 → RS NG Bar e2 S1 w1 → Left e2 NG Bar A' S' a1 w1 a' w') : Left e NG Bar A' S' a w a' w' := by
  obtain ⟨e2, h1, h2, h3, h4, h5⟩ := h
  obtain ⟨e3, h6, h7, h8, h9, h10⟩ := he e2 h1 h2 h3
  exact ⟨e3, h1.trans h6, h7, h8, h4.trans h9, h10.trans h5⟩

omit [Val] in
theorem runOps_cons {call : CallT} {j : J} {l : List J} {A : Fr} : runOps P call NG (j :: l) A S =
    (match guardS A j.guard with
      | none => none
      | some false => putK A j.dst undef fun A => runOps P call NG l A S
      | some true =>
        match readI P A S j.i with
        | some v => putK A j.dst v fun A => runOps P call NG l A S
        | none =>
          br j.quiet
            (match quietI call A S j.i with
            | some v => putK A j.dst v fun A => runOps P call NG l A S
            | none => none)
            (effI call NG A S j.i fun v S => putK A j.dst v fun A => runOps P call NG l A S)) := rfl

section
variable {G : Nat} {call : CallT} (hC : CallOK P G call) (hn : NumOK P)
include hC hn

theorem list_sound {ops : Array Oper} : ∀ (l : List Oper) (e : Env) (A : Fr) (S : St) (a : Act) (w : World) (A' : Fr) (S' : St) (Q : Exit → Act → World → Prop), RF e A a → RS NG Bar e S w → Globs G e →
    runOps P call NG (l.map (compJ P ops false)) A S = some (A', S') → (∀ a' w', Left e NG Bar A' S' a w a' w' ∧ A'.ng = A.ng → Q .normal a' w') → wpList P ops Q l a w
  | [], e, A, S, a, w, A', S', Q, hF, hS, hG, h, hQ => by
    have h' : some (A, S) = some (A', S') := h
    cases h'
    exact hQ a w ⟨Left.refl hF hS, rfl⟩
  | o :: l, e, A, S, a, w, A', S', Q, hF, hS, hG, h, hQ => by
    rw [List.map_cons, runOps_cons] at h
    simp only [compJ] at h
    have step : ∀ (v : Value) (S1 : St), (putK A o.dst v fun A => runOps P call NG (l.map (compJ P ops false)) A S1) = some (A', S') → ∀ e1 v' w1, Sub e e1 → RV e1 v v' → RS NG Bar e1 S1 w1 → Below Bar w w1 → wpList P ops Q l (a.put o.dst v') w1 := by
      intro v S1 hput e1 v' w1 h1 h2 h3 h4
      obtain ⟨A1, h5, h6, h7⟩ := put_sound (hF.mono h1) h2 hput
      refine list_sound l e1 A1 S1 _ w1 A' S' Q h6 h3 (fun g hg => h1 _ _ (hG g hg)) h5 (fun a' w' hl => hQ a' w' ⟨?_, hl.2.trans h7⟩)
      obtain ⟨e2, g1, g2, g3, g4, g5⟩ := hl.1
      exact ⟨e2, h1.trans g1, g2, g3, h4.trans g4, by rw [g5, put_defs]⟩
    split at h
    · cases h
    · rename_i hg
      have hw := guard_sound hF hg
      unfold wpList
      rw [hw]
      exact step undef S h e undef w (Sub.refl _) (RV.of_flat rfl) hS (Below.refl _ _)
    · rename_i hg
      have hw := guard_sound hF hg
      unfold wpList
      rw [hw]
      refine .inl ?_
      split at h
      · rename_i v hv
        exact (Does.eff hS (readI_sound hF hS.rr hv)).mono (step v S h)
      · rw [br_false] at h
        obtain ⟨v, S1, h1, h2⟩ := effI_sound hF hS hC hG hn h
        exact h2.mono (step v S1 h1)

/-! ### quiet operations -/
/-- the class of worlds: what is named stands -/
def Cl (e : Env) (NG Bar : Nat) (S : St) (w0 w : World) : Prop := RS NG Bar e S w ∧ Below w0.heap.size w0 w

theorem quiet_sound {o : Oper} {A : Fr} {a : Act} {v : Value} {w0 : World} (hF : RF e A a) (hG : Globs G e) (hS0 : RS NG Bar e S w0) (h : readI P A S (compOp P o) = some v ∨ (readI P A S (compOp P o) = none ∧ quietI call A S (compOp P o) = some v)) :
    ∃ v', RV e v v' ∧ ∀ w, Cl e NG Bar S w0 w → o.quietAt P a (Cl e NG Bar S w0) w v' := by
  rcases h with h | ⟨-, h⟩
  · obtain ⟨v', h1, h2⟩ := readI_sound hF hS0.rr h
    refine ⟨v', h2, fun w hw => ?_⟩
    obtain ⟨v2, h3, h4⟩ := readI_sound hF hw.1.rr h
    unfold Oper.quietAt
    rw [h3]
    exact ⟨rfl, RV.inj h4 h2⟩
  · have key : ∃ c f, o.op = .call c ∧ c.callee = .value f ∧ compOp P o = .call f c.args.toList := by
      unfold compOp at h ⊢
      split at h
      case h_19 f args ts ho =>
        refine ⟨_, f, ho, rfl, ?_⟩
        revert h
        split
        · split
          · intro h; simp [quietI] at h
          · intro _; rfl
        · intro _; rfl
      all_goals exfalso; revert h; repeat' split
      all_goals simp [quietI]
    obtain ⟨c, f, ho, hc, hcomp⟩ := key
    rw [hcomp] at h
    simp only [quietI] at h
    split at h
    · cases h
    · rename_i fid vs hcal
      split at h
      · cases h
      · rename_i u S1 hcall
        rw [br_eq] at h
        split at h
        · rename_i hfl
          cases h
          obtain ⟨vs', first, captured, h1, h2, h3⟩ := callee_sound hF hcal
          obtain ⟨fn, h4, h5⟩ := hC.body hcall
          refine ⟨_, RV.of_flat hfl, fun w hw => ?_⟩
          unfold Oper.quietAt
          rw [run_call ho hc h1 h4 h5 hn, ← h3]
          refine ⟨rfl, ?_⟩
          have hSw : RS S.next w.heap.size e S w :=
            ⟨hw.1.blk, hw.1.old, hw.1.inj, hw.1.sep, hw.1.fresh, (fun n b k hn hle => by rw [hw.1.fresh n hle] at hn; cases hn), hw.1.hi, Nat.le_refl _, Nat.le_refl _, hw.1.full, hw.1.mp, hw.1.mpi, hw.1.ro, hw.1.roi, hw.1.roo⟩
          refine (hC.calls hcall h2 hSw hG).mono fun en w' hpost => ?_
          obtain ⟨e', v', rfl, h6, h7, h8, h9⟩ := hpost
          refine ⟨by rw [RV.flat_eq hfl h7], ?_, hw.2.trans (h9.mono hw.2.size)⟩
          have hb : ∀ b, b < w.heap.size → w'.heap[b]? = w.heap[b]? := h9.block
          refine ⟨fun n B hB => ?_, fun n B hB => ?_, hw.1.inj, hw.1.sep, hw.1.fresh, hw.1.bar, fun n b k hn => Nat.lt_of_lt_of_le (hw.1.hi n b k hn) h9.size, Nat.le_trans hw.1.room h9.size, hw.1.low, hw.1.full,
            fun n l hl => let ⟨b, k, g1, g2⟩ := hw.1.mp n l hl; ⟨b, k, g1, g2.congr (Sub.refl _) (hb b (hw.1.hi n b k g1))⟩, hw.1.mpi,
            fun n B hB => let ⟨b, k, g1, g2⟩ := hw.1.ro n B hB; ⟨b, k, g1, g2.congr (Sub.refl _) (hb b (hw.1.hi n b k g1))⟩, hw.1.roi, hw.1.roo⟩
          · obtain ⟨b, k, g1, g2⟩ := hw.1.blk n B hB
            exact ⟨b, k, g1, g2.congr (Sub.refl _) (hb b (hw.1.hi n b k g1))⟩
          · obtain ⟨b, k, g1, g2⟩ := hw.1.old n B hB
            exact ⟨b, k, g1, g2.congr (Sub.refl _) (hb b (hw.1.hi n b k g1))⟩
        · cases h

theorem quiet_list {ops : Array Oper} {w0 : World} : ∀ (l : List Oper) (A : Fr) (a : Act) (A' : Fr) (S' : St) (Q : Act → Prop) (rest : List J), RF e A a → RS NG Bar e S w0 → Globs G e →
    runOps P call NG (l.map (compJ P ops true) ++ rest) A S = some (A', S') → (∀ A1 a', RF e A1 a' → A1.ng = A.ng → a'.defers = a.defers → runOps P call NG rest A1 S = some (A', S') → Q a') → wpQuiet P ops (Cl e NG Bar S w0) Q l a
  | [], A, a, A', S', Q, rest, hF, hS, hG, h, hQ => hQ A a hF rfl rfl h
  | o :: l, A, a, A', S', Q, rest, hF, hS, hG, h, hQ => by
    rw [List.map_cons, List.cons_append, runOps_cons] at h
    simp only [compJ] at h
    have step : ∀ (v v' : Value), RV e v v' → (putK A o.dst v fun A => runOps P call NG (l.map (compJ P ops true) ++ rest) A S) = some (A', S') → wpQuiet P ops (Cl e NG Bar S w0) Q l (a.put o.dst v') := by
      intro v v' h2 hput
      obtain ⟨A1, h5, h6, h7⟩ := put_sound hF h2 hput
      exact quiet_list l A1 _ A' S' Q rest h6 hS hG h5 (fun A2 a' g1 g2 g3 g4 => hQ A2 a' g1 (g2.trans h7) (by rw [g3, put_defs]) g4)
    split at h
    · cases h
    · rename_i hg
      have hw := guard_sound hF hg
      unfold wpQuiet
      rw [hw]
      exact step undef undef (RV.of_flat rfl) h
    · rename_i hg
      have hw := guard_sound hF hg
      unfold wpQuiet
      rw [hw]
      split at h
      · rename_i v hv
        obtain ⟨v', h1, h2⟩ := quiet_sound hC hn hF hG hS (.inl hv)
        exact ⟨v', h2, step v v' h1 h⟩
      · rename_i hnone
        rw [br_true] at h
        split at h
        · rename_i v hv
          obtain ⟨v', h1, h2⟩ := quiet_sound hC hn hF hG hS (.inr ⟨hnone, hv⟩)
          exact ⟨v', h2, step v v' h1 h⟩
        · cases h
end

omit [Val] in
theorem compL_eq (P : Program) (ops : Array Oper) : ∀ (n : Nat) (l : List Oper), compL P ops n l = (l.take n).map (compJ P ops true) ++ (l.drop n).map (compJ P ops false)
  | 0, [] => rfl
  | n + 1, [] => rfl
  | 0, o :: r => by have := compL_eq P ops 0 r; simp at this ⊢; rw [compL, this]
  | n + 1, o :: r => by have := compL_eq P ops n r; simp at this ⊢; rw [compL, this]

/-! ### a quiet head, then the rest in its order -/
section
variable {ops : Array Oper} {md : Region.Mode} {C : World → Prop}

def anyHead (P : Program) (md : Region.Mode) (ops : Array Oper) (C : World → Prop) (n : Nat) (L : Array Bool → Act → Prop) : Nat → Array Bool → Act → Prop
  | 0, listed, a => L listed a
  | f + 1, listed, a =>
    Region.ready md ops listed ≠ [] ∧ ∀ i ∈ Region.ready md ops listed, i < n ∧ qOp P ops C i (anyHead P md ops C n L f (listed.setIfInBounds i true)) a

omit [Val] in
theorem any_of_head {n g : Nat} {L : Array Bool → Act → Prop} {Q' : Exit → Act → World → Prop} (hL : ∀ listed a w, C w → L listed a → wpAny P md ops Q' g listed a w) :
    ∀ (f : Nat) (listed : Array Bool) (a : Act) (w : World), C w → anyHead P md ops C n L f listed a → wpAny P md ops Q' (f + g) listed a w
  | 0, listed, a, w, hw, h => by rw [Nat.zero_add]; exact hL _ _ _ hw h
  | f + 1, listed, a, w, hw, h => by
    rw [show f + 1 + g = (f + g) + 1 by omega]
    exact ⟨fun h0 => absurd h0 h.1, fun i hi => wpOp_of_qOp hw (fun a' w' hw' h' => any_of_head hL f _ a' w' hw' h') (h.2 i hi).2⟩

omit [Val] in
theorem head_first {n i : Nat} {oi : Oper} {v : Value} {L : Array Bool → Act → Prop} (hi : ops[i]? = some oi) (hsel : ∀ (j : Nat) (o : Oper) cs b, ops[j]? = some o → o.op ≠ .select cs b)
    (hs : Region.sinkB md ops n = true) (hc : Region.chainB md ops n = true) (hn : n < ops.size) (hin : i < n)
    (hdone : ∀ listed a, L listed a → ∀ j ∈ Region.ready md ops listed, n ≤ j) :
    ∀ (f : Nat) (listed : Array Bool) (a : Act), HeadInv md ops n listed →
      (∀ j oj, ops[j]? = some oj → j ≠ i → listed.getD j true = false → (∀ e ∈ oj.after, Region.binds md e = true → e.on ≠ i) → oi.apart ops oj = true) →
      i ∈ Region.ready md ops listed → YieldsIn P ops C oi v a →
      anyHead P md ops C n L f (listed.setIfInBounds i true) (a.put oi.dst v) → anyHead P md ops C n L (f + 1) listed a := by
  intro f
  induction f with
  | zero =>
    intro listed a inv _ hr hy H
    have hun := (mem_ready.1 hr).1
    refine ⟨fun h => (by rw [h] at hr; cases hr), fun j hj => ?_⟩
    have hjn : j < n := Nat.lt_of_not_le fun h => absurd hj (tail_waits hs hc hn inv _ i rfl hin hun j h)
    refine ⟨hjn, ?_⟩
    by_cases hji : j = i
    · subst hji; exact hy.qOp hi H
    · exact absurd (hdone _ _ H j (ready_mono hj hji)) (by omega)
  | succ f ih =>
    intro listed a inv hfree hr hy H
    have hun := (mem_ready.1 hr).1
    refine ⟨fun h => (by rw [h] at hr; cases hr), fun j hj => ?_⟩
    have hjn : j < n := Nat.lt_of_not_le fun h => absurd hj (tail_waits hs hc hn inv _ i rfl hin hun j h)
    refine ⟨hjn, ?_⟩
    by_cases hji : j = i
    · subst hji; exact hy.qOp hi H
    · have h1 := (H.2 j (ready_mono hj hji)).2
      obtain ⟨hjun, oj, hoj, hall⟩ := mem_ready.1 hj
      have hnot : ∀ e ∈ oj.after, Region.binds md e = true → e.on ≠ i := fun e he hb heq => by
        have h1 := hall e he hb
        rw [heq, getD_both hun] at h1
        cases h1
      have h2 := qOp_put hoj (hfree j oj hoj hji hjun hnot) (fun cs b => hsel i oi cs b hi) (fun cs b => hsel j oj cs b hoj) hy h1
      have hfree' : ∀ k ok, ops[k]? = some ok → k ≠ i → (listed.setIfInBounds j true).getD k true = false →
          (∀ e ∈ ok.after, Region.binds md e = true → e.on ≠ i) → oi.apart ops ok = true := fun k ok hk hki hun hno => by
        refine hfree k ok hk hki ?_ hno
        by_cases hjk : j = k
        · subst hjk; exact hjun
        · rw [getD_set_ne true hjk] at hun; exact hun
      refine qOp_mono (fun a' h3 => ih (listed.setIfInBounds j true) a' (inv.set hj hjn) hfree' (ready_mono hr (Ne.symm hji)) h3.1 ?_) h2
      rw [Array.setIfInBounds_comm _ _ hji]
      exact h3.2

omit [Val] in
theorem head_lex {n g : Nat} {Lq : Act → Prop} (hsel : Region.noSelect ops = true) (hs : Region.sinkB md ops n = true) (hc : Region.chainB md ops n = true) (hn : n < ops.size) :
    ∀ (l : List Oper) (k : Nat) (listed : Array Bool) (a : Act), (∀ j, j < l.length → l[j]? = ops[k + j]?) → k + l.length = n → HeadInv md ops n listed →
    Region.lexHead md ops g l.length k listed = true → wpQuiet P ops C Lq l a →
    anyHead P md ops C n (fun listed' a' => Region.seqB md ops g n listed' = true ∧ Lq a') l.length listed a
  | [], k, listed, a, _, hk, _, hB, h => by
    have : k = n := by simpa using hk
    subst this
    exact ⟨by simpa [Region.lexHead] using hB, h⟩
  | o :: l, k, listed, a, hl, hk, inv, hB, h => by
    have h0 : ops[k]? = some o := by simpa using (hl 0 (by simp)).symm
    simp only [List.length_cons, Region.lexHead, Bool.and_eq_true] at hB
    obtain ⟨⟨hr, hf⟩, hB'⟩ := hB
    have hkn : k < n := by simp only [List.length_cons] at hk; omega
    have hr' : k ∈ Region.ready md ops listed := by simpa using hr
    have hst : qOp P ops C k (wpQuiet P ops C Lq l) a := by unfold qOp; simp only [h0]; exact h
    obtain ⟨v, hy, hK⟩ := yieldsIn_of_qOp h0 hst
    exact head_first h0 (Region.noSelect_spec hsel) hs hc hn hkn (fun listed' a' hL => seqB_ready hL.1) l.length listed a inv (Region.free_spec h0 hf) hr' hy
      (head_lex hsel hs hc hn l (k + 1) _ _ (fun j hj => by have := hl (j + 1) (by simp; omega); simpa [Nat.add_assoc, Nat.add_comm 1 j] using this) (by simp only [List.length_cons] at hk; omega) (inv.set hr' hkn) hB' hK)

omit [Val] in
theorem wp_region_head {id : Nat} {Q : Exit → Act → World → Prop} {a : Act} {w : World} (n : Nat) (hm : P.follows .mixedOrders = true) (hB : Region.lexTailB .any ops n = true) (hC : C { w with drawn := w.drawn + 1 })
    (h : wpQuiet P ops C (fun a' => ∀ w', C w' → wpList P ops Q (ops.toList.drop n) a' w') (ops.toList.take n) a) : (Code.region id ops true).wp P Q a w := by
  simp only [Region.lexTailB, Bool.and_eq_true, decide_eq_true_eq] at hB
  obtain ⟨⟨⟨⟨hsel, hn⟩, hs⟩, hc⟩, hlex⟩ := hB
  have htl : (ops.toList.take n).length = n := by simp; omega
  have hdl : (ops.toList.drop n).length = ops.size - n := by simp
  have inv0 : HeadInv .any ops n (Array.replicate ops.size false) :=
    ⟨by simp, fun j oj _ hl => (by rw [getD_replicate_false] at hl; cases hl), fun t _ ht => getD_in (by simpa using ht) (getD_replicate_false _ _)⟩
  have H := head_lex (md := .any) (g := ops.size - n) hsel hs hc hn (ops.toList.take n) 0 _ a (fun j hj => by
    have hj' : j < n := by rw [htl] at hj; exact hj
    simp [hj']) (by simpa using htl) inv0 (by rw [htl]; exact hlex) h
  refine wp_region_any hm ?_
  have := any_of_head (Q' := Q) (g := ops.size - n) (fun listed a' w' hw' hL => by
    have := wpAny_of_seq (md := .any) (Q' := Q) (ops.toList.drop n) n listed a' w' (fun j => by simp [List.getElem?_drop]) (by rw [hdl]; exact hL.1) (hL.2 w' hw')
    rwa [hdl] at this) _ _ _ _ hC H
  rw [htl, show n + (ops.size - n) = ops.size by omega] at this
  exact this
end
end Go.Sim
namespace Go.Sim
variable [Val]
open Go.RowKit
variable {P : Program} {e : Env} {NG Bar : Nat} {S : St} {w : World}

/-- a post that lets no panic through -/
def Calm (Q : Exit → Act → World → Prop) : Exit → Act → World → Prop
  | .panic _, _, _ => False
  | e, a, w => Q e a w

omit [Val] in
theorem Calm.imp {Q : Exit → Act → World → Prop} {x : Exit} {a : Act} {w : World} (h : Calm Q x a w) : Q x a w := by
  cases x <;> first | exact h | exact (h : False).elim

section
variable {ops : Array Oper} {H : World → Prop}

/-- the head in whatever order, H kept behind each operation -/
def heldHead (P : Program) (ops : Array Oper) (Q : Exit → Act → World → Prop) (H : World → Prop) (n : Nat) (L : Array Bool → Act → World → Prop) : Nat → Array Bool → Act → World → Prop
  | 0, listed, a, w => L listed a w
  | f + 1, listed, a, w =>
    Region.ready .any ops listed ≠ [] ∧ ∀ i ∈ Region.ready .any ops listed, i < n ∧ wpOp P ops Q i (fun a' w' => H w' ∧ heldHead P ops Q H n L f (listed.setIfInBounds i true) a' w') a w

omit [Val] in
theorem any_of_held {Q : Exit → Act → World → Prop} {n g : Nat} {L : Array Bool → Act → World → Prop} (hL : ∀ listed a w, L listed a w → wpAny P .any ops Q g listed a w) :
    ∀ (f : Nat) (listed : Array Bool) (a : Act) (w : World), heldHead P ops Q H n L f listed a w → wpAny P .any ops Q (f + g) listed a w
  | 0, listed, a, w, h => by rw [Nat.zero_add]; exact hL _ _ _ h
  | f + 1, listed, a, w, h => by
    rw [show f + 1 + g = (f + g) + 1 by omega]
    exact ⟨fun h0 => absurd h0 h.1, fun i hi => wpOp_mono (fun a' w' h' => any_of_held hL f _ a' w' h'.2) (h.2 i hi).2⟩

omit [Val] in
theorem held_first {Q : Exit → Act → World → Prop} {n i : Nat} {oi : Oper} {v : Value} {L : Array Bool → Act → World → Prop} (hi : ops[i]? = some oi) (hsel : ∀ (j : Nat) (o : Oper) cs b, ops[j]? = some o → o.op ≠ .select cs b)
    (hs : Region.sinkB .any ops n = true) (hc : Region.chainB .any ops n = true) (hn : n < ops.size) (hin : i < n) (hQ : ∀ c a w, Q (.panic c) (a.put oi.dst v) w → Q (.panic c) a w)
    (hdone : ∀ listed a w, L listed a w → ∀ j ∈ Region.ready .any ops listed, n ≤ j) :
    ∀ (f : Nat) (listed : Array Bool) (a : Act) (w : World), HeadInv .any ops n listed →
      (∀ j oj, ops[j]? = some oj → j ≠ i → listed.getD j true = false → (∀ x ∈ oj.after, Region.binds .any x = true → x.on ≠ i) → oi.apart ops oj = true) →
      i ∈ Region.ready .any ops listed → YieldsIf P ops H oi v a → H w →
      heldHead P ops Q H n L f (listed.setIfInBounds i true) (a.put oi.dst v) w → heldHead P ops Q H n L (f + 1) listed a w := by
  intro f
  induction f with
  | zero =>
    intro listed a w inv _ hr hy hH G
    have hun := (mem_ready.1 hr).1
    refine ⟨fun h => (by rw [h] at hr; cases hr), fun j hj => ?_⟩
    have hjn : j < n := Nat.lt_of_not_le fun h => absurd hj (tail_waits hs hc hn inv _ i rfl hin hun j h)
    refine ⟨hjn, ?_⟩
    by_cases hji : j = i
    · subst hji; exact hy.wpOp hi hH ⟨hH, G⟩
    · exact absurd (hdone _ _ _ G j (ready_mono hj hji)) (by omega)
  | succ f ih =>
    intro listed a w inv hfree hr hy hH G
    have hun := (mem_ready.1 hr).1
    refine ⟨fun h => (by rw [h] at hr; cases hr), fun j hj => ?_⟩
    have hjn : j < n := Nat.lt_of_not_le fun h => absurd hj (tail_waits hs hc hn inv _ i rfl hin hun j h)
    refine ⟨hjn, ?_⟩
    by_cases hji : j = i
    · subst hji; exact hy.wpOp hi hH ⟨hH, G⟩
    · have h1 := (G.2 j (ready_mono hj hji)).2
      obtain ⟨hjun, oj, hoj, hall⟩ := mem_ready.1 hj
      have hnot : ∀ x ∈ oj.after, Region.binds .any x = true → x.on ≠ i := fun x hx hb heq => by
        have h1 := hall x hx hb
        rw [heq, getD_both hun] at h1
        cases h1
      have h2 := wpOp_putIf hoj (hfree j oj hoj hji hjun hnot) (fun cs b => hsel i oi cs b hi) (fun cs b => hsel j oj cs b hoj) hQ hy h1
      refine wpOp_mono (fun a' w' h3 => ⟨h3.2.1, ih (listed.setIfInBounds j true) a' w' (inv.set hj hjn) (fun k ok hk hki hun' hno => hfree k ok hk hki ?_ hno) (ready_mono hr (Ne.symm hji)) h3.1 h3.2.1 ?_⟩) h2
      · by_cases hjk : j = k
        · subst hjk; exact hjun
        · rw [getD_set_ne true hjk] at hun'; exact hun'
      · rw [Array.setIfInBounds_comm _ _ hji]
        exact h3.2.2

/-- what is to be shown along a plan -/
def PlanWp (P : Program) (ops : Array Oper) (Q : Exit → Act → World → Prop) (H : World → Prop) (L : Act → World → Prop) : List (Nat × Bool) → Act → World → Prop
  | [], a, w => L a w
  | (i, false) :: r, a, w => ∃ oi v, ops[i]? = some oi ∧ YieldsIf P ops H oi v a ∧ PlanWp P ops Q H L r (a.put oi.dst v) w
  | (i, true) :: r, a, w => wpOp P ops Q i (fun a' w' => H w' ∧ PlanWp P ops Q H L r a' w') a w

omit [Val] in
theorem plan_held {Q : Exit → Act → World → Prop} {n : Nat} {L : Act → World → Prop} (hsel : Region.noSelect ops = true) (hs : Region.sinkB .any ops n = true) (hc : Region.chainB .any ops n = true) (hn : n < ops.size)
    (hQ : ∀ (c : List PanicEntry) (a b : Act) (w : World), Q (.panic c) a w → Q (.panic c) b w) :
    ∀ (f : Nat) (listed : Array Bool) (l : List (Nat × Bool)) (a : Act) (w : World), planOf P ops n f listed = some l → HeadInv .any ops n listed → H w → PlanWp P ops Q H L l a w →
      heldHead P ops Q H n (fun listed' a' w' => Region.seqB .any ops (ops.size - n) n listed' = true ∧ L a' w') f listed a w
  | 0, listed, l, a, w, hp, inv, hH, h => by
    simp only [planOf] at hp
    split at hp
    · rename_i hB
      cases hp
      exact ⟨hB, h⟩
    · cases hp
  | f + 1, listed, l, a, w, hp, inv, hH, h => by
    simp only [planOf] at hp
    split at hp
    · rename_i i hfind
      have hprop := List.find?_some hfind
      have hmem := List.mem_of_find?_eq_some hfind
      simp only [Bool.and_eq_true, decide_eq_true_eq] at hprop
      obtain ⟨⟨hin, hfree⟩, -⟩ := hprop
      rw [Option.map_eq_some_iff] at hp
      obtain ⟨r, hr, rfl⟩ := hp
      obtain ⟨oi, v, hoi, hy, hrest⟩ := h
      exact held_first hoi (Region.noSelect_spec hsel) hs hc hn hin (fun c a w h => hQ c _ _ w h) (fun listed' a' w' hL => seqB_ready hL.1) f listed a w inv (Region.free_spec hoi hfree) hmem hy hH
        (plan_held hsel hs hc hn hQ f _ r _ w hr (inv.set hmem hin) hH hrest)
    · split at hp
      · rename_i i hready
        split at hp
        · rename_i hin
          rw [Option.map_eq_some_iff] at hp
          obtain ⟨r, hr, rfl⟩ := hp
          refine ⟨by rw [hready]; simp, fun j hj => ?_⟩
          rw [hready] at hj
          have hji : j = i := by simpa using hj
          subst hji
          have hmem : j ∈ Region.ready .any ops listed := by rw [hready]; simp
          exact ⟨hin, wpOp_mono (fun a' w' h' => ⟨h'.1, plan_held hsel hs hc hn hQ f _ r a' w' hr (inv.set hmem hin) h'.1 h'.2⟩) h⟩
        · cases hp
      · cases hp

omit [Val] in
theorem wp_region_plan {id n : Nat} {Q : Exit → Act → World → Prop} {a : Act} {w : World} {l : List (Nat × Bool)} (hm : P.follows .mixedOrders = true) (hp : planned P ops n = some l) (hH : H { w with drawn := w.drawn + 1 })
    (h : PlanWp P ops (Calm Q) H (fun a' w' => wpList P ops (Calm Q) (ops.toList.drop n) a' w') l a { w with drawn := w.drawn + 1 }) : (Code.region id ops true).wp P Q a w := by
  unfold planned at hp
  split at hp
  · rename_i hB
    simp only [Bool.and_eq_true, decide_eq_true_eq] at hB
    obtain ⟨⟨⟨hsel, hn⟩, hs⟩, hc⟩ := hB
    have hdl : (ops.toList.drop n).length = ops.size - n := by simp
    have inv0 : HeadInv .any ops n (Array.replicate ops.size false) :=
      ⟨by simp, fun j oj _ hl => (by rw [getD_replicate_false] at hl; cases hl), fun t _ ht => getD_in (by simpa using ht) (getD_replicate_false _ _)⟩
    have G := plan_held hsel hs hc hn (fun c a b w h => (h : False).elim) n _ l a _ hp inv0 hH h
    refine wp_mono (Q := Calm Q) (wp_region_any hm ?_) (fun e a w h => h.imp)
    have := any_of_held (Q := Calm Q) (g := ops.size - n) (fun listed a' w' hL => by
      have := wpAny_of_seq (md := .any) (Q' := Calm Q) (ops.toList.drop n) n listed a' w' (fun j => by simp [List.getElem?_drop]) (by rw [hdl]; exact hL.1) hL.2
      rwa [hdl] at this) _ _ _ _ G
    rw [show n + (ops.size - n) = ops.size by omega] at this
    exact this
  · cases hp
end

omit [Val] in
theorem planFor_spec {ops : Array Oper} : ∀ {ns : List Nat} {n : Nat} {l : List (Nat × Bool)}, planFor P ops ns = some (n, l) → planned P ops n = some l
  | [], _, _, h => by cases h
  | m :: r, n, l, h => by
    simp only [planFor] at h
    split at h
    · rename_i l' hl
      cases h
      exact hl
    · exact planFor_spec h

omit [Val] in
theorem planOf_in {ops : Array Oper} {n : Nat} : ∀ {f : Nat} {listed : Array Bool} {l : List (Nat × Bool)}, planOf P ops n f listed = some l → ∀ p ∈ l, ∃ o, ops[p.1]? = some o
  | 0, listed, l, h, p, hp => by
    simp only [planOf] at h
    split at h
    · cases h; cases hp
    · cases h
  | f + 1, listed, l, h, p, hp => by
    have rd : ∀ i, i ∈ Region.ready .any ops listed → ∃ o, ops[i]? = some o := fun i hi => by
      obtain ⟨_, o, ho, _⟩ := mem_ready.1 hi
      exact ⟨o, ho⟩
    simp only [planOf] at h
    split at h
    · rename_i i hfind
      rw [Option.map_eq_some_iff] at h
      obtain ⟨r, hr, rfl⟩ := h
      rcases List.mem_cons.1 hp with rfl | hp
      · exact rd i (List.mem_of_find?_eq_some hfind)
      · exact planOf_in hr p hp
    · split at h
      · rename_i i hready
        split at h
        · rw [Option.map_eq_some_iff] at h
          obtain ⟨r, hr, rfl⟩ := h
          rcases List.mem_cons.1 hp with rfl | hp
          · exact rd i (by rw [hready]; simp)
          · exact planOf_in hr p hp
        · cases h
      · cases h

omit [Val] in
theorem runPlan_cons {call : CallT} {nx : Nat} {R : St} {D : Option Nat} {p : J × Bool} {l : List (J × Bool)} {A : Fr} : runPlan P call NG nx R D (p :: l) A S =
    (match guardS A p.1.guard with
      | none => none
      | some false => putK A p.1.dst undef fun A => runPlan P call NG nx R D l A S
      | some true =>
        br p.2
          (match readI P A S p.1.i with
          | some v => putK A p.1.dst v fun A => runPlan P call NG nx R D l A S
          | none => effI call (br (isD D A p.1.i) NG nx) A S p.1.i fun v S => putK A p.1.dst v fun A => runPlan P call NG nx R D l A S)
          (match readI P A R p.1.i with
          | some v => putK A p.1.dst v fun A => runPlan P call NG nx R D l A S
          | none => none)) := rfl

theorem RR.sub {e' : Env} (h : RR e S w) (hs : Sub e e') : RR e' S w :=
  ⟨fun n B hB => let ⟨b, k, h1, h2⟩ := h.blk n B hB; ⟨b, k, hs _ _ h1, h2.congr hs rfl⟩, fun n B hB => let ⟨b, k, h1, h2⟩ := h.old n B hB; ⟨b, k, hs _ _ h1, h2.congr hs rfl⟩, fun n l hl => let ⟨b, k, h1, h2⟩ := h.mp n l hl; ⟨b, k, hs _ _ h1, h2.congr hs rfl⟩, fun n B hB => let ⟨b, k, h1, h2⟩ := h.ro n B hB; ⟨b, k, hs _ _ h1, h2.congr hs rfl⟩⟩

/-- the class is kept by what leaves the old blocks alone -/
theorem Cl.keep {w0 w1 w2 : World} (h : Cl e NG Bar S w0 w1) (hS0 : RS NG Bar e S w0) (hb : Below w0.heap.size w0 w2) : Cl e NG Bar S w0 w2 := by
  refine ⟨⟨fun n B hB => ?_, fun n B hB => ?_, h.1.inj, h.1.sep, h.1.fresh, h.1.bar, fun n b k hn => Nat.lt_of_lt_of_le (hS0.hi n b k hn) hb.size, Nat.le_trans hS0.room hb.size, h.1.low, h.1.full,
    fun n l hl => let ⟨b, k, g1, g2⟩ := hS0.mp n l hl; ⟨b, k, g1, g2.congr (Sub.refl _) (hb.block b (hS0.hi n b k g1))⟩, h.1.mpi,
    fun n B hB => let ⟨b, k, g1, g2⟩ := hS0.ro n B hB; ⟨b, k, g1, g2.congr (Sub.refl _) (hb.block b (hS0.hi n b k g1))⟩, h.1.roi, h.1.roo⟩, hb⟩
  · obtain ⟨b, k, g1, g2⟩ := hS0.blk n B hB
    exact ⟨b, k, g1, g2.congr (Sub.refl _) (hb.block b (hS0.hi n b k g1))⟩
  · obtain ⟨b, k, g1, g2⟩ := hS0.old n B hB
    exact ⟨b, k, g1, g2.congr (Sub.refl _) (hb.block b (hS0.hi n b k g1))⟩

/-- the blocks of a world stand, but for one -/
def Stays (x : Option Nat) (w0 w : World) : Prop := w0.heap.size ≤ w.heap.size ∧ ∀ k, k < w0.heap.size → x ≠ some k → w.heap[k]? = w0.heap[k]?

omit [Val] in
theorem Stays.refl (x : Option Nat) (w : World) : Stays x w w := ⟨Nat.le_refl _, fun _ _ _ => rfl⟩
omit [Val] in
theorem Stays.below {x : Option Nat} {w0 w w2 : World} (h : Stays x w0 w) (hb : Below w0.heap.size w w2) : Stays x w0 w2 :=
  ⟨Nat.le_trans h.1 hb.size, fun k hk hx => (hb.block k hk).trans (h.2 k hk hx)⟩

/-- what is read out of turn: all, or all but a block that is written to -/
def Outs (e : Env) (S0 R : St) (D x : Option Nat) : Prop :=
  (D = none ∧ x = none ∧ R = S0) ∨ ∃ d b c B, D = some d ∧ x = some b ∧ e d = some (b, c) ∧ S0.heap.get d = some B ∧ d < 1099511627775 ∧ R = St.mk (S0.heap.set none d) .leaf S0.next S0.maps S0.ro

theorem Outs.keep {S0 R : St} {D x : Option Nat} {w0 w : World} (h : Outs e S0 R D x) (hS0 : RS NG Bar e S0 w0) (hst : Stays x w0 w) : RR e R w := by
  rcases h with ⟨-, rfl, rfl⟩ | ⟨d, b0, c0, B0, -, rfl, hd, hB0, hdl, rfl⟩
  · have hb : ∀ b, b < w0.heap.size → w.heap[b]? = w0.heap[b]? := fun b h => hst.2 b h (by simp)
    refine ⟨fun n B hB => ?_, fun n B hB => ?_, fun n l hl => ?_, fun n B hB => ?_⟩
    · obtain ⟨b, k, g1, g2⟩ := hS0.blk n B hB
      exact ⟨b, k, g1, g2.congr (Sub.refl _) (hb b (hS0.hi n b k g1))⟩
    · obtain ⟨b, k, g1, g2⟩ := hS0.old n B hB
      exact ⟨b, k, g1, g2.congr (Sub.refl _) (hb b (hS0.hi n b k g1))⟩
    · obtain ⟨b, k, g1, g2⟩ := hS0.mp n l hl
      exact ⟨b, k, g1, g2.congr (Sub.refl _) (hb b (hS0.hi n b k g1))⟩
    · obtain ⟨b, k, g1, g2⟩ := hS0.ro n B hB
      exact ⟨b, k, g1, g2.congr (Sub.refl _) (hb b (hS0.hi n b k g1))⟩
  · have hb : ∀ b, b < w0.heap.size → b ≠ b0 → w.heap[b]? = w0.heap[b]? := fun b h hne => hst.2 b h (fun he => by cases he; exact hne rfl)
    obtain ⟨b1, k1, h1, h2⟩ := hS0.blk d B0 hB0
    rw [hd] at h1
    cases h1
    refine ⟨fun n B hB => ?_, fun n B hB => ?_, fun n l hl => ?_, fun n B hB => ?_⟩
    · have hB' : (S0.heap.set none d).get n = some B := hB
      rw [get_set _ _ _ _ (by omega)] at hB'
      split at hB'
      · cases hB'
      · rename_i hnd
        obtain ⟨b, k, g1, g2⟩ := hS0.blk n B hB'
        exact ⟨b, k, g1, g2.congr (Sub.refl _) (hb b (hS0.hi n b k g1) (fun hx => hnd (hS0.inj n d B B0 b k c0 hB' hB0 g1 (by rw [hx]; exact hd))))⟩
    · have hB' : (Tr.leaf : Tr Blk).get n = some B := hB
      simp [Tr.get] at hB'
    · obtain ⟨b, k, g1, g2⟩ := hS0.mp n l hl
      obtain ⟨cs, h3, h4⟩ := h2
      exact ⟨b, k, g1, g2.congr (Sub.refl _) (hb b (hS0.hi n b k g1) (g2.ne h3))⟩
    · obtain ⟨b, k, g1, g2⟩ := hS0.ro n B hB
      exact ⟨b, k, g1, g2.congr (Sub.refl _) (hb b (hS0.hi n b k g1) (fun hx => hS0.roi n d B B0 b k c0 hB hB0 g1 (by rw [hx]; exact hd)))⟩

theorem RS.rebar {NG2 Bar2 : Nat} {S' : St} {w' : World} (h : RS NG Bar e S' w') (h1 : ∀ n b k, e n = some (b, k) → NG2 ≤ n → Bar2 ≤ b) (h2 : Bar2 ≤ w'.heap.size) (h3 : NG2 ≤ S'.next) : RS NG2 Bar2 e S' w' :=
  ⟨h.blk, h.old, h.inj, h.sep, h.fresh, h1, h.hi, h2, h3, h.full, h.mp, h.mpi, h.ro, h.roi, h.roo⟩

omit [Val] in
theorem compOp_st {o : Oper} {n : Nat} {x y : Operand} (h : compOp P o = .st n x y) : ∃ t it, o.op = .store t x y ∧ P.info? t = some it ∧ n = it.size := by
  unfold compOp at h
  split at h
  case h_17 t x' y' ho =>
    split at h
    · rename_i it hi
      cases h
      exact ⟨t, it, ho, hi, rfl⟩
    · cases h
  all_goals exfalso; revert h; repeat' split
  all_goals simp

/-- a store to the one block -/
theorem store_step {call : CallT} {o : Oper} {A : Fr} {a : Act} {d b c : Nat} {β : Type} {k : Value → St → Option β} {r : β} (hF : RF e A a) (hS : RS NG Bar e S w) (hD : isD (some d) A (compOp P o) = true) (he : e d = some (b, c))
    (h : effI call NG A S (compOp P o) k = some r) :
    ∃ S' w', k undef S' = some r ∧ (execOp a.eval o).run P w = .ok .skip w' ∧ RS NG Bar e S' w' ∧ Below Bar w w' ∧ S'.next = S.next ∧ ∀ m, m ≠ b → w'.heap[m]? = w.heap[m]? := by
  unfold isD at hD
  simp only at hD
  split at hD
  · rename_i n x y hc
    split at hD
    · rename_i b' off hx
      have hbd : b' = d := by rw [beq_dec] at hD; exact of_decide_eq_true hD
      subst hbd
      obtain ⟨t, it, ho, hi, rfl⟩ := compOp_st hc
      rw [hc] at h
      simp only [effI, hx] at h
      split at h
      · rename_i bb off2 v hxx hy
        cases hxx
        rw [br_eq, beq_dec] at h
        split at h
        · rename_i hsz
          have hsz : v.cells.toList.length = it.size := of_decide_eq_true hsz
          have h1 := hF.ev hx
          have h2 := hF.ev hy
          rw [RV] at h1
          obtain ⟨b', c', h3, h4, h5⟩ := h1
          have h3' : e _ = some (b', c') := h3
          rw [he] at h3'
          cases h3'
          obtain ⟨S', w', h6, h7, h8, h9, h10, h11⟩ := store_sound (P := P) hS h h2.cells he
          refine ⟨S', w', h6, ?_, h7, h8, h10, h11⟩
          have hsz' : (a.eval y).cells.size = it.size := by rw [← Array.length_toList, h2.cells.length]; exact hsz
          have hrun : (storeCells ⟨b, off, none⟩ (a.eval y).cells.toList).run P w = .ok () w' := h9 0 rfl
          simp [execOp, ho, h5, Instr.storeAt, Instr.sureAddr, storeVar, sizeOf, typeInfo, hi, hsz', hrun]
        · cases h
      · cases h
    · cases hD
  · cases hD

section
variable {G : Nat} {call : CallT} (hC : CallOK P G call) (hn : NumOK P)
include hC hn

theorem plan_list {ops : Array Oper} {Q : Exit → Act → World → Prop} {w0 : World} {S0 R : St} {D x : Option Nat} {A' : Fr} {S' : St} (hS0 : RS NG Bar e S0 w0) (hR : Outs e S0 R D x) (hG : Globs G e) {L : Act → World → Prop} {A0 : Fr} {a0 : Act}
    (hL : ∀ e1 A1 a' w', Sub e e1 → RF e1 A1 a' → RS S0.next w0.heap.size e1 S' w' → Below Bar w0 w' → A1.ng = A0.ng → a'.defers = a0.defers → A1 = A' → L a' w') :
    ∀ (l : List (Nat × Bool)) (e1 : Env) (A : Fr) (S : St) (a : Act) (w : World), (∀ p ∈ l, ∃ o, ops[p.1]? = some o) → Sub e e1 → RF e1 A a → RS S0.next w0.heap.size e1 S w → Stays x w0 w → Below Bar w0 w → A.ng = A0.ng → a.defers = a0.defers →
      runPlan P call NG S0.next R D (compH P ops l) A S = some (A', S') → PlanWp P ops Q (RR e R) L l a w
  | [], e1, A, S, a, w, _, hs, hF, hS, hst, hb, hng, hd, h => by
    have h' : some (A, S) = some (A', S') := h
    cases h'
    exact hL e1 _ a w hs hF hS hb hng hd rfl
  | (i, b) :: r, e1, A, S, a, w, hin, hs, hF, hS, hst, hb, hng, hd, h => by
    obtain ⟨o, ho⟩ := hin (i, b) (by simp)
    have hin' : ∀ p ∈ r, ∃ o, ops[p.1]? = some o := fun p hp => hin p (by simp [hp])
    simp only at ho
    rw [compH, ho] at h
    simp only at h
    rw [runPlan_cons] at h
    simp only [compJ] at h
    have hcl : RR e R w := hR.keep hS0 hst
    have step : ∀ (v : Value) (S1 : St), (putK A o.dst v fun A => runPlan P call NG S0.next R D (compH P ops r) A S1) = some (A', S') → ∀ e2 v' w2, Sub e1 e2 → RV e2 v v' → RS S0.next w0.heap.size e2 S1 w2 → Stays x w0 w2 → Below Bar w0 w2 →
        PlanWp P ops Q (RR e R) L r (a.put o.dst v') w2 := by
      intro v S1 hput e2 v' w2 h1 h2 h3 h4 h5
      obtain ⟨A1, h6, h7, h8⟩ := put_sound (hF.mono h1) h2 hput
      exact plan_list hS0 hR hG hL r e2 A1 S1 _ w2 hin' (hs.trans h1) h7 h3 h4 h5 (h8.trans hng) (by rw [put_defs]; exact hd) h6
    split at h
    · cases h
    · rename_i hg
      have hw := guard_sound hF hg
      have hrest := step undef S h e1 undef w (Sub.refl _) (RV.of_flat rfl) hS hst hb
      cases b with
      | false => exact ⟨o, undef, ho, .inr ⟨hw, rfl⟩, hrest⟩
      | true =>
        show wpOp P ops Q i _ a w
        unfold wpOp
        rw [ho]
        simp only [hw, Bool.false_eq_true, if_false]
        exact ⟨hcl, hrest⟩
    · rename_i hg
      have hw := guard_sound hF hg
      cases b with
      | false =>
        rw [br_false] at h
        split at h
        · rename_i v hv
          have hr0 : RR e1 R w := hcl.sub hs
          obtain ⟨v', h1, h2⟩ := readI_sound hF hr0 hv
          refine ⟨o, v', ho, .inl ⟨hw, fun w2 hw2 => ?_⟩, step v S h e1 v' w (Sub.refl _) h2 hS hst hb⟩
          obtain ⟨v2, h3, h4⟩ := readI_sound hF (hw2.sub hs) hv
          rw [h3, RV.inj h4 h2]
        · cases h
      | true =>
        rw [br_true] at h
        show wpOp P ops Q i _ a w
        unfold wpOp
        rw [ho]
        simp only [hw, if_true]
        refine .inl ?_
        have far : ∀ w2, Below w0.heap.size w w2 → Stays x w0 w2 ∧ Below Bar w0 w2 := fun w2 g => ⟨hst.below g, hb.trans (g.mono hS0.room)⟩
        split at h
        · rename_i v hv
          exact (Does.eff hS (readI_sound hF hS.rr hv)).mono fun e2 v' w2 g1 g2 g3 g4 => ⟨hR.keep hS0 (far w2 g4).1, step v S h e2 v' w2 g1 g2 g3 (far w2 g4).1 (far w2 g4).2⟩
        · rw [br_eq] at h
          split at h
          · rename_i hisD
            rcases hR with ⟨rfl, -, -⟩ | ⟨d, b0, c0, B0, rfl, rfl, hdd, hB0, hdl, rfl⟩
            · simp [isD] at hisD
            · have hR' : Outs e S0 (St.mk (S0.heap.set none d) .leaf S0.next S0.maps S0.ro) (some d) (some b0) := .inr ⟨d, b0, c0, B0, rfl, rfl, hdd, hB0, hdl, rfl⟩
              have hSN : RS NG Bar e1 S w := hS.rebar (fun n b' k' hn hle => by
                rcases Nat.lt_or_ge n S0.next with hlt | hge
                · obtain ⟨p, hp⟩ := hS0.full n hlt
                  have := hs _ _ hp
                  rw [hn] at this
                  cases this
                  exact hS0.bar n _ _ hp hle
                · exact Nat.le_trans hS0.room (hS.bar n b' k' hn hge)) (Nat.le_trans hS0.room hS.room) (Nat.le_trans hS0.low hS.low)
              obtain ⟨S1, w2, g1, g2, g3, g4, g5, g6⟩ := store_step hF hSN hisD (hs _ _ hdd) h
              have hst2 : Stays (some b0) w0 w2 := ⟨Nat.le_trans hst.1 g4.size, fun k hk hx => (g6 k (fun he => hx (by rw [he]))).trans (hst.2 k hk hx)⟩
              have hb2 : Below Bar w0 w2 := hb.trans g4
              have hS2 : RS S0.next w0.heap.size e1 S1 w2 := g3.rebar hS.bar (Nat.le_trans hS.room g4.size) (by rw [g5]; exact hS.low)
              unfold Oper.wp
              rw [g2]
              exact ⟨hR'.keep hS0 hst2, step undef S1 g1 e1 undef w2 (Sub.refl _) (RV.of_flat rfl) hS2 hst2 hb2⟩
          · obtain ⟨v, S1, h1, h2⟩ := effI_sound hF hS hC (fun g hg => hs _ _ (hG g hg)) hn h
            exact h2.mono fun e2 v' w2 g1 g2 g3 g4 => ⟨hR.keep hS0 (far w2 g4).1, step v S1 h1 e2 v' w2 g1 g2 g3 (far w2 g4).1 (far w2 g4).2⟩

theorem plan_region_of (hm : P.follows .mixedOrders = true) {id : Nat} {ops : Array Oper} {n : Nat} {ns : List Nat} {l : List (Nat × Bool)} {A A1 A' : Fr} {S1 S' R : St} {D x : Option Nat} {a : Act} {Q : Exit → Act → World → Prop} (hF : RF e A a) (hS : RS NG Bar e S w) (hG : Globs G e)
    (hR : Outs e S R D x) (hp : planFor P ops ns = some (n, l)) (h1 : runPlan P call NG S.next R D (compH P ops l) A S = some (A1, S1)) (h2 : runOps P call NG (compL P ops 0 (ops.toList.drop n)) A1 S1 = some (A', S'))
    (hQ : ∀ a' w', Left e NG Bar A' S' a w a' w' ∧ A'.ng = A.ng → Q .normal a' w') : (Code.region id ops true).wp P Q a w := by
  have hpl := planFor_spec hp
  have hS0 : RS NG Bar e S { w with drawn := w.drawn + 1 } := hS.heap_eq rfl
  have hin : ∀ p ∈ l, ∃ o, ops[p.1]? = some o := by
    unfold planned at hpl
    split at hpl
    · exact planOf_in hpl
    · cases hpl
  have hb0 : Below Bar w { w with drawn := w.drawn + 1 } := (Below.refl _ _).drew
  refine wp_region_plan (H := RR e R) hm hpl (hR.keep hS0 (Stays.refl _ _)) ?_
  have hSw : RS S.next w.heap.size e S { w with drawn := w.drawn + 1 } :=
    ⟨hS0.blk, hS0.old, hS0.inj, hS0.sep, hS0.fresh, (fun n b k hn hle => by rw [hS0.fresh n hle] at hn; cases hn), hS0.hi, Nat.le_refl _, Nat.le_refl _, hS0.full, hS0.mp, hS0.mpi, hS0.ro, hS0.roi, hS0.roo⟩
  refine plan_list hC hn (A0 := A) (a0 := a) (A' := A1) (S' := S1) hS0 hR hG (fun e1 A2 a' w' g1 g2 g3 g4 g5 g6 g7 => ?_) l e A S a _ hin (Sub.refl _) hF hSw (Stays.refl _ _) (Below.refl _ _) rfl rfl h1
  subst g7
  have hS1 : RS NG Bar e1 S1 w' := by
    refine ⟨g3.blk, g3.old, g3.inj, g3.sep, g3.fresh, fun m b k hm hle => ?_, g3.hi, Nat.le_trans hS.room g3.room, Nat.le_trans hS.low g3.low, g3.full, g3.mp, g3.mpi, g3.ro, g3.roi, g3.roo⟩
    rcases Nat.lt_or_ge m S.next with hlt | hge
    · obtain ⟨p, hp⟩ := hS.full m hlt
      rw [g1 _ _ hp] at hm
      cases hm
      exact hS.bar m _ _ hp hle
    · exact Nat.le_trans hS.room (g3.bar m b k hm hge)
  have h2' : runOps P call NG ((ops.toList.drop n).map (compJ P ops false)) A2 S1 = some (A', S') := by rw [compL_eq] at h2; simpa using h2
  refine list_sound hC hn (ops.toList.drop n) e1 A2 S1 a' w' A' S' (Calm Q) g2 hS1 (fun g hg => g1 _ _ (hG g hg)) h2' (fun a'' w'' hl => hQ a'' w'' ⟨?_, hl.2.trans g5⟩)
  obtain ⟨e2, k1, k2, k3, k4, k5⟩ := hl.1
  exact ⟨e2, g1.trans k1, k2, k3, hb0.trans (g4.trans k4), k5.trans g6⟩

theorem plan_region (hm : P.follows .mixedOrders = true) {id : Nat} {ops : Array Oper} {n : Nat} {ns : List Nat} {l : List (Nat × Bool)} {A A1 A' : Fr} {S1 S' : St} {a : Act} {Q : Exit → Act → World → Prop} (hF : RF e A a) (hS : RS NG Bar e S w) (hG : Globs G e)
    (hp : planFor P ops ns = some (n, l)) (h1 : planRun P call NG (compH P ops l) A S = some (A1, S1)) (h2 : runOps P call NG (compL P ops 0 (ops.toList.drop n)) A1 S1 = some (A', S'))
    (hQ : ∀ a' w', Left e NG Bar A' S' a w a' w' ∧ A'.ng = A.ng → Q .normal a' w') : (Code.region id ops true).wp P Q a w := by
  unfold planRun at h1
  split at h1
  · rename_i r hr
    cases h1
    exact plan_region_of hC hn hm hF hS hG (.inl ⟨rfl, rfl, rfl⟩) hp hr h2 hQ
  · split at h1
    · cases h1
    · rename_i d hd
      split at h1
      · cases h1
      · rename_i B hB
        rw [br_eq, blt_dec] at h1
        split at h1
        · rename_i hlim
          have hlim : d < 1099511627775 := of_decide_eq_true hlim
          rw [setK_eq] at h1
          obtain ⟨b, c, g1, g2⟩ := hS.blk d B hB
          exact plan_region_of hC hn hm hF hS hG (.inr ⟨d, b, c, B, rfl, rfl, g1, hB, hlim, rfl⟩) hp h1 h2 hQ
        · cases h1
end
end Go.Sim
namespace Go.Sim
variable [Val]
open Go.RowKit
variable {P : Program} {e : Env} {NG Bar : Nat} {S : St} {w : World}

def Ex.to : Ex → Exit
  | .normal => .normal
  | .exit id => .exit id
  | .ret => .ret

omit [Val] in
theorem exec_succ {call : CallT} {n : Nat} {c : C} {A : Fr} : exec P call NG (n + 1) c A S = step P call NG (exec P call NG n) c A S := rfl

omit [Val] in
theorem then_of {x : Ex} {K : Act → World → Prop} {Q : Exit → Act → World → Prop} {a : Act} {w : World} (hne : x = .normal → False) (h : Q x.to a w) : Exit.then K Q x.to a w := by
  cases x with
  | normal => exact (hne rfl).elim
  | exit id => exact h
  | ret => exact h

omit [Val] in
theorem inBlock_of {x : Ex} {id : Nat} {Q : Exit → Act → World → Prop} {a : Act} {w : World} (hne : ∀ id, x = .exit id → False) (h : Q x.to a w) : Exit.inBlock id Q x.to a w := by
  cases x with
  | normal => exact h
  | exit id => exact (hne id rfl).elim
  | ret => exact h

/-- a result's reading -/
def resS (a : Act) : ResultVar → Sem Value
  | .tmp t => pure (a.tmps.getD t undef)
  | .cell x t => do loadVar t (← asAddr (a.tmps.getD x undef))

theorem RS.low_below {w' : World} (hS : RS NG Bar e S w) (h : Below w.heap.size w w') : Below Bar w w' := h.mono hS.room

section
variable {G : Nat} {call : CallT} (hC : CallOK P G call) (hn : NumOK P) (hm : P.follows .mixedOrders = true)
include hC hn hm

theorem region_sound {id : Nat} {ops : Array Oper} {draw : Bool} {n : Nat} {A A' : Fr} {S' : St} {a : Act} {Q : Exit → Act → World → Prop} (hF : RF e A a) (hS : RS NG Bar e S w) (hG : Globs G e)
    (hd : drawRo P ops draw = some n) (h : runOps P call NG (compL P ops n ops.toList) A S = some (A', S')) (hQ : ∀ a' w', Left e NG Bar A' S' a w a' w' ∧ A'.ng = A.ng → Q .normal a' w') :
    (Code.region id ops draw).wp P Q a w := by
  rw [compL_eq] at h
  unfold drawRo at hd
  cases draw with
  | false =>
    simp only [Bool.false_eq_true, if_false, Option.some.injEq] at hd
    subst hd
    refine wp_region_list ?_
    exact list_sound hC hn ops.toList e A S a w A' S' Q hF hS hG (by simpa using h) hQ
  | true =>
    simp only [if_true] at hd
    have hC0 : Cl e NG Bar S w { w with drawn := w.drawn + 1 } := ⟨hS.heap_eq rfl, (Below.refl _ _).drew⟩
    split at hd
    · rename_i hB
      cases hd
      rw [Bool.and_eq_true] at hB
      refine wp_region_quiet (C := Cl e NG Bar S w) hm hB.1 hC0 ?_
      have ht : ops.toList.take ops.size = ops.toList := by rw [← Array.length_toList]; exact List.take_length
      have hd0 : ops.toList.drop ops.size = [] := by rw [← Array.length_toList]; exact List.drop_length
      rw [ht, hd0] at h
      refine quiet_list hC hn ops.toList A a A' S' _ _ hF hS hG h (fun A1 a' h1 h2 h3 h4 w' hw' => hQ a' w' ?_)
      have h4' : some (A1, S) = some (A', S') := h4
      cases h4'
      exact ⟨⟨e, Sub.refl _, h1, hw'.1, hS.low_below hw'.2, h3⟩, h2⟩
    · have hB : Region.lexTailB .any ops n = true := by have := List.find?_some hd; rw [Bool.and_eq_true] at this; exact this.1
      refine wp_region_head (C := Cl e NG Bar S w) n hm hB hC0 ?_
      refine quiet_list hC hn (ops.toList.take n) A a A' S' _ _ hF hS hG h (fun A1 a' h1 h2 h3 h4 w' hw' => ?_)
      refine list_sound hC hn (ops.toList.drop n) e A1 S a' w' A' S' Q h1 hw'.1 hG h4 (fun a'' w'' hl => hQ a'' w'' ⟨?_, hl.2.trans h2⟩)
      obtain ⟨e2, g1, g2, g3, g4, g5⟩ := hl.1
      exact ⟨e2, g1, g2, g3, (hS.low_below hw'.2).trans g4, g5.trans h3⟩

theorem exec_sound : ∀ (n : Nat),
    (∀ (c : Code) (e : Env) (A : Fr) (S : St) (a : Act) (w : World) (x : Ex) (A' : Fr) (S' : St) (Q : Exit → Act → World → Prop), RF e A a → RS NG Bar e S w → Globs G e →
      exec P call NG n (compC P c) A S = some (x, A', S') → (∀ a' w', Left e NG Bar A' S' a w a' w' ∧ A'.ng = A.ng → Q x.to a' w') → c.wp P Q a w) ∧
    (∀ (c : Code) (e : Env) (A : Fr) (S : St) (a : Act) (w : World) (x : Ex) (A' : Fr) (S' : St) (Q : Exit → Act → World → Prop), RF e A a → RS NG Bar e S w → Globs G e →
      exec P call NG n (.loop (compC P c)) A S = some (x, A', S') → (∀ a' w', Left e NG Bar A' S' a w a' w' ∧ A'.ng = A.ng → Q x.to a' w') → Code.rounds P c Q n a w)
  | 0 => ⟨(fun c e A S a w x A' S' Q _ _ _ h _ => by cases (show (none : Option (Ex × Fr × St)) = some (x, A', S') from h)), (fun c e A S a w x A' S' Q _ _ _ h _ => by cases (show (none : Option (Ex × Fr × St)) = some (x, A', S') from h))⟩
  | n + 1 => by
    obtain ⟨ih1, ih2⟩ := exec_sound n
    have chain : ∀ {e : Env} {A A1 A' : Fr} {S1 S' : St} {a a1 a' : Act} {w w1 w' : World} {e1 : Env}, Sub e e1 → Below Bar w w1 → a1.defers = a.defers → A1.ng = A.ng → Left e1 NG Bar A' S' a1 w1 a' w' ∧ A'.ng = A1.ng → Left e NG Bar A' S' a w a' w' ∧ A'.ng = A.ng := by
      intro e A A1 A' S1 S' a a1 a' w w1 w' e1 h1 h2 h3 h4 h5
      obtain ⟨⟨e2, g1, g2, g3, g4, g5⟩, g6⟩ := h5
      exact ⟨⟨e2, h1.trans g1, g2, g3, h2.trans g4, g5.trans h3⟩, g6.trans h4⟩
    have loopR : ∀ (c : Code) (e : Env) (A : Fr) (S : St) (a : Act) (w : World) (x : Ex) (A' : Fr) (S' : St) (Q : Exit → Act → World → Prop), RF e A a → RS NG Bar e S w → Globs G e →
      exec P call NG (n + 1) (.loop (compC P c)) A S = some (x, A', S') → (∀ a' w', Left e NG Bar A' S' a w a' w' ∧ A'.ng = A.ng → Q x.to a' w') → Code.rounds P c Q (n + 1) a w := by
      intro c e A S a w x A' S' Q hF hS hG h hQ
      rw [exec_succ] at h
      simp only [step] at h
      rw [rounds_succ]
      split at h
      · cases h
      · rename_i x1 A1 S1 h1
        refine ih1 c e A S a w x1 A1 S1 _ hF hS hG h1 (fun a1 w1 hl => ?_)
        obtain ⟨⟨e1, g1, g2, g3, g4, g5⟩, g6⟩ := hl
        split at h
        · exact ih2 c e1 A1 S1 a1 w1 x A' S' Q g2 g3 (fun g hg => g1 _ _ (hG g hg)) h (fun a' w' h5 => hQ a' w' (chain (S1 := S1) g1 g4 g5 g6 h5))
        · rename_i hne
          cases h
          exact then_of hne (hQ a1 w1 ⟨⟨e1, g1, g2, g3, g4, g5⟩, g6⟩)
    refine ⟨fun c e A S a w x A' S' Q hF hS hG h hQ => ?_, loopR⟩
    cases c with
    | skip =>
      have h' : some (Ex.normal, A, S) = some (x, A', S') := h
      cases h'
      exact wp_skip (hQ a w ⟨Left.refl hF hS, rfl⟩)
    | label l =>
      have h' : some (Ex.normal, A, S) = some (x, A', S') := h
      cases h'
      exact wp_label (hQ a w ⟨Left.refl hF hS, rfl⟩)
    | region id ops draw =>
      simp only [compC, compR] at h
      split at h
      · rename_i m hd
        have hd : drawRo P ops draw = some m := by
          unfold drawRo' at hd
          split at hd
          · rename_i m' hm'
            split at hd
            · cases hd
            · cases hd; exact hm'
          · cases hd
        rw [exec_succ] at h
        simp only [step] at h
        split at h
        · cases h
        · rename_i A1 S1 h1
          cases h
          exact region_sound hC hn hm hF hS hG hd h1 hQ
      · split at h
        · rename_i hdr
          have hdr : draw = true := hdr
          split at h
          · rename_i m l hp
            rw [exec_succ] at h
            simp only [step] at h
            split at h
            · cases h
            · rename_i A1 S1 h1
              split at h
              · cases h
              · rename_i A2 S2 h2
                cases h
                subst hdr
                exact plan_region hC hn hm hF hS hG hp h1 h2 hQ
          · rw [exec_succ] at h
            simp [step] at h
        · rw [exec_succ] at h
          simp [step] at h
    | seq c1 c2 =>
      simp only [compC] at h
      rw [exec_succ] at h
      simp only [step] at h
      split at h
      · cases h
      · rename_i x1 A1 S1 h1
        refine wp_seq (ih1 c1 e A S a w x1 A1 S1 _ hF hS hG h1 (fun a1 w1 hl => ?_))
        obtain ⟨⟨e1, g1, g2, g3, g4, g5⟩, g6⟩ := hl
        split at h
        · exact ih1 c2 e1 A1 S1 a1 w1 x A' S' Q g2 g3 (fun g hg => g1 _ _ (hG g hg)) h (fun a' w' h5 => hQ a' w' (chain (S1 := S1) g1 g4 g5 g6 h5))
        · rename_i hne
          cases h
          exact then_of hne (hQ a1 w1 ⟨⟨e1, g1, g2, g3, g4, g5⟩, g6⟩)
    | cond y c1 c2 =>
      simp only [compC] at h
      rw [exec_succ] at h
      simp only [step] at h
      split at h
      · rename_i t ht
        have h1 := hF.ev ht
        rw [RV] at h1
        refine wp_cond h1 ?_
        rw [br_eq] at h
        cases t with
        | true => exact ih1 c1 e A S a w x A' S' Q hF hS hG (by simpa using h) hQ
        | false => exact ih1 c2 e A S a w x A' S' Q hF hS hG (by simpa using h) hQ
      · cases h
    | block id c1 =>
      simp only [compC] at h
      rw [exec_succ] at h
      simp only [step] at h
      split at h
      · cases h
      · rename_i x1 A1 S1 h1
        refine wp_block (ih1 c1 e A S a w x1 A1 S1 _ hF hS hG h1 (fun a1 w1 hl => ?_))
        split at h
        · rename_i id'
          rw [br_eq, beq_dec] at h
          simp only [Ex.to, Exit.inBlock]
          split at h
          · rename_i hid
            have hid : id' = id := of_decide_eq_true hid
            cases h
            rw [if_pos hid]
            exact hQ a1 w1 hl
          · rename_i hid
            have hid : ¬ id' = id := fun h => hid (decide_eq_true h)
            cases h
            rw [if_neg hid]
            exact hQ a1 w1 hl
        · rename_i hne
          cases h
          exact inBlock_of hne (hQ a1 w1 hl)
    | loop c1 => exact wp_loop_rounds (n + 1) (loopR c1 e A S a w x A' S' Q hF hS hG h hQ)
    | exit id =>
      have h' : some (Ex.exit id, A, S) = some (x, A', S') := h
      cases h'
      exact wp_exit (hQ a w ⟨Left.refl hF hS, rfl⟩)
    | ret =>
      have h' : some (Ex.ret, A, S) = some (x, A', S') := h
      cases h'
      exact wp_ret (hQ a w ⟨Left.refl hF hS, rfl⟩)
    | rangeFunc f ps as b => rw [exec_succ] at h; simp [compC, step] at h
    | scope b => rw [exec_succ] at h; simp [compC, step] at h
    | goto l => rw [exec_succ] at h; simp [compC, step] at h
    | refuse s => rw [exec_succ] at h; simp [compC, step] at h
end

/-! ### a call's results -/
theorem resV_sound {A : Fr} {a : Act} (hF : RF e A a) (hS : RS NG Bar e S w) {r : ResultVar} {v : Value} (h : resV P A S r = some v) :
    ∃ v', (resS a r).run P w = .ok v' w ∧ RV e v v' := by
  cases r with
  | tmp t =>
    obtain ⟨v', h1, h2⟩ := hF.tmp t v h
    exact ⟨v', by simp [resS, Array.getD_eq_getD_getElem?, h1], h2⟩
  | cell x t =>
    simp only [resV] at h
    split at h
    · rename_i b off d i hx hu hi
      obtain ⟨v0, h1, h2⟩ := hF.tmp x _ hx
      rw [RV] at h2
      obtain ⟨b', k, h3, h4, h5⟩ := h2
      have hg : a.tmps.getD x undef = .pointer (some ⟨b', off, none⟩) := by rw [Array.getD_eq_getD_getElem?, h1, h5]; rfl
      rw [br_eq] at h
      split at h
      · rename_i hd
        split at h
        · cases h
        · rename_i l hl
          cases h
          obtain ⟨b2, c, l', h7, h8, h9, h10⟩ := loadN_sound hS.rr hl ⟨_, h3⟩
          have hb : b' = b2 := by have := h3.symm.trans h7; simp at this; exact this.1
          subst hb
          have := run_loadVar_mid w b' off t l' d h8 hu (by cases d <;> simp_all [isAggD]) (by rw [hi]; simp [h9.length, h10])
          exact ⟨.agg l'.toArray, by simp [resS, hg, asAddr, this], by rw [RV]; exact ⟨l', h9, rfl⟩⟩
      · rename_i hd
        obtain ⟨b2, c, v', h7, h8, h9⟩ := getCell_sound hS.rr h
        have hb : b' = b2 := by have := h3.symm.trans h7; simp at this; exact this.1
        subst hb
        have hagg : (isAgg t).run P w = .ok false w := by
          unfold isAgg
          rw [Sem.run_bind, run_underlying hu w]
          cases d <;> simp_all [isAggD]
        exact ⟨v', by simp [resS, hg, asAddr, loadVar, hagg, run_load, h8], h9⟩
    · cases h

theorem resultVs_sound {A : Fr} {a : Act} (hF : RF e A a) (hS : RS NG Bar e S w) : ∀ {l : List ResultVar} {vs : List Value}, resultVs P A S l = some vs →
    ∃ vs', (l.mapM (resS a)).run P w = .ok vs' w ∧ RVL e vs vs'
  | [], vs, h => by cases h; exact ⟨[], by simp, rfl⟩
  | r :: rest, vs, h => by
    simp only [resultVs] at h
    split at h
    · cases h
    · rename_i v hv
      split at h
      · cases h
      · rename_i l hl
        cases h
        obtain ⟨v', h1, h2⟩ := resV_sound hF hS hv
        obtain ⟨vs', h3, h4⟩ := resultVs_sound hF hS hl
        refine ⟨v' :: vs', ?_, RVL.cons h2 h4⟩
        rw [List.mapM_cons]
        simp only [Sem.run_bind, h1, Result.andThen_ok, h3, Sem.run_pure]

theorem results_sound {A : Fr} {a : Act} {fn : Func} (hF : RF e A a) (hS : RS NG Bar e S w) {vs : List Value} (h : resultVs P A S fn.results.toList = some vs) :
    ∃ v', (results fn a.tmps).run P w = .ok v' w ∧ RV e (oneOf vs) v' := by
  obtain ⟨vs', h1, h2⟩ := resultVs_sound hF hS h
  have hrun : (results fn a.tmps).run P w = .ok (if h : vs'.toArray.size = 1 then vs'.toArray[0] else .tuple vs'.toArray) w := by
    have hres : results fn a.tmps = (do let vs ← fn.results.mapM (resS a); pure (if h : vs.size = 1 then vs[0] else .tuple vs)) := by
      unfold results
      congr 1
    rw [hres, Array.mapM_eq_mapM_toList]
    simp only [Sem.run_bind, Sem.run_map, h1, Result.andThen_ok, Sem.run_pure]
  refine ⟨_, hrun, ?_⟩
  cases vs with
  | nil =>
    rw [RVL] at h2
    subst h2
    exact ⟨[], rfl, rfl⟩
  | cons v rest =>
    cases rest with
    | nil =>
      obtain ⟨v', r', h3, h4, h5⟩ := h2
      rw [RVL] at h4
      subst h4
      subst h5
      exact h3
    | cons v2 rest =>
      have hl := h2.length
      have : ¬ vs'.toArray.size = 1 := by simp [hl]
      rw [dif_neg this]
      exact ⟨vs', h2, rfl⟩

omit [Val] in
theorem init_sound {β : Type} (nt : Nat) : ∀ (l : List Value) (i : Nat) (t : Tr Value) (k : Tr Value → Option β) (r : β), initK nt l i t k = some r →
    ∃ t', k t' = some r ∧ (l ≠ [] → i + l.length ≤ nt) ∧ ∀ j, t'.get j = if i ≤ j ∧ j < i + l.length then l[j - i]? else t.get j
  | [], i, t, k, r, h => ⟨t, h, fun h => absurd rfl h, fun j => by rw [if_neg (by simp only [List.length_nil]; omega)]⟩
  | v :: l, i, t, k, r, h => by
    have h' : br (Nat.blt i nt) (br (Nat.blt i lim) (setK (some v) t i fun t => initK nt l (Nat.succ i) t k) none) none = some r := h
    rw [br_eq, blt_dec] at h'
    split at h'
    · rename_i h1
      rw [br_eq, blt_dec] at h'
      split at h'
      · rename_i h2
        rw [setK_eq] at h'
        obtain ⟨t', h3, h4, h5⟩ := init_sound nt l _ _ k r h'
        have h1 : i < nt := of_decide_eq_true h1
        have h2 : i < 1099511627775 := of_decide_eq_true h2
        refine ⟨t', h3, fun _ => ?_, fun j => ?_⟩
        · by_cases hl : l = []
          · subst hl; simp; omega
          · have := h4 hl; simp at this ⊢; omega
        · rw [h5 j]
          by_cases c1 : Nat.succ i ≤ j ∧ j < Nat.succ i + l.length
          · have c2 : i ≤ j ∧ j < i + (v :: l).length := by simp; omega
            rw [if_pos c1, if_pos c2, show j - i = (j - Nat.succ i) + 1 by omega, List.getElem?_cons_succ]
          · rw [if_neg c1, get_set _ _ _ _ (Nat.succ_lt_succ h2)]
            by_cases c3 : j = i
            · have c2 : i ≤ j ∧ j < i + (v :: l).length := by simp; omega
              rw [if_pos c3, if_pos c2, c3]; simp
            · have c2 : ¬ (i ≤ j ∧ j < i + (v :: l).length) := by simp; omega
              rw [if_neg c3, if_neg c2]
      · cases h'
    · cases h'

omit [Val] in
theorem callF_succ {G n NG : Nat} {f : FuncId} {args : List Value} : callF P G (n + 1) NG f args S =
    (match compF P f with
      | none => none
      | some F => initK F.nt args 0 .leaf fun t => fin P F.res (exec P (callF P G n) NG 1000000 F.code (Fr.mk F.nt G t) S)) := rfl

theorem callF_ok (hn : NumOK P) (hm : P.follows .mixedOrders = true) (G : Nat) : ∀ n, CallOK P G (callF P G n)
  | 0 => ⟨(fun {NG f args S r} h => by cases (show (none : Option (Value × St)) = some r from h)), (fun {NG Bar f args S v S' e w args'} h => by cases (show (none : Option (Value × St)) = some (v, S') from h))⟩
  | n + 1 => by
    have ih := callF_ok hn hm G n
    have hcomp : ∀ {f : FuncId} {F : Fn1}, compF P f = some F → ∃ fn c, P.funcs[f]? = some fn ∧ fn.body = some c ∧ F = { nt := fn.ntmps, code := compC P c, res := fn.results.toList } := by
      intro f F h
      unfold compF at h
      split at h
      · cases h
      · rename_i fn hf
        split at h
        · cases h
        · rename_i c hc
          cases h
          exact ⟨fn, c, hf, hc, rfl⟩
    refine ⟨fun {NG f args S r} h => ?_, fun {NG Bar f args S v S' e w args'} h hargs hS hG => ?_⟩
    · rw [callF_succ] at h
      split at h
      · cases h
      · rename_i F hF
        obtain ⟨fn, c, h1, h2, -⟩ := hcomp hF
        exact ⟨fn, h1, by rw [h2]; rfl⟩
    · rw [callF_succ] at h
      split at h
      · cases h
      · rename_i F hF
        obtain ⟨fn, c, h1, h2, rfl⟩ := hcomp hF
        obtain ⟨t, h3, h4, h5⟩ := init_sound _ _ _ _ _ _ h
        unfold fin at h3
        split at h3
        · cases h3
        · rename_i x A' S1 hex
          have hsz : args'.length ≤ fn.ntmps := by
            by_cases hl : args = []
            · have := hargs.length; rw [hl] at this; simp at this; rw [this]; simp
            · have := h4 hl; rw [hargs.length]; simpa using this
          have hF0 : RF e (Fr.mk fn.ntmps G t) { tmps := args'.toArray ++ Array.replicate (fn.ntmps - args'.toArray.size) undef, defers := [] } := by
            refine ⟨by simp; omega, hG, fun s u hu => ?_⟩
            rw [h5 s] at hu
            split at hu
            · rename_i hs
              simp only [Nat.sub_zero] at hu
              obtain ⟨u', h6, h7⟩ := hargs.get hu
              refine ⟨u', ?_, h7⟩
              have hlt : s < args'.length := by rw [hargs.length]; omega
              rw [Array.getElem?_append_left (by simpa using hlt)]
              simpa using h6
            · cases hu
          have hres : ∀ (vs : List Value), resultVs P A' S1 fn.results.toList = some vs → some (oneOf vs, S1) = some (v, S') → x.to = .normal ∨ x.to = .ret → 
              Calls P f args'.toArray w fun en w' => ∃ e' v', en = .returned v' ∧ Sub e e' ∧ RV e' v v' ∧ RS NG Bar e' S' w' ∧ Below Bar w w' := by
            intro vs hvs hv hx
            cases hv
            refine calls_of_wp h1 h2 ?_
            refine (exec_sound ih hn hm 1000000).1 c e _ S _ w x A' _ _ hF0 hS hG hex (fun a' w' hl => ?_)
            obtain ⟨⟨e1, g1, g2, g3, g4, g5⟩, g6⟩ := hl
            obtain ⟨v', h8, h9⟩ := results_sound g2 g3 hvs
            rcases hx with hx | hx <;> rw [hx] <;> exact ⟨g5, v', h8, e1, v', rfl, g1, h9, g3, g4⟩
          split at h3
          · cases h3
          · rename_i hne
            split at h3
            · rename_i vs hvs
              refine hres vs hvs h3 ?_
              cases x with
              | normal => exact .inl rfl
              | exit id => exact absurd rfl (hne id)
              | ret => exact .inr rfl
            · cases h3

/-- A CALL WITH ARGUMENTS AND AN ANSWER THAT BEAR NO ADDRESS, as the executor tells it, in whatever world. -/
theorem calls_of_run (hn : NumOK P) (hm : P.follows .mixedOrders = true) {n : Nat} {f : FuncId} {args : List Value} {v : Value} {S' : St} (h : callF P 0 n 0 f args (S0 0) = some (v, S')) (ha : flatL args = true) (hv : flat v = true) (w : World) :
    Calls P f args.toArray w fun en w' => en = .returned v ∧ Below w.heap.size w w' := by
  have hS : RS 0 w.heap.size (fun _ => none) (S0 0) w :=
    ⟨fun n B h => by simp [S0, Tr.get] at h, fun n B h => by simp [S0, Tr.get] at h, fun n m B C b k k' h => by simp [S0, Tr.get] at h, fun n m B C b k k' h => by simp [S0, Tr.get] at h, fun _ _ => rfl, fun _ _ _ h => by simp at h, fun _ _ _ h => by simp at h, Nat.le_refl _, Nat.le_refl _, fun n h => by simp [S0] at h, fun n l h => by simp [S0, Tr.get] at h, fun n m l l' b k k' h => by simp [S0, Tr.get] at h, fun n B h => by simp [S0, Tr.get] at h, fun n m B C b k k' h => by simp [S0, Tr.get] at h, fun n m B C b k k' h => by simp [S0, Tr.get] at h⟩
  refine ((callF_ok hn hm 0 n).calls h (RVL.of_flat ha) hS (fun g hg => by omega)).mono fun en w' hp => ?_
  obtain ⟨e', v', rfl, h1, h2, h3, h4⟩ := hp
  exact ⟨by rw [RV.flat_eq hv h2], h4⟩

omit [Val] in
theorem numOK_of (h : (P.funcs.toList.all fun fn => fn.body.isNone || !(fn.name == "runtime.NumGoroutine")) = true) : NumOK P := by
  intro f fn hf hb
  have := List.all_eq_true.1 h fn (by
    have : P.funcs.toList[f]? = some fn := by simpa using hf
    exact List.mem_of_getElem? this)
  cases hn : fn.body with
  | none => rw [hn] at hb; cases hb
  | some c => simpa [hn] using this

/-- a call that answers true -/
theorem calls_true (hn : NumOK P) (hm : P.follows .mixedOrders = true) {n : Nat} {f : FuncId} (h : isTrue (callF P 0 n 0 f [] (S0 0)) = true) (w : World) :
    Calls P f #[] w fun en w' => en = .returned (.bool true) ∧ Below w.heap.size w w' := by
  cases hc : callF P 0 n 0 f [] (S0 0) with
  | none => rw [hc] at h; cases h
  | some r =>
    obtain ⟨v, S'⟩ := r
    rw [hc] at h
    unfold isTrue at h
    split at h
    · rename_i heq
      cases heq
      exact calls_of_run hn hm hc rfl rfl w
    · cases h

/-- a call with address-free arguments that answers true -/
theorem calls_trueA (hn : NumOK P) (hm : P.follows .mixedOrders = true) {n : Nat} {f : FuncId} {args : List Value} (h : isTrue (callF P 0 n 0 f args (S0 0)) = true) (ha : flatL args = true) (w : World) :
    Calls P f args.toArray w fun en w' => en = .returned (.bool true) ∧ Below w.heap.size w w' := by
  cases hc : callF P 0 n 0 f args (S0 0) with
  | none => rw [hc] at h; cases h
  | some r =>
    obtain ⟨v, S'⟩ := r
    rw [hc] at h
    unfold isTrue at h
    split at h
    · rename_i heq
      cases heq
      exact calls_of_run hn hm hc ha rfl w
    · cases h

/-- a call with address-free arguments: its answer, as the run tells it -/
theorem calls_ans (hn : NumOK P) (hm : P.follows .mixedOrders = true) {n : Nat} {f : FuncId} {args : List Value} {v : Value} (h : (callF P 0 n 0 f args (S0 0)).map Prod.fst = some v) (ha : flatL args = true) (hv : flat v = true) (w : World) :
    Calls P f args.toArray w fun en w' => en = .returned v ∧ Below w.heap.size w w' := by
  cases hc : callF P 0 n 0 f args (S0 0) with
  | none => rw [hc] at h; cases h
  | some r =>
    obtain ⟨u, S'⟩ := r
    rw [hc] at h
    cases h
    exact calls_of_run hn hm hc ha hv w

/-- the rest of a body, run from a frame of which nothing is known but its size: it hands back true -/
noncomputable def tailTrue (P : Program) (n nt res : Nat) (c : Code) : Bool :=
  match exec P (callF P 0 n) 0 1000000 (compC P c) (Fr.mk nt 0 .leaf) (S0 0) with
  | some (.ret, A, _) => (match A.t.get res with | some (.bool true) => true | _ => false)
  | some (.normal, A, _) => (match A.t.get res with | some (.bool true) => true | _ => false)
  | _ => false

theorem tail_true (hn : NumOK P) (hm : P.follows .mixedOrders = true) {fn : Func} {res : Tmp} (hres : fn.results = #[.tmp res]) {c : Code} {n nt : Nat} (h : tailTrue P n nt res c = true) {a : Act} {w : World} (hsz : a.tmps.size = nt) (hd : a.defers = [])
    {R : Ending → World → Prop} (hR : ∀ w', Below w.heap.size w w' → R (.returned (.bool true)) w') : c.wp P (bodyPost P fn R) a w := by
  have hS : RS 0 w.heap.size (fun _ => none) (S0 0) w :=
    ⟨fun n B h => by simp [S0, Tr.get] at h, fun n B h => by simp [S0, Tr.get] at h, fun n m B C b k k' h => by simp [S0, Tr.get] at h, fun n m B C b k k' h => by simp [S0, Tr.get] at h, fun _ _ => rfl, fun _ _ _ h => by simp at h, fun _ _ _ h => by simp at h, Nat.le_refl _, Nat.le_refl _, fun n h => by simp [S0] at h, fun n l h => by simp [S0, Tr.get] at h, fun n m l l' b k k' h => by simp [S0, Tr.get] at h, fun n B h => by simp [S0, Tr.get] at h, fun n m B C b k k' h => by simp [S0, Tr.get] at h, fun n m B C b k k' h => by simp [S0, Tr.get] at h⟩
  have hF : RF (fun _ => none) (Fr.mk nt 0 .leaf) a := ⟨hsz, fun g hg => absurd hg (Nat.not_lt_zero _), fun t v hv => by simp [Tr.get] at hv⟩
  have fin : ∀ (A' : Fr) (S' : St), (match A'.t.get res with | some (.bool true) => true | _ => false) = true → ∀ a' w', Left (fun _ => none) 0 w.heap.size A' S' a w a' w' ∧ A'.ng = (Fr.mk nt 0 .leaf).ng →
      (results fn a'.tmps).run P w' = .ok (.bool true) w' ∧ a'.defers = [] ∧ R (.returned (.bool true)) w' := by
    intro A' S' hb a' w' hl
    obtain ⟨⟨e1, g1, g2, g3, g4, g5⟩, -⟩ := hl
    split at hb
    · rename_i hg
      obtain ⟨v', h1, h2⟩ := g2.tmp res _ hg
      rw [RV] at h2
      subst h2
      refine ⟨?_, g5.trans hd, hR w' g4⟩
      rw [results_tmp hres a'.tmps P w', Array.getD_eq_getD_getElem?, h1]
      rfl
    · cases hb
  unfold tailTrue at h
  split at h
  · rename_i A' S' hex
    refine (exec_sound (callF_ok hn hm 0 n) hn hm 1000000).1 c _ _ _ a w _ A' S' _ hF hS (fun g hg => absurd hg (Nat.not_lt_zero _)) hex (fun a' w' hl => ?_)
    obtain ⟨h1, h2, h3⟩ := fin A' S' h a' w' hl
    exact ⟨h2, _, h1, h3⟩
  · rename_i A' S' hex
    refine (exec_sound (callF_ok hn hm 0 n) hn hm 1000000).1 c _ _ _ a w _ A' S' _ hF hS (fun g hg => absurd hg (Nat.not_lt_zero _)) hex (fun a' w' hl => ?_)
    obtain ⟨h1, h2, h3⟩ := fin A' S' h a' w' hl
    exact ⟨h2, _, h1, h3⟩
  · cases h
end Go.Sim
