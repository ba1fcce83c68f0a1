/- gambitref01.Log, by contracts; the contracts of start.Log in one form each. -/
import Derived.Test.YtdiifadfpnbnhaaLg
import Derived.Test.YtdiifadfpnbnhaaSim
import Derived.Maps.AppendAt
import Derived.Deep.AppendLies
namespace Go.Proofs.Ytdiifadfpnbnhaa.rl
open Go.RowKit Go.Sim lg
set_option linter.unusedVariables false
set_option maxRecDepth 100000

/-- The document's log in block rb: made; closed or not; its notes: a list in a block of its own. -/
structure IsRef (w : World) (B rb : Nat) (L : List Int) (sh : Bool) (nv : Value) : Prop where
  made : w.cell? ⟨rb, 0, none⟩ = some (.bool true)
  sh : w.cell? ⟨rb, 1, none⟩ = some (.bool sh)
  notes : w.cell? ⟨rb, 2, none⟩ = some nv
  fro : ∀ i, w.frozen? ⟨rb, i, none⟩ = false
  own : w.ownsRow B 3 1 nv L.length (L.map (Value.int .i64))
  len : L.length ≤ 256
  ne : nv.ownBlock ≠ some rb
  low : B ≤ w.heap.size

section
variable {w w1 w2 : World} {B rb : Nat} {L : List Int} {sh : Bool} {nv : Value}
theorem IsRef.rb_lt (h : IsRef w B rb L sh nv) : rb < w.heap.size := World.block_lt_of_cell? w _ h.made
theorem IsRef.nb_lt (h : IsRef w B rb L sh nv) {g : Nat} (hg : nv.ownBlock = some g) : g < w.heap.size := (h.own.lt g hg).2
theorem owns_kept {e size n : Nat} {v : Value} {xs : List Value} (h : w.ownsRow B e size v n xs) (hk : ∀ g, v.ownBlock = some g → w1.heap[g]? = w.heap[g]?) : w1.ownsRow B e size v n xs := by
  obtain ⟨h1, h2⟩ := h
  rcases h2 with ⟨rfl, h0⟩ | ⟨g, cap, cur, rfl, hB, hg, h3⟩
  · exact ⟨h1, .inl ⟨rfl, h0⟩⟩
  · exact ⟨h1, .inr ⟨g, cap, cur, rfl, hB, (hk g rfl).trans hg, h3⟩⟩
theorem IsRef.kept (h : IsRef w B rb L sh nv) (hr : w1.heap[rb]? = w.heap[rb]?) (hk : ∀ g, nv.ownBlock = some g → w1.heap[g]? = w.heap[g]?) (hs : w.heap.size ≤ w1.heap.size) : IsRef w1 B rb L sh nv :=
  ⟨(World.cell?_of_block hr).trans h.made, (World.cell?_of_block hr).trans h.sh, (World.cell?_of_block hr).trans h.notes, fun i => (World.frozen?_of_block (a := ⟨rb, i, none⟩) hr).trans (h.fro i), owns_kept h.own hk, h.len, h.ne, Nat.le_trans h.low hs⟩
theorem IsLog.keptB {lb kb : Nat} (h : IsLog w lb kb L sh) (hl : w1.heap[lb]? = w.heap[lb]?) (hk : w1.heap[kb]? = w.heap[kb]?) : IsLog w1 lb kb L sh :=
  ⟨(World.cell?_of_block (a := ⟨lb, 0, none⟩) hl).trans h.log, fun i hi => (World.cell?_of_block (a := ⟨kb, i, none⟩) hk).trans (h.cells i hi), (World.cell?_of_block (a := ⟨kb, 256, none⟩) hk).trans h.n, (World.cell?_of_block (a := ⟨kb, 257, none⟩) hk).trans h.sh, fun i => (World.frozen?_of_block (a := ⟨kb, i, none⟩) hk).trans (h.fro i), h.len, h.ne⟩
end

/-- what Note answers -/
def ans (sh : Bool) (L : List Int) : Int := if sh = false ∧ L.length < 256 then L.length else -1

theorem note_any (lb kb : Nat) (L : List Int) (sh : Bool) (x : Int) (w : World) (h : IsLog w lb kb L sh) :
    Calls Try.prog 11 #[.pointer (some ⟨lb, 0, none⟩), .int .i64 x] w fun e w' => e = .returned (.int .i64 (ans sh L)) ∧ IsLog w' lb kb (add sh L x) sh ∧ w.grownBy w' (some kb) := by
  unfold ans add
  by_cases hc : sh = false ∧ L.length < 256
  · obtain ⟨rfl, hl⟩ := hc
    rw [if_pos ⟨rfl, hl⟩, if_pos ⟨rfl, hl⟩]
    exact note_open lb kb L x w h hl
  · rw [if_neg hc, if_neg hc]
    exact (note_off lb kb L sh x w h hc).mono fun e w' ⟨h1, h2⟩ => ⟨h1, by rw [h2]; exact h, by rw [h2]; exact grown_refl _ _⟩

set_option maxHeartbeats 1600000 in
theorem close_shut (lb kb : Nat) (L : List Int) (w : World) (h : IsLog w lb kb L true) :
    Calls Try.prog 13 #[.pointer (some ⟨lb, 0, none⟩)] w fun e w' => e = .returned (.tuple #[]) ∧ w' = w := by
  have hlog := h.log
  have hsh := h.sh
  clear h
  go_enter Try.func13, Try.ntmps13
  go_wp2
  first | go_end0 | skip
  all_goals first | go_wp2 | skip
  all_goals first | go_end0 | skip
  all_goals exact ⟨rfl, rfl⟩
theorem close_any (lb kb : Nat) (L : List Int) (sh : Bool) (w : World) (h : IsLog w lb kb L sh) :
    Calls Try.prog 13 #[.pointer (some ⟨lb, 0, none⟩)] w fun e w' => e = .returned (.tuple #[]) ∧ IsLog w' lb kb L true ∧ w.grownBy w' (some kb) := by
  cases sh with
  | false => exact close_open lb kb L w h
  | true => exact (close_shut lb kb L w h).mono fun e w' ⟨h1, h2⟩ => ⟨h1, by rw [h2]; exact h, by rw [h2]; exact grown_refl _ _⟩

/-- AT A STEP OF A REGION THAT DRAWS: append of a row that has an address, be it empty; where it lies. -/
theorem step_append_at {P : Program} (w : World) {ops : Array Oper} {o : Oper} {a : Act} {K : Act → World → Prop} {Q : Exit → Act → World → Prop} {E : Prop} (hgd : o.guard = none) (s x : Operand) (t : TypeId)
    (ho : o.op = .call { callee := .builtin .append, args := #[s, x], argTypes := #[t, t] })
    (base : Nat) (e : TypeId) (i : TypeInfo) (z : Value) (size bytes : Nat) (ht : P.underlying t = some (.slice e)) (hi : P.info? e = some i) (hz : i.zero = some z)
    (hsize : i.size = size) (hby : i.bytes = bytes) (hzs : z.cells.size = size) (hsz : 0 < size)
    (v : Value) (n : Nat) (xs : List Value) (hs : a.eval s = v) (hown : w.ownsRow base e size v n xs)
    (ad : Addr) (m c : Nat) (news : List Value) (hx : a.eval x = .slice (some ad) m c) (hl : news.length = m * size) (hnews : ∀ j u, news[j]? = some u → w.cell? (ad.add j) = some u) (h1 : ∀ u ∈ news, u.oneCell' = true)
    (h63 : n + m ≤ maxLen) (hbytes : (n + m) * bytes ≤ 140737488355328) (hbase : base ≤ w.heap.size)
    (h : ∀ v' w', w'.ownsRow base e size v' (n + m) (xs ++ news) → w.grownBy w' v.ownBlock → (v' = .slice none 0 0 ↔ v = .slice none 0 0 ∧ m = 0) → (v'.ownBlock = v.ownBlock ∨ v'.ownBlock = some w.heap.size) → K (a.put o.dst v') w') :
    if Region.wanted o (yielded ops a.tmps) = true then Oper.wp P o a w K Q else E := by
  have hw : Region.wanted o (yielded ops a.tmps) = true := by simp [Region.wanted, hgd]
  rw [if_pos hw]
  obtain ⟨v', w', hr, h2, h3, h4, h5⟩ := run_append_own_at (P := P) w base t o.type e i z size bytes ht hi hz hsize hby hzs hsz v n xs hown ad m c news hl hnews h1 h63 hbytes hbase
  unfold Oper.wp execOp
  simp only [ho, resolve, invoke, builtin, Sem.run_bind, Sem.run_pure, Result.andThen_ok, List.map_toArray, List.map_cons, List.map_nil, hs, hx, hr]
  exact h v' w' h2 h3 h4 h5

set_option maxHeartbeats 1600000 in
/-- List: in new memory, in a block of its own, be it empty -/
theorem list_new (lb kb : Nat) (L : List Int) (shut : Bool) (w : World) (h : IsLog w lb kb L shut) :
    Calls Try.prog 7 #[.pointer (some ⟨lb, 0, none⟩)] w fun e w' => ∃ g cap, e = .returned (.slice (some ⟨g, 0, none⟩) L.length cap) ∧ w'.ownsRow w.heap.size 3 1 (.slice (some ⟨g, 0, none⟩) L.length cap) L.length (L.map (Value.int .i64)) ∧ w.grownBy w' none := by
  obtain ⟨i0, hi, hz0, hz1, hz2⟩ := info_parts Try.infoI
  have hlog := h.log
  have hn := h.n
  have hkb := h.kb_lt
  have hlen := h.len
  have hsl := slice_notes kb L.length hlen
  have hown : (w.alloc (.cells #[] 3)).drew.ownsRow w.heap.size 3 1 (.slice (some ⟨w.heap.size, 0, none⟩) 0 0) 0 [] := ⟨rfl, .inr ⟨w.heap.size, 0, #[], rfl, Nat.le_refl _, heap_alloc_new w _, Nat.le_refl _, Nat.zero_le _, rfl, rfl⟩⟩
  have hnews : ∀ j u, (L.map (Value.int .i64))[j]? = some u → (w.alloc (.cells #[] 3)).drew.cell? ((⟨kb, 0, none⟩ : Addr).add j) = some u := by
    intro j u hu
    rw [List.getElem?_map] at hu
    cases hj : L[j]? with
    | none => rw [hj] at hu; cases hu
    | some z =>
      rw [hj] at hu
      cases hu
      have hjl : j < L.length := (List.getElem?_eq_some_iff.1 hj).1
      have := h.cells j (by omega)
      rw [List.getD, hj] at this
      have e : (⟨kb, 0, none⟩ : Addr).add j = ⟨kb, j, none⟩ := by unfold Addr.add; split <;> simp_all
      rw [e, World.cell?_drew, World.cell?_alloc_lt _ _ _ hkb]
      exact this
  have hone : ∀ u ∈ L.map (Value.int .i64), u.oneCell' = true := ints_oneCell _ _
  have hnl : (L.map (Value.int .i64)).length = L.length * 1 := by simp
  have hfin : ∀ (v' : Value) (w' : World), w'.ownsRow w.heap.size 3 1 v' (0 + L.length) ([] ++ L.map (Value.int .i64)) → (w.alloc (.cells #[] 3)).drew.grownBy w' (some w.heap.size) → (v' = .slice none 0 0 ↔ Value.slice (some ⟨w.heap.size, 0, none⟩) 0 0 = .slice none 0 0 ∧ L.length = 0) →
      ∃ g cap, Ending.returned v' = .returned (.slice (some ⟨g, 0, none⟩) L.length cap) ∧ w'.ownsRow w.heap.size 3 1 (.slice (some ⟨g, 0, none⟩) L.length cap) L.length (L.map (Value.int .i64)) ∧ w.grownBy w' none := by
    intro v' w' h1 h2 h3
    have h4 : w'.ownsRow w.heap.size 3 1 v' L.length (L.map (Value.int .i64)) := by simpa using h1
    have h5 : w.grownBy w' none := ⟨h2.os, h2.tape, h2.output, Nat.le_trans (by simp) h2.size, fun k hk _ => by
      rw [h2.block k (by simp; omega) (by simp; omega)]
      exact Below.heap_alloc w _ k hk⟩
    rcases h4.2 with ⟨hv, _⟩ | ⟨g, cap, cur, hv, _⟩
    · exact absurd (h3.1 hv).1 (by simp)
    · subst hv
      exact ⟨g, cap, rfl, h4, h5⟩
  clear h
  go_enter Try.func7, Try.ntmps7
  go_wp2
  go_region_law (refine step_append_at _ rfl (.tmp 3) (.tmp 11) 35 rfl w.heap.size 3 i0 (.int .i64 0) 1 8 Try.underlying35 hi hz0 hz1 hz2 rfl (by decide) _ 0 [] rfl hown ⟨kb, 0, none⟩ L.length 256 (L.map (Value.int .i64)) rfl hnl hnews hone (by unfold maxLen; omega) (by omega) (by simp) ?_; intro v' w1 hown' hgrow hnil hat)
  all_goals go_wp2
  all_goals go_ret
  all_goals exact hfin _ _ hown' hgrow hnil

/-! ### the document's log -/
set_option maxHeartbeats 1600000 in
theorem rnew (w : World) : Calls Try.prog 5 #[] w fun e w' => e = .returned (.pointer (some ⟨w.heap.size, 0, none⟩)) ∧ IsRef w' w.heap.size w.heap.size [] false (.slice none 0 0) ∧ w.grownBy w' none := by
  go_enter Try.func5, Try.ntmps5
  go_wp2
  go_ret
  have hb : (w.alloc (.cells #[.bool true, .bool false, .slice none 0 0] 47)).heap[w.heap.size]? = some (.cells #[.bool true, .bool false, .slice none 0 0] 47 (0, 0)) := heap_alloc_new w _
  refine ⟨rfl, ⟨?_, ?_, ?_, fun i => ?_, ⟨rfl, .inl ⟨rfl, rfl⟩⟩, by simp, by simp [Value.ownBlock], by simp⟩, ?_⟩
  · simp only [World.cell?, hb]; rfl
  · simp only [World.cell?, hb]; rfl
  · simp only [World.cell?, hb]; rfl
  · simp only [World.frozen?, hb]; simp
  · exact ⟨rfl, rfl, rfl, by simp, fun k hk _ => Below.heap_alloc w _ k hk⟩

theorem one_int (x : Int) : ∀ u ∈ [Value.int .i64 x], u.oneCell' = true := by
  intro u hu
  obtain rfl := List.mem_singleton.1 hu
  rfl

theorem rnone (rb : Nat) (w : World) (h : w.cell? ⟨rb, 0, none⟩ = some (.bool true)) : Calls Try.prog 21 #[.pointer (some ⟨rb, 0, none⟩)] w fun e w' => e = .returned (.bool false) ∧ w = w' := by
  go_enter Try.func21, Try.ntmps21
  go_wp2
  go_ret
  exact ⟨rfl, rfl⟩

set_option maxHeartbeats 3200000 in
theorem rnote_open (B rb : Nat) (L : List Int) (x : Int) (nv : Value) (w : World) (h : IsRef w B rb L false nv) (hl : L.length < 256) :
    Calls Try.prog 12 #[.pointer (some ⟨rb, 0, none⟩), .int .i64 x] w fun e w' => e = .returned (.int .i64 L.length) ∧ ∃ nv', IsRef w' B rb (L ++ [x]) false nv' ∧ (nv'.ownBlock = nv.ownBlock ∨ ∃ g, nv'.ownBlock = some g ∧ w.heap.size ≤ g) ∧ Spoils (rb :: nv.ownBlock.toList) w w' := by
  obtain ⟨i0, hi, hz0, hz1, hz2⟩ := info_parts Try.infoI
  have hmade := h.made
  have hsh := h.sh
  have hnotes := h.notes
  have hfro := h.fro
  have hrb := h.rb_lt
  have hown := h.own
  have hne := h.ne
  have hB := h.low
  obtain ⟨ao, cp, rfl⟩ : ∃ ao cp, nv = .slice ao L.length cp := by
    rcases hown.2 with ⟨rfl, h0⟩ | ⟨g, cap, cur, rfl, _⟩
    · exact ⟨none, 0, by rw [h0]⟩
    · exact ⟨_, _, rfl⟩
  have hlI : (L.length : Int) < 256 := by omega
  have hf2 := hfro 2
  have hml : (L.map (Value.int .i64)).length = L.length := by simp
  have hwr : wrap64 ((L.length : Int) + 1 - 1) = L.length := by unfold wrap64; omega
  clear h
  go_enter Try.func12, Try.ntmps12
  go_wp2_with fail
  refine (rnone rb _ hmade).mono ?_
  rintro e w' ⟨rfl, rfl⟩
  go_wp2_with (at_builtin; refine wpList_append_own_at _ rfl _ _ 35 rfl B 3 i0 (.int .i64 0) 1 8 Try.underlying35 hi hz0 hz1 hz2 rfl (by decide) _ _ _ rfl (hown.alloc _) ⟨w.heap.size, 0, none⟩ 1 1 [.int .i64 x] rfl rfl (cell_one_new _ _ _) (one_int _) (by unfold maxLen; omega) (by omega) (by simp; omega) ?_; intro v' w3 hown3 hgr3 hnil hat; have hblk3 := hgr3.block rb (by simp; omega) (fun e => hne e.symm); have hc2 := (World.cell?_of_block (a := ⟨rb, 2, none⟩) hblk3).trans ((World.cell?_alloc_lt _ _ _ hrb).trans hnotes); have hfr3 : w3.frozen? ⟨rb, 2, none⟩ = false := (World.frozen?_of_block (a := ⟨rb, 2, none⟩) hblk3).trans ((World.frozen?_of_block (a := ⟨rb, 2, none⟩) (Below.heap_alloc w _ rb hrb)).trans hf2); obtain ⟨g3, cp3, rfl⟩ : ∃ g cp, v' = .slice (some ⟨g, 0, none⟩) (L.length + 1) cp := (by rcases hown3.2 with ⟨rfl, h0⟩ | ⟨g, cap, cur, rfl, _⟩; (exact absurd h0 (by omega)); (exact ⟨_, _, rfl⟩)))
  go_ret
  have hgr3 : (w.alloc (.cells #[.int .i64 x] 3)).grownBy w3 (Value.slice ao L.length cp).ownBlock := hgr3
  have hat : (Value.slice (some ⟨g3, 0, none⟩) (L.length + 1) cp3).ownBlock = (Value.slice ao L.length cp).ownBlock ∨ (Value.slice (some ⟨g3, 0, none⟩) (L.length + 1) cp3).ownBlock = some (w.alloc (.cells #[.int .i64 x] 3)).heap.size := hat
  rw [World.size_alloc] at hat
  have hs3 : w.heap.size + 1 ≤ w3.heap.size := by simpa using hgr3.size
  refine ⟨rfl, .slice (some ⟨g3, 0, none⟩) (L.length + 1) cp3, ?_, ?_, ?_⟩
  · have hg3 : g3 ≠ rb := fun he => by
      rcases hat with hat | hat
      · exact hne (by rw [← hat, ← he]; rfl)
      · have : g3 = w.heap.size + 1 := by simpa [Value.ownBlock] using hat
        omega
    have hcell : ∀ i, i ≠ 2 → ((w3.setCell ⟨rb, 2, none⟩ (.slice (some ⟨g3, 0, none⟩) (L.length + 1) cp3)).cell? ⟨rb, i, none⟩) = w.cell? ⟨rb, i, none⟩ := fun i hi => by
      rw [World.cell?_setCell_other _ _ _ _ (by intro e; injection e with _ e _; exact hi e.symm)]
      exact (World.cell?_of_block (a := ⟨rb, i, none⟩) hblk3).trans (World.cell?_alloc_lt _ _ _ hrb)
    refine ⟨(hcell 0 (by omega)).trans hmade, (hcell 1 (by omega)).trans hsh, World.cell?_setCell_same' _ ⟨rb, 2, none⟩ _ (by rw [hc2]; rfl), fun i => ?_, ?_, by simp; omega, ?_, ?_⟩
    · rw [World.frozen?_setCell]
      exact (World.frozen?_of_block (a := ⟨rb, i, none⟩) hblk3).trans ((World.frozen?_of_block (a := ⟨rb, i, none⟩) (Below.heap_alloc w _ rb hrb)).trans (hfro i))
    · have h1 : (w3.setCell ⟨rb, 2, none⟩ (.slice (some ⟨g3, 0, none⟩) (L.length + 1) cp3)).ownsRow B 3 1 (.slice (some ⟨g3, 0, none⟩) (L.length + 1) cp3) (L.length + 1) (L.map (Value.int .i64) ++ [.int .i64 x]) :=
        owns_kept hown3 fun g hg => Below.heap_setCell _ _ _ _ (by have : g3 = g := by simpa [Value.ownBlock] using hg
                                                                   rw [← this]; exact hg3)
      simpa using h1
    · intro he
      exact hg3 (by simpa [Value.ownBlock] using he)
    · simp [World.setCell]
      omega
  · rcases hat with hat | hat
    · exact .inl hat
    · exact .inr ⟨_, hat, by omega⟩
  · refine ⟨hgr3.os, hgr3.tape, hgr3.output, ?_, fun k hk hn => ?_⟩
    · simp [World.setCell]
      omega
    · have h1 : k ≠ rb := fun e => hn (by rw [e]; exact List.mem_cons_self ..)
      have h2 : some k ≠ (Value.slice ao L.length cp).ownBlock := fun e => hn (by rw [← e]; simp)
      exact (Below.heap_setCell _ _ _ _ h1).trans ((hgr3.block k (by simp; omega) h2).trans (Below.heap_alloc w _ k hk))

theorem spoils_refl (bs : List Nat) (w : World) : Spoils bs w w := ⟨rfl, rfl, rfl, Nat.le_refl _, fun _ _ _ => rfl⟩

set_option maxHeartbeats 1600000 in
theorem rnote_off (B rb : Nat) (L : List Int) (sh : Bool) (x : Int) (nv : Value) (w : World) (h : IsRef w B rb L sh nv) (hno : ¬ (sh = false ∧ L.length < 256)) :
    Calls Try.prog 12 #[.pointer (some ⟨rb, 0, none⟩), .int .i64 x] w fun e w' => e = .returned (.int .i64 (-1)) ∧ w' = w := by
  have hmade := h.made
  have hsh := h.sh
  have hnotes := h.notes
  have hlen := h.len
  obtain ⟨ao, cp, rfl⟩ : ∃ ao cp, nv = .slice ao L.length cp := by
    rcases h.own.2 with ⟨rfl, h0⟩ | ⟨g, cap, cur, rfl, _⟩
    · exact ⟨none, 0, by rw [h0]⟩
    · exact ⟨_, _, rfl⟩
  clear h
  cases sh with
  | true =>
    go_enter Try.func12, Try.ntmps12
    go_wp2_with fail
    refine (rnone rb _ hmade).mono ?_
    rintro e w' ⟨rfl, rfl⟩
    go_wp2
    go_ret
    exact ⟨rfl, rfl⟩
  | false =>
    have h256 : L.length = 256 := by simp at hno; omega
    rw [h256] at hnotes
    go_enter Try.func12, Try.ntmps12
    go_wp2_with fail
    refine (rnone rb _ hmade).mono ?_
    rintro e w' ⟨rfl, rfl⟩
    go_wp2
    go_ret
    exact ⟨rfl, rfl⟩

theorem rnote_any (B rb : Nat) (L : List Int) (sh : Bool) (x : Int) (nv : Value) (w : World) (h : IsRef w B rb L sh nv) :
    Calls Try.prog 12 #[.pointer (some ⟨rb, 0, none⟩), .int .i64 x] w fun e w' => e = .returned (.int .i64 (ans sh L)) ∧ ∃ nv', IsRef w' B rb (add sh L x) sh nv' ∧ (nv'.ownBlock = nv.ownBlock ∨ ∃ g, nv'.ownBlock = some g ∧ w.heap.size ≤ g) ∧ Spoils (rb :: nv.ownBlock.toList) w w' := by
  unfold ans add
  by_cases hc : sh = false ∧ L.length < 256
  · obtain ⟨rfl, hl⟩ := hc
    rw [if_pos ⟨rfl, hl⟩, if_pos ⟨rfl, hl⟩]
    exact rnote_open B rb L x nv w h hl
  · rw [if_neg hc, if_neg hc]
    exact (rnote_off B rb L sh x nv w h hc).mono fun e w' ⟨h1, h2⟩ => ⟨h1, nv, by rw [h2]; exact h, .inl rfl, by rw [h2]; exact spoils_refl _ _⟩

set_option maxHeartbeats 1600000 in
theorem rclose_any (B rb : Nat) (L : List Int) (sh : Bool) (nv : Value) (w : World) (h : IsRef w B rb L sh nv) :
    Calls Try.prog 14 #[.pointer (some ⟨rb, 0, none⟩)] w fun e w' => e = .returned (.tuple #[]) ∧ IsRef w' B rb L true nv ∧ w.grownBy w' (some rb) := by
  have hmade := h.made
  have hsh := h.sh
  have hfro := h.fro 1
  have hfin : IsRef (w.setCell ⟨rb, 1, none⟩ (.bool true)) B rb L true nv ∧ w.grownBy (w.setCell ⟨rb, 1, none⟩ (.bool true)) (some rb) := by
    refine ⟨⟨?_, World.cell?_setCell_same' _ ⟨rb, 1, none⟩ _ (by rw [h.sh]; rfl), ?_, fun i => ?_, owns_kept h.own fun g hg => Below.heap_setCell _ _ _ _ (fun e => h.ne (by rw [hg, e])), h.len, h.ne, ?_⟩, grown_setCell _ _ _⟩
    · rw [World.cell?_setCell_other _ _ _ _ (by intro e; injection e with _ e _; omega)]; exact h.made
    · rw [World.cell?_setCell_other _ _ _ _ (by intro e; injection e with _ e _; omega)]; exact h.notes
    · rw [World.frozen?_setCell]; exact h.fro i
    · simp [World.setCell]; exact h.low
  clear h
  go_enter Try.func14, Try.ntmps14
  go_wp2_with fail
  refine (rnone rb _ hmade).mono ?_
  rintro e w' ⟨rfl, rfl⟩
  go_wp2
  go_end0
  exact ⟨rfl, hfin⟩

set_option maxHeartbeats 1600000 in
theorem rclosed_any (B rb : Nat) (L : List Int) (sh : Bool) (nv : Value) (w : World) (h : IsRef w B rb L sh nv) :
    Calls Try.prog 16 #[.pointer (some ⟨rb, 0, none⟩)] w fun e w' => e = .returned (.bool sh) ∧ w' = w := by
  have hmade := h.made
  have hsh := h.sh
  clear h
  go_enter Try.func16, Try.ntmps16
  go_wp2_with fail
  refine (rnone rb _ hmade).mono ?_
  rintro e w' ⟨rfl, rfl⟩
  go_wp2
  go_ret
  exact ⟨rfl, rfl⟩

set_option maxHeartbeats 1600000 in
theorem rlist_any (B rb : Nat) (L : List Int) (sh : Bool) (nv : Value) (w : World) (h : IsRef w B rb L sh nv) :
    Calls Try.prog 9 #[.pointer (some ⟨rb, 0, none⟩)] w fun e w' => ∃ v, e = .returned v ∧ w'.ownsRow w.heap.size 3 1 v L.length (L.map (Value.int .i64)) ∧ w.grownBy w' none := by
  obtain ⟨i0, hi, hz0, hz1, hz2⟩ := info_parts Try.infoI
  have hmade := h.made
  have hnotes := h.notes
  have hlen := h.len
  rcases h.own.2 with ⟨rfl, h0⟩ | ⟨g, cap, cur, rfl, hB, hg, hle, hmax, hsz, htk⟩
  · have hL : L = [] := List.eq_nil_of_length_eq_zero h0
    subst hL
    clear h
    go_enter Try.func9, Try.ntmps9
    go_wp2_with fail
    refine (rnone rb _ hmade).mono ?_
    rintro e w' ⟨rfl, rfl⟩
    go_wp2
    go_ret
    exact ⟨_, rfl, ⟨rfl, .inl ⟨rfl, rfl⟩⟩, grown_refl _ _⟩
  · have hnews : ∀ j u, (L.map (Value.int .i64))[j]? = some u → w.cell? ((⟨g, 0, none⟩ : Addr).add j) = some u := fun j u hu => by
      have hj : j < L.length := by have := (List.getElem?_eq_some_iff.1 hu).1; simpa using this
      have e : (⟨g, 0, none⟩ : Addr).add j = ⟨g, j, none⟩ := by unfold Addr.add; split <;> simp_all
      have h3 : (cur.toList.take (L.length * 1))[j]? = some u := by rw [htk]; exact hu
      rw [List.getElem?_take, if_pos (by omega)] at h3
      rw [e]
      simpa [World.cell?, hg] using h3
    have hone : ∀ u ∈ L.map (Value.int .i64), u.oneCell' = true := ints_oneCell _ _
    have hnl : (L.map (Value.int .i64)).length = L.length * 1 := by simp
    clear h
    go_enter Try.func9, Try.ntmps9
    go_wp2_with fail
    refine (rnone rb _ hmade).mono ?_
    rintro e w' ⟨rfl, rfl⟩
    go_wp2_with (at_builtin; refine wpList_append_own_at _ rfl _ _ 35 rfl w.heap.size 3 i0 (.int .i64 0) 1 8 Try.underlying35 hi hz0 hz1 hz2 rfl (by decide) _ 0 [] rfl (World.ownsRow_nil _ _ _ _) ⟨g, 0, none⟩ L.length cap (L.map (Value.int .i64)) rfl hnl hnews hone (by unfold maxLen; omega) (by omega) (Nat.le_refl _) ?_; intro v' w3 hown3 hgr3 hnil hat)
    go_ret
    exact ⟨_, rfl, by simpa using hown3, hgr3⟩

set_option maxHeartbeats 1600000 in
theorem rfirst_any (B rb : Nat) (L : List Int) (sh : Bool) (nv : Value) (x : Int) (w : World) (h : IsRef w B rb L sh nv) :
    Calls Try.prog 18 #[.pointer (some ⟨rb, 0, none⟩), .int .i64 x] w fun e w' => ∃ f : Int, e = .returned (.int .i64 f) ∧ FirstOf L x f ∧ w.grownBy w' none := by
  have hlen := h.len
  go_enter Try.func18, Try.ntmps18
  go_wp2_with fail
  refine (rlist_any B rb L sh nv w h).mono ?_
  rintro e w1 ⟨v, rfl, hown, hgr⟩
  obtain ⟨ao, cp, rfl, hcell, _⟩ := Ints.of_owns hown
  go_wp2
  go_loop [6] (fun i => ∃ k : Nat, k ≤ L.length ∧ i = .int .i64 k ∧ ∀ j, j < k → L.getD j 0 ≠ x) (fun i => L.length - (intOf i).toNat)
  case atStart => exact ⟨0, Nat.zero_le _, rfl, fun j hj => by omega⟩
  case round =>
    obtain ⟨k, hk, rfl, hbefore⟩ := hrel
    by_cases hkl : k < L.length
    · obtain ⟨b, rfl, hb⟩ := hcell k hkl
      have c1 := hb k hkl
      clear hb hcell
      by_cases hx : L.getD k 0 = x
      · rw [hx] at c1
        go_wp2
        go_ret
        exact ⟨k, rfl, .inr ⟨k, rfl, hkl, hx, hbefore⟩, hgr⟩
      · obtain ⟨y, hy⟩ : ∃ y, L.getD k 0 = y := ⟨_, rfl⟩
        rw [hy] at c1 hx
        go_wp2
        go_round
        case rel => exact ⟨k + 1, by omega, by go_num, fun j hj => by
          by_cases hjk : j = k
          · subst hjk; rw [hy]; exact hx
          · exact hbefore j (by omega)⟩
        case measure => simp [intOf]; omega
    · have : k = L.length := by omega
      subst this
      go_wp2
      go_ret
      exact ⟨-1, rfl, .inl ⟨rfl, hbefore⟩, hgr⟩
end Go.Proofs.Ytdiifadfpnbnhaa.rl
