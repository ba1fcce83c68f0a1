/- whole.Tokens: the names of the six tokens, in a new list. -/
import Derived.Test.YtecmlefiajhajaaGreatDoorTi
import Derived.Test.YtecmlefiajhajaaGreatDoorWc
import Derived.Maps.AppendAt
namespace Go.Proofs.YtecmlefiajhajaaGreatDoor.tk
open Go.RowKit Go.Sim Go.Shelf wh
attribute [local go_sem] Oper.semAt_some
set_option linter.unusedVariables false
set_option maxRecDepth 100000

noncomputable def tkn (i : Nat) : Option ByteArray := match c8 i with | [.string s, _, _, _, _, _, _, .bool true] => some s | _ => none
noncomputable def tks (xs : List Al) : List ByteArray := (xs.map fun x => x.1.val).filterMap tkn
def six : List ByteArray := [⟨#[119, 105, 115, 112]⟩, ⟨#[112, 101, 98, 98, 108, 101]⟩, ⟨#[101, 109, 98, 101, 114]⟩, ⟨#[100, 114, 111, 112]⟩, ⟨#[115, 104, 97, 100, 101]⟩, ⟨#[99, 111, 105, 110]⟩]
theorem six_ok : (List.range 36).filterMap tkn = six := by kernel_rfl

theorem owns_kept {w w1 : World} {B e size n : Nat} {v : Value} {xs : List Value} (h : w.ownsRow B e size v n xs) (hk : ∀ g, v.ownBlock = some g → w1.heap[g]? = w.heap[g]?) : w1.ownsRow B e size v n xs := by
  obtain ⟨h1, h2⟩ := h
  rcases h2 with ⟨rfl, h0⟩ | ⟨g, cap, cur, rfl, hB, hg, h3⟩
  · exact ⟨h1, .inl ⟨rfl, h0⟩⟩
  · exact ⟨h1, .inr ⟨g, cap, cur, rfl, hB, (hk g rfl).trans hg, h3⟩⟩
theorem owns_cells {w : World} {B e size n : Nat} {v : Value} {xs : List Value} (h : w.ownsRow B e size v n xs) {g : Nat} (hg : v.ownBlock = some g) : ∃ o : Obj, w.heap[g]? = some o ∧ o.isCells = true := by
  rcases h.2 with ⟨rfl, h0⟩ | ⟨g', cap, cur, rfl, hB, hg', h3⟩
  · simp [Value.ownBlock] at hg
  · have : g' = g := by simpa [Value.ownBlock] using hg
    subst this
    exact ⟨_, hg', rfl⟩
theorem box_set {W : World} {B : Nat} {v : Value} {t : TypeId} (v' : Value) (h : W.heap[B]? = some (.cells #[v] t (0, 0))) : (W.setCell ⟨B, 0, none⟩ v').heap[B]? = some (.cells #[v'] t (0, 0)) := by
  obtain ⟨hlt, hk⟩ := Array.getElem?_eq_some_iff.1 h
  show (W.heap.modify B _)[B]? = _
  rw [Array.getElem?_eq_getElem (by rw [Array.size_modify]; exact hlt), Array.getElem_modify_self, hk]
  rfl
/-- between two rounds -/
def In (w : World) (bo hi : Nat) (pre : List Al) (W : World) : Prop :=
  ∃ v, W.heap[bo]? = some (.cells #[v] 86 (0, 0)) ∧ W.ownsRow hi 9 1 v (tks pre).length ((tks pre).map Value.string) ∧ Below w.heap.size w W ∧ hi ≤ W.heap.size
theorem in_own (w : World) (bo hi : Nat) (hw : w.heap.size ≤ hi) : OwnFrom hi (In w bo hi) := fun s A B row ⟨v, h1, h2, h3, h4⟩ hg hr => by
  have hr2 : ∀ r, row = some r → ∃ o : Obj, A.heap[r]? = some o ∧ o.isCells = false := fun r e => (hr r e).2
  exact ⟨v, (grownBy_keeps_cells hg hr2 h1 rfl).trans h1, owns_kept h2 (fun g hgv => by obtain ⟨o, ho, hc⟩ := owns_cells h2 hgv; exact grownBy_keeps_cells hg hr2 ho hc), h3.grown hg h3.size (fun k e => Nat.le_trans hw (hr k e).1), Nat.le_trans h4 hg.size⟩
def frR (bo bk bl c : Nat) (v : Value) : Act := { tmps := #[.slice none 0 0, .pointer (some ⟨bo, 0, none⟩), .pointer (some ⟨c, 0, none⟩), .pointer (some ⟨bk, 0, none⟩), .func (.func 126) #[] #[.pointer (some ⟨bl, 0, none⟩)], v, undef, undef, undef, undef, undef, undef, undef, undef], defers := [] }
/-- behind the assignment of a round -/
def Ax (bo hi bk bl : Nat) (x : Al) (a' : Act) (W : World) : Prop := ∃ c, a' = frR bo bk bl c (enc x) ∧ W.heap[c]? = some (.cells (c8 x.1.val ++ [Value.slice x.2.1 x.2.2.1 x.2.2.2]).toArray 40 (0, 0)) ∧ bo < c ∧ hi ≤ c
theorem ax_own (bo hi bk bl : Nat) (x : Al) (a' : Act) : OwnFrom hi (fun (_ : Unit) W => Ax bo hi bk bl x a' W) := fun s A B row ⟨c, h1, h2, h3⟩ hg hr =>
  ⟨c, h1, (grownBy_keeps_cells hg (fun r e => (hr r e).2) h2 rfl).trans h2, h3⟩
theorem kept_put {Bar hi : Nat} (W : World) (l : Nat) (o o' : Obj) (hl : hi ≤ l) : Kept Bar hi W (W.putObj l o') := ⟨(grownBy_putObj' W l o').size, fun b _ hlt => World.putObj_heap_other (by omega)⟩
theorem info9 : (Tryz.prog.info? 9).map (fun i => (i.zero, i.size, i.bytes)) = some (some (.string ⟨#[]⟩), 1, 16) := by kernel_rfl

set_option maxHeartbeats 2000000 in
theorem c_tokens (w : World) (hk : Known 1 kn.gl w) : Calls Tryz.prog 34 #[] w fun e w' => (∃ b cap, e = .returned (.slice (some ⟨b, 0, none⟩) 6 cap) ∧ w.heap.size ≤ b ∧ WholeB w' 9 1 (b, 6, cap) ∧ ∀ j, j < 6 → w'.cell? ⟨b, j, none⟩ = some (.string ((six[j]?).getD ⟨#[]⟩))) ∧ Below w.heap.size w w' := by
  refine (callsIn_wide (n := 5)).1 (callsIn_of_wp_marks Tryz.func34 rfl trivial (wpIn_wide.2 ?_) rfl)
  simp only [Tryz.ntmps34, List.size_toArray, List.length_cons, List.length_nil, Nat.reduceAdd, Nat.reduceSub, Array.replicate_succ, Array.replicate_zero, List.push_toArray, List.append_toArray, List.nil_append, List.cons_append]
  obtain ⟨w1, hw1⟩ : ∃ x, x = w.alloc (.cells #[.slice none 0 0] 86) := ⟨_, rfl⟩
  have hb1 : Below w.heap.size w w1 := by rw [hw1]; exact (Below.refl _ w).alloc (Nat.le_refl _) _
  have hs1 : w1.heap.size = w.heap.size + 1 := by rw [hw1]; simp
  have ho1 : w1.heap[w.heap.size]? = some (.cells #[.slice none 0 0] 86 (0, 0)) := by rw [hw1]; exact World.alloc_heap_new w _
  obtain ⟨bo, hbo⟩ : ∃ x, x = w.heap.size := ⟨_, rfl⟩
  go_wp2_with fail
  rw [← hw1]
  refine (ws.c_book _ (knownW hk hb1)).mono ?_
  rintro e w2 ⟨⟨bk, rfl, Bar, hBar, hH⟩, hb2⟩
  go_wp2_with fail
  refine (cards_calls hH).mono ?_
  rintro e w3 ⟨bl, e1, rfl, hL, hb3⟩
  rw [← hbo] at ho1 hs1
  have ho3 : w3.heap[bo]? = some (.cells #[.slice none 0 0] 86 (0, 0)) := (hb3.block bo (by omega)).trans ((hb2.block bo (by omega)).trans ho1)
  have hbel : Below w.heap.size w w3 := (hb1.trans (hb2.mono hb1.size)).trans (hb3.mono (by omega))
  have hoB : bo < Bar := by omega
  clear hw1 ho1
  rw [← hbo]
  have HB : Hid (bo = w.heap.size) := hbo
  clear hbo hs1
  go_wp2
  rename_i Kl hKl
  obtain ⟨hi, hhi⟩ : ∃ x, x = w3.heap.size := ⟨_, rfl⟩
  have hwh : w.heap.size ≤ hi := by rw [hhi]; exact hbel.size
  have hoh : bo < hi := by rw [hhi]; exact (Array.getElem?_eq_some_iff.1 ho3).1
  obtain ⟨i0, hi0, hz0, hz1, hz2⟩ := info_parts info9
  have hgo := goes (5 - 1) bl (by omega) w3 Bar e1 hL
  rw [← hhi] at hgo
  refine (wpIn_wide (n := 5)).1 (wpIn_rangeFunc_ownH (F := Fence.wide) rfl (by omega) (gf := 126) (lb := #[.pointer (some ⟨bl, 0, none⟩)]) rfl trivial (enters_of Tryz.func126 (by kernel_rfl) rfl) hgo (fun h k => h.trans k) (fun W l o o' hl _ _ _ => kept_put W l o o' (by rw [hhi]; exact hl)) (Below.refl _ _) (fun _ => rfl)
    (In w bo hi) (fun c pre W => False) (by rw [← hhi]; exact in_own w bo hi hwh) (fun c s W W' row hs => hs.elim) ⟨_, ho3, World.ownsRow_nil _ _ _ _, hbel, by rw [hhi]; exact Nat.le_refl _⟩ (Ax bo hi bk bl) (fun x a' => by rw [← hhi]; exact ax_own bo hi bk bl x a') ?assign ?body ?done ?stop)
  case assign =>
    intro l pre x W K hI hK
    rw [← hhi] at hK
    obtain ⟨s, k1, n1, k2, n2, k3, n3, k4, n4, k5, n5, k6, n6, b, hlit⟩ := c8_lit x.1.isLt
    have henc : enc x = .agg #[.string s, .int k1 n1, .int k2 n2, .int k3 n3, .int k4 n4, .int k5 n5, .int k6 n6, .bool b, .slice x.2.1 x.2.2.1 x.2.2.2] := by unfold enc; rw [hlit]; rfl
    have hfin := hK (frR bo bk bl W.heap.size (enc x)) (W.alloc (.cells #[.string s, .int k1 n1, .int k2 n2, .int k3 n3, .int k4 n4, .int k5 n5, .int k6 n6, .bool b, .slice x.2.1 x.2.2.1 x.2.2.2] 40)) (KeepsFrom.of_grownBy (World.grownBy_alloc W _ none) (fun j e => by cases e)) (by
        obtain ⟨v, _, _, _, h4⟩ := hI
        exact Kept.of_grown (World.grownBy_alloc W _ none) h4) (by
        obtain ⟨v, h1, h2, h3, h4⟩ := hI
        exact ⟨v, (Below.heap_alloc W _ bo (by omega)).trans h1, h2.alloc _, h3.alloc h3.size _, by simp; omega⟩) (by
        obtain ⟨v, h1, h2, h3, h4⟩ := hI
        exact ⟨W.heap.size, rfl, by rw [hlit]; exact World.alloc_heap_new W _, by omega, h4⟩)
    unfold frR at hfin
    rw [henc] at hfin ⊢
    clear hK hI henc hlit
    gi_wp2
    exact hfin
  case body =>
    intro l pre x a' W hl hr hI hA hlen
    obtain ⟨c, rfl, hc, hbc, hhc⟩ := hA
    obtain ⟨v, h1, h2, h3, h4⟩ := hI
    obtain ⟨s, k1, n1, k2, n2, k3, n3, k4, n4, k5, n5, k6, n6, b, hlit⟩ := c8_lit x.1.isLt
    rw [hlit] at hc
    have hc0 : W.cell? ⟨c, 0, none⟩ = some (.string s) := by simp only [World.cell?, hc]; rfl
    have hc7 : W.cell? ⟨c, 7, none⟩ = some (.bool b) := by simp only [World.cell?, hc]; rfl
    obtain ⟨hv0, hf0⟩ : W.cell? ⟨bo, 0, none⟩ = some v ∧ W.frozen? ⟨bo, 0, none⟩ = false := by constructor <;> simp [World.cell?, World.frozen?, h1]
    have htk : tkn x.1.val = if b = true then some s else none := by unfold tkn; rw [hlit]; cases b <;> rfl
    have htks : tks (pre ++ [x]) = tks pre ++ (tkn x.1.val).toList := by unfold tks; rw [List.map_append, List.filterMap_append]; cases h : tkn x.1.val <;> simp [List.filterMap_cons, h]
    have hlt : (tks pre).length ≤ 36 := Nat.le_trans (List.length_filterMap_le _ _) (by simp; omega)
    unfold frR
    rw [← hhi]
    cases b with
    | false =>
      gi_wp2
      rw [htk] at htks
      have htks : tks (pre ++ [x]) = tks pre := by simpa using htks
      refine ⟨KeepsFrom.refl _ _, Kept.refl _ _ _, v, h1, ?_, h3, h4⟩
      rw [htks]
      exact h2
    | true =>
      rw [htk] at htks
      have htks : tks (pre ++ [x]) = tks pre ++ [s] := by simpa using htks
      have hboW : bo < W.heap.size := by omega
      have hnb : v.ownBlock ≠ some bo := fun e => by have := (h2.lt bo e).1; omega
      gi_wp2_with (first
        | (gi_at_builtin; refine wpListIn_append_own _ rfl _ _ 86 rfl hi 9 i0 (.string ⟨#[]⟩) 1 16 Tryz.underlying86 hi0 hz0 hz1 hz2 rfl (by decide) v (tks pre).length ((tks pre).map Value.string) rfl (h2.alloc _) ⟨W.heap.size, 0, none⟩ 1 1 [.string s] rfl rfl (cell_one_new _ _ _) (fun u hu => by rw [List.mem_singleton.1 hu]; rfl) (by unfold maxLen; omega) (by omega) (by simp; omega) ?_; intro v' w4 hown4 hg4 hnil4
           have hg5 : (W.alloc (.cells #[.string s] 9)).grownBy w4 v.ownBlock := hg4
           have hv4 : w4.heap[bo]? = some (.cells #[v] 86 (0, 0)) := (hg5.block bo (by simp; omega) (fun e => hnb e.symm)).trans ((Below.heap_alloc W _ bo hboW).trans h1)
           obtain ⟨hc4, hf4⟩ : w4.cell? ⟨bo, 0, none⟩ = some v ∧ w4.frozen? ⟨bo, 0, none⟩ = false := (by constructor <;> simp [World.cell?, World.frozen?, hv4])
           obtain ⟨g', cap', rfl⟩ : ∃ g' cap', v' = .slice (some ⟨g', 0, none⟩) ((tks pre).length + 1) cap' := (by
             rcases hown4.2 with ⟨_, h0⟩ | ⟨g, cap, cur, hv, _⟩
             · exact absurd h0 (by omega)
             · exact ⟨_, _, hv⟩)))
      rw [← hhi]
      have hs4 : W.heap.size + 1 ≤ w4.heap.size := by simpa using hg5.size
      have hs5 : (w4.setCell ⟨bo, 0, none⟩ (.slice (some ⟨g', 0, none⟩) ((tks pre).length + 1) cap')).heap.size = w4.heap.size := by simp [World.setCell]
      have hg' : hi ≤ g' := (hown4.lt g' rfl).1
      have hblk : ∀ k, k < W.heap.size → v.ownBlock ≠ some k → k ≠ bo → (w4.setCell ⟨bo, 0, none⟩ (.slice (some ⟨g', 0, none⟩) ((tks pre).length + 1) cap')).heap[k]? = W.heap[k]? := fun k hk hn hb => (Below.heap_setCell _ _ _ _ hb).trans ((hg5.block k (by simp; omega) (fun e => hn e.symm)).trans (Below.heap_alloc W _ k hk))
      have hwlow : w.heap.size = bo := HB.out.symm
      have hk1 : 1 ≤ w.heap.size := hk.1
      refine ⟨⟨by rw [hs5]; omega, fun k o hB hk ho => ?_⟩, ⟨by rw [hs5]; omega, fun b hb hlt => ?_⟩, _, box_set _ hv4, ?_, ?_, by rw [hs5]; omega⟩
      · refine (hblk k (Array.getElem?_eq_some_iff.1 hk).1 (fun e => ?_) (by omega)).trans hk
        obtain ⟨o2, ho2, hc2⟩ := owns_cells h2 e
        rw [hk] at ho2
        cases ho2
        rw [ho] at hc2
        cases hc2
      · exact hblk b (by omega) (fun e => by have := (h2.lt b e).1; omega) (by rcases hb with h | h <;> omega)
      · rw [htks]
        have h5 : (w4.setCell ⟨bo, 0, none⟩ (.slice (some ⟨g', 0, none⟩) ((tks pre).length + 1) cap')).ownsRow hi 9 1 (.slice (some ⟨g', 0, none⟩) ((tks pre).length + 1) cap') ((tks pre).length + 1) ((tks pre).map Value.string ++ [.string s]) := owns_kept hown4 fun q hq => Below.heap_setCell _ _ _ _ (by
          have hq : g' = q := by simpa [Value.ownBlock] using hq
          show q ≠ bo
          omega)
        simpa using h5
      · exact ((h3.alloc h3.size _).grown hg5 (by have := h3.size; simp; omega) (fun k e => by have := (h2.lt k e).1; omega)).setCell (by show w.heap.size ≤ bo; omega) _
  case stop =>
    intro D c pre W _ _ h
    exact h.elim
  case done =>
    intro D xs W hD hS0 hI hK
    refine hKl _ _ ?_
    obtain ⟨v, h1, h2, h3, h4⟩ := hI
    have hD : hi ≤ D := by rw [hhi]; exact hD
    have htk : tks xs = six := by unfold tks; rw [hS0]; exact six_ok
    rw [htk] at h2
    have hv0 : W.cell? ⟨bo, 0, none⟩ = some v := by simp [World.cell?, h1]
    have hwlow : w.heap.size = bo := HB.out.symm
    obtain ⟨g, cap, hv, hgl, hcap, hmax, cur, hg, hsz, hcur⟩ : ∃ g cap, v = .slice (some ⟨g, 0, none⟩) 6 cap ∧ hi ≤ g ∧ 6 ≤ cap ∧ cap ≤ maxLen ∧ ∃ cur : Array Value, W.heap[g]? = some (.cells cur 9 (0, 0)) ∧ cur.size = cap * 1 ∧ cur.toList.take (6 * 1) = six.map Value.string := by
      rcases h2.2 with ⟨_, h0⟩ | ⟨g, cap, cur, q1, q2, q3, q4, q5, q6, q7⟩
      · exact absurd h0 (by decide)
      · exact ⟨g, cap, q1, q2, q4, q5, cur, q3, q6, q7⟩
    clear hS0 hhi htk h2
    subst hv
    go_wp2
    have hgD : g ≠ D := fun e => by rw [e, hK] at hg; cases hg
    have hgf : (W.putObj D (.deferred none)).heap[g]? = some (.cells cur 9 (0, 0)) := (World.putObj_heap_other hgD).trans hg
    refine ⟨by simp, .inl ⟨D, _, rfl, run_takeDeferred hK, ?_⟩⟩
    refine ⟨.slice (some ⟨g, 0, none⟩) 6 cap, by rw [results_tmp (t := 0) rfl]; rfl, ⟨g, cap, rfl, by omega, ⟨cur, hgf, hsz, hcap, hmax⟩, fun j hj => ?_⟩, h3.trans (belowK_b (w := w) (Nat.le_refl _) W D _ _ (by omega) hK rfl rfl)⟩
    have h6 : (cur.toList.take (6 * 1))[j]? = (six.map Value.string)[j]? := by rw [hcur]
    rw [List.getElem?_take, if_pos (by omega), List.getElem?_map] at h6
    have h7 : six[j]? = some ((six[j]?).getD ⟨#[]⟩) := by
      have : j < six.length := hj
      rw [List.getElem?_eq_getElem this]
      rfl
    rw [h7] at h6
    simp only [World.cell?, hgf]
    simpa using h6
end Go.Proofs.YtecmlefiajhajaaGreatDoor.tk
