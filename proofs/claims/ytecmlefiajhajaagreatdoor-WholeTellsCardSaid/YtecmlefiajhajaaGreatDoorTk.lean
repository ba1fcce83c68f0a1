/- (*book.Book).Cards of the whole book: its list, and the function that goes over it. -/
import Derived.Test.YtecmlefiajhajaaGreatDoorWa
import Derived.Test.YtecmlefiajhajaaGreatDoorTe
import Derived.RangeFuncNested
import Derived.RangeFuncBound
import Derived.RangeFuncCalls
import Derived.RangeFuncLeaves
import Derived.Shelf.Abstract
import Derived.Shelf.RegionOpen
import Derived.WalkKit
import Derived.OwnWalkIn
import Derived.TacticsInMore
import Derived.LoopNIn
import Derived.LoopIn
namespace Go.Proofs.YtecmlefiajhajaaGreatDoor.tk
open Go.RowKit Go.Sim Go.Shelf wh
attribute [local go_sem] Oper.semAt_some
set_option linter.unusedVariables false
set_option maxRecDepth 100000

/-- the cells of the i-th card ahead of its parts -/
def c8 (i : Nat) : List Value := (cdAt t (((lW 63)[i]?).getD 0)).c8
noncomputable def run74 : Option (Value × St) := callH Tryz.prog H 1 60 1 74 [.pointer (some ⟨1, 0, none⟩)] (stW 63 true)
noncomputable def S1 : St := match run74 with | some (_, S) => S | none => S0 0
noncomputable def fv : Value := match run74 with | some (v, _) => v | none => undef
noncomputable def mN : Nat := match fv with | .func _ _ ⟨[.pointer (some ⟨m, 0, none⟩)]⟩ => m | _ => 0
noncomputable def qN : Nat := match S1.heap.get mN with | some B => (match B.get 0 with | some (.slice (some ⟨q, 0, none⟩) _ _) => q | _ => 0) | none => 0
noncomputable def isSl (v : Value) : Bool := match v with | .slice _ _ _ => true | _ => false
noncomputable def cellsI (i : Nat) : List Value := match S1.heap.get qN with | some C => ((List.range 9).map fun j => (C.get (i * 9 + j)).getD undef) | none => []
noncomputable def is8 (l : List Value) (i : Nat) : Bool := Nat.beq l.length 9 && ((List.range 8).all fun j => match l[j]?, (c8 i)[j]? with | some u, some v => eqC u v && flat v | _, _ => false) && (match l[8]? with | some v => isSl v | none => false) && Nat.beq (c8 i).length 8
noncomputable def copyOK (i : Nat) : Bool := match callH Tryz.prog H 1 60 S1.next 90 [.agg ⟨cellsI i⟩] S1 with | some (.agg ⟨l⟩, _) => is8 l i | _ => false
noncomputable def isFv (v : Value) (m : Nat) : Bool := match v with | .func (.func f) ⟨[]⟩ ⟨[.pointer (some ⟨k, 0, none⟩)]⟩ => Nat.beq f 126 && Nat.beq k m | _ => false
noncomputable def chk1 : Bool := run74.isSome && isFv fv mN &&
  (match S1.heap.get mN with | some B => (match B.get 0 with | some (.slice (some ⟨q, 0, none⟩) l _) => Nat.beq q qN && Nat.beq l 36 | _ => false) | none => false) && Nat.blt 0 S1.next &&
  (match S1.heap.get qN with | some C => (List.range 36).all fun i => (List.range 9).all fun j => (C.get (i * 9 + j)).isSome | none => false)
theorem chk1_ok : chk1 = true := by kernel_rfl
theorem chk2_ok : ((List.range 36).all fun i => is8 (cellsI i) i) = true := by kernel_rfl
theorem chk4_ok : (Nat.blt 0 mN && Nat.blt 0 qN) = true := by kernel_rfl
theorem chk3_ok : ((List.range 36).all fun i => copyOK i) = true := by kernel_rfl

theorem is8_spec {l : List Value} {i : Nat} (h : is8 l i = true) : (c8 i).length = 8 ∧ (∀ v ∈ c8 i, flat v = true) ∧ ∃ sl, l = c8 i ++ [sl] ∧ isSl sl = true := by
  unfold is8 at h
  simp only [Bool.and_eq_true] at h
  obtain ⟨⟨⟨h1, h2⟩, h3⟩, h4⟩ := h
  have h1 := nbeq h1
  have h4 := nbeq h4
  have key : ∀ j, j < 8 → ∃ v, l[j]? = some v ∧ (c8 i)[j]? = some v ∧ flat v = true := fun j hj => by
    have := List.all_eq_true.1 h2 j (List.mem_range.2 hj)
    split at this
    · rename_i u v hu hv
      rw [Bool.and_eq_true] at this
      have he := eqC_spec this.1
      subst he
      exact ⟨u, hu, hv, this.2⟩
    · cases this
  refine ⟨h4, fun v hv => ?_, ?_⟩
  · obtain ⟨j, hj⟩ := List.mem_iff_getElem?.1 hv
    have hj8 : j < 8 := by have := (List.getElem?_eq_some_iff.1 hj).1; omega
    obtain ⟨u, _, h5, h6⟩ := key j hj8
    rw [h5] at hj
    cases hj
    exact h6
  · split at h3
    · rename_i sl hsl
      refine ⟨sl, List.ext_getElem? fun j => ?_, h3⟩
      by_cases hj : j < 8
      · obtain ⟨u, h5, h6, _⟩ := key j hj
        rw [h5, List.getElem?_append_left (by omega), h6]
      · by_cases hj9 : j = 8
        · subst hj9
          rw [hsl, List.getElem?_append_right (by omega), h4]
          rfl
        · rw [List.getElem?_eq_none (by omega), List.getElem?_eq_none (by simp; omega)]
    · cases h3
theorem isSl_rv {e : Env} {sl v : Value} (h : isSl sl = true) (hv : RV e sl v) : ∃ a l c, v = .slice a l c := by
  unfold isSl at h
  split at h
  · rename_i a l c
    cases a with
    | none => rw [RV] at hv; exact ⟨_, _, _, hv⟩
    | some a => obtain ⟨b, k, _, _, h3, _⟩ := hv; exact ⟨_, _, _, h3⟩
  · cases h

/-- the list that a call of Cards keeps for its function: behind the captured variable in block bl; its blocks lie from Bar on -/
def LAt (w : World) (Bar bl : Nat) (e : Env) : Prop := RS 1 Bar e S1 w ∧ e 0 = some (0, 0) ∧ ∃ k, e mN = some (bl, k)
/-- what lay from Bar on (and the variable) lies as it lay -/
def Kept (Bar hi : Nat) (W W' : World) : Prop := W.heap.size ≤ W'.heap.size ∧ ∀ b, (b = 0 ∨ Bar ≤ b) → b < hi → W'.heap[b]? = W.heap[b]?
theorem Kept.refl (Bar hi : Nat) (W : World) : Kept Bar hi W W := ⟨Nat.le_refl _, fun _ _ _ => rfl⟩
theorem Kept.trans {Bar hi : Nat} {A B C : World} (h : Kept Bar hi A B) (k : Kept Bar hi B C) : Kept Bar hi A C := ⟨Nat.le_trans h.1 k.1, fun b hb hlt => (k.2 b hb hlt).trans (h.2 b hb hlt)⟩
theorem Kept.of_grown {Bar hi : Nat} {A B : World} (h : A.grownBy B none) (hs : hi ≤ A.heap.size) : Kept Bar hi A B := ⟨h.size, fun b _ hlt => h.block b (by omega) (by simp)⟩
theorem Kept.drew {Bar hi : Nat} {A B : World} (h : Kept Bar hi A B) : Kept Bar hi A B.drew := h
theorem LAt.kept {w w' : World} {Bar bl : Nat} {e : Env} (h : LAt w Bar bl e) (hk : Kept Bar w.heap.size w w') : LAt w' Bar bl e := by
  obtain ⟨h1, h2, h3⟩ := h
  have hlow : 1 ≤ S1.next := h1.low
  refine ⟨h1.frame (fun n b k hn => ?_) hk.1 h1.bar (Nat.le_trans h1.room hk.1) hlow, h2, h3⟩
  refine hk.2 b ?_ (h1.hi n b k hn)
  by_cases hn0 : n = 0
  · subst hn0
    rw [h2] at hn
    cases hn
    exact .inl rfl
  · exact .inr (h1.bar n b k hn (by omega))

theorem cards_calls {w : World} {Bar bk : Nat} (h : HoldsW w Bar bk 63 true) :
    Calls Tryz.prog 74 #[.pointer (some ⟨bk, 0, none⟩)] w fun e w' => ∃ bl e1, e = .returned (.func (.func 126) #[] #[.pointer (some ⟨bl, 0, none⟩)]) ∧ LAt w' Bar bl e1 ∧ Below Bar w w' := by
  obtain ⟨e, k, h1, h2, h3⟩ := h
  have hc := chk1_ok
  unfold chk1 at hc
  simp only [Bool.and_eq_true] at hc
  obtain ⟨⟨⟨⟨c1, c2⟩, c3⟩, c4⟩, c5⟩ := hc
  obtain ⟨⟨v0, S0'⟩, hr⟩ := Option.isSome_iff_exists.1 c1
  have hS : S1 = S0' := by unfold S1; rw [hr]
  have hv : fv = v0 := by unfold fv; rw [hr]
  refine ((callH_ok num mixed H_ok 60).calls (args' := [.pointer (some ⟨bk, 0, none⟩)]) (show callH Tryz.prog H 1 60 1 74 [.pointer (some ⟨1, 0, none⟩)] (stW 63 true) = some (v0, S0') from hr) ⟨_, _, RV.ptr h3, rfl, rfl⟩ h1 (globs1 h2)).mono fun en w' hp => ?_
  obtain ⟨e1, v', rfl, g1, g2, g3, g4⟩ := hp
  rw [← hS] at g3
  rw [← hv] at g2
  have hf : fv = .func (.func 126) #[] #[.pointer (some ⟨mN, 0, none⟩)] := by
    generalize mN = m at c2 ⊢
    unfold isFv at c2
    split at c2
    · simp at c2
      obtain ⟨rfl, rfl⟩ := c2
      assumption
    · cases c2
  rw [hf] at g2
  obtain ⟨f', c', q1, q2, rfl⟩ := g2
  rw [RVL] at q1
  subst q1
  obtain ⟨x, r, ⟨b, kk, q3, _, rfl⟩, q4, rfl⟩ := q2
  rw [RVL] at q4
  subst q4
  exact ⟨b, e1, rfl, ⟨g3, g1 _ _ h2, kk, q3⟩, g4⟩

/-- what is known of the list: where it lies, card by card; a card's copy -/
theorem LAt.list {w : World} {Bar bl : Nat} {e : Env} (h : LAt w Bar bl e) : ∃ (lb cap : Nat) (sl : Nat → Value), w.cell? ⟨bl, 0, none⟩ = some (.slice (some ⟨lb, 0, none⟩) 36 cap) ∧ Bar ≤ bl ∧ Bar ≤ lb ∧ bl < w.heap.size ∧ lb < w.heap.size ∧
    (∀ i, i < 36 → (c8 i).length = 8 ∧ (∀ v ∈ c8 i, flat v = true) ∧ (∃ a l c, sl i = .slice a l c) ∧ ∀ j, j < 9 → w.cell? ⟨lb, i * 9 + j, none⟩ = (c8 i ++ [sl i])[j]?) ∧
    ∀ i W, i < 36 → Kept Bar w.heap.size w W → Calls Tryz.prog 90 #[Value.agg (c8 i ++ [sl i]).toArray] W fun en W' => (∃ a l c, en = Ending.returned (Value.agg (c8 i ++ [Value.slice a l c]).toArray)) ∧ Below W.heap.size W W' := by
  obtain ⟨h1, h2, k, h3⟩ := h
  have hc := chk1_ok
  unfold chk1 at hc
  simp only [Bool.and_eq_true] at hc
  obtain ⟨⟨⟨⟨c1, c2⟩, c3⟩, c4⟩, c5⟩ := hc
  split at c3
  · rename_i B hB
    split at c3
    · rename_i q l cp hB0
      rw [Bool.and_eq_true] at c3
      obtain ⟨hq, hl⟩ := c3
      have hq := nbeq hq
      have hl := nbeq hl
      subst hl
      split at c5
      · rename_i C hC
        obtain ⟨b, k', g1, c, g2, g3, g4, g5, g6⟩ := h1.blk _ _ hB
        rw [h3] at g1
        cases g1
        obtain ⟨v1, g7, g8⟩ := g6 0 _ hB0
        obtain ⟨lb, kl, g9, _, rfl, g10⟩ := g8
        rw [hq] at g9
        obtain ⟨lb', kl', m1, cc, m2, m3, m4, m5, m6⟩ := h1.blk _ _ hC
        rw [g9] at m1
        cases m1
        have hcell : ∀ i, i < 36 → (c8 i).length = 8 ∧ (∀ v ∈ c8 i, flat v = true) ∧ isSl ((cellsI i)[8]?.getD undef) = true ∧ RVL e (cellsI i) (c8 i ++ [(cc[i * 9 + 8]?).getD undef]) ∧ ∀ j, j < 9 → cc[i * 9 + j]? = (c8 i ++ [(cc[i * 9 + 8]?).getD undef])[j]? := fun i hi => by
          have h8 := List.all_eq_true.1 chk2_ok i (List.mem_range.2 hi)
          obtain ⟨p1, p2, sl, p3, p4⟩ := is8_spec h8
          have hget : ∀ j, j < 9 → ∃ u u', C.get (i * 9 + j) = some u ∧ cc[i * 9 + j]? = some u' ∧ RV e u u' ∧ (cellsI i)[j]? = some u := fun j hj => by
            have := List.all_eq_true.1 (List.all_eq_true.1 c5 i (List.mem_range.2 hi)) j (List.mem_range.2 hj)
            obtain ⟨u, hu⟩ := Option.isSome_iff_exists.1 this
            obtain ⟨u', q1, q2⟩ := m6 _ _ hu
            refine ⟨u, u', hu, q1, q2, ?_⟩
            unfold cellsI
            rw [hC]
            simp [hj, hu]
          have hlen : (cellsI i).length = 9 := by rw [p3]; simp [p1]
          have hsl : (cellsI i)[8]?.getD undef = sl := by rw [p3, List.getElem?_append_right (by omega), p1]; rfl
          have hRV : RVL e (cellsI i) (c8 i ++ [(cc[i * 9 + 8]?).getD undef]) := RVL.of_get (by simp [hlen, p1]) fun j v hj => by
            have hj9 : j < 9 := by have := (List.getElem?_eq_some_iff.1 hj).1; omega
            obtain ⟨u, u', q1, q2, q3, q4⟩ := hget j hj9
            rw [q4] at hj
            have hj := Option.some.inj hj
            subst hj
            by_cases hj8 : j < 8
            · have hc8 : (c8 i)[j]? = some u := by rw [p3, List.getElem?_append_left (by omega)] at q4; exact q4
              exact ⟨u, by rw [List.getElem?_append_left (by omega)]; exact hc8, RV.of_flat (p2 u (List.mem_of_getElem? hc8))⟩
            · have : j = 8 := by omega
              subst this
              exact ⟨u', by rw [List.getElem?_append_right (by omega), p1]; simp [q2], q3⟩
          refine ⟨p1, p2, by rw [← hsl] at p4; exact p4, hRV, fun j hj => ?_⟩
          obtain ⟨u, u', q1, q2, q3, q4⟩ := hget j hj
          rw [q2]
          obtain ⟨v', q5, q6⟩ := hRV.get q4
          by_cases hj8 : j < 8
          · have hc8 : (c8 i)[j]? = some u := by rw [p3, List.getElem?_append_left (by omega)] at q4; exact q4
            rw [List.getElem?_append_left (by omega), hc8, RV.flat_eq (p2 u (List.mem_of_getElem? hc8)) q3]
          · have : j = 8 := by omega
            subst this
            rw [List.getElem?_append_right (by omega), p1]
            simp [q2]
        have h4 := chk4_ok
        simp only [Bool.and_eq_true, blt_dec, decide_eq_true_eq] at h4
        refine ⟨lb, if cp = big then kl else cp, fun i => (cc[i * 9 + 8]?).getD undef, by simp only [World.cell?, g2]; exact g7, h1.bar _ _ _ h3 h4.1, h1.bar _ _ _ g9 h4.2, h1.hi _ _ _ h3, h1.hi _ _ _ g9, fun i hi => ?_, fun i W hi hW => ?_⟩
        · obtain ⟨p1, p2, p4, hRV, hc⟩ := hcell i hi
          refine ⟨p1, p2, ?_, fun j hj => by simp only [World.cell?, m2]; exact hc j hj⟩
          have h8 : (cellsI i)[8]? = some ((cellsI i)[8]?.getD undef) := by
            have hl : (cellsI i).length = 9 := by rw [← hRV.length]; simp [p1]
            rw [List.getElem?_eq_getElem (by omega)]; rfl
          obtain ⟨v', q5, q6⟩ := hRV.get h8
          rw [List.getElem?_append_right (by omega), p1] at q5
          simp at q5
          rw [← q5] at q6
          exact isSl_rv p4 q6
        · obtain ⟨p1, p2, p4, hRV, hc⟩ := hcell i hi
          have hW1 : RS 1 Bar e S1 W := (LAt.kept (bl := bl) ⟨h1, h2, k, h3⟩ hW).1
          have hWS : RS S1.next W.heap.size e S1 W := hW1.frame (fun _ _ _ _ => rfl) (Nat.le_refl _) (fun n b k hn hle => by rw [h1.fresh n hle] at hn; cases hn) (Nat.le_refl _) (Nat.le_refl _)
          have hcp := List.all_eq_true.1 chk3_ok i (List.mem_range.2 hi)
          unfold copyOK at hcp
          split at hcp
          · rename_i l S2 hrun
            obtain ⟨r1, r2, sl2, r3, r4⟩ := is8_spec hcp
            refine ((callH_ok num mixed H_ok 60).calls (args' := [.agg (c8 i ++ [(cc[i * 9 + 8]?).getD undef]).toArray]) hrun ⟨_, _, ⟨_, hRV, rfl⟩, rfl, rfl⟩ hWS (globs1 h2)).mono fun en W' hp => ?_
            obtain ⟨e2, v', rfl, t1, ⟨l', t2, rfl⟩, t3, t4⟩ := hp
            refine ⟨?_, t4⟩
            rw [r3] at t2
            have hl' : l'.length = 9 := by rw [t2.length]; simp [r1]
            obtain ⟨x, t5, t6⟩ := t2.get (i := 8) (v := sl2) (by rw [List.getElem?_append_right (by omega), r1]; rfl)
            obtain ⟨a, ll, cc2, rfl⟩ := isSl_rv r4 t6
            refine ⟨a, ll, cc2, ?_⟩
            have hll : l' = c8 i ++ [Value.slice a ll cc2] := by
              refine List.ext_getElem? fun j => ?_
              by_cases hj8 : j < 8
              · obtain ⟨u, hu⟩ : ∃ u, (c8 i)[j]? = some u := ⟨(c8 i)[j], by simp [r1, hj8]⟩
                obtain ⟨x', t7, t8⟩ := t2.get (i := j) (v := u) (by rw [List.getElem?_append_left (by omega)]; exact hu)
                rw [t7, List.getElem?_append_left (by omega), hu, RV.flat_eq (r2 u (List.mem_of_getElem? hu)) t8]
              · by_cases hj9 : j = 8
                · subst hj9
                  rw [t5, List.getElem?_append_right (by omega), r1]
                  rfl
                · rw [List.getElem?_eq_none (by omega), List.getElem?_eq_none (by simp [r1]; omega)]
            rw [hll]
          · cases hcp
      · cases c5
    · cases c3
  · cases c3
end Go.Proofs.YtecmlefiajhajaaGreatDoor.tk
