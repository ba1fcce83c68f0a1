/- A stretch of a body, run from a frame of which some slots are named. -/
import Derived.Test.YtecmlefiajhajaaGreatDoorSt
namespace Go.Sim
variable [Val]
open Go.RowKit
variable {P : Program} {e : Env} {NG Bar : Nat} {S : St} {w : World}

/-! ### a stretch of a body -/
/-- a stretch run from a frame of which some slots are known: what is known of the frame behind it, and the state told anew -/
noncomputable def segB (P : Program) (H : CallT) (G fuel NG nt : Nat) (c : Code) (fr : List (Nat × Value)) (S : St) (fr2 : List (Nat × Value)) (r : St → Nat → Nat) (next : Nat) (hp ro : List (Nat × KB)) : Bool :=
  (fr.all fun p => Nat.blt p.1 1000000) && match exec P (callH P H G fuel) NG 1000000 (compC P c) (Fr.mk nt G (frOf fr)) S with
  | some (.normal, A, S1) => Nat.beq A.nt nt && (fr2.all fun p => okC next p.2 && match A.t.get p.1 with | some u => eqC u (mapC (r S1) p.2) | none => false) && renOK NG (r S1) S1 next hp ro
  | _ => false

theorem seg_run (hn : NumOK P) (hm : P.follows .mixedOrders = true) {G fuel : Nat} {H : CallT} (hH : CallOK P G H) {c : Code} {K : Act → World → Prop} {Q : Exit → Act → World → Prop} {a : Act} (nt : Nat) (fr fr2 : List (Nat × Value)) {r : St → Nat → Nat} {next : Nat} {hp ro : List (Nat × KB)}
    (h : segB P H G fuel NG nt c fr S fr2 r next hp ro = true) (hsz : a.tmps.size = nt) (hfr : ∀ p ∈ fr, ∃ v', a.tmps[p.1]? = some v' ∧ RV e p.2 v') (hS : RS NG Bar e S w) (hG : Globs G e)
    (hK : ∀ a' w' e2, a'.tmps.size = nt → a'.defers = a.defers → (∀ p ∈ fr2, ∃ v', a'.tmps[p.1]? = some v' ∧ RV e2 p.2 v') → RS NG Bar e2 (mkSt next hp ro) w' → (∀ n, n < next → (∀ S1, r S1 n = n) → n < S.next → e2 n = e n) → Below Bar w w' → K a' w') : c.wp P (Exit.then K Q) a w := by
  unfold segB at h
  rw [Bool.and_eq_true] at h
  obtain ⟨hlt, h⟩ := h
  have hlt : ∀ p ∈ fr, p.1 < 1000000 := fun p hp => by have := List.all_eq_true.1 hlt p hp; rw [blt_dec] at this; exact of_decide_eq_true this
  split at h
  · rename_i A' S1 hex
    simp only [Bool.and_eq_true] at h
    obtain ⟨⟨hnt, hf2⟩, hren⟩ := h
    refine (exec_sound (callH_ok hn hm hH fuel) hn hm 1000000).1 c e _ S a w .normal A' S1 _ (⟨hsz, hG, fun t v hv => hfr (t, v) (frOf_get hlt hv)⟩ : RF e (Fr.mk nt G (frOf fr)) a) hS hG hex (fun a' w' hl => ?_)
    obtain ⟨⟨e1, g1, g2, g3, g4, g5⟩, -⟩ := hl
    obtain ⟨e2, k1, k2⟩ := g3.rename hren
    refine hK a' w' e2 (by rw [g2.size]; exact nbeq hnt) g5 (fun p hp => ?_) k1 (fun n hn hr hl => ?_) g4
    · have := List.all_eq_true.1 hf2 p hp
      rw [Bool.and_eq_true] at this
      obtain ⟨h1, h2⟩ := this
      split at h2
      · rename_i u hu
        obtain ⟨v', q1, q2⟩ := g2.tmp _ _ hu
        rw [eqC_spec h2] at q2
        exact ⟨v', q1, okC_map k2 h1 q2⟩
      · cases h2
    · rw [k2 n hn, hr]
      obtain ⟨p, hp⟩ := hS.full n hl
      rw [hp, g1 _ _ hp]
  · cases h

omit [Val] in
theorem frame_lit {t : Array Value} {n : Nat} (h : t.size = n) : t = ((List.range n).map fun i => t.getD i undef).toArray := by
  refine Array.ext (by simp [h]) fun i h1 h2 => ?_
  simp [Array.getD_eq_getD_getElem?, Array.getElem?_eq_getElem h1]
omit [Val] in
theorem getD_of {t : Array Value} {i : Nat} {v : Value} (h : t[i]? = some v) : t.getD i undef = v := by rw [Array.getD_eq_getD_getElem?, h]; rfl

/-- old blocks that have names: nothing is said of what is in them -/
theorem rs_names (e : Env) (n : Nat) (w : World) (h : ∀ i, i < n → ∃ p, e i = some p ∧ p.1 < w.heap.size) (h0 : ∀ i, n ≤ i → e i = none) : RS n w.heap.size e (mkSt n [] []) w := by
  have hlt : ∀ i p, e i = some p → i < n := fun i p hi => by
    rcases Nat.lt_or_ge i n with h | h
    · exact h
    · rw [h0 i h] at hi; cases hi
  refine ⟨fun n B h => by simp [mkSt, blOf, Tr.get] at h, fun n B h => by simp [mkSt, Tr.get] at h, fun n m B C b k k' h => by simp [mkSt, blOf, Tr.get] at h, fun n m B C b k k' h => by simp [mkSt, Tr.get] at h, h0, fun i b k hi hle => ?_, fun i b k hi => ?_, Nat.le_refl _, Nat.le_refl _,
    fun i hi => ?_, fun n l h => by simp [mkSt, Tr.get] at h, fun n m l l' b k k' h => by simp [mkSt, Tr.get] at h, fun n B h => by simp [mkSt, blOf, Tr.get] at h, fun n m B C b k k' h => by simp [mkSt, blOf, Tr.get] at h, fun n m B C b k k' h => by simp [mkSt, blOf, Tr.get] at h⟩
  · have := hlt i _ hi; omega
  · obtain ⟨p, h1, h2⟩ := h i (hlt i _ hi)
    rw [h1] at hi
    cases hi
    exact h2
  · obtain ⟨p, h1, _⟩ := h i hi
    exact ⟨p, h1⟩
/-- a cell of a block that is read -/
theorem RS.roCell {n b k i : Nat} {B : Blk} {v : Value} (hS : RS NG Bar e S w) (hB : S.ro.get n = some B) (hn : e n = some (b, k)) (hi : B.get i = some v) (hv : flat v = true) : w.cell? ⟨b, i, none⟩ = some v := by
  obtain ⟨b', k', g1, cs, ty, f, g2, g3⟩ := hS.ro n B hB
  rw [hn] at g1
  cases g1
  obtain ⟨v', g4, g5⟩ := g3 i v hi
  rw [RV.flat_eq hv g5] at g4
  simp [World.cell?, g2, g4]
end Go.Sim
