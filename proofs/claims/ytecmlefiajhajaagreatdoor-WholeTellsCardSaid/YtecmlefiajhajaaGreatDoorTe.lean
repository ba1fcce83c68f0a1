/- A block more that is only read; the rest of a body whose ending is told by what the executor says of it. -/
import Derived.Test.YtecmlefiajhajaaGreatDoorMe
namespace Go.Sim
variable [Val]
open Go.RowKit
variable {P : Program} {e : Env} {NG Bar : Nat} {S : St} {w : World}

/-- a block more has a name, and is only read -/
theorem RS.addRoG {b kc : Nat} {B : Blk} (hS : RS NG Bar e S w) (hbar : Bar ≤ b) (hb : b < w.heap.size) (hfar : ∀ n p, e n = some (b, p) → False) (hB : RBr e B b w) (hlim : S.next + 1 < 1099511627776) :
    ∃ e2, RS NG Bar e2 { S with next := S.next + 1, ro := S.ro.set (some B) S.next } w ∧ Sub e e2 ∧ e2 S.next = some (b, kc) := by
  have hnext : e S.next = none := hS.fresh S.next (Nat.le_refl _)
  have he2 : ∃ e2 : Env, (∀ n, n ≠ S.next → e2 n = e n) ∧ e2 S.next = some (b, kc) := ⟨fun n => if n = S.next then some (b, kc) else e n, fun n hn => if_neg hn, if_pos rfl⟩
  obtain ⟨e2, h1, h2⟩ := he2
  have hsub : Sub e e2 := fun n p hn => by rw [h1 n (fun h => by rw [h, hnext] at hn; cases hn)]; exact hn
  have back : ∀ n, (∃ p, e n = some p) → e2 n = e n := fun n ⟨p, hp⟩ => h1 n (fun h => by rw [h, hnext] at hp; cases hp)
  have hh : ∀ n B, S.heap.get n = some B → e2 n = e n := fun n B hB => back n (let ⟨c, k, g, _⟩ := hS.blk n B hB; ⟨_, g⟩)
  have ho : ∀ n B, S.old.get n = some B → e2 n = e n := fun n B hB => back n (let ⟨c, k, g, _⟩ := hS.old n B hB; ⟨_, g⟩)
  have hm : ∀ n l, S.maps.get n = some l → e2 n = e n := fun n l hl => back n (let ⟨c, k, g, _⟩ := hS.mp n l hl; ⟨_, g⟩)
  have hr : ∀ n B, S.ro.get n = some B → e2 n = e n := fun n B hB => back n (let ⟨c, k, g, _⟩ := hS.ro n B hB; ⟨_, g⟩)
  have hget : ∀ m, (S.ro.set (some B) S.next).get m = if m = S.next then some B else S.ro.get m := fun m => get_set _ _ _ _ hlim
  refine ⟨e2, ⟨fun n B hB => ?_, fun n B hB => ?_, fun n m B C c k k' hB hC hx hy => ?_, fun n m B C c k k' hB hC hx hy => ?_, fun n hle => ?_, fun n c p hx hle => ?_, fun n c p hx => ?_, hS.room, Nat.le_trans hS.low (Nat.le_succ _), fun n hlt => ?_,
    fun n l hl => ?_, fun n m l l' c k k' hl hl' hx hy => ?_, fun n B' hB' => ?_, fun n m B' C c k k' hB' hC hx hy => ?_, fun n m B' C c k k' hB' hC hx hy => ?_⟩, hsub, h2⟩
  · obtain ⟨c, p, g1, g2⟩ := hS.blk n B hB
    exact ⟨c, p, hsub _ _ g1, g2.congr hsub rfl⟩
  · obtain ⟨c, p, g1, g2⟩ := hS.old n B hB
    exact ⟨c, p, hsub _ _ g1, g2.congr hsub rfl⟩
  · rw [hh n B hB] at hx
    rw [hh m C hC] at hy
    exact hS.inj n m B C c k k' hB hC hx hy
  · rw [ho n B hB] at hx
    rw [hh m C hC] at hy
    exact hS.sep n m B C c k k' hB hC hx hy
  · have hle : S.next + 1 ≤ n := hle
    rw [h1 n (by omega)]
    exact hS.fresh n (by omega)
  · by_cases hnn : n = S.next
    · subst hnn
      rw [h2] at hx
      cases hx
      exact hbar
    · rw [h1 n hnn] at hx
      exact hS.bar n c p hx hle
  · by_cases hnn : n = S.next
    · subst hnn
      rw [h2] at hx
      cases hx
      exact hb
    · rw [h1 n hnn] at hx
      exact hS.hi n c p hx
  · have hlt : n < S.next + 1 := hlt
    by_cases hnn : n = S.next
    · exact ⟨_, by rw [hnn]; exact h2⟩
    · rw [h1 n hnn]
      exact hS.full n (by omega)
  · obtain ⟨c, p, g1, g2⟩ := hS.mp n l hl
    exact ⟨c, p, hsub _ _ g1, g2.congr hsub rfl⟩
  · rw [hm n l hl] at hx
    rw [hm m l' hl'] at hy
    exact hS.mpi n m l l' c k k' hl hl' hx hy
  · have hB' : (S.ro.set (some B) S.next).get n = some B' := hB'
    rw [hget] at hB'
    split at hB'
    · rename_i hn
      cases hB'
      subst hn
      exact ⟨b, kc, h2, hB.congr hsub rfl⟩
    · obtain ⟨c, p, g1, g2⟩ := hS.ro n B' hB'
      exact ⟨c, p, hsub _ _ g1, g2.congr hsub rfl⟩
  · have hB' : (S.ro.set (some B) S.next).get n = some B' := hB'
    rw [hget] at hB'
    rw [hh m C hC] at hy
    split at hB'
    · rename_i hn
      subst hn
      rw [h2] at hx
      cases hx
      exact hfar _ _ hy
    · rw [hr n B' hB'] at hx
      exact hS.roi n m B' C c k k' hB' hC hx hy
  · have hB' : (S.ro.set (some B) S.next).get n = some B' := hB'
    rw [hget] at hB'
    rw [ho m C hC] at hy
    split at hB'
    · rename_i hn
      subst hn
      rw [h2] at hx
      cases hx
      exact hfar _ _ hy
    · rw [hr n B' hB'] at hx
      exact hS.roo n m B' C c k k' hB' hC hx hy

/-! ### the rest of a body -/
/-- what the walk left behind: code that is still to be run, piece by piece; at the end what is asked there -/
def ChainE (P : Program) (E : Act → World → Prop) : List Code → (Exit → Act → World → Prop) → Prop
  | [], Q => ∀ x a w, x = .normal ∨ x = .ret → E a w → Q x a w
  | c :: l, Q => ∃ K Q1, Q = Exit.then K Q1 ∧ (∀ a w, c.wp P Q1 a w → K a w) ∧ ChainE P E l Q1

omit [Val] in
theorem ChainE.ret {E : Act → World → Prop} : ∀ {l : List Code} {Q : Exit → Act → World → Prop}, ChainE P E l Q → ∀ a w, E a w → Q .ret a w
  | [], _, h, a, w, hb => h _ a w (.inr rfl) hb
  | _ :: _, _, ⟨_, _, rfl, _, h⟩, a, w, hb => h.ret a w hb

noncomputable def tailE (P : Program) (call : CallT) (NG : Nat) (ok : Fr → St → Bool) : List Code → Fr → St → Bool
  | [], _, _ => false
  | [c], A, S => (match exec P call NG 1000000 (compC P c) A S with | some (.ret, A, S) => ok A S | some (.normal, A, S) => ok A S | _ => false)
  | c :: d :: l, A, S => (match exec P call NG 1000000 (compC P c) A S with | some (.ret, A, S) => ok A S | some (.normal, A, S) => tailE P call NG ok (d :: l) A S | _ => false)

theorem tail_exec (hn : NumOK P) (hm : P.follows .mixedOrders = true) {G : Nat} {call : CallT} (hC : CallOK P G call) {ok : Fr → St → Bool} {E : Act → World → Prop} :
    ∀ (l : List Code) (c : Code) (Q : Exit → Act → World → Prop) (A : Fr) (S : St) (e : Env) (a : Act) (w : World), ChainE P E l Q → tailE P call NG ok (c :: l) A S = true → RF e A a → RS NG Bar e S w → Globs G e →
    (∀ A' S' e' a' w', ok A' S' = true → RF e' A' a' → RS NG Bar e' S' w' → Sub e e' → Below Bar w w' → a'.defers = a.defers → E a' w') → c.wp P Q a w := by
  intro l
  induction l with
  | nil =>
    intro c Q A S e a w hch h hF hS hG hR
    simp only [tailE] at h
    split at h
    · rename_i A' S' hex
      refine (exec_sound hC hn hm 1000000).1 c e A S a w _ A' S' Q hF hS hG hex (fun a' w' hl => ?_)
      obtain ⟨⟨e1, g1, g2, g3, g4, g5⟩, -⟩ := hl
      exact hch _ a' w' (.inr rfl) (hR A' S' e1 a' w' h g2 g3 g1 g4 g5)
    · rename_i A' S' hex
      refine (exec_sound hC hn hm 1000000).1 c e A S a w _ A' S' Q hF hS hG hex (fun a' w' hl => ?_)
      obtain ⟨⟨e1, g1, g2, g3, g4, g5⟩, -⟩ := hl
      exact hch _ a' w' (.inl rfl) (hR A' S' e1 a' w' h g2 g3 g1 g4 g5)
    · cases h
  | cons d l ih =>
    intro c Q A S e a w hch h hF hS hG hR
    simp only [tailE] at h
    split at h
    · rename_i A' S' hex
      refine (exec_sound hC hn hm 1000000).1 c e A S a w _ A' S' Q hF hS hG hex (fun a' w' hl => ?_)
      obtain ⟨⟨e1, g1, g2, g3, g4, g5⟩, -⟩ := hl
      exact hch.ret a' w' (hR A' S' e1 a' w' h g2 g3 g1 g4 g5)
    · rename_i A' S' hex
      obtain ⟨K, Q1, rfl, hK, hch⟩ := hch
      refine (exec_sound hC hn hm 1000000).1 c e A S a w _ A' S' _ hF hS hG hex (fun a' w' hl => ?_)
      obtain ⟨⟨e1, g1, g2, g3, g4, g5⟩, -⟩ := hl
      exact hK a' w' (ih d Q1 A' S' e1 a' w' hch h g2 g3 (fun g hg => g1 _ _ (hG g hg)) (fun A2 S2 e2 a2 w2 q1 q2 q3 q4 q5 q6 => hR A2 S2 e2 a2 w2 q1 q2 q3 (g1.trans q4) (g4.trans q5) (q6.trans g5)))
    · cases h

/-- a frame of which some slots are known -/
noncomputable def frC (nt G : Nat) (fr : List (Nat × Value)) : Fr := Fr.mk nt G (frOf fr)
theorem frC_ok {nt G : Nat} {fr : List (Nat × Value)} {a : Act} (hlt : (fr.all fun p => Nat.blt p.1 1000000) = true) (hsz : a.tmps.size = nt) (hfr : ∀ p ∈ fr, ∃ v', a.tmps[p.1]? = some v' ∧ RV e p.2 v') (hG : Globs G e) : RF e (frC nt G fr) a := by
  have hlt : ∀ p ∈ fr, p.1 < 1000000 := fun p hp => by have := List.all_eq_true.1 hlt p hp; rw [blt_dec] at this; exact of_decide_eq_true this
  exact ⟨hsz, hG, fun t v hv => hfr (t, v) (frOf_get hlt hv)⟩

/-- the answer of a body whose results the executor tells -/
noncomputable def answers (P : Program) (res : List ResultVar) (ok : Value → St → Bool) (A : Fr) (S : St) : Bool :=
  match resultVs P A S res with | some vs => ok (oneOf vs) S | none => false
theorem answers_ok {res : List ResultVar} {ok : Value → St → Bool} {A : Fr} {a : Act} {fn : Func} (h : answers P res ok A S = true) (hres : fn.results.toList = res) (hF : RF e A a) (hS : RS NG Bar e S w) :
    ∃ v v', ok v S = true ∧ (results fn a.tmps).run P w = .ok v' w ∧ RV e v v' := by
  unfold answers at h
  split at h
  · rename_i vs hvs
    rw [← hres] at hvs
    obtain ⟨v', h1, h2⟩ := results_sound hF hS hvs
    exact ⟨_, v', h, h1, h2⟩
  · cases h
end Go.Sim
