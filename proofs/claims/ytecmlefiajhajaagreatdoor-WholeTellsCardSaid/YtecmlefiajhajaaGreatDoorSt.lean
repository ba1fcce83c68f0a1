/- The rest of a body, run from a frame of which some slots are named. -/
import Derived.Test.YtecmlefiajhajaaGreatDoorSm
namespace Go.Sim
variable [Val]
open Go.RowKit
variable {P : Program} {e : Env} {NG Bar : Nat} {S : St} {w : World}

noncomputable def frOf (l : List (Nat × Value)) : Tr Value := l.foldr (fun p t => t.set (some p.2) p.1) .leaf
omit [Val] in
theorem frOf_get : ∀ {l : List (Nat × Value)} {n : Nat} {v : Value}, (∀ p ∈ l, p.1 < 1000000) → (frOf l).get n = some v → (n, v) ∈ l
  | [], n, v, _, h => by simp [frOf, Tr.get] at h
  | p :: l, n, v, hl, h => by
    have hp := hl p (List.mem_cons_self ..)
    have h' : ((frOf l).set (some p.2) p.1).get n = some v := h
    rw [get_set _ _ _ _ (by omega)] at h'
    split at h'
    · rename_i hn
      cases h'
      rw [hn]
      exact List.mem_cons_self ..
    · exact List.mem_cons_of_mem _ (frOf_get (fun p hp => hl p (List.mem_cons_of_mem _ hp)) h')

/-- does the answer's slot hold true? -/
noncomputable def saysTrue (res : Nat) (A : Fr) : Bool := match A.t.get res with | some (.bool true) => true | _ => false

/-- codes run one behind the other: the body hands back true -/
noncomputable def tailL (P : Program) (call : CallT) (NG res : Nat) : List Code → Fr → St → Bool
  | [], _, _ => false
  | [c], A, S => (match exec P call NG 1000000 (compC P c) A S with | some (.ret, A, _) => saysTrue res A | some (.normal, A, _) => saysTrue res A | _ => false)
  | c :: d :: l, A, S => (match exec P call NG 1000000 (compC P c) A S with | some (.ret, A, _) => saysTrue res A | some (.normal, A, S) => tailL P call NG res (d :: l) A S | _ => false)

/-- what the walk left behind: code that is still to be run, piece by piece -/
def Chain (P : Program) (fn : Func) (R : Ending → World → Prop) : List Code → (Exit → Act → World → Prop) → Prop
  | [], Q => ∀ x a w, bodyPost P fn R x a w → Q x a w
  | c :: l, Q => ∃ K Q1, Q = Exit.then K Q1 ∧ (∀ a w, c.wp P Q1 a w → K a w) ∧ Chain P fn R l Q1

omit [Val] in
theorem Chain.ret {fn : Func} {R : Ending → World → Prop} : ∀ {l : List Code} {Q : Exit → Act → World → Prop}, Chain P fn R l Q → ∀ a w, bodyPost P fn R .ret a w → Q .ret a w
  | [], _, h, a, w, hb => h _ a w hb
  | _ :: _, _, ⟨_, _, rfl, _, h⟩, a, w, hb => h.ret a w hb

theorem tail_list (hn : NumOK P) (hm : P.follows .mixedOrders = true) {G : Nat} {call : CallT} (hC : CallOK P G call) {fn : Func} {res : Tmp} (hres : fn.results = #[.tmp res]) {R : Ending → World → Prop} :
    ∀ (l : List Code) (c : Code) (Q : Exit → Act → World → Prop) (A : Fr) (S : St) (e : Env) (a : Act) (w : World), Chain P fn R l Q → tailL P call NG res (c :: l) A S = true → RF e A a → a.defers = [] → RS NG Bar e S w → Globs G e →
    (∀ w', Below Bar w w' → R (.returned (.bool true)) w') → c.wp P Q a w := by
  have fin : ∀ (A : Fr) (e : Env) (a : Act) (w : World), saysTrue res A = true → RF e A a → (results fn a.tmps).run P w = .ok (.bool true) w := by
    intro A e a w hb hF
    unfold saysTrue at hb
    split at hb
    · rename_i hg
      obtain ⟨v', h1, h2⟩ := hF.tmp res _ hg
      rw [RV] at h2
      subst h2
      rw [results_tmp hres a.tmps P w, Array.getD_eq_getD_getElem?, h1]
      rfl
    · cases hb
  intro l
  induction l with
  | nil =>
    intro c Q A S e a w hch h hF hd hS hG hR
    simp only [tailL] at h
    split at h
    · rename_i A' S' hex
      refine (exec_sound hC hn hm 1000000).1 c e A S a w _ A' S' Q hF hS hG hex (fun a' w' hl => ?_)
      obtain ⟨⟨e1, g1, g2, g3, g4, g5⟩, -⟩ := hl
      exact hch _ a' w' ⟨g5.trans hd, _, fin A' e1 a' w' h g2, hR w' g4⟩
    · rename_i A' S' hex
      refine (exec_sound hC hn hm 1000000).1 c e A S a w _ A' S' Q hF hS hG hex (fun a' w' hl => ?_)
      obtain ⟨⟨e1, g1, g2, g3, g4, g5⟩, -⟩ := hl
      exact hch _ a' w' ⟨g5.trans hd, _, fin A' e1 a' w' h g2, hR w' g4⟩
    · cases h
  | cons d l ih =>
    intro c Q A S e a w hch h hF hd hS hG hR
    simp only [tailL] at h
    split at h
    · rename_i A' S' hex
      refine (exec_sound hC hn hm 1000000).1 c e A S a w _ A' S' Q hF hS hG hex (fun a' w' hl => ?_)
      obtain ⟨⟨e1, g1, g2, g3, g4, g5⟩, -⟩ := hl
      exact hch.ret a' w' ⟨g5.trans hd, _, fin A' e1 a' w' h g2, hR w' g4⟩
    · rename_i A' S' hex
      obtain ⟨K, Q1, rfl, hK, hch⟩ := hch
      refine (exec_sound hC hn hm 1000000).1 c e A S a w _ A' S' _ hF hS hG hex (fun a' w' hl => ?_)
      obtain ⟨⟨e1, g1, g2, g3, g4, g5⟩, -⟩ := hl
      exact hK a' w' (ih d Q1 A' S' e1 a' w' hch h g2 (g5.trans hd) g3 (fun g hg => g1 _ _ (hG g hg)) (fun w2 hb => hR w2 (g4.trans hb)))
    · cases h

/-- the rest of a body, run from a frame of which some slots are known: it hands back true -/
noncomputable def tailH (P : Program) (H : CallT) (G fuel NG nt res : Nat) (l : List Code) (fr : List (Nat × Value)) (S : St) : Bool :=
  (fr.all fun p => Nat.blt p.1 1000000) && tailL P (callH P H G fuel) NG res l (Fr.mk nt G (frOf fr)) S

theorem tail_run (hn : NumOK P) (hm : P.follows .mixedOrders = true) {G fuel : Nat} {H : CallT} (hH : CallOK P G H) {fn : Func} {res : Tmp} (hres : fn.results = #[.tmp res]) {R : Ending → World → Prop} {l : List Code} {Q : Exit → Act → World → Prop} {c : Code} {a : Act}
    (hch : Chain P fn R l Q) (nt : Nat) (fr : List (Nat × Value)) (h : tailH P H G fuel NG nt res (c :: l) fr S = true) (hsz : a.tmps.size = nt) (hd : a.defers = []) (hfr : ∀ p ∈ fr, ∃ v', a.tmps[p.1]? = some v' ∧ RV e p.2 v') (hS : RS NG Bar e S w) (hG : Globs G e)
    (hR : ∀ w', Below Bar w w' → R (.returned (.bool true)) w') : c.wp P Q a w := by
  unfold tailH at h
  rw [Bool.and_eq_true] at h
  obtain ⟨hlt, h⟩ := h
  have hlt : ∀ p ∈ fr, p.1 < 1000000 := fun p hp => by have := List.all_eq_true.1 hlt p hp; rw [blt_dec] at this; exact of_decide_eq_true this
  exact tail_list hn hm (callH_ok hn hm hH fuel) hres l c Q _ S e a w hch h ⟨hsz, hG, fun t v hv => hfr (t, v) (frOf_get hlt hv)⟩ hd hS hG hR

/-- a block more has a name: of what is in it nothing is said -/
theorem RS.addName {b kc : Nat} (hS : RS NG Bar e S w) (hbar : Bar ≤ b) (hb : b < w.heap.size) :
    ∃ e2, RS NG Bar e2 { S with next := S.next + 1 } w ∧ Sub e e2 ∧ e2 S.next = some (b, kc) := by
  have hnext : e S.next = none := hS.fresh S.next (Nat.le_refl _)
  have he2 : ∃ e2 : Env, (∀ n, n ≠ S.next → e2 n = e n) ∧ e2 S.next = some (b, kc) := ⟨fun n => if n = S.next then some (b, kc) else e n, fun n hn => if_neg hn, if_pos rfl⟩
  obtain ⟨e2, h1, h2⟩ := he2
  have hsub : Sub e e2 := fun n p hn => by rw [h1 n (fun h => by rw [h, hnext] at hn; cases hn)]; exact hn
  have back : ∀ n, (∃ p, e n = some p) → e2 n = e n := fun n ⟨p, hp⟩ => h1 n (fun h => by rw [h, hnext] at hp; cases hp)
  have hh : ∀ n B, S.heap.get n = some B → e2 n = e n := fun n B hB => back n (let ⟨c, k, g, _⟩ := hS.blk n B hB; ⟨_, g⟩)
  have ho : ∀ n B, S.old.get n = some B → e2 n = e n := fun n B hB => back n (let ⟨c, k, g, _⟩ := hS.old n B hB; ⟨_, g⟩)
  have hm : ∀ n l, S.maps.get n = some l → e2 n = e n := fun n l hl => back n (let ⟨c, k, g, _⟩ := hS.mp n l hl; ⟨_, g⟩)
  have hr : ∀ n B, S.ro.get n = some B → e2 n = e n := fun n B hB => back n (let ⟨c, k, g, _⟩ := hS.ro n B hB; ⟨_, g⟩)
  refine ⟨e2, ⟨fun n B hB => ?_, fun n B hB => ?_, fun n m B C c k k' hB hC hx hy => ?_, fun n m B C c k k' hB hC hx hy => ?_, fun n hle => ?_, fun n c p hx hle => ?_, fun n c p hx => ?_, hS.room, Nat.le_trans hS.low (Nat.le_succ _), fun n hlt => ?_,
    fun n l hl => ?_, fun n m l l' c k k' hl hl' hx hy => ?_, fun n B hB => ?_, fun n m B C c k k' hB hC hx hy => ?_, fun n m B C c k k' hB hC hx hy => ?_⟩, hsub, h2⟩
  · obtain ⟨c, p, g1, g2⟩ := hS.blk n B hB
    exact ⟨c, p, hsub _ _ g1, g2.congr hsub rfl⟩
  · obtain ⟨c, p, g1, g2⟩ := hS.old n B hB
    exact ⟨c, p, hsub _ _ g1, g2.congr hsub rfl⟩
  · rw [hh n B hB] at hx
    rw [hh m C hC] at hy
    exact hS.inj n m B C c k k' hB hC hx hy
  · rw [ho n B hB] at hx
    rw [hh m C hC] at hy
    exact hS.sep n m B C c k k' hB hC hx hy
  · have hle : S.next + 1 ≤ n := hle
    rw [h1 n (by omega)]
    exact hS.fresh n (by omega)
  · by_cases hnn : n = S.next
    · subst hnn
      rw [h2] at hx
      cases hx
      exact hbar
    · rw [h1 n hnn] at hx
      exact hS.bar n c p hx hle
  · by_cases hnn : n = S.next
    · subst hnn
      rw [h2] at hx
      cases hx
      exact hb
    · rw [h1 n hnn] at hx
      exact hS.hi n c p hx
  · have hlt : n < S.next + 1 := hlt
    by_cases hnn : n = S.next
    · exact ⟨_, by rw [hnn]; exact h2⟩
    · rw [h1 n hnn]
      exact hS.full n (by omega)
  · obtain ⟨c, p, g1, g2⟩ := hS.mp n l hl
    exact ⟨c, p, hsub _ _ g1, g2.congr hsub rfl⟩
  · rw [hm n l hl] at hx
    rw [hm m l' hl'] at hy
    exact hS.mpi n m l l' c k k' hl hl' hx hy
  · obtain ⟨c, p, g1, g2⟩ := hS.ro n B hB
    exact ⟨c, p, hsub _ _ g1, g2.congr hsub rfl⟩
  · rw [hr n B hB] at hx
    rw [hh m C hC] at hy
    exact hS.roi n m B C c k k' hB hC hx hy
  · rw [hr n B hB] at hx
    rw [ho m C hC] at hy
    exact hS.roo n m B C c k k' hB hC hx hy
end Go.Sim
