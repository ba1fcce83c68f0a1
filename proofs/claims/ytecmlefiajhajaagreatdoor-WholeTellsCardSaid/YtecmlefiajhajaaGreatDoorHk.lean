/- Summaries for the executor: lives, whole.Book (what Len reads of it), whole.Tokens. -/
import Derived.Test.YtecmlefiajhajaaGreatDoorTo
namespace Go.Proofs.YtecmlefiajhajaaGreatDoor.hk
open Go.RowKit Go.Sim wh tk
set_option linter.unusedVariables false
set_option maxRecDepth 100000

/-- is the variable trait.names known? -/
noncomputable def knowsG (S : St) : Bool := match S.ro.get 0 with
  | some B => (List.range 9).all fun i => (match B.get i, (kn.names.map Value.string)[i]? with | some u, some v => eqC u v && flat u | _, _ => false)
  | none => false
theorem known_of_rs {NG Bar : Nat} {e : Env} {S : St} {w : World} (hS : RS NG Bar e S w) (h0 : e 0 = some (0, 0)) (h : knowsG S = true) : Known 1 kn.gl w := by
  unfold knowsG at h
  split at h
  · rename_i B hB
    obtain ⟨b, k, g1, cs, t, f, g2, g3⟩ := hS.ro 0 B hB
    rw [h0] at g1
    cases g1
    have hsz := hS.hi 0 _ _ h0
    have hc : ∀ i v, (kn.names.map Value.string)[i]? = some v → w.cell? ⟨0, i, none⟩ = some v := fun i v hv => by
      have hi : i < 9 := (List.getElem?_eq_some_iff.1 hv).1
      have := List.all_eq_true.1 h i (List.mem_range.2 hi)
      split at this
      · rename_i u v1 hu hv1
        rw [hv] at hv1
        cases hv1
        rw [Bool.and_eq_true] at this
        rw [eqC_spec this.1] at hu this
        exact hS.roCell hB h0 hu this.2
      · cases this
    refine ⟨Nat.succ_le_of_lt hsz, fun p hp => ?_⟩
    have hp' : p = (0, kn.names.map Value.string) := by simpa [kn.gl] using hp
    subst hp'
    exact ⟨by decide, by decide, rfl, by simp [kn.names], hc⟩
  · cases h
noncomputable def livesH : CallT := fun NG f args S => br (Nat.beq f 30 && knowsG S) (match args with | [] => some (.bool true, S) | _ => none) none
theorem livesH_ok : CallOK Tryz.prog 1 livesH := by
  refine ⟨fun {NG f args S r} h => ?_, fun {NG Bar f args S v S' e w args'} h hargs hS hG => ?_⟩
  · unfold livesH at h
    rw [br_eq] at h
    split at h
    · rename_i hc
      rw [Bool.and_eq_true, beq_dec] at hc
      have hid : f = 30 := of_decide_eq_true hc.1
      subst hid
      exact ⟨_, Tryz.func30, rfl⟩
    · cases h
  · unfold livesH at h
    rw [br_eq] at h
    split at h
    · rename_i hc
      rw [Bool.and_eq_true, beq_dec] at hc
      have hid : f = 30 := of_decide_eq_true hc.1
      subst hid
      split at h
      · cases h
        rw [RVL] at hargs
        subst hargs
        refine (ws.c_lives w (known_of_rs hS (hG 0 (by omega)) hc.2)).mono fun en w' ⟨h1, h2⟩ => ?_
        exact ⟨e, .bool true, h1, Sub.refl _, rfl, (Cl.keep ⟨hS, Below.refl _ _⟩ hS h2).1, hS.low_below h2⟩
      · cases h
    · cases h

/-- what is read of a new book: made, sealed, 36 cards -/
def bookKB1 : KB := { cells := [(0, .bool true), (1, .bool true), (2, .int .i64 36)], size := 3, elem := 0, es := 0 }
noncomputable def chkB : Bool := match (stW 63 true).heap.get 1 with | some B => (match B.get 0, B.get 1, B.get 2 with | some (.bool true), some (.bool true), some (.int .i64 36) => true | _, _, _ => false) | none => false
theorem chkB_ok : chkB = true := by kernel_rfl
noncomputable def bookH : CallT := fun NG f args S => br (Nat.beq f 31 && knowsG S && Nat.blt (S.next + 1) 1099511627776) (match args with | [] => some (.pointer (some ⟨S.next, 0, none⟩), { S with next := S.next + 1, ro := S.ro.set (some bookKB1.blk) S.next }) | _ => none) none
theorem bookH_ok : CallOK Tryz.prog 1 bookH := by
  refine ⟨fun {NG f args S r} h => ?_, fun {NG Bar f args S v S' e w args'} h hargs hS hG => ?_⟩
  · unfold bookH at h
    rw [br_eq] at h
    split at h
    · rename_i hc
      simp only [Bool.and_eq_true, beq_dec] at hc
      have hid : f = 31 := of_decide_eq_true hc.1.1
      subst hid
      exact ⟨_, Tryz.func31, rfl⟩
    · cases h
  · unfold bookH at h
    rw [br_eq] at h
    split at h
    · rename_i hc
      simp only [Bool.and_eq_true, beq_dec, blt_dec, decide_eq_true_eq] at hc
      obtain ⟨⟨hid, hkn⟩, hlim⟩ := hc
      subst hid
      split at h
      · cases h
        rw [RVL] at hargs
        subst hargs
        refine (ws.c_book w (known_of_rs hS (hG 0 (by omega)) hkn)).mono fun en w' ⟨⟨bk, h1, B0, hB0, hH⟩, h2⟩ => ?_
        have hS' := (Cl.keep ⟨hS, Below.refl _ _⟩ hS h2).1
        obtain ⟨eb, kb, hR, _, hbk⟩ := hH
        have hlo : B0 ≤ bk := hR.bar 1 _ _ hbk (Nat.le_refl _)
        have hhi : bk < w'.heap.size := hR.hi 1 _ _ hbk
        have hro : RBr e bookKB1.blk bk w' := by
          have hck := chkB_ok
          unfold chkB at hck
          split at hck
          · rename_i B hB
            split at hck
            · rename_i q0 q1 q2
              obtain ⟨b, k, g1, c, g2, _, _, _, g6⟩ := hR.blk 1 B hB
              rw [hbk] at g1
              cases g1
              refine ⟨c, _, _, g2, fun i v hv => ?_⟩
              obtain ⟨hm, _⟩ := KB.get (k := bookKB1) (by intro p hp; simp only [bookKB1, List.mem_cons, List.not_mem_nil, or_false] at hp; rcases hp with rfl | rfl | rfl <;> (show _ < 1000000; omega)) hv
              simp only [bookKB1, List.mem_cons, List.not_mem_nil, or_false, Prod.mk.injEq] at hm
              rcases hm with ⟨rfl, rfl⟩ | ⟨rfl, rfl⟩ | ⟨rfl, rfl⟩
              · obtain ⟨v', g7, g8⟩ := g6 _ _ q0; rw [RV] at g8; subst g8; exact ⟨_, g7, rfl⟩
              · obtain ⟨v', g7, g8⟩ := g6 _ _ q1; rw [RV] at g8; subst g8; exact ⟨_, g7, rfl⟩
              · obtain ⟨v', g7, g8⟩ := g6 _ _ q2; rw [RV] at g8; subst g8; exact ⟨_, g7, rfl⟩
            · cases hck
          · cases hck
        obtain ⟨e2, r1, r2, r3⟩ := hS'.addRoG (kc := 0) (b := bk) (by have := hS.room; omega) hhi (fun n p hn => by have := hS.hi n _ _ hn; omega) hro (by exact hlim)
        exact ⟨e2, _, h1, r2, RV.ptr r3, r1, hS.low_below h2⟩
      · cases h
    · cases h

/-- the tokens' names, read -/
def sixKB : KB := { cells := idx 0 (six.map Value.string), size := 6, elem := 0, es := 1 }
noncomputable def tokH : CallT := fun NG f args S => br (Nat.beq f 34 && knowsG S && Nat.blt (S.next + 1) 1099511627776) (match args with | [] => some (.slice (some ⟨S.next, 0, none⟩) 6 big, { S with next := S.next + 1, ro := S.ro.set (some sixKB.blk) S.next }) | _ => none) none
theorem tokH_ok : CallOK Tryz.prog 1 tokH := by
  refine ⟨fun {NG f args S r} h => ?_, fun {NG Bar f args S v S' e w args'} h hargs hS hG => ?_⟩
  · unfold tokH at h
    rw [br_eq] at h
    split at h
    · rename_i hc
      simp only [Bool.and_eq_true, beq_dec] at hc
      have hid : f = 34 := of_decide_eq_true hc.1.1
      subst hid
      exact ⟨_, Tryz.func34, rfl⟩
    · cases h
  · unfold tokH at h
    rw [br_eq] at h
    split at h
    · rename_i hc
      simp only [Bool.and_eq_true, beq_dec, blt_dec, decide_eq_true_eq] at hc
      obtain ⟨⟨hid, hkn⟩, hlim⟩ := hc
      subst hid
      split at h
      · cases h
        rw [RVL] at hargs
        subst hargs
        refine (tk.c_tokens w (known_of_rs hS (hG 0 (by omega)) hkn)).mono fun en w' ⟨⟨b, cap, h1, hlo, ⟨cs, hb, hsz, hle, _⟩, hcells⟩, h2⟩ => ?_
        have hS' := (Cl.keep ⟨hS, Below.refl _ _⟩ hS h2).1
        have hhi : b < w'.heap.size := (Array.getElem?_eq_some_iff.1 hb).1
        have hro : RBr e sixKB.blk b w' := by
          refine ⟨cs, _, _, hb, fun i v hv => ?_⟩
          have hlt : ∀ p ∈ sixKB.cells, p.1 < 6 ∧ p.2 = .string ((six[p.1]?).getD ⟨#[]⟩) := by
            intro p hp
            simp only [sixKB, six, idx, List.map_cons, List.map_nil, List.mem_cons, List.not_mem_nil, or_false] at hp
            rcases hp with rfl | rfl | rfl | rfl | rfl | rfl <;> exact ⟨by show _ < 6; omega, rfl⟩
          obtain ⟨hm, _⟩ := KB.get (k := sixKB) (fun p hp => by have := (hlt p hp).1; omega) hv
          obtain ⟨h6, hv6⟩ := hlt _ hm
          have h6 : i < 6 := h6
          have hv6 : v = .string ((six[i]?).getD ⟨#[]⟩) := hv6
          subst hv6
          have := hcells i h6
          refine ⟨_, ?_, rfl⟩
          simpa [World.cell?, hb] using this
        obtain ⟨e2, r1, r2, r3⟩ := hS'.addRoG (kc := cap) (b := b) (by have := hS.room; omega) hhi (fun n p hn => by have := hS.hi n _ _ hn; omega) hro (by exact hlim)
        exact ⟨e2, _, h1, r2, RV.slice_u r3 hle, r1, hS.low_below h2⟩
      · cases h
    · cases h
noncomputable def HN : CallT := orCall livesH (orCall bookH (orCall tokH wh.H))
theorem HN_ok : CallOK Tryz.prog 1 HN := orCall_ok livesH_ok (orCall_ok bookH_ok (orCall_ok tokH_ok wh.H_ok))
end Go.Proofs.YtecmlefiajhajaaGreatDoor.hk
