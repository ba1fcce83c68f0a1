/- gambitlaw07.none of no book: true; what is asked may be anything. -/
import Derived.Test.YtecmlefiajhajaaDoorChecked
import Derived.Test.YtecmlefiajhajaaDoorTe
import Derived.Test.YtecmlefiajhajaaDoorSu
import Derived.Test.YtecmlefiajhajaaDoorTm
import Derived.RangeFuncNested
import Derived.RangeFuncBound
import Derived.RangeFuncCalls
import Derived.RangeFuncLeaves
import Derived.Shelf.Abstract
import Derived.Shelf.RegionOpen
import Derived.WalkKit
import Derived.OwnWalkIn
import Derived.TacticsInMore
import Derived.LoopNIn
import Derived.LoopIn
namespace Go.Proofs.YtecmlefiajhajaaDoor.bn
open Go.RowKit Go.Sim Go.Shelf
attribute [local go_sem] Oper.semAt_some
set_option linter.unusedVariables false
set_option maxRecDepth 100000

theorem num : Sim.NumOK Tryd.prog := Sim.numOK_of (by kernel_rfl)
theorem mixed : Tryd.prog.follows .mixedOrders = true := by kernel_rfl

/-- going over the cards of no book: there is none -/
theorem none_stops (n bl : Nat) (hn : 1 ≤ n) (w : World) (hc : w.cell? ⟨bl, 0, none⟩ = some (.slice none 0 0)) (hbl : bl < w.heap.size) :
    SeqStopsK Fence.wide n Tryd.prog 70 #[.pointer (some ⟨bl, 0, none⟩)] (fun v : Value => #[v]) KeepsWalks (fun xs => xs = []) (fun _ => False) 0 w := fun l J Jx W hW _ _ hY h0 => by
  have hc1 : W.cell? ⟨bl, 0, none⟩ = some (.slice none 0 0) := (hW.cell (p := ⟨bl, 0, none⟩) hbl).trans hc
  refine callsIn_of_wp Tryd.func70 rfl trivial ?_ rfl
  simp only [Tryd.ntmps70, List.size_toArray, List.length_cons, List.length_nil, Nat.reduceAdd, Nat.reduceSub, Array.replicate_succ, Array.replicate_zero, List.push_toArray, List.append_toArray, List.nil_append, List.cons_append]
  gi_wp2
  gi_loopw [7] (fun p wr => p = .int .i64 0 ∧ J [] wr) (fun _ _ => 0)
  case atStart => exact ⟨rfl, h0⟩
  case round =>
    obtain ⟨rfl, hJ⟩ := hrel
    gi_wp2
    go_end0
    exact ⟨⟨_, rfl⟩, .inl ⟨[], rfl, hJ⟩⟩

/-! ### the body, piece by piece -/
noncomputable def bodyN : Code := Tryd.f29.body.getD .skip
/-- behind the range -/
noncomputable def restN : Code := match rear 7 bodyN with | .seq _ b => b | c => c

noncomputable def Hn : CallT := noHook
noncomputable def front (pv : Value) (next : Nat) (ro : List (Nat × KB)) : Option (Fr × St) :=
  execFront Tryd.prog (callH Tryd.prog Hn 0 60) next 1000000 6 bodyN (frC 153 0 [(0, pv), (1, .agg ⟨opaques 18⟩)]) (mkSt next [] ro)
noncomputable def isT (v : Value) (_ : St) : Bool := match v with | .bool true => true | _ => false
/-- the range's function, with its one captured variable -/
noncomputable def nameL (A : Fr) : Nat := match A.t.get 14 with | some (.func (.func _) ⟨[]⟩ ⟨[.pointer (some ⟨m, 0, none⟩)]⟩) => m | _ => 0
noncomputable def eqF (v : Value) (m : Nat) : Bool := match v with | .func (.func f) ⟨[]⟩ ⟨[.pointer (some ⟨k, 0, none⟩)]⟩ => Nat.beq f 70 && Nat.beq k m | _ => false
theorem eqF_spec {v : Value} {m : Nat} (h : eqF v m = true) : v = .func (.func 70) #[] #[.pointer (some ⟨m, 0, none⟩)] := by
  unfold eqF at h
  split at h
  · simp at h
    obtain ⟨rfl, rfl⟩ := h
    rfl
  · cases h
def slots : List Nat := [0, 3, 5, 6, 7, 8, 9, 10, 11, 12, 13]
noncomputable def valA (A : Fr) (i : Nat) : Value := (A.t.get i).getD undef
noncomputable def frN (A : Fr) : List (Nat × Value) := slots.map fun i => (i, valA A i)
noncomputable def midOK (A : Fr) (S : St) : Bool :=
  Nat.beq A.nt 153 && (slots.all fun i => (A.t.get i).isSome) && (match A.t.get 14 with | some u => eqF u (nameL A) | none => false) &&
  (match S.heap.get (nameL A) with | some B => (match B.get 0 with | some (.slice none 0 0) => true | _ => false) | none => false) &&
  tailE Tryd.prog (callH Tryd.prog Hn 0 60) S.next (answers Tryd.prog [.tmp 4] isT) [restN] (frC 153 0 (frN A)) S
noncomputable def chk (pv : Value) (next : Nat) (ro : List (Nat × KB)) : Bool := match front pv next ro with | some (A, S) => midOK A S | none => false
theorem chk_nil : chk (.pointer none) 0 [] = true := by kernel_rfl
def zeroKB : KB := { cells := [(0, .bool false)], size := 608, elem := 91, es := 0 }
theorem chk_zero : chk (.pointer (some ⟨0, 0, none⟩)) 1 [(0, zeroKB)] = true := by kernel_rfl

set_option maxHeartbeats 400000 in
theorem none_any [Val] (pv pv' av : Value) (next : Nat) (ro : List (Nat × KB)) (hchk : chk pv next ro = true) {e : Env} (w : World) (hS : RS next w.heap.size e (mkSt next [] ro) w) (hp : RV e pv pv') (ha : RV e (.agg ⟨opaques 18⟩) av) :
    Calls Tryd.prog 29 #[pv', av] w fun e w' => e = .returned (.bool true) ∧ Below w.heap.size w w' := by
  unfold chk at hchk
  split at hchk
  · rename_i A1 S1 hfr
    unfold midOK at hchk
    simp only [Bool.and_eq_true] at hchk
    obtain ⟨⟨⟨⟨hnt, hsl⟩, h14⟩, hcell⟩, htail⟩ := hchk
    have hnt : A1.nt = 153 := nbeq hnt
    refine (callsIn_wide (n := 5)).1 (callsIn_of_wp_marks Tryd.func29 rfl trivial (wpIn_wide.2 ?_) rfl)
    simp only [Tryd.ntmps29, List.size_toArray, List.length_cons, List.length_nil, Nat.reduceAdd, Nat.reduceSub]
    refine wp_front (fuel := 1000000) (callH_ok num mixed noHook_ok 60) num mixed 6 bodyN e _ _ _ w A1 S1 _ (frC_ok (by kernel_rfl) (by simp) (fun p hpm => ?_) (fun g hg => absurd hg (by omega))) hS (fun g hg => absurd hg (by omega)) hfr (fun a1 w1 hl => ?_)
    · rcases List.mem_cons.1 hpm with rfl | hpm
      · exact ⟨pv', show (#[pv', av] ++ Array.replicate _ undef)[0]? = some pv' from by rw [Array.getElem?_append_left (by simp)]; simp, hp⟩
      · obtain rfl := List.mem_singleton.1 hpm
        exact ⟨av, show (#[pv', av] ++ Array.replicate _ undef)[1]? = some av from by rw [Array.getElem?_append_left (by simp)]; simp, ha⟩
    · obtain ⟨⟨e1, g1, g2, g3, g4, g5⟩, -⟩ := hl
      obtain ⟨t, ds⟩ := a1
      have hsz : t.size = 153 := g2.size.trans hnt
      have hd : ds = [] := g5
      subst hd
      have hslot : ∀ i ∈ slots, ∃ v', t[i]? = some v' ∧ RV e1 (valA A1 i) v' := fun i hi => by
        have h1 := List.all_eq_true.1 hsl i hi
        obtain ⟨u, hu⟩ := Option.isSome_iff_exists.1 h1
        obtain ⟨v', h2, h3⟩ := g2.tmp i u hu
        exact ⟨v', h2, by unfold valA; rw [hu]; exact h3⟩
      obtain ⟨bl, h14t, hblc, hbll⟩ : ∃ bl, t[14]? = some (.func (.func 70) #[] #[.pointer (some ⟨bl, 0, none⟩)]) ∧ w1.cell? ⟨bl, 0, none⟩ = some (.slice none 0 0) ∧ bl < w1.heap.size := by
        split at h14
        · rename_i u hu
          rw [eqF_spec h14] at hu
          obtain ⟨v', h2, f', c', h3, h4, rfl⟩ := g2.tmp 14 _ hu
          rw [RVL] at h3
          subst h3
          obtain ⟨x, r, ⟨b, k, h5, _, rfl⟩, h6, rfl⟩ := h4
          rw [RVL] at h6
          subst h6
          split at hcell
          · rename_i B hB
            split at hcell
            · rename_i hB0
              obtain ⟨b', k', q1, c, q2, q3, q4, q5, q6⟩ := g3.blk _ B hB
              rw [h5] at q1
              cases q1
              obtain ⟨v', q7, q8⟩ := q6 0 _ hB0
              rw [RV] at q8
              subst q8
              exact ⟨b, h2, by simp only [World.cell?, q2]; exact q7, g3.hi _ _ _ h5⟩
            · cases hcell
          · cases hcell
        · cases h14
      have hlit := Sim.arr_lit t 153 hsz
      obtain ⟨g, hg⟩ : ∃ g : Nat → Value, g = fun i => t.getD i undef := ⟨_, rfl⟩
      rw [← hg] at hlit
      have hg14 : g 14 = .func (.func 70) #[] #[.pointer (some ⟨bl, 0, none⟩)] := by rw [hg]; simp [Array.getD_eq_getD_getElem?, h14t]
      have hsl2 : ∀ i ∈ slots, RV e1 (valA A1 i) (g i) := fun i hi => by
        obtain ⟨v', h1, h2⟩ := hslot i hi
        rw [hg]
        simp only [Array.getD_eq_getD_getElem?, h1]
        exact h2
      have hlit : t = #[g 0, g 1, g 2, g 3, g 4, g 5, g 6, g 7, g 8, g 9, g 10, g 11, g 12, g 13, g 14, g 15, g 16, g 17, g 18, g 19, g 20, g 21, g 22, g 23, g 24, g 25, g 26, g 27, g 28, g 29, g 30, g 31, g 32, g 33, g 34, g 35, g 36, g 37, g 38, g 39, g 40, g 41, g 42, g 43, g 44, g 45, g 46, g 47, g 48, g 49, g 50, g 51, g 52, g 53, g 54, g 55, g 56, g 57, g 58, g 59, g 60, g 61, g 62, g 63, g 64, g 65, g 66, g 67, g 68, g 69, g 70, g 71, g 72, g 73, g 74, g 75, g 76, g 77, g 78, g 79, g 80, g 81, g 82, g 83, g 84, g 85, g 86, g 87, g 88, g 89, g 90, g 91, g 92, g 93, g 94, g 95, g 96, g 97, g 98, g 99, g 100, g 101, g 102, g 103, g 104, g 105, g 106, g 107, g 108, g 109, g 110, g 111, g 112, g 113, g 114, g 115, g 116, g 117, g 118, g 119, g 120, g 121, g 122, g 123, g 124, g 125, g 126, g 127, g 128, g 129, g 130, g 131, g 132, g 133, g 134, g 135, g 136, g 137, g 138, g 139, g 140, g 141, g 142, g 143, g 144, g 145, g 146, g 147, g 148, g 149, g 150, g 151, g 152] := hlit
      rw [hg14] at hlit
      clear hg hslot h14t hsz hg14 hcell h14 hfr hS hp ha
      subst hlit
      dsimp only [bodyN, Tryd.f29, Sim.rear, Option.getD_some]
      have hne : Sem.run Tryd.prog (binOp BinOp.eql 112 (Value.func (Fn.func 70) #[] #[Value.pointer (some { block := bl, off := 0 })]) Value.nilFunc) w1 = .ok (.bool false) w1 := by kernel_rfl
      go_wp2
      rename_i Kl hKl
      refine (wpIn_wide (n := 5)).1 (wpIn_rangeFunc_ownF (F := Fence.wide) rfl (by omega) (gf := 70) (lb := #[.pointer (some ⟨bl, 0, none⟩)]) rfl trivial (enters_of Tryd.func70 (by kernel_rfl) rfl) (none_stops (5 - 1) bl (by omega) w1 hblc hbll) walksK_t walksK_b (Below.refl _ _) (fun _ => rfl)
        (fun pre W => Below w1.heap.size w1 W) (fun c pre W => False) (ownFrom_below (Nat.le_refl _) (Nat.le_refl _)) (fun c s W W' row hs => hs.elim) (Below.refl _ _)
        (fun x => { tmps := ((#[50] : Array Tmp).zip #[x]).foldl (fun t (p, v) => t.setIfInBounds p v) #[g 0, g 1, g 2, g 3, g 4, g 5, g 6, g 7, g 8, g 9, g 10, g 11, g 12, g 13, Value.func (Fn.func 70) #[] #[Value.pointer (some { block := bl, off := 0 })], g 15, g 16, g 17, g 18, g 19, g 20, g 21, g 22, g 23, g 24, g 25, g 26, g 27, g 28, g 29, g 30, g 31, g 32, g 33, g 34, g 35, g 36, g 37, g 38, g 39, g 40, g 41, g 42, g 43, g 44, g 45, g 46, Value.func (Fn.func 70) #[] #[Value.pointer (some { block := bl, off := 0 })], Value.bool false, Value.func (Fn.func 70) #[] #[Value.pointer (some { block := bl, off := 0 })], g 50, g 51, g 52, g 53, g 54, g 55, g 56, g 57, g 58, g 59, g 60, g 61, g 62, g 63, g 64, g 65, g 66, g 67, g 68, g 69, g 70, g 71, g 72, g 73, g 74, g 75, g 76, g 77, g 78, g 79, g 80, g 81, g 82, g 83, g 84, g 85, g 86, g 87, g 88, g 89, g 90, g 91, g 92, g 93, g 94, g 95, g 96, g 97, g 98, g 99, g 100, g 101, g 102, g 103, g 104, g 105, g 106, g 107, g 108, g 109, g 110, g 111, g 112, g 113, g 114, g 115, g 116, g 117, g 118, g 119, g 120, g 121, g 122, g 123, g 124, g 125, g 126, g 127, g 128, g 129, g 130, g 131, g 132, g 133, g 134, g 135, g 136, g 137, g 138, g 139, g 140, g 141, g 142, g 143, g 144, g 145, g 146, g 147, g 148, g 149, g 150, g 151, g 152], defers := [] }) ?assign ?body ?done ?stop)
      case assign =>
        intro l x W K hK
        exact wpIn_skip hK
      case body =>
        intro l pre x W _ hlt
        omega
      case stop =>
        intro D c pre W _ h
        exact h.elim
      case done =>
        intro D xs W hD hS0 hI hK
        refine hKl _ _ ?_
        have hDlt : D < W.heap.size := (Array.getElem?_eq_some_iff.1 hK).1
        have hSW : RS S1.next W.heap.size e1 S1 W := g3.frame (fun n b k hn => hI.block b (g3.hi n b k hn)) hI.size (fun n b k hn hle => by rw [g3.fresh n hle] at hn; cases hn) (Nat.le_refl _) (Nat.le_refl _)
        have hbel : Below w.heap.size w W := g4.trans (hI.mono g4.size)
        change Code.wp _ restN _ _ _
        refine tail_exec (E := fun a' w' => bodyPostM Fence.wide 5 Tryd.prog Tryd.f29 (fun e w' => e = Ending.returned (Value.bool true) ∧ Below w.heap.size w w') .ret a' w') num mixed (callH_ok num mixed noHook_ok 60) [] restN _ (frC 153 0 (frN A1)) S1 e1 _ W ?chain htail (frC_ok (by kernel_rfl) (by simp) (fun p hpm => ?_) (fun g hg => absurd hg (by omega))) hSW (fun g hg => absurd hg (by omega)) (fun A2 S2 e2 a2 w2 hok hF2 hS2 hsub hb hdf => ?_)
        case chain =>
          intro x a' w' hx hE
          rcases hx with rfl | rfl <;> exact hE
        · obtain ⟨i, hi, rfl⟩ := List.mem_map.1 hpm
          refine ⟨g i, ?_, hsl2 i hi⟩
          simp only [slots, List.mem_cons, List.not_mem_nil, or_false] at hi
          rcases hi with rfl | rfl | rfl | rfl | rfl | rfl | rfl | rfl | rfl | rfl | rfl <;> rfl
        · have hK2 : w2.heap[D]? = some (.deferred (some [])) := (hb.block D hDlt).trans hK
          obtain ⟨v, v', h1, h2, h3⟩ := answers_ok (fn := Tryd.f29) hok rfl hF2 hS2
          have hv : v' = .bool true := by
            unfold isT at h1
            split at h1
            · exact h3
            · cases h1
          subst hv
          rw [results_tmp (t := 4) rfl] at h2
          show LeavesInM Fence.wide 5 _ _ a2.tmps _ a2.defers _ w2
          rw [hdf]
          refine ⟨by simp, .inl ⟨D, _, rfl, run_takeDeferred hK2, ?_⟩⟩
          have h4 : a2.tmps.getD 4 undef = .bool true := by injection h2
          have hsw := hbel.size
          refine ⟨.bool true, ?_, rfl, (hbel.trans (hb.mono hbel.size)).trans (belowK_b (w := w) (Nat.le_refl _) w2 D _ _ (by have := g4.size; omega) hK2 rfl rfl)⟩
          rw [results_tmp (t := 4) rfl, h4]
  · cases hchk

/-! ### as a summary -/
noncomputable def eqOp (v : Value) : Bool := match v with | .agg ⟨l⟩ => Nat.beq l.length 18 && ((List.range 18).all fun i => match l[i]? with | some (.chan (some k)) => Nat.beq k i | _ => false) | _ => false
theorem eqOp_spec {v : Value} (h : eqOp v = true) : v = .agg ⟨opaques 18⟩ := by
  unfold eqOp at h
  split at h
  · rename_i l
    rw [Bool.and_eq_true] at h
    have h1 := nbeq h.1
    congr 2
    refine List.ext_getElem? fun i => ?_
    by_cases hi : i < 18
    · have := List.all_eq_true.1 h.2 i (List.mem_range.2 hi)
      split at this
      · rename_i k hk
        rw [hk, ← nbeq this]
        simp [opaques, nbeq this ▸ hi]
      · cases this
    · rw [List.getElem?_eq_none (by omega), List.getElem?_eq_none (by simp [opaques]; omega)]
  · cases h
theorem chans_any [Val] {e e' : Env} : ∀ (ks : List Nat) (l : List Value), RVL e (ks.map fun k => Value.chan (some k)) l → RVL e' (ks.map fun k => Value.chan (some k)) l
  | [], l, h => h
  | k :: ks, l, h => by
    obtain ⟨v', r', h1, h2, rfl⟩ := h
    exact ⟨v', r', h1, chans_any ks r' h2, rfl⟩
theorem opq_any [Val] {e e' : Env} {av : Value} (h : RV e (.agg ⟨opaques 18⟩) av) : RV e' (.agg ⟨opaques 18⟩) av := by
  obtain ⟨l', h1, h2⟩ := h
  exact ⟨l', chans_any _ l' h1, h2⟩
noncomputable def noneH : CallT := fun NG f args S => br (Nat.beq f 29) (match args with
  | [.pointer none, v] => br (eqOp v) (some (.bool true, S)) none
  | [.pointer (some ⟨n, 0, none⟩), v] => br (eqOp v) (match S.heap.get n with | some B => (match B.get 0 with | some (.bool false) => some (.bool true, S) | _ => none) | none => none) none
  | _ => none) none
theorem noneH_ok [Val] : CallOK Tryd.prog 0 noneH := by
  refine ⟨fun {NG f args S r} h => ?_, fun {NG Bar f args S v S' e w args'} h hargs hS hG => ?_⟩
  · unfold noneH at h
    rw [br_eq] at h
    split at h
    · rename_i hc
      rw [beq_dec] at hc
      have hid : f = 29 := of_decide_eq_true hc
      subst hid
      exact ⟨_, Tryd.func29, rfl⟩
    · cases h
  · unfold noneH at h
    rw [br_eq] at h
    split at h
    · rename_i hc
      rw [beq_dec] at hc
      have hid : f = 29 := of_decide_eq_true hc
      subst hid
      split at h
      · rename_i v1
        rw [br_eq] at h
        split at h
        · rename_i hop
          cases h
          rw [eqOp_spec hop] at hargs
          obtain ⟨p', r', h1, ⟨av, r2, h2, h3, rfl⟩, rfl⟩ := hargs
          rw [RVL] at h3
          subst h3
          have hRS : RS 0 w.heap.size (fun _ => none) (mkSt 0 [] []) w := rs_names _ 0 w (fun i hi => absurd hi (by omega)) (fun _ _ => rfl)
          refine (none_any (.pointer none) p' av 0 [] chk_nil w hRS h1 (opq_any h2)).mono fun en w' ⟨q1, q2⟩ => ?_
          exact ⟨e, .bool true, q1, Sub.refl _, rfl, (Cl.keep ⟨hS, Below.refl _ _⟩ hS q2).1, hS.low_below q2⟩
        · cases h
      · rename_i n v1
        rw [br_eq] at h
        split at h
        · rename_i hop
          split at h
          · rename_i B hB
            split at h
            · rename_i hB0
              cases h
              rw [eqOp_spec hop] at hargs
              obtain ⟨p', r', ⟨b1, kk, hn1, _, rfl⟩, ⟨av, r2, h2, h3, rfl⟩, rfl⟩ := hargs
              rw [RVL] at h3
              subst h3
              obtain ⟨b, k, g1, c, g2, g3, g4, g5, g6⟩ := hS.blk n B hB
              rw [hn1] at g1
              cases g1
              obtain ⟨u, g7, g8⟩ := g6 0 _ hB0
              rw [RV] at g8
              subst g8
              have hb := hS.hi n _ _ hn1
              have hRS : RS 1 w.heap.size (fun i => if i = 0 then some (b1, kk) else none) (mkSt 1 [] [(0, zeroKB)]) w := by
                refine RoL.rs (fun p hp => ?_) (fun p hp => ?_) (fun i hi => ⟨(b1, kk), if_pos (by omega), hb⟩) (fun i hi => if_neg (by omega))
                · obtain rfl := List.mem_singleton.1 hp
                  refine ⟨b1, kk, c, _, _, rfl, g2, fun q hq => ?_⟩
                  obtain rfl := List.mem_singleton.1 hq
                  exact ⟨_, g7, rfl⟩
                · obtain rfl := List.mem_singleton.1 hp
                  refine ⟨by show 0 < 1000000; omega, fun q hq => ?_⟩
                  obtain rfl := List.mem_singleton.1 hq
                  show 0 < 1000000
                  omega
              refine (none_any (.pointer (some ⟨0, 0, none⟩)) (.pointer (some ⟨b1, 0, none⟩)) av 1 [(0, zeroKB)] chk_zero w hRS ⟨b1, kk, rfl, rfl, rfl⟩ (opq_any h2)).mono fun en w' ⟨q1, q2⟩ => ?_
              exact ⟨e, .bool true, q1, Sub.refl _, rfl, (Cl.keep ⟨hS, Below.refl _ _⟩ hS q2).1, hS.low_below q2⟩
            · cases h
          · cases h
        · cases h
      · cases h
    · cases h

/-! ### the law's own body -/
noncomputable def H7 : CallT := orCall noneH (hookPure 97 trimA)
theorem H7_ok [Val] : CallOK Tryd.prog 0 H7 := orCall_ok noneH_ok (hookPure_ok trimBody trimA_ok)
noncomputable def ran7 : Bool := match callH Tryd.prog H7 0 60 0 7 [.agg ⟨opaques 18⟩] (S0 0) with | some (.bool true, _) => true | _ => false
theorem ran : ran7 = true := by kernel_rfl
theorem law_any [Val] (av : Value) (ha : RV (fun _ => none) (.agg ⟨opaques 18⟩) av) (w : World) : Calls Tryd.prog 7 #[av] w fun e w' => e = .returned (.bool true) ∧ Below w.heap.size w w' := by
  have h := ran
  unfold ran7 at h
  split at h
  · rename_i S' hc
    have hS : RS 0 w.heap.size (fun _ => none) (S0 0) w :=
      ⟨fun n B h => by simp [S0, Tr.get] at h, fun n B h => by simp [S0, Tr.get] at h, fun n m B C b k k' h => by simp [S0, Tr.get] at h, fun n m B C b k k' h => by simp [S0, Tr.get] at h, fun _ _ => rfl, fun _ _ _ h => by simp at h, fun _ _ _ h => by simp at h, Nat.le_refl _, Nat.le_refl _, fun n h => by simp [S0] at h, fun n l h => by simp [S0, Tr.get] at h, fun n m l l' b k k' h => by simp [S0, Tr.get] at h, fun n B h => by simp [S0, Tr.get] at h, fun n m B C b k k' h => by simp [S0, Tr.get] at h, fun n m B C b k k' h => by simp [S0, Tr.get] at h⟩
    refine ((callH_ok num mixed H7_ok 60).calls (args' := [av]) hc ⟨av, [], ha, rfl, rfl⟩ hS (fun g hg => absurd hg (by omega))).mono fun en w' hp => ?_
    obtain ⟨e', v', rfl, h1, h2, h3, h4⟩ := hp
    rw [RV] at h2
    subst h2
    exact ⟨rfl, h4⟩
  · cases h
end Go.Proofs.YtecmlefiajhajaaDoor.bn
