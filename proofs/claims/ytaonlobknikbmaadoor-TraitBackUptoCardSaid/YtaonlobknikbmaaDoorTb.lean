/- Sets of traits: what bit, With, Without, Has, Check do. -/
import Derived.Test.YtaonlobknikbmaaDoorChecked
import Derived.WalkKit
import Derived.ProofKit
import Derived.Below
import Derived.RegionTactic
import Derived.BigRegion
import Derived.Deep.AppendLies
import Derived.Deep.RegionLaw
import Derived.OwnWalk
import Derived.Maps.AppendAt
import Derived.Deep.QuietTactic
import Derived.BigQuiet
namespace Go.Proofs.YtaonlobknikbmaaDoor.tb
open Go.RowKit
set_option linter.unusedVariables false

/-- a trait's bit -/
def ub (x : Int) : BitVec 16 := if x = 1 then 1 else if x = 2 then 2 else if x = 3 then 4 else if x = 4 then 8 else if x = 5 then 16 else if x = 6 then 32 else if x = 7 then 64 else if x = 8 then 128 else 0

theorem wrap16 (n : Nat) (h : n < 65536) : IntKind.u16.wrap (n : Int) = n := by
  simp only [IntKind.wrap, IntKind.bits, IntKind.signed, Bool.false_and, Bool.false_eq_true, if_false]
  have : (2 : Int) ^ 16 = 65536 := by decide
  omega
theorem ofV (v : BitVec 16) : BitVec.ofInt 16 (v.toNat : Int) = v := by
  rw [BitVec.ofInt_natCast, BitVec.ofNat_toNat, BitVec.setWidth_eq]
theorem bor (v u : BitVec 16) : bits .or .u16 v.toNat u.toNat = ((v ||| u).toNat : Int) := by
  show IntKind.u16.wrap ((BitVec.ofInt 16 (v.toNat : Int) ||| BitVec.ofInt 16 (u.toNat : Int)).toNat : Int) = _
  rw [ofV, ofV, wrap16 _ (BitVec.isLt _)]
theorem band (v u : BitVec 16) : bits .and .u16 v.toNat u.toNat = ((v &&& u).toNat : Int) := by
  show IntKind.u16.wrap ((BitVec.ofInt 16 (v.toNat : Int) &&& BitVec.ofInt 16 (u.toNat : Int)).toNat : Int) = _
  rw [ofV, ofV, wrap16 _ (BitVec.isLt _)]
theorem bnot (v u : BitVec 16) : bits .andNot .u16 v.toNat u.toNat = ((v &&& ~~~u).toNat : Int) := by
  show IntKind.u16.wrap ((BitVec.ofInt 16 (v.toNat : Int) &&& ~~~ BitVec.ofInt 16 (u.toNat : Int)).toNat : Int) = _
  rw [ofV, ofV, wrap16 _ (BitVec.isLt _)]

theorem bit_calls (x : Int) (hx : 0 ≤ x) (w : World) : Calls Tryd.prog 58 #[.int .u8 x] w fun e w' => e = .returned (.int .u16 ((ub x).toNat : Int)) ∧ w' = w := by
  by_cases h1 : x = 1
  · subst h1; go_enter Tryd.func58, Tryd.ntmps58; go_wp2; go_ret; exact ⟨rfl, rfl⟩
  by_cases h2 : x = 2
  · subst h2; go_enter Tryd.func58, Tryd.ntmps58; go_wp2; go_ret; exact ⟨rfl, rfl⟩
  by_cases h3 : x = 3
  · subst h3; go_enter Tryd.func58, Tryd.ntmps58; go_wp2; go_ret; exact ⟨rfl, rfl⟩
  by_cases h4 : x = 4
  · subst h4; go_enter Tryd.func58, Tryd.ntmps58; go_wp2; go_ret; exact ⟨rfl, rfl⟩
  by_cases h5 : x = 5
  · subst h5; go_enter Tryd.func58, Tryd.ntmps58; go_wp2; go_ret; exact ⟨rfl, rfl⟩
  by_cases h6 : x = 6
  · subst h6; go_enter Tryd.func58, Tryd.ntmps58; go_wp2; go_ret; exact ⟨rfl, rfl⟩
  by_cases h7 : x = 7
  · subst h7; go_enter Tryd.func58, Tryd.ntmps58; go_wp2; go_ret; exact ⟨rfl, rfl⟩
  by_cases h8 : x = 8
  · subst h8; go_enter Tryd.func58, Tryd.ntmps58; go_wp2; go_ret; exact ⟨rfl, rfl⟩
  by_cases h0 : x = 0
  · subst h0; go_enter Tryd.func58, Tryd.ntmps58; go_wp2; go_ret; exact ⟨rfl, rfl⟩
  have h9 : ¬ x ≤ 8 := by omega
  have h10 : decide (x ≤ 8) = false := decide_eq_false h9
  have h11 : 1 ≤ x := by omega
  clear h0
  have hu : ub x = 0 := by simp [ub, h1, h2, h3, h4, h5, h6, h7, h8]
  rw [hu]
  clear h1 h2 h3 h4 h5 h6 h7 h8
  go_enter Tryd.func58, Tryd.ntmps58
  go_wp2
  go_ret
  exact ⟨rfl, rfl⟩

theorem with_calls (v : BitVec 16) (x : Int) (hx : 0 ≤ x) (w : World) : Calls Tryd.prog 47 #[.int .u16 (v.toNat : Int), .int .u8 x] w fun e w' => e = .returned (.int .u16 ((v ||| ub x).toNat : Int)) ∧ w' = w := by
  go_enter Tryd.func47, Tryd.ntmps47
  go_wp2_with fail
  refine (bit_calls x hx _).mono ?_
  rintro e w' ⟨rfl, rfl⟩
  go_wp2
  go_ret
  exact ⟨by rw [bor]; rfl, rfl⟩


def hasF (v : BitVec 16) (x : Int) : Bool := decide (v &&& ub x ≠ 0)
theorem has_calls (v : BitVec 16) (x : Int) (hx : 0 ≤ x) (w : World) : Calls Tryd.prog 61 #[.int .u16 (v.toNat : Int), .int .u8 x] w fun e w' => e = .returned (.bool (hasF v x)) ∧ w' = w := by
  have hb := band v (ub x)
  by_cases h : v &&& ub x = 0
  · have hf : hasF v x = false := by simp [hasF, h]
    rw [hf]
    have hz : bits .and .u16 v.toNat (ub x).toNat = 0 := by rw [hb, h]; rfl
    go_enter Tryd.func61, Tryd.ntmps61
    go_wp2_with fail
    refine (bit_calls x hx _).mono ?_
    rintro e w' ⟨rfl, rfl⟩
    go_wp2
    go_ret
    first | exact ⟨rfl, rfl⟩ | simp [hz]
  · have hf : hasF v x = true := decide_eq_true h
    rw [hf]
    have hz2 : (((v.toNat &&& (ub x).toNat : Nat) : Int) != 0) = true := by
      rw [← BitVec.toNat_and, bne_iff_ne]
      intro h0
      apply h
      apply BitVec.eq_of_toNat_eq
      have h0 : ((v &&& ub x).toNat : Int) = 0 := h0
      have h1 : (v &&& ub x).toNat = 0 := by omega
      rw [h1]
      rfl
    go_enter Tryd.func61, Tryd.ntmps61
    go_wp2_with fail
    refine (bit_calls x hx _).mono ?_
    rintro e w' ⟨rfl, rfl⟩
    go_wp2
    go_ret
    exact ⟨rfl, rfl⟩
/-! ### the bits' laws -/
theorem ub_cases (x : Int) : (x = 1 ∧ ub x = 1) ∨ (x = 2 ∧ ub x = 2) ∨ (x = 3 ∧ ub x = 4) ∨ (x = 4 ∧ ub x = 8) ∨ (x = 5 ∧ ub x = 16) ∨ (x = 6 ∧ ub x = 32) ∨ (x = 7 ∧ ub x = 64) ∨ (x = 8 ∧ ub x = 128) ∨ (¬ (1 ≤ x ∧ x ≤ 8) ∧ ub x = 0) := by
  by_cases h1 : x = 1
  · subst h1; exact .inl ⟨rfl, rfl⟩
  by_cases h2 : x = 2
  · subst h2; exact .inr (.inl ⟨rfl, rfl⟩)
  by_cases h3 : x = 3
  · subst h3; exact .inr (.inr (.inl ⟨rfl, rfl⟩))
  by_cases h4 : x = 4
  · subst h4; exact .inr (.inr (.inr (.inl ⟨rfl, rfl⟩)))
  by_cases h5 : x = 5
  · subst h5; exact .inr (.inr (.inr (.inr (.inl ⟨rfl, rfl⟩))))
  by_cases h6 : x = 6
  · subst h6; exact .inr (.inr (.inr (.inr (.inr (.inl ⟨rfl, rfl⟩)))))
  by_cases h7 : x = 7
  · subst h7; exact .inr (.inr (.inr (.inr (.inr (.inr (.inl ⟨rfl, rfl⟩))))))
  by_cases h8 : x = 8
  · subst h8; exact .inr (.inr (.inr (.inr (.inr (.inr (.inr (.inl ⟨rfl, rfl⟩)))))))
  exact .inr (.inr (.inr (.inr (.inr (.inr (.inr (.inr ⟨by omega, by simp [ub, h1, h2, h3, h4, h5, h6, h7, h8]⟩)))))))

theorem ub_none (x : Int) (h : ¬ (1 ≤ x ∧ x ≤ 8)) : ub x = 0 := by
  rcases ub_cases x with ⟨rfl, _⟩ | ⟨rfl, _⟩ | ⟨rfl, _⟩ | ⟨rfl, _⟩ | ⟨rfl, _⟩ | ⟨rfl, _⟩ | ⟨rfl, _⟩ | ⟨rfl, _⟩ | ⟨_, h0⟩ <;> first | exact h0 | exact absurd (by decide) h

theorem ub_self (x : Int) (h : 1 ≤ x ∧ x ≤ 8) : ub x ≠ 0 := by
  rcases ub_cases x with ⟨_, h0⟩ | ⟨_, h0⟩ | ⟨_, h0⟩ | ⟨_, h0⟩ | ⟨_, h0⟩ | ⟨_, h0⟩ | ⟨_, h0⟩ | ⟨_, h0⟩ | ⟨h1, _⟩
  all_goals first | exact absurd h h1 | (rw [h0]; decide)

theorem ub_apart (x z : Int) (h : z ≠ x) : ub x &&& ub z = 0 := by
  rcases ub_cases x with ⟨rfl, h0⟩ | ⟨rfl, h0⟩ | ⟨rfl, h0⟩ | ⟨rfl, h0⟩ | ⟨rfl, h0⟩ | ⟨rfl, h0⟩ | ⟨rfl, h0⟩ | ⟨rfl, h0⟩ | ⟨h1, h0⟩ <;> rw [h0]
  case inr.inr.inr.inr.inr.inr.inr.inr => exact BitVec.zero_and
  all_goals
    rcases ub_cases z with ⟨rfl, h2⟩ | ⟨rfl, h2⟩ | ⟨rfl, h2⟩ | ⟨rfl, h2⟩ | ⟨rfl, h2⟩ | ⟨rfl, h2⟩ | ⟨rfl, h2⟩ | ⟨rfl, h2⟩ | ⟨_, h2⟩
    all_goals first | exact absurd rfl h | (rw [h2]; decide)

theorem ub_lt (x : Int) : (ub x).toNat < 256 := by
  rcases ub_cases x with ⟨_, h0⟩ | ⟨_, h0⟩ | ⟨_, h0⟩ | ⟨_, h0⟩ | ⟨_, h0⟩ | ⟨_, h0⟩ | ⟨_, h0⟩ | ⟨_, h0⟩ | ⟨_, h0⟩ <;> rw [h0] <;> decide

theorem with_has (v : BitVec 16) (x : Int) (h : 1 ≤ x ∧ x ≤ 8) : hasF (v ||| ub x) x = true := by
  apply decide_eq_true
  rw [BitVec.and_or_distrib_right, BitVec.and_self]
  intro h0
  apply ub_self x h
  have := congrArg (· &&& ub x) h0
  simp only [BitVec.and_or_distrib_right, BitVec.and_assoc, BitVec.and_self, BitVec.zero_and] at this
  apply BitVec.eq_of_getElem_eq
  intro i hi
  have h1 := congrArg (fun b : BitVec 16 => b[i]) h0
  simp only [BitVec.getElem_or, BitVec.getElem_and] at h1
  simp at h1
  simpa using h1.2
theorem without_has (v : BitVec 16) (x : Int) : hasF (v &&& ~~~ ub x) x = false := by
  apply decide_eq_false
  intro h
  apply h
  rw [BitVec.and_assoc]
  apply BitVec.eq_of_getElem_eq
  intro i hi
  simp
theorem with_far (v : BitVec 16) (x z : Int) (h : z ≠ x) : hasF (v ||| ub x) z = hasF v z := by
  unfold hasF
  rw [BitVec.and_or_distrib_right, ub_apart x z h]
  simp
theorem without_far (v : BitVec 16) (x z : Int) (h : z ≠ x) : hasF (v &&& ~~~ ub x) z = hasF v z := by
  unfold hasF
  have : v &&& ~~~ ub x &&& ub z = v &&& ub z := by
    have h1 := ub_apart x z h
    apply BitVec.eq_of_getElem_eq
    intro i hi
    have h2 := congrArg (fun b : BitVec 16 => b[i]) h1
    simp only [BitVec.getElem_and] at h2
    simp only [BitVec.getElem_and, BitVec.getElem_not]
    simp at h2
    cases hu : (ub x)[i] <;> cases hz : (ub z)[i] <;> simp_all
  rw [this]
theorem without_none (v : BitVec 16) : v &&& ~~~ (0 : BitVec 16) = v := by
  rw [show ~~~ (0 : BitVec 16) = BitVec.allOnes 16 from rfl, BitVec.and_allOnes]
theorem with_twice (v u : BitVec 16) : v ||| u ||| u = v ||| u := by rw [BitVec.or_assoc, BitVec.or_self]
theorem without_twice (v u : BitVec 16) : v &&& ~~~ u &&& ~~~ u = v &&& ~~~ u := by rw [BitVec.and_assoc, BitVec.and_self]
theorem with_swap (v u t : BitVec 16) : v ||| u ||| t = v ||| t ||| u := by rw [BitVec.or_assoc, BitVec.or_comm u t, ← BitVec.or_assoc]
def chkF (v : BitVec 16) : Bool := decide (v.toNat < 256)
theorem with_chk (v : BitVec 16) (x : Int) : chkF (v ||| ub x) = chkF v := by
  unfold chkF
  have h := ub_lt x
  rw [BitVec.toNat_or]
  by_cases hv : v.toNat < 256
  · rw [decide_eq_true hv]
    exact decide_eq_true (Nat.or_lt_two_pow (n := 8) hv h)
  · rw [decide_eq_false hv]
    exact decide_eq_false (fun hh => hv (Nat.lt_of_le_of_lt Nat.left_le_or hh))

theorem chk_calls (v : BitVec 16) (w : World) : Calls Tryd.prog 31 #[.int .u16 (v.toNat : Int)] w fun e w' => e = .returned (.bool (chkF v)) ∧ w' = w := by
  have hv := v.isLt
  by_cases h : v.toNat < 256
  · have hc : chkF v = true := decide_eq_true h
    rw [hc]
    have hz : ((v.toNat : Int) / 256 == 0) = true := by
      rw [beq_iff_eq]
      omega
    go_enter Tryd.func31, Tryd.ntmps31
    go_wp2
    go_ret
    exact ⟨rfl, rfl⟩
  · have hc : chkF v = false := decide_eq_false h
    rw [hc]
    have hz : ((v.toNat : Int) / 256 == 0) = false := by
      rw [beq_eq_false_iff_ne]
      omega
    go_enter Tryd.func31, Tryd.ntmps31
    go_wp2
    go_ret
    exact ⟨rfl, rfl⟩

/-- the traits 1 .. k of a set -/
def tl (v : BitVec 16) (k : Nat) : List Int := ((List.range k).map fun (i : Nat) => (i : Int) + 1).filter (hasF v)
theorem tl_succ (v : BitVec 16) (k : Nat) : tl v (k + 1) = if hasF v ((k : Int) + 1) = true then tl v k ++ [(k : Int) + 1] else tl v k := by
  unfold tl
  rw [List.range_succ, List.map_append, List.filter_append]
  simp only [List.map_cons, List.map_nil, List.filter_cons, List.filter_nil]
  split <;> simp
theorem tl_le (v : BitVec 16) (k : Nat) : (tl v k).length ≤ k := by
  unfold tl
  refine Nat.le_trans (List.length_filter_le _ _) ?_
  simp
theorem tl_pre (v : BitVec 16) (j d : Nat) : ∃ r, tl v (j + d) = tl v j ++ r := by
  induction d with
  | zero => exact ⟨[], by simp⟩
  | succ d ih =>
    obtain ⟨r, hr⟩ := ih
    rw [← Nat.add_assoc, tl_succ, hr]
    split
    · exact ⟨r ++ [((j + d : Nat) : Int) + 1], by simp⟩
    · exact ⟨r, rfl⟩
/-- how many traits lie below a number -/
def cnt (v : BitVec 16) (k : Nat) : Nat := (tl v (min (k - 1) 8)).length
theorem cnt_has (v : BitVec 16) (k : Nat) (h : hasF v k = true) : cnt v k < (tl v 8).length ∧ (tl v 8).getD (cnt v k) 0 = k ∧ cnt v (k + 1) = cnt v k + 1 := by
  have hk : 1 ≤ k ∧ k ≤ 8 := by
    by_cases hk : 1 ≤ (k : Int) ∧ (k : Int) ≤ 8
    · omega
    · rw [hasF, ub_none _ hk] at h
      simp at h
  obtain ⟨j, rfl⟩ : ∃ j, k = j + 1 := ⟨k - 1, by omega⟩
  have h1 : cnt v (j + 1) = (tl v j).length := by unfold cnt; rw [show min (j + 1 - 1) 8 = j by omega]
  have h2 : cnt v (j + 1 + 1) = (tl v (j + 1)).length := by unfold cnt; rw [show min (j + 1 + 1 - 1) 8 = j + 1 by omega]
  have h3 : tl v (j + 1) = tl v j ++ [(j : Int) + 1] := by
    rw [tl_succ, if_pos]
    simpa using h
  obtain ⟨r, hr⟩ := tl_pre v (j + 1) (8 - (j + 1))
  rw [show j + 1 + (8 - (j + 1)) = 8 by omega] at hr
  rw [h1, h2, hr, h3]
  simp [List.getD]
theorem cnt_not (v : BitVec 16) (k : Nat) (h : hasF v k = false) : cnt v (k + 1) = cnt v k := by
  unfold cnt
  by_cases hk : 1 ≤ k ∧ k ≤ 8
  · obtain ⟨j, rfl⟩ : ∃ j, k = j + 1 := ⟨k - 1, by omega⟩
    rw [show min (j + 1 + 1 - 1) 8 = j + 1 by omega, show min (j + 1 - 1) 8 = j by omega, tl_succ, if_neg]
    have h : hasF v ((j : Int) + 1) = false := by simpa using h
    rw [h]
    decide
  · rw [show min (k + 1 - 1) 8 = min (k - 1) 8 by omega]
theorem cnt_zero (v : BitVec 16) : cnt v 0 = 0 := rfl
theorem cnt_end (v : BitVec 16) : cnt v 20 = (tl v 8).length := rfl

theorem Tryd.infoT : (Tryd.prog.info? 37).map (fun i => (i.zero, i.size, i.bytes)) = some (some (.int .u8 0), 1, 1) := by kernel_rfl
theorem owns_slice {w : World} {base e size n : Nat} {v : Value} {xs : List Value} (h : w.ownsRow base e size v n xs) : ∃ ao c, v = .slice ao n c := by
  rcases h.2 with ⟨rfl, h0⟩ | ⟨g, cap, cur, rfl, _⟩
  · exact ⟨none, 0, by rw [h0]⟩
  · exact ⟨_, _, rfl⟩
theorem one_int (k : IntKind) (x : Int) : ∀ u ∈ [Value.int k x], u.oneCell' = true := by
  intro u hu
  simp at hu
  subst hu
  rfl
theorem kept_below {B base e : Nat} {w w1 w2 : World} {v : Value} {n : Nat} {xs : List Value} {o : Obj} (hown : w1.ownsRow base e 1 v n xs) (hb : Below B w w1) (hB : B ≤ base) (hB1 : B ≤ w1.heap.size)
    (hg : (w1.alloc o).grownBy w2 v.ownBlock) : Below B w w2 :=
  (hb.alloc hB1 o).grown hg (by simp; omega) (fun k hk => by have := (hown.lt k hk).1; omega)

set_option maxRecDepth 100000 in
set_option maxHeartbeats 1600000 in
theorem list_calls (v : BitVec 16) (w : World) : Calls Tryd.prog 52 #[.int .u16 (v.toNat : Int)] w fun e w' => (∃ u, e = .returned u ∧ w'.ownsRow w.heap.size 37 1 u (tl v 8).length ((tl v 8).map (Value.int .u8))) ∧ Below w.heap.size w w' := by
  obtain ⟨i0, hi, hz0, hz1, hz2⟩ := info_parts Tryd.infoT
  go_enter Tryd.func52, Tryd.ntmps52
  go_wp2
  go_loopw [3, 4] (fun u i wr => ∃ k : Nat, k ≤ 8 ∧ i = .int .u8 ((k : Int) + 1) ∧ wr.ownsRow w.heap.size 37 1 u (tl v k).length ((tl v k).map (Value.int .u8)) ∧ Below w.heap.size w wr) (fun _ i _ => 9 - (intOf i).toNat)
  case atStart => exact ⟨0, by omega, rfl, World.ownsRow_nil _ _ _ _, Below.refl _ _⟩
  case round =>
    obtain ⟨k, hk, rfl, hown, hbel⟩ := hrel
    obtain ⟨ao, cp, rfl⟩ := owns_slice hown
    have hle := tl_le v k
    have hsz := hbel.size
    by_cases hk8 : k < 8
    · cases hh : hasF v ((k : Int) + 1) with
      | false =>
        have hs := tl_succ v k
        rw [hh, if_neg (by decide)] at hs
        go_wp2_with fail
        refine (has_calls v _ (by omega) _).mono ?_
        rintro e w3 ⟨rfl, h3⟩
        have h3 := h3.symm
        subst h3
        rw [hh]
        go_wp2
        go_roundw
        case rel => exact ⟨k + 1, by omega, by go_num, by rw [hs]; exact hown, hbel⟩
        case measure => simp [intOf]; omega
      | true =>
        have hs := tl_succ v k
        rw [hh, if_pos rfl] at hs
        go_wp2_with fail
        refine (has_calls v _ (by omega) _).mono ?_
        rintro e w3 ⟨rfl, h3⟩
        have h3 := h3.symm
        subst h3
        rw [hh]
        go_wp2_with (at_builtin; (refine wpList_append_own_at _ rfl _ _ 99 rfl w.heap.size 37 i0 (.int .u8 0) 1 1 Tryd.underlying99 hi hz0 hz1 hz2 rfl (by decide) _ _ _ rfl (hown.alloc _) ⟨wr.heap.size, 0, none⟩ 1 1 [.int .u8 ((k : Int) + 1)] rfl rfl (cell_one_new _ _ _) (one_int _ _) (by unfold maxLen; omega) (by omega) (by simp; omega) ?_; intro v' w4 hown4 hgr4 hnil hat; obtain ⟨ao4, cp4, rfl⟩ := owns_slice hown4))
        have hbel4 := kept_below hown hbel (Nat.le_refl _) hsz hgr4
        go_roundw
        case rel => exact ⟨k + 1, by omega, by go_num, by rw [hs]; simpa using hown4, hbel4⟩
        case measure => simp [intOf]; omega
    · have : k = 8 := by omega
      subst this
      go_wp2
      go_ret
      exact ⟨⟨_, rfl, hown⟩, hbel⟩

/-! ### the contracts over named answers -/
theorem with_eq {v a : BitVec 16} {x : Int} (h : v ||| ub x = a) (hx : 0 ≤ x) (w : World) : Calls Tryd.prog 47 #[.int .u16 (v.toNat : Int), .int .u8 x] w fun e w' => e = .returned (.int .u16 (a.toNat : Int)) ∧ w = w' :=
  (with_calls v x hx w).mono fun e w' ⟨h1, h2⟩ => ⟨by rw [h1, h], h2.symm⟩
theorem has_eq {v : BitVec 16} {x : Int} {t : Bool} (h : hasF v x = t) (hx : 0 ≤ x) (w : World) : Calls Tryd.prog 61 #[.int .u16 (v.toNat : Int), .int .u8 x] w fun e w' => e = .returned (.bool t) ∧ w = w' :=
  (has_calls v x hx w).mono fun e w' ⟨h1, h2⟩ => ⟨by rw [h1, h], h2.symm⟩
theorem chk_eq {v : BitVec 16} {t : Bool} (h : chkF v = t) (w : World) : Calls Tryd.prog 31 #[.int .u16 (v.toNat : Int)] w fun e w' => e = .returned (.bool t) ∧ w = w' :=
  (chk_calls v w).mono fun e w' ⟨h1, h2⟩ => ⟨by rw [h1, h], h2.symm⟩
theorem cells_of_owns {w : World} {base el : Nat} {v : Value} {n : Nat} {k : IntKind} {xs : List Int} (h : w.ownsRow base el 1 v n (xs.map (Value.int k))) :
    ∃ ao c, v = .slice ao xs.length c ∧ (∀ i, i < xs.length → ∃ b, ao = some ⟨b, 0, none⟩ ∧ ∀ j, j < xs.length → w.cell? ⟨b, j, none⟩ = some (.int k (xs.getD j 0))) ∧ xs.length ≤ maxLen := by
  obtain ⟨h1, h2⟩ := h
  have hn : n = xs.length := by simpa using h1.symm
  subst hn
  rcases h2 with ⟨rfl, h0⟩ | ⟨g, cap, cur, rfl, _, hg, hle, hmax, hsz, htk⟩
  · exact ⟨none, 0, by rw [h0], fun i hi => by omega, by rw [h0]; exact Nat.zero_le _⟩
  · refine ⟨some ⟨g, 0, none⟩, cap, rfl, fun i _ => ⟨g, rfl, fun j hj => ?_⟩, by omega⟩
    have h3 : (cur.toList.take (xs.length * 1))[j]? = (xs.map (Value.int k))[j]? := by rw [htk]
    rw [List.getElem?_take] at h3
    rw [if_pos (by omega)] at h3
    simp only [World.cell?, hg]
    rw [if_neg (by simp)]
    rw [← Array.getElem?_toList, h3, List.getElem?_map, List.getD, List.getElem?_eq_getElem hj]
    rfl
theorem u8wf {a : Int} (h : (Lit.int .u8 a).wf = true) : 0 ≤ a ∧ a < 256 := by
  simp [Lit.wf, IntKind.min, IntKind.max, IntKind.signed, IntKind.bits] at h
  omega
theorem u16v {a : Int} (h : (Lit.int .u16 a).wf = true) : ∃ v : BitVec 16, a = (v.toNat : Int) := by
  simp [Lit.wf, IntKind.min, IntKind.max, IntKind.signed, IntKind.bits] at h
  refine ⟨BitVec.ofNat 16 a.toNat, ?_⟩
  rw [BitVec.toNat_ofNat]
  omega
end Go.Proofs.YtaonlobknikbmaaDoor.tb
