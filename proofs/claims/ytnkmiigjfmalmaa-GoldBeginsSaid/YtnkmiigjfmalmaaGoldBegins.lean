/- The law GoldBegins: for every input the call returns true, in whatever memory. No condition. -/
import Derived.Test.YtnkmiigjfmalmaaRows
import Derived.Test.YtnkmiigjfmalmaaLg
import Derived.OpenShut
import Derived.ShutString
import Derived.Maps.AppendAt
namespace Go.Proofs.Ytnkmiigjfmalmaa.goldBegins
open Go.RowKit lg
set_option linter.unusedVariables false

def nums : List Int := [113, 213, 313]

theorem ix0 (w : World) : (Instr.index 40 (.agg #[.int .i64 113, .int .i64 213, .int .i64 313]) (.int .i64 ((0 : Nat) : Int))).run Try.prog w = .ok (.int .i64 113) w := by kernel_rfl
theorem ix1 (w : World) : (Instr.index 40 (.agg #[.int .i64 113, .int .i64 213, .int .i64 313]) (.int .i64 ((1 : Nat) : Int))).run Try.prog w = .ok (.int .i64 213) w := by kernel_rfl
theorem ix2 (w : World) : (Instr.index 40 (.agg #[.int .i64 113, .int .i64 213, .int .i64 313]) (.int .i64 ((2 : Nat) : Int))).run Try.prog w = .ok (.int .i64 313) w := by kernel_rfl
theorem ix (k : Nat) (hk : k < 3) (w : World) : (Instr.index 40 (.agg #[.int .i64 113, .int .i64 213, .int .i64 313]) (.int .i64 k)).run Try.prog w = .ok (.int .i64 (nums.getD k 0)) w :=
  match k, hk with
  | 0, _ => ix0 w
  | 1, _ => ix1 w
  | 2, _ => ix2 w

set_option maxRecDepth 100000 in
set_option maxHeartbeats 1600000 in
theorem begin_log (lb kb : Nat) (L : List Int) (shut : Bool) (w : World) (h : IsLog w lb kb L shut) :
    Calls Try.prog 27 #[.pointer (some ⟨lb, 0, none⟩)] w fun e w' => ∃ m : Nat, e = .returned (.int .i64 m) ∧ m + L.length = (adds shut L nums).length ∧ IsLog w' lb kb (adds shut L nums) shut ∧ w.grownBy w' (some kb) := by
  go_enter Try.func27, Try.ntmps27
  go_wp2
  go_loopw [3, 7] (fun n i wr => ∃ k m : Nat, k ≤ 3 ∧ m ≤ k ∧ i = .int .i64 k ∧ n = .int .i64 m ∧ m + L.length = (adds shut L (nums.take k)).length ∧ IsLog wr lb kb (adds shut L (nums.take k)) shut ∧ w.grownBy wr (some kb)) (fun _ i _ => 3 - (intOf i).toNat)
  case atStart => exact ⟨0, 0, by omega, by omega, rfl, rfl, by simp [adds], by simpa [adds] using h, grown_refl w _⟩
  case round =>
    obtain ⟨k, m, hk, hm, rfl, rfl, hml, hlog, hgr⟩ := hrel
    by_cases hkl : k < 3
    · have hix := ix k hkl
      have hstep := adds_step shut L nums k hkl
      by_cases hroom : shut = false ∧ (adds shut L (nums.take k)).length < 256
      · obtain ⟨rfl, hr⟩ := hroom
        rw [show add false (adds false L (nums.take k)) (nums.getD k 0) = adds false L (nums.take k) ++ [nums.getD k 0] by unfold add; rw [if_pos ⟨rfl, hr⟩]] at hstep
        have hsl : (adds false L (nums.take (k + 1))).length = (adds false L (nums.take k)).length + 1 := by rw [hstep]; simp
        go_wp2_with (go_at_call 14; refine (note_open lb kb _ _ _ hlog hr).mono ?_; rintro e w1 ⟨rfl, h1, h2⟩)
        go_roundw
        case rel => exact ⟨k + 1, m + 1, by omega, by omega, by go_num, by go_num, by omega, by rw [hstep]; exact h1, grown_trans hgr h2⟩
        case measure => simp [intOf]; omega
      · rw [show add shut (adds shut L (nums.take k)) (nums.getD k 0) = adds shut L (nums.take k) by unfold add; rw [if_neg hroom]] at hstep
        go_wp2_with (go_at_call 14; refine (note_off lb kb _ _ _ _ hlog hroom).mono ?_; rintro e w1 ⟨rfl, h2⟩; have h2 := h2.symm; subst h2)
        go_roundw
        case rel => exact ⟨k + 1, m, by omega, by omega, by go_num, rfl, by rw [hstep]; exact hml, by rw [hstep]; exact hlog, hgr⟩
        case measure => simp [intOf]; omega
    · have : k = 3 := by omega
      subst this
      go_wp2
      go_ret
      exact ⟨m, rfl, hml, hlog, hgr⟩

set_option maxRecDepth 100000 in
set_option maxHeartbeats 1600000 in
theorem begin_no (p : Value) (w : World) (h : NoLog w p) :
    Calls Try.prog 27 #[p] w fun e w' => e = .returned (.int .i64 0) ∧ w' = w := by
  go_enter Try.func27, Try.ntmps27
  go_wp2
  go_loop [3, 7] (fun n i => ∃ k : Nat, k ≤ 3 ∧ i = .int .i64 k ∧ n = .int .i64 0) (fun _ i => 3 - (intOf i).toNat)
  case atStart => exact ⟨0, by omega, rfl, rfl⟩
  case round =>
    obtain ⟨k, hk, rfl, rfl⟩ := hrel
    by_cases hkl : k < 3
    · have hix := ix k hkl
      go_wp2_with (go_at_call 14; refine (note_no _ _ _ h).mono ?_; rintro e w1 ⟨rfl, h2⟩; have h2 := h2.symm; subst h2)
      go_round
      case rel => exact ⟨k + 1, by omega, by go_num, rfl⟩
      case measure => simp [intOf]; omega
    · have : k = 3 := by omega
      subst this
      go_wp2
      go_ret
      exact ⟨rfl, rfl⟩

def upto (k : Nat) : List Int := (List.range k).map fun (i : Nat) => (i : Int)
def W (k : Nat) : List Int := adds false [] (upto k)
theorem W_step (k : Nat) : W (k + 1) = add false (W k) k := by
  unfold W upto adds
  rw [List.range_succ, List.map_append, List.foldl_append]
  rfl

theorem owns_slice {w : World} {base e size n : Nat} {v : Value} {xs : List Value} (h : w.ownsRow base e size v n xs) : ∃ ao c, v = .slice ao n c := by
  rcases h.2 with ⟨rfl, h0⟩ | ⟨g, cap, cur, rfl, _⟩
  · exact ⟨none, 0, by rw [h0]⟩
  · exact ⟨_, _, rfl⟩

theorem owns_far {w : World} {base e size n kb : Nat} {v : Value} {xs : List Value} (h : w.ownsRow base e size v n xs) (hk : kb < base) : v.ownBlock = none ∨ v.ownBlock ≠ some kb := by
  right
  intro he
  have := (h.lt kb he).1
  omega

theorem one_int (x : Int) : ∀ u ∈ [Value.int .i64 x], u.oneCell' = true := by
  intro u hu
  simp at hu
  subst hu
  rfl

/-- a number more, behind what the call owns: the log lies apart -/
theorem kept_log {w1 w2 : World} {base lb kb : Nat} {L : List Int} {sh : Bool} {v : Value} {n : Nat} {xs : List Value} {o : Obj} (hown : w1.ownsRow base 3 1 v n xs) (hlog : IsLog w1 lb kb L sh) (hlb : lb < base) (hkb : kb < base)
    (hg : (w1.alloc o).grownBy w2 v.ownBlock) : IsLog w2 lb kb L sh :=
  (hlog.grown (World.grownBy_alloc w1 o none) (by simp) (by simp)).grown hg (fun e => by have := (hown.lt lb e.symm).1; omega) (fun e => by have := (hown.lt kb e.symm).1; omega)

theorem kept_below {B base : Nat} {w w1 w2 : World} {v : Value} {n : Nat} {xs : List Value} {o : Obj} (hown : w1.ownsRow base 3 1 v n xs) (hb : Below B w w1) (hB : B ≤ base) (hB1 : B ≤ w1.heap.size)
    (hg : (w1.alloc o).grownBy w2 v.ownBlock) : Below B w w2 :=
  (hb.alloc hB1 o).grown hg (by simp; omega) (fun k hk => by have := (hown.lt k hk).1; omega)

set_option maxRecDepth 100000 in
set_option maxHeartbeats 1600000 in
theorem walk (a0 : Int) (a1 : Bool) (w0 : (Lit.int .i64 a0).wf = true) (w : World) :
    Calls Try.prog 11 #[.int .i64 a0, .bool a1] w fun e w' => e = .returned (.bool true) ∧ Below w.heap.size w w' := by
  obtain ⟨i0, hi, hz0, hz1, hz2⟩ := info_parts lg.Try.infoI
  go_enter Try.func11, Try.ntmps11
  go_wp2_with (first | (go_at_call 12; refine (new_log _).mono ?_; rintro e w1 ⟨lb, kb, rfl, hlog0, hbel0, hlb0, hkb0⟩) | (go_at_call 13; refine (pick_any a0 260 _ w0 (by omega) (by omega)).mono ?_; rintro e w2 ⟨r, rfl, hr, h2⟩; have h2 := h2.symm; subst h2))
  have hlb := hlog0.lb_lt
  have hkb := hlog0.kb_lt
  go_loopw [6, 7] (fun v i wr => ∃ k : Nat, k ≤ r ∧ i = .int .i64 k ∧ wr.ownsRow w1.heap.size 3 1 v (W k).length ((W k).map (Value.int .i64)) ∧ IsLog wr lb kb (W k) false ∧ Below w.heap.size w wr ∧ w1.heap.size ≤ wr.heap.size) (fun _ i _ => r - (intOf i).toNat)
  case atStart => exact ⟨0, by omega, rfl, World.ownsRow_nil _ _ _ _, hlog0, hbel0, Nat.le_refl _⟩
  case round =>
    obtain ⟨k, hk, rfl, hown, hlog, hbel, hsz⟩ := hrel
    by_cases hkr : k < r
    · have hstep := W_step k
      by_cases hroom : (W k).length < 256
      · rw [show add false (W k) k = W k ++ [(k : Int)] by unfold add; rw [if_pos ⟨rfl, hroom⟩]] at hstep
        have hsl : (W (k + 1)).length = (W k).length + 1 := by rw [hstep]; simp
        go_wp2_with (first
          | (go_at_call 14; refine (note_open lb kb _ _ _ hlog hroom).mono ?_; rintro e w2 ⟨rfl, hlog2, hgr2⟩; have hown2 := hown.kept hgr2 (owns_far hown hkb))
          | (at_builtin; refine wpList_append_own_at _ rfl _ _ 25 rfl w1.heap.size 3 i0 (.int .i64 0) 1 8 Try.underlying25 hi hz0 hz1 hz2 rfl (by decide) _ _ _ rfl (hown2.alloc _) ⟨w2.heap.size, 0, none⟩ 1 1 [.int .i64 k] rfl rfl (cell_one_new _ _ _) (one_int _) (by unfold maxLen; omega) (by omega) (by have := hgr2.size; simp; omega) ?_; intro v' w3 hown3 hgr3 hnil hat))
        have hlog3 := kept_log hown2 hlog2 hlb hkb hgr3
        have hbel2 := hbel.grown hgr2 (by have := hbel.size; omega) (fun j hj => by cases hj; exact hkb0)
        have hbel3 := kept_below hown2 hbel2 (Nat.le_of_lt (Nat.lt_of_le_of_lt hkb0 hkb)) hbel2.size hgr3
        go_roundw
        case rel => exact ⟨k + 1, by omega, by go_num, by rw [hstep]; simpa using hown3, by rw [hstep]; exact hlog3, hbel3, by have := hgr2.size; have := hgr3.size; simp at this; omega⟩
        case measure => simp [intOf]; omega
      · rw [show add false (W k) k = W k by unfold add; rw [if_neg (fun h => hroom h.2)]] at hstep
        go_wp2_with (go_at_call 14; refine (note_off lb kb _ _ _ _ hlog (fun h => hroom h.2)).mono ?_; rintro e w2 ⟨rfl, h2⟩; have h2 := h2.symm; subst h2)
        go_roundw
        case rel => exact ⟨k + 1, by omega, by go_num, by rw [hstep]; exact hown, by rw [hstep]; exact hlog, hbel, hsz⟩
        case measure => simp [intOf]; omega
    · have : k = r := by omega
      subst this
      have hB : w.heap.size ≤ w1.heap.size := hbel0.size
      cases a1 with
      | true =>
        go_wp2_with (go_at_call 15; refine (close_open lb kb _ _ hlog).mono ?_; rintro e wS ⟨rfl, hlogS, hgrS⟩)
        have hownS := hown.kept hgrS (owns_far hown hkb)
        have hbelS := hbel.grown hgrS (by have := hbel.size; omega) (fun j hj => by cases hj; exact hkb0)
        have hszS : w1.heap.size ≤ wS.heap.size := Nat.le_trans hsz hgrS.size
        clear hown hlog hbel hsz
        obtain ⟨r0, hr0⟩ : ∃ x, x = k := ⟨_, rfl⟩
        subst hr0
        have hnb : ∀ j, j < 3 → (wS.alloc (.cells #[.int .i64 113, .int .i64 213, .int .i64 313] 3)).cell? ⟨wS.heap.size, j, none⟩ = some (.int .i64 (nums.getD j 0)) := by
          intro j hj
          rw [World.cell?_alloc_new]
          have : j = 0 ∨ j = 1 ∨ j = 2 := by omega
          rcases this with rfl | rfl | rfl <;> first | rfl | omega
        have hlogT : IsLog (wS.alloc (.cells #[.int .i64 113, .int .i64 213, .int .i64 313] 3)) lb kb (W r0) true := hlogS.grown (World.grownBy_alloc wS _ none) (by simp) (by simp)
        have hownT := hownS.alloc (.cells #[.int .i64 113, .int .i64 213, .int .i64 313] 3)
        have hbelT := hbelS.alloc hbelS.size (.cells #[.int .i64 113, .int .i64 213, .int .i64 313] 3)
        have hnbv : ∀ v n xs, wS.ownsRow w1.heap.size 3 1 v n xs → v.ownBlock ≠ some wS.heap.size := fun v n xs h he => by have := (h.lt _ he).2; omega
        have hnbv := hnbv _ _ _ hownS
        have hl256 := hlogS.len
        go_wp2
        go_loopw [6, 9, 10] (fun v n i wt => ∃ k m : Nat, k ≤ 3 ∧ m ≤ k ∧ i = .int .i64 k ∧ n = .int .i64 m ∧ m + (W r0).length = (adds true (W r0) (nums.take k)).length ∧ wt.ownsRow w1.heap.size 3 1 v (adds true (W r0) (nums.take k)).length ((adds true (W r0) (nums.take k)).map (Value.int .i64)) ∧ v.ownBlock ≠ some wS.heap.size ∧ (∀ j, j < 3 → wt.cell? ⟨wS.heap.size, j, none⟩ = some (.int .i64 (nums.getD j 0))) ∧ IsLog wt lb kb (W r0) true ∧ Below w.heap.size w wt ∧ wS.heap.size < wt.heap.size) (fun _ _ i _ => 3 - (intOf i).toNat)
        case atStart => exact ⟨0, 0, by omega, by omega, rfl, rfl, by simp [adds], by simpa [adds] using hownT, hnbv, hnb, hlogT, hbelT, by simp⟩
        case round =>
          obtain ⟨k, m, hk, hm, rfl, rfl, hml, hown, hvn, hcell, hlog, hbel, hsz⟩ := hrel
          obtain ⟨ao, cp, rfl⟩ := owns_slice hown
          by_cases hkl : k < 3
          · have hstep := adds_step true (W r0) nums k hkl
            have hck := hcell k hkl
            by_cases hroom : true = false ∧ (adds true (W r0) (nums.take k)).length < 256
            · have hr := hroom.2
              rw [show add true (adds true (W r0) (nums.take k)) (nums.getD k 0) = adds true (W r0) (nums.take k) ++ [nums.getD k 0] by unfold add; rw [if_pos hroom]] at hstep
              have hsl : (adds true (W r0) (nums.take (k + 1))).length = (adds true (W r0) (nums.take k)).length + 1 := by rw [hstep]; simp
              first
                | (exact absurd hroom.1 (by decide))
                | (go_wp2_with (at_builtin; refine wpList_append_own_at _ rfl _ _ 25 rfl w1.heap.size 3 i0 (.int .i64 0) 1 8 Try.underlying25 hi hz0 hz1 hz2 rfl (by decide) _ _ _ rfl (hown.alloc _) ⟨wr.heap.size, 0, none⟩ 1 1 [.int .i64 (nums.getD k 0)] rfl rfl (cell_one_new _ _ _) (one_int _) (by unfold maxLen; omega) (by omega) (by simp; omega) ?_; intro v' w3 hown3 hgr3 hnil hat)
                   have hblk := hgr3.block wS.heap.size (by simp; omega) (fun e => hvn e.symm)
                   have hcell3 : ∀ j, j < 3 → w3.cell? ⟨wS.heap.size, j, none⟩ = some (.int .i64 (nums.getD j 0)) := fun j hj => by
                     rw [World.cell?_of_block (a := ⟨wS.heap.size, j, none⟩) hblk, World.cell?_alloc_lt _ _ _ hsz]
                     exact hcell j hj
                   have hlog3 := kept_log hown hlog hlb hkb hgr3
                   have hbel3 := kept_below hown hbel hB hbel.size hgr3
                   have hsz3 := hgr3.size
                   have hvn3 : v'.ownBlock ≠ some wS.heap.size := by
                     rcases hat with hat | hat
                     · rw [hat]; exact hvn
                     · rw [hat]; intro e; simp at e; omega
                   go_roundw
                   case rel => exact ⟨k + 1, m + 1, by omega, by omega, by go_num, by go_num, by omega, by rw [hstep]; simpa using hown3, hvn3, hcell3, hlog3, hbel3, by simp at hsz3; omega⟩
                   case measure => simp [intOf]; omega)
            · rw [show add true (adds true (W r0) (nums.take k)) (nums.getD k 0) = adds true (W r0) (nums.take k) by unfold add; rw [if_neg hroom]] at hstep
              have hroom2 : true = false → 256 ≤ (adds true (W r0) (nums.take k)).length := fun h => Nat.le_of_not_lt (fun h2 => hroom ⟨h, h2⟩)
              first | (have hroom3 := hroom2 rfl) | skip
              go_wp2
              go_roundw
              case rel => exact ⟨k + 1, m, by omega, by omega, by go_num, rfl, by rw [hstep]; exact hml, by rw [hstep]; exact hown, hvn, hcell, hlog, hbel, hsz⟩
              case measure => simp [intOf]; omega
          · have : k = 3 := by omega
            have hzl := zero_log
            have hlen6 : (adds false [] nums).length = 3 := by decide
            subst this
            go_wp2_with fail
            refine (begin_log lb kb _ _ _ hlog).mono ?_
            rintro e wa ⟨ma, rfl, hma, hloga, hgra⟩
            obtain rfl : ma = m := Nat.add_right_cancel (hma.trans hml.symm)
            have howna := hown.kept hgra (owns_far hown hkb)
            go_wp2_with fail
            refine (list_any lb kb _ _ _ hloga).mono ?_
            rintro e wb ⟨vb, rfl, hownb, hgrb⟩
            have hownc := howna.kept hgrb (Classical.em _)
            have hlogb := hloga.grown hgrb (by simp) (by simp)
            go_wp2_with fail
            refine (same_true _ _ _ _ (Ints.of_owns hownb) (Ints.of_owns hownc)).mono ?_
            rintro e wc ⟨rfl, hdc⟩
            have hlogc := hlogb.heap hdc.1
            go_wp2_with fail
            refine (closed_any lb kb _ _ _ hlogc).mono ?_
            rintro e wd ⟨rfl, hd⟩
            have hd := hd.symm
            subst hd
            go_wp2_with fail
            refine (begin_no _ _ (.inl rfl)).mono ?_
            rintro e wd ⟨rfl, hd⟩
            have hd := hd.symm
            subst hd
            go_wp2_with fail
            have hc0 : (wc.alloc (.cells #[.pointer none] 33)).cell? ⟨wc.heap.size, 0, none⟩ = some (.pointer none) := by rw [World.cell?_alloc_new]; rfl
            refine (begin_no _ _ (.inr ⟨_, rfl, hc0⟩)).mono ?_
            rintro e wd ⟨rfl, hd⟩
            have hd := hd.symm
            subst hd
            go_wp2_with fail
            refine (new_log _).mono ?_
            rintro e w5 ⟨lb2, kb2, rfl, hlog5, hbel5, hlb5, hkb5⟩
            go_wp2_with fail
            refine (begin_log lb2 kb2 _ _ _ hlog5).mono ?_
            rintro e w6 ⟨m6, rfl, hm6, hlog6, hgr6⟩
            obtain rfl : m6 = 3 := hm6.trans hlen6
            go_wp2
            go_ret
            have b1 := hbel.grown hgra hbel.size (fun j hj => by cases hj; exact hkb0)
            have b2 := b1.grown hgrb b1.size (fun j hj => by cases hj)
            have b3 := b2.grown (hdc.grown none) b2.size (fun j hj => by cases hj)
            have b4 := b3.alloc b3.size (.cells #[.pointer none] 33)
            have b5 := b4.trans (hbel5.mono b4.size)
            exact ⟨rfl, b5.grown hgr6 b5.size (fun j hj => by cases hj; exact Nat.le_trans b4.size hkb5)⟩
      | false =>
        obtain ⟨wS, hwS⟩ : ∃ x, x = wr := ⟨_, rfl⟩
        subst hwS
        have hlogS := hlog
        have hownS := hown
        have hbelS := hbel
        have hszS := hsz
        clear hown hlog hbel hsz
        obtain ⟨r0, hr0⟩ : ∃ x, x = k := ⟨_, rfl⟩
        subst hr0
        have hnb : ∀ j, j < 3 → (wS.alloc (.cells #[.int .i64 113, .int .i64 213, .int .i64 313] 3)).cell? ⟨wS.heap.size, j, none⟩ = some (.int .i64 (nums.getD j 0)) := by
          intro j hj
          rw [World.cell?_alloc_new]
          have : j = 0 ∨ j = 1 ∨ j = 2 := by omega
          rcases this with rfl | rfl | rfl <;> first | rfl | omega
        have hlogT : IsLog (wS.alloc (.cells #[.int .i64 113, .int .i64 213, .int .i64 313] 3)) lb kb (W r0) false := hlogS.grown (World.grownBy_alloc wS _ none) (by simp) (by simp)
        have hownT := hownS.alloc (.cells #[.int .i64 113, .int .i64 213, .int .i64 313] 3)
        have hbelT := hbelS.alloc hbelS.size (.cells #[.int .i64 113, .int .i64 213, .int .i64 313] 3)
        have hnbv : ∀ v n xs, wS.ownsRow w1.heap.size 3 1 v n xs → v.ownBlock ≠ some wS.heap.size := fun v n xs h he => by have := (h.lt _ he).2; omega
        have hnbv := hnbv _ _ _ hownS
        have hl256 := hlogS.len
        go_wp2
        go_loopw [6, 9, 10] (fun v n i wt => ∃ k m : Nat, k ≤ 3 ∧ m ≤ k ∧ i = .int .i64 k ∧ n = .int .i64 m ∧ m + (W r0).length = (adds false (W r0) (nums.take k)).length ∧ wt.ownsRow w1.heap.size 3 1 v (adds false (W r0) (nums.take k)).length ((adds false (W r0) (nums.take k)).map (Value.int .i64)) ∧ v.ownBlock ≠ some wS.heap.size ∧ (∀ j, j < 3 → wt.cell? ⟨wS.heap.size, j, none⟩ = some (.int .i64 (nums.getD j 0))) ∧ IsLog wt lb kb (W r0) false ∧ Below w.heap.size w wt ∧ wS.heap.size < wt.heap.size) (fun _ _ i _ => 3 - (intOf i).toNat)
        case atStart => exact ⟨0, 0, by omega, by omega, rfl, rfl, by simp [adds], by simpa [adds] using hownT, hnbv, hnb, hlogT, hbelT, by simp⟩
        case round =>
          obtain ⟨k, m, hk, hm, rfl, rfl, hml, hown, hvn, hcell, hlog, hbel, hsz⟩ := hrel
          obtain ⟨ao, cp, rfl⟩ := owns_slice hown
          by_cases hkl : k < 3
          · have hstep := adds_step false (W r0) nums k hkl
            have hck := hcell k hkl
            by_cases hroom : false = false ∧ (adds false (W r0) (nums.take k)).length < 256
            · have hr := hroom.2
              rw [show add false (adds false (W r0) (nums.take k)) (nums.getD k 0) = adds false (W r0) (nums.take k) ++ [nums.getD k 0] by unfold add; rw [if_pos hroom]] at hstep
              have hsl : (adds false (W r0) (nums.take (k + 1))).length = (adds false (W r0) (nums.take k)).length + 1 := by rw [hstep]; simp
              first
                | (exact absurd hroom.1 (by decide))
                | (go_wp2_with (at_builtin; refine wpList_append_own_at _ rfl _ _ 25 rfl w1.heap.size 3 i0 (.int .i64 0) 1 8 Try.underlying25 hi hz0 hz1 hz2 rfl (by decide) _ _ _ rfl (hown.alloc _) ⟨wr.heap.size, 0, none⟩ 1 1 [.int .i64 (nums.getD k 0)] rfl rfl (cell_one_new _ _ _) (one_int _) (by unfold maxLen; omega) (by omega) (by simp; omega) ?_; intro v' w3 hown3 hgr3 hnil hat)
                   have hblk := hgr3.block wS.heap.size (by simp; omega) (fun e => hvn e.symm)
                   have hcell3 : ∀ j, j < 3 → w3.cell? ⟨wS.heap.size, j, none⟩ = some (.int .i64 (nums.getD j 0)) := fun j hj => by
                     rw [World.cell?_of_block (a := ⟨wS.heap.size, j, none⟩) hblk, World.cell?_alloc_lt _ _ _ hsz]
                     exact hcell j hj
                   have hlog3 := kept_log hown hlog hlb hkb hgr3
                   have hbel3 := kept_below hown hbel hB hbel.size hgr3
                   have hsz3 := hgr3.size
                   have hvn3 : v'.ownBlock ≠ some wS.heap.size := by
                     rcases hat with hat | hat
                     · rw [hat]; exact hvn
                     · rw [hat]; intro e; simp at e; omega
                   go_roundw
                   case rel => exact ⟨k + 1, m + 1, by omega, by omega, by go_num, by go_num, by omega, by rw [hstep]; simpa using hown3, hvn3, hcell3, hlog3, hbel3, by simp at hsz3; omega⟩
                   case measure => simp [intOf]; omega)
            · rw [show add false (adds false (W r0) (nums.take k)) (nums.getD k 0) = adds false (W r0) (nums.take k) by unfold add; rw [if_neg hroom]] at hstep
              have hroom2 : false = false → 256 ≤ (adds false (W r0) (nums.take k)).length := fun h => Nat.le_of_not_lt (fun h2 => hroom ⟨h, h2⟩)
              first | (have hroom3 := hroom2 rfl) | skip
              go_wp2
              go_roundw
              case rel => exact ⟨k + 1, m, by omega, by omega, by go_num, rfl, by rw [hstep]; exact hml, by rw [hstep]; exact hown, hvn, hcell, hlog, hbel, hsz⟩
              case measure => simp [intOf]; omega
          · have : k = 3 := by omega
            have hzl := zero_log
            have hlen6 : (adds false [] nums).length = 3 := by decide
            subst this
            go_wp2_with fail
            refine (begin_log lb kb _ _ _ hlog).mono ?_
            rintro e wa ⟨ma, rfl, hma, hloga, hgra⟩
            obtain rfl : ma = m := Nat.add_right_cancel (hma.trans hml.symm)
            have howna := hown.kept hgra (owns_far hown hkb)
            go_wp2_with fail
            refine (list_any lb kb _ _ _ hloga).mono ?_
            rintro e wb ⟨vb, rfl, hownb, hgrb⟩
            have hownc := howna.kept hgrb (Classical.em _)
            have hlogb := hloga.grown hgrb (by simp) (by simp)
            go_wp2_with fail
            refine (same_true _ _ _ _ (Ints.of_owns hownb) (Ints.of_owns hownc)).mono ?_
            rintro e wc ⟨rfl, hdc⟩
            have hlogc := hlogb.heap hdc.1
            go_wp2_with fail
            refine (closed_any lb kb _ _ _ hlogc).mono ?_
            rintro e wd ⟨rfl, hd⟩
            have hd := hd.symm
            subst hd
            go_wp2_with fail
            refine (begin_no _ _ (.inl rfl)).mono ?_
            rintro e wd ⟨rfl, hd⟩
            have hd := hd.symm
            subst hd
            go_wp2_with fail
            have hc0 : (wc.alloc (.cells #[.pointer none] 33)).cell? ⟨wc.heap.size, 0, none⟩ = some (.pointer none) := by rw [World.cell?_alloc_new]; rfl
            refine (begin_no _ _ (.inr ⟨_, rfl, hc0⟩)).mono ?_
            rintro e wd ⟨rfl, hd⟩
            have hd := hd.symm
            subst hd
            go_wp2_with fail
            refine (new_log _).mono ?_
            rintro e w5 ⟨lb2, kb2, rfl, hlog5, hbel5, hlb5, hkb5⟩
            go_wp2_with fail
            refine (begin_log lb2 kb2 _ _ _ hlog5).mono ?_
            rintro e w6 ⟨m6, rfl, hm6, hlog6, hgr6⟩
            obtain rfl : m6 = 3 := hm6.trans hlen6
            go_wp2
            go_ret
            have b1 := hbel.grown hgra hbel.size (fun j hj => by cases hj; exact hkb0)
            have b2 := b1.grown hgrb b1.size (fun j hj => by cases hj)
            have b3 := b2.grown (hdc.grown none) b2.size (fun j hj => by cases hj)
            have b4 := b3.alloc b3.size (.cells #[.pointer none] 33)
            have b5 := b4.trans (hbel5.mono b4.size)
            exact ⟨rfl, b5.grown hgr6 b5.size (fun j hj => by cases hj; exact Nat.le_trans b4.size hkb5)⟩

open Go.ChangeShapes Go.WideShapes Go.ChangeAt

theorem own : ownKnob Try.prog.godebug = none := by kernel_rfl

set_option maxRecDepth 100000 in
theorem lifted (os : Os) (started : os.Started) (H : Type) (enc : TypeId × Value → H) :
    ReturnsInHanded {} Try.checked os 11 .any (Rows.goldBeginsSpec.pre6 enc Try.prog Try.f11 Rows.goldBeginsRow.domain false) (Rows.goldBeginsSpec.post enc Try.prog Try.f11 false true false false) := by
  refine returnsInHanded_of_change (C := Try.checked) own started (by kernel_rfl) Try.func11
    (ChangeSpec.witness6 (enc := enc) (C := Try.checked) false ⟨#[], #[.int .i64 0, .bool false], []⟩ 8 (by kernel_rfl) (by kernel_rfl) (by kernel_rfl) (by kernel_rfl)) ?_
  intro W base args ds gs before hval0 hW hcnd _
  have hval : ∀ (j : Nat) t v, Try.f11.params[j]? = some t → args[j]? = some v → Value.okWide Try.prog W .any base t v := hval0
  have hW' := hW
  obtain ⟨p, q, hA0, hV, rfl, hfz, hnd⟩ := hW
  have hA : DataW.TrodAll enc Try.prog W 0 (fun _ => true) true Try.f11.params.toList args.toList ds p := hA0
  rw [Try.params11] at hA hval
  obtain ⟨v0, vs0, d0, ds0, p0, q0, hargs, rfl, rfl, h0, r0⟩ := trodAll_cons hA
  obtain ⟨v1, vs1, d1, ds1, p1, q1, rfl, rfl, rfl, h1, r1⟩ := trodAll_cons r0
  obtain ⟨rfl, rfl, rfl⟩ := trodAll_nil r1
  obtain rfl : args = #[v0, v1] := by cases args; simp_all
  obtain ⟨rfl, rfl⟩ := trodVars_none hV
  obtain ⟨a0, rfl, rfl, rfl, w0⟩ := open_int Try.underlying3 (hval 0 3 v0 rfl rfl) h0
  obtain ⟨a1, rfl, rfl, rfl⟩ := open_bool Try.underlying4 (hval 1 4 v1 rfl rfl) h1
  clear hA0 hval0
  simp only [List.append_nil] at hW'
  refine (walk a0 a1 w0 W).mono fun e W' ⟨he, bel⟩ => ?_
  subst he
  exact ⟨_, rfl, _, _, _, [], _, [], hW', trodAll_mk1 (shut_bool Try.underlying4 _), (trodAll_cons_mk (shut_int Try.underlying3 w0) (trodAll_cons_mk (shut_bool Try.underlying4 _) trodAll_mk0)), rfl, bel.frame _, fun h => by cases h⟩

theorem over : Rows.goldBeginsRow.holds Try.pinned (OpenSpec.ofChange Rows.goldBeginsSpec) :=
  OpenClaim.holds_of_wide 11 Try.f11 rfl rfl rfl rfl rfl rfl rfl ⟨rfl, rfl, rfl, rfl, rfl⟩ rfl rfl rfl rfl rfl (by kernel_rfl) Try.func11 (by kernel_rfl)
    (of_decide_eq_true (by kernel_rfl)) (by unfold Func.isWrapper; first | (rw [if_pos (by decide +kernel)]; kernel_rfl) | (rw [if_neg (by decide +kernel)]; exact ⟨rfl, rfl⟩))
    (fun os started H enc _ => lifted os started H enc)
end Go.Proofs.Ytnkmiigjfmalmaa.goldBegins
namespace Go.Proofs.Ytnkmiigjfmalmaa
theorem GoldBeginsHolds : Rows.GoldBeginsSaid := goldBegins.over
#print axioms GoldBeginsHolds
end Go.Proofs.Ytnkmiigjfmalmaa
