/- The law WholeBegins: for every input the call returns true, in whatever memory. No condition but the listed variables. -/
import Derived.Test.YtecmlefiajhajaaGreatDoorRows
import Derived.Test.YtecmlefiajhajaaGreatDoorCards
import Derived.Test.YtecmlefiajhajaaGreatDoorTie
import Derived.Test.YtecmlefiajhajaaGreatDoorSim
import Derived.Test.YtecmlefiajhajaaGreatDoorKn
import Derived.Test.YtecmlefiajhajaaGreatDoorBh
import Derived.Maps.AppendAt
import Derived.Deep.CutBlock
import Derived.OwnWalk
import Derived.RegionTactic
import Derived.BigRegion
import Derived.Laws.Cover1
import Derived.WalkKit
import Derived.ProofKit
import Derived.OpenShut
import Derived.ShutString
import Derived.Below
import Derived.LaidMore
import Derived.Lay
import Derived.SevenTiedAt
import Derived.Stop.Joined
namespace Go.Proofs.YtecmlefiajhajaaGreatDoor.wholeBegins
open Go.ChangeShapes Go.WideShapes Go.ChangeAt Go.RowKit
open Go.ChangeMaps (open_string shut_string)
set_option linter.unusedVariables false

theorem own : ownKnob Tryz.prog.godebug = none := by kernel_rfl
theorem num : Sim.NumOK Tryz.prog := Sim.numOK_of (by kernel_rfl)
theorem mixed : Tryz.prog.follows .mixedOrders = true := by kernel_rfl
open lg bw
def upto (k : Nat) : List Int := (List.range k).map fun (i : Nat) => (i : Int)
def W (k : Nat) : List Int := adds false [] (upto k)
theorem W_step (k : Nat) : W (k + 1) = add false (W k) k := by
  unfold W upto adds
  rw [List.range_succ, List.map_append, List.foldl_append]
  rfl

theorem owns_slice {w : World} {base e size n : Nat} {v : Value} {xs : List Value} (h : w.ownsRow base e size v n xs) : ∃ ao c, v = .slice ao n c := by
  rcases h.2 with ⟨rfl, h0⟩ | ⟨g, cap, cur, rfl, _⟩
  · exact ⟨none, 0, by rw [h0]⟩
  · exact ⟨_, _, rfl⟩

theorem owns_far {w : World} {base e size n kb : Nat} {v : Value} {xs : List Value} (h : w.ownsRow base e size v n xs) (hk : kb < base) : v.ownBlock = none ∨ v.ownBlock ≠ some kb := by
  right
  intro he
  have := (h.lt kb he).1
  omega

theorem one_int (x : Int) : ∀ u ∈ [Value.int .i64 x], u.oneCell' = true := by
  intro u hu
  simp at hu
  subst hu
  rfl

/-- a number more, behind what the call owns: the log lies apart -/
theorem kept_log {w1 w2 : World} {base lb kb : Nat} {L : List Int} {sh : Bool} {v : Value} {n : Nat} {xs : List Value} {o : Obj} (hown : w1.ownsRow base 3 1 v n xs) (hlog : IsLog w1 lb kb L sh) (hlb : lb < base) (hkb : kb < base)
    (hg : (w1.alloc o).grownBy w2 v.ownBlock) : IsLog w2 lb kb L sh :=
  (hlog.grown (World.grownBy_alloc w1 o none) (by simp) (by simp)).grown hg (fun e => by have := (hown.lt lb e.symm).1; omega) (fun e => by have := (hown.lt kb e.symm).1; omega)

theorem kept_below {B base : Nat} {w w1 w2 : World} {v : Value} {n : Nat} {xs : List Value} {o : Obj} (hown : w1.ownsRow base 3 1 v n xs) (hb : Below B w w1) (hB : B ≤ base) (hB1 : B ≤ w1.heap.size)
    (hg : (w1.alloc o).grownBy w2 v.ownBlock) : Below B w w2 :=
  (hb.alloc hB1 o).grown hg (by simp; omega) (fun k hk => by have := (hown.lt k hk).1; omega)

theorem adds_true : ∀ (xs L : List Int), adds true L xs = L
  | [], _ => rfl
  | x :: xs, L => by
    have h : adds true L (x :: xs) = adds true (add true L x) xs := rfl
    have h2 : add true L x = L := by unfold add; rw [if_neg (by simp)]
    rw [h, h2]
    exact adds_true xs L
theorem grown_of_below {w w' : World} {row : Option Nat} (h : Below w.heap.size w w') : w.grownBy w' row := ⟨h.os, h.tape, h.output, h.size, fun k hk _ => h.block k hk⟩

set_option maxRecDepth 100000 in
set_option maxHeartbeats 1600000 in
theorem walk (a0 : Int) (a1 : Bool) (w0 : (Lit.int .i64 a0).wf = true) (w : World) (hkn : Sim.Known 1 kn.gl w) :
    Calls Tryz.prog 9 #[.int .i64 a0, .bool a1] w fun e w' => e = .returned (.bool true) ∧ Below w.heap.size w w' := by
  obtain ⟨i0, hi, hz0, hz1, hz2⟩ := info_parts lg.Tryz.infoI
  go_enter Tryz.func9, Tryz.ntmps9
  go_wp2_with (first | (go_at_call 48; refine (new_log _).mono ?_; rintro e w1 ⟨lb, kb, rfl, hlog0, hbel0, hlb0, hkb0⟩) | (go_at_call 49; refine (pick_any a0 260 _ w0 (by omega) (by omega)).mono ?_; rintro e w2 ⟨r, rfl, hr, h2⟩; have h2 := h2.symm; subst h2))
  have hlb := hlog0.lb_lt
  have hkb := hlog0.kb_lt
  go_loopw [6, 7] (fun v i wr => ∃ k : Nat, k ≤ r ∧ i = .int .i64 k ∧ wr.ownsRow w1.heap.size 3 1 v (W k).length ((W k).map (Value.int .i64)) ∧ IsLog wr lb kb (W k) false ∧ Below w.heap.size w wr ∧ w1.heap.size ≤ wr.heap.size) (fun _ i _ => r - (intOf i).toNat)
  case atStart => exact ⟨0, by omega, rfl, World.ownsRow_nil _ _ _ _, hlog0, hbel0, Nat.le_refl _⟩
  case round =>
    obtain ⟨k, hk, rfl, hown, hlog, hbel, hsz⟩ := hrel
    by_cases hkr : k < r
    · have hstep := W_step k
      by_cases hroom : (W k).length < 256
      · rw [show add false (W k) k = W k ++ [(k : Int)] by unfold add; rw [if_pos ⟨rfl, hroom⟩]] at hstep
        have hsl : (W (k + 1)).length = (W k).length + 1 := by rw [hstep]; simp
        go_wp2_with (first
          | (go_at_call 50; refine (note_open lb kb _ _ _ hlog hroom).mono ?_; rintro e w2 ⟨rfl, hlog2, hgr2⟩; have hown2 := hown.kept hgr2 (owns_far hown hkb))
          | (at_builtin; refine wpList_append_own_at _ rfl _ _ 50 rfl w1.heap.size 3 i0 (.int .i64 0) 1 8 Tryz.underlying50 hi hz0 hz1 hz2 rfl (by decide) _ _ _ rfl (hown2.alloc _) ⟨w2.heap.size, 0, none⟩ 1 1 [.int .i64 k] rfl rfl (cell_one_new _ _ _) (one_int _) (by unfold maxLen; omega) (by omega) (by have := hgr2.size; simp; omega) ?_; intro v' w3 hown3 hgr3 hnil hat))
        have hlog3 := kept_log hown2 hlog2 hlb hkb hgr3
        have hbel2 := hbel.grown hgr2 (by have := hbel.size; omega) (fun j hj => by cases hj; exact hkb0)
        have hbel3 := kept_below hown2 hbel2 (Nat.le_of_lt (Nat.lt_of_le_of_lt hkb0 hkb)) hbel2.size hgr3
        go_roundw
        case rel => exact ⟨k + 1, by omega, by go_num, by rw [hstep]; simpa using hown3, by rw [hstep]; exact hlog3, hbel3, by have := hgr2.size; have := hgr3.size; simp at this; omega⟩
        case measure => simp [intOf]; omega
      · rw [show add false (W k) k = W k by unfold add; rw [if_neg (fun h => hroom h.2)]] at hstep
        go_wp2_with (go_at_call 50; refine (note_off lb kb _ _ _ _ hlog (fun h => hroom h.2)).mono ?_; rintro e w2 ⟨rfl, h2⟩; have h2 := h2.symm; subst h2)
        go_roundw
        case rel => exact ⟨k + 1, by omega, by go_num, by rw [hstep]; exact hown, by rw [hstep]; exact hlog, hbel, hsz⟩
        case measure => simp [intOf]; omega
    · have : k = r := by omega
      subst this
      have hB : w.heap.size ≤ w1.heap.size := hbel0.size
      cases a1 with
      | true =>
        go_wp2_with (go_at_call 51; refine (close_open lb kb _ _ hlog).mono ?_; rintro e wS ⟨rfl, hlogS, hgrS⟩)
        have hownS := hown.kept hgrS (owns_far hown hkb)
        have hbelS := hbel.grown hgrS (by have := hbel.size; omega) (fun j hj => by cases hj; exact hkb0)
        have hszS : w1.heap.size ≤ wS.heap.size := Nat.le_trans hsz hgrS.size
        clear hown hlog hbel hsz
        obtain ⟨r0, hr0⟩ : ∃ x, x = k := ⟨_, rfl⟩
        subst hr0
        go_wp2_with fail
        refine (bh.c_log _).mono ?_
        rintro e wT ⟨⟨nb, ncap, rfl, hncap, hnlo, hnhi, hnb⟩, hbT⟩
        have hlogT : IsLog wT lb kb (W r0) true := hlogS.grown (grown_of_below (row := none) hbT) (by simp) (by simp)
        have hownT := hownS.kept (grown_of_below (row := none) hbT) (Classical.em _)
        have hbelT := hbelS.trans (hbT.mono hbelS.size)
        have hszT := hbT.size
        have hnbv : ∀ v n xs, wS.ownsRow w1.heap.size 3 1 v n xs → v.ownBlock ≠ some nb := fun v n xs h he => by have := (h.lt _ he).2; omega
        have hnbv := hnbv _ _ _ hownS
        have hl256 := hlogS.len
        go_wp2
        go_loopw [6, 9, 10] (fun v n i wt => ∃ k m : Nat, k ≤ 24 ∧ m ≤ k ∧ i = .int .i64 k ∧ n = .int .i64 m ∧ m + (W r0).length = (adds true (W r0) (nums.take k)).length ∧ wt.ownsRow w1.heap.size 3 1 v (adds true (W r0) (nums.take k)).length ((adds true (W r0) (nums.take k)).map (Value.int .i64)) ∧ v.ownBlock ≠ some nb ∧ (∀ j, j < 24 → wt.cell? ⟨nb, j, none⟩ = some (.int .i64 (nums.getD j 0))) ∧ IsLog wt lb kb (W r0) true ∧ Below w.heap.size w wt ∧ nb < wt.heap.size) (fun _ _ i _ => 24 - (intOf i).toNat)
        case atStart => exact ⟨0, 0, by omega, by omega, rfl, rfl, by simp [adds], by simpa [adds] using hownT, hnbv, hnb, hlogT, hbelT, hnhi⟩
        case round =>
          obtain ⟨k, m, hk, hm, rfl, rfl, hml, hown, hvn, hcell, hlog, hbel, hsz⟩ := hrel
          obtain ⟨ao, cp, rfl⟩ := owns_slice hown
          by_cases hkl : k < 24
          · have hstep := adds_step true (W r0) nums k hkl
            have hck := hcell k hkl
            by_cases hroom : true = false ∧ (adds true (W r0) (nums.take k)).length < 256
            · have hr := hroom.2
              rw [show add true (adds true (W r0) (nums.take k)) (nums.getD k 0) = adds true (W r0) (nums.take k) ++ [nums.getD k 0] by unfold add; rw [if_pos hroom]] at hstep
              have hsl : (adds true (W r0) (nums.take (k + 1))).length = (adds true (W r0) (nums.take k)).length + 1 := by rw [hstep]; simp
              first
                | (exact absurd hroom.1 (by decide))
                | (go_wp2_with (at_builtin; refine wpList_append_own_at _ rfl _ _ 50 rfl w1.heap.size 3 i0 (.int .i64 0) 1 8 Tryz.underlying50 hi hz0 hz1 hz2 rfl (by decide) _ _ _ rfl (hown.alloc _) ⟨wr.heap.size, 0, none⟩ 1 1 [.int .i64 (nums.getD k 0)] rfl rfl (cell_one_new _ _ _) (one_int _) (by unfold maxLen; omega) (by omega) (by simp; omega) ?_; intro v' w3 hown3 hgr3 hnil hat)
                   have hblk := hgr3.block nb (by simp; omega) (fun e => hvn e.symm)
                   have hcell3 : ∀ j, j < 24 → w3.cell? ⟨nb, j, none⟩ = some (.int .i64 (nums.getD j 0)) := fun j hj => by
                     rw [World.cell?_of_block (a := ⟨nb, j, none⟩) hblk, World.cell?_alloc_lt _ _ _ hsz]
                     exact hcell j hj
                   have hlog3 := kept_log hown hlog hlb hkb hgr3
                   have hbel3 := kept_below hown hbel hB hbel.size hgr3
                   have hsz3 := hgr3.size
                   have hvn3 : v'.ownBlock ≠ some nb := by
                     rcases hat with hat | hat
                     · rw [hat]; exact hvn
                     · rw [hat]; intro e; simp at e; omega
                   go_roundw
                   case rel => exact ⟨k + 1, m + 1, by omega, by omega, by go_num, by go_num, by omega, by rw [hstep]; simpa using hown3, hvn3, hcell3, hlog3, hbel3, by simp at hsz3; omega⟩
                   case measure => simp [intOf]; omega)
            · rw [show add true (adds true (W r0) (nums.take k)) (nums.getD k 0) = adds true (W r0) (nums.take k) by unfold add; rw [if_neg hroom]] at hstep
              have hroom2 : true = false → 256 ≤ (adds true (W r0) (nums.take k)).length := fun h => Nat.le_of_not_lt (fun h2 => hroom ⟨h, h2⟩)
              first | (have hroom3 := hroom2 rfl) | skip
              go_wp2
              go_roundw
              case rel => exact ⟨k + 1, m, by omega, by omega, by go_num, rfl, by rw [hstep]; exact hml, by rw [hstep]; exact hown, hvn, hcell, hlog, hbel, hsz⟩
              case measure => simp [intOf]; omega
          · have : k = 24 := by omega
            have hzl := zero_log
            have hall : nums.take k = nums := by rw [this]; rfl
            rw [hall] at hown hml
            clear hall
            subst this
            go_wp2_with fail
            refine (begin_log lb kb _ _ _ hlog).mono ?_
            rintro e wa ⟨ma, rfl, hma, hloga, hgra⟩
            obtain rfl : ma = m := Nat.add_right_cancel (hma.trans hml.symm)
            have howna := hown.kept hgra (owns_far hown hkb)
            have hnba : nb ≠ kb := fun h => by have := hlogS.kb_lt; omega
            have hcella : ∀ j, j < 24 → wa.cell? ⟨nb, j, none⟩ = some (.int .i64 (nums.getD j 0)) := fun j hj => hgra.cell (hcell j hj) (fun h => hnba (Option.some.inj h))
            have hbela := hbel.grown hgra hbel.size (fun j hj => by cases hj; exact hkb0)
            have hnsa : nb < wa.heap.size := Nat.lt_of_lt_of_le hsz hgra.size
            clear hcell hgra hbel hsz hlog hown
            go_wp2_with fail
            refine (list_any lb kb _ _ _ hloga).mono ?_
            rintro e wb ⟨vb, rfl, hownb, hgrb⟩
            have hownc := howna.kept hgrb (Classical.em _)
            have hlogb := hloga.grown hgrb (by simp) (by simp)
            have hcellb : ∀ j, j < 24 → wb.cell? ⟨nb, j, none⟩ = some (.int .i64 (nums.getD j 0)) := fun j hj => hgrb.cell (hcella j hj) (by simp)
            have hbelb := hbela.grown hgrb hbela.size (fun j hj => by cases hj)
            have hnsb : nb < wb.heap.size := Nat.lt_of_lt_of_le hnsa hgrb.size
            clear hcella hgrb hbela hnsa hloga howna
            go_wp2_with fail
            refine (same_true _ _ _ _ (Ints.of_owns hownb) (Ints.of_owns hownc)).mono ?_
            rintro e wc ⟨rfl, hdc⟩
            have hlogc := hlogb.heap hdc.1
            have hcellc : ∀ j, j < 24 → wc.cell? ⟨nb, j, none⟩ = some (.int .i64 (nums.getD j 0)) := fun j hj => (hdc.cell _).trans (hcellb j hj)
            have hbelc := hbelb.grown (hdc.grown none) hbelb.size (fun j hj => by cases hj)
            have hnsc : nb < wc.heap.size := by rw [hdc.1]; exact hnsb
            clear hcellb hdc hbelb hnsb hlogb hownb hownc
            go_wp2_with fail
            refine (closed_any lb kb _ _ _ hlogc).mono ?_
            rintro e wd ⟨rfl, hd⟩
            have hd := hd.symm
            subst hd
            have hadds : adds true (adds true (W r0) nums) nums = adds true (W r0) nums := adds_true _ _
            go_wp2_with fail
            refine (begin_log lb kb _ _ _ hlogc).mono ?_
            rintro e we ⟨me, rfl, hme, hloge, hgre⟩
            rw [hadds] at hme
            obtain rfl : me = 0 := by omega
            have hcelle : ∀ j, j < 24 → we.cell? ⟨nb, j, none⟩ = some (.int .i64 (nums.getD j 0)) := fun j hj => hgre.cell (hcellc j hj) (fun h => hnba (Option.some.inj h))
            have hbele := hbelc.grown hgre hbelc.size (fun j hj => by cases hj; exact hkb0)
            have hnse : nb < we.heap.size := Nat.lt_of_lt_of_le hnsc hgre.size
            clear hcellc hbelc hnsc hlogc hloge hme hgre
            go_wp2_with fail
            refine (begin_no _ _ (.inl rfl)).mono ?_
            rintro e wd ⟨rfl, hd⟩
            have hd := hd.symm
            subst hd
            go_wp2_with fail
            have hc0 : (we.alloc (.cells #[.pointer none] 115)).cell? ⟨we.heap.size, 0, none⟩ = some (.pointer none) := by rw [World.cell?_alloc_new]; rfl
            refine (begin_no _ _ (.inr ⟨_, rfl, hc0⟩)).mono ?_
            rintro e wd ⟨rfl, hd⟩
            have hd := hd.symm
            subst hd
            have hbelf := hbele.alloc hbele.size (.cells #[.pointer none] 115)
            have hcellf : ∀ j, j < 24 → (we.alloc (.cells #[.pointer none] 115)).cell? ⟨nb, j, none⟩ = some (.int .i64 (nums.getD j 0)) := fun j hj => by rw [World.cell?_alloc_lt _ _ _ hnse]; exact hcelle j hj
            have hnsf : nb < (we.alloc (.cells #[.pointer none] 115)).heap.size := by simp; omega
            have hwf := hbelf.size
            clear hcelle hbele hnse hc0
            go_wp2_with fail
            refine (bh.c_wlog _).mono ?_
            rintro e wf ⟨⟨n1, c1, rfl, hn1, hl1, ht1⟩, hb1⟩
            have hbelg := hbelf.trans (hb1.mono hbelf.size)
            have hcellg : ∀ j, j < 24 → wf.cell? ⟨nb, j, none⟩ = some (.int .i64 (nums.getD j 0)) := fun j hj => (hb1.cell (p := ⟨nb, j, none⟩) hnsf).trans (hcellf j hj)
            have hnsg : nb < wf.heap.size := Nat.lt_of_lt_of_le hnsf hb1.size
            have hn1b : nb ≠ n1 := by omega
            clear hcellf hbelf hb1
            have hnI : Ints wf (.slice (some ⟨nb, 0, none⟩) 24 ncap) nums := ⟨some ⟨nb, 0, none⟩, ncap, rfl, fun i hi => ⟨nb, rfl, fun j hj => hcellg j hj⟩, by unfold maxLen; decide⟩
            go_wp2_with fail
            refine (same_true nums _ _ _ ht1.ints hnI).mono ?_
            rintro e wg ⟨rfl, hdg⟩
            have hbB : Below wf.heap.size wf wg := ⟨hdg.2.1, hdg.2.2.1, hdg.2.2.2, by rw [hdg.1]; exact Nat.le_refl _, fun k _ => by rw [hdg.1]⟩
            have ht2 := ht1.kept hbB
            have hcellh : ∀ j, j < 24 → wg.cell? ⟨nb, j, none⟩ = some (.int .i64 (nums.getD j 0)) := fun j hj => (hdg.cell _).trans (hcellg j hj)
            have hbelh := hbelg.trans (hbB.mono hbelg.size)
            have hnsh : nb < wg.heap.size := by rw [hdg.1]; exact hnsg
            clear hcellg hbelg hbB hdg ht1 hnsg hnI hl1
            go_wp2_with fail
            refine (bh.c_wlog _).mono ?_
            rintro e wi ⟨⟨n2, c2, rfl, hn2, hl2, ht3⟩, hb2⟩
            have ht4 := ht2.kept hb2
            have hn12 : n1 ≠ n2 := by have := ht2.lt; omega
            have hn2b : nb ≠ n2 := by omega
            have hbeli := hbelh.trans (hb2.mono hbelh.size)
            have hcelli : ∀ j, j < 24 → wi.cell? ⟨nb, j, none⟩ = some (.int .i64 (nums.getD j 0)) := fun j hj => (hb2.cell (p := ⟨nb, j, none⟩) hnsh).trans (hcellh j hj)
            have hnsi : nb < wi.heap.size := Nat.lt_of_lt_of_le hnsh hb2.size
            have hn1w : w.heap.size ≤ n1 := Nat.le_trans hwf hn1
            have hn2w : w.heap.size ≤ n2 := Nat.le_trans hbelh.size hn2
            clear hcellh hbelh hb2 hnsh ht2 hl2 hn1 hn2
            go_wp2_with fail
            refine (bh.c_apart ht4 ht3 hn12).mono ?_
            rintro e wj ⟨rfl, hsp⟩
            have hbelj : Below w.heap.size w wj := hbeli.trans (hsp.below hbeli.size (fun b hb => by
              rcases List.mem_cons.1 hb with rfl | hb
              · exact hn1w
              · obtain rfl := List.mem_singleton.1 hb
                exact hn2w))
            have hcellj : ∀ j, j < 24 → wj.cell? ⟨nb, j, none⟩ = some (.int .i64 (nums.getD j 0)) := fun j hj => by
              rw [World.cell?_of_block (w := wi) (a := ⟨nb, j, none⟩) (hsp.block nb hnsi (fun hm => by
                rcases List.mem_cons.1 hm with h | h
                · exact hn1b h
                · exact hn2b (List.mem_singleton.1 h)))]
              exact hcelli j hj
            have hnsj : nb < wj.heap.size := Nat.lt_of_lt_of_le hnsi hsp.size
            go_upto_region 26 with (fail)
            obtain ⟨e0, hRS, h00, h01⟩ := bh.st_two (cap := ncap) (wh.knownW hkn hbelj) hnsj hcellj
            refine Sim.tail_run (fuel := 60) (l := [_]) num mixed (Sim.orCall_ok bh.livesH_ok wh.H_ok) rfl ⟨_, _, rfl, (by assumption), fun _ _ _ h => h⟩ 105 [(8, .slice (some ⟨1, 0, none⟩) 24 Sim.big)] (by kernel_rfl) rfl rfl (fun p hp => ?_) hRS (wh.globs1 h00) (fun w' hb => ⟨rfl, hbelj.trans (hb.mono hbelj.size)⟩)
            obtain rfl := List.mem_singleton.1 hp
            exact ⟨_, rfl, nb, ncap, h01, rfl, rfl, fun _ => hncap⟩
        
      | false =>
        obtain ⟨wS, hwS⟩ : ∃ x, x = wr := ⟨_, rfl⟩
        subst hwS
        have hlogS := hlog
        have hownS := hown
        have hbelS := hbel
        have hszS := hsz
        clear hown hlog hbel hsz
        obtain ⟨r0, hr0⟩ : ∃ x, x = k := ⟨_, rfl⟩
        subst hr0
        go_wp2_with fail
        refine (bh.c_log _).mono ?_
        rintro e wT ⟨⟨nb, ncap, rfl, hncap, hnlo, hnhi, hnb⟩, hbT⟩
        have hlogT : IsLog wT lb kb (W r0) false := hlogS.grown (grown_of_below (row := none) hbT) (by simp) (by simp)
        have hownT := hownS.kept (grown_of_below (row := none) hbT) (Classical.em _)
        have hbelT := hbelS.trans (hbT.mono hbelS.size)
        have hszT := hbT.size
        have hnbv : ∀ v n xs, wS.ownsRow w1.heap.size 3 1 v n xs → v.ownBlock ≠ some nb := fun v n xs h he => by have := (h.lt _ he).2; omega
        have hnbv := hnbv _ _ _ hownS
        have hl256 := hlogS.len
        go_wp2
        go_loopw [6, 9, 10] (fun v n i wt => ∃ k m : Nat, k ≤ 24 ∧ m ≤ k ∧ i = .int .i64 k ∧ n = .int .i64 m ∧ m + (W r0).length = (adds false (W r0) (nums.take k)).length ∧ wt.ownsRow w1.heap.size 3 1 v (adds false (W r0) (nums.take k)).length ((adds false (W r0) (nums.take k)).map (Value.int .i64)) ∧ v.ownBlock ≠ some nb ∧ (∀ j, j < 24 → wt.cell? ⟨nb, j, none⟩ = some (.int .i64 (nums.getD j 0))) ∧ IsLog wt lb kb (W r0) false ∧ Below w.heap.size w wt ∧ nb < wt.heap.size) (fun _ _ i _ => 24 - (intOf i).toNat)
        case atStart => exact ⟨0, 0, by omega, by omega, rfl, rfl, by simp [adds], by simpa [adds] using hownT, hnbv, hnb, hlogT, hbelT, hnhi⟩
        case round =>
          obtain ⟨k, m, hk, hm, rfl, rfl, hml, hown, hvn, hcell, hlog, hbel, hsz⟩ := hrel
          obtain ⟨ao, cp, rfl⟩ := owns_slice hown
          by_cases hkl : k < 24
          · have hstep := adds_step false (W r0) nums k hkl
            have hck := hcell k hkl
            by_cases hroom : false = false ∧ (adds false (W r0) (nums.take k)).length < 256
            · have hr := hroom.2
              rw [show add false (adds false (W r0) (nums.take k)) (nums.getD k 0) = adds false (W r0) (nums.take k) ++ [nums.getD k 0] by unfold add; rw [if_pos hroom]] at hstep
              have hsl : (adds false (W r0) (nums.take (k + 1))).length = (adds false (W r0) (nums.take k)).length + 1 := by rw [hstep]; simp
              first
                | (exact absurd hroom.1 (by decide))
                | (go_wp2_with (at_builtin; refine wpList_append_own_at _ rfl _ _ 50 rfl w1.heap.size 3 i0 (.int .i64 0) 1 8 Tryz.underlying50 hi hz0 hz1 hz2 rfl (by decide) _ _ _ rfl (hown.alloc _) ⟨wr.heap.size, 0, none⟩ 1 1 [.int .i64 (nums.getD k 0)] rfl rfl (cell_one_new _ _ _) (one_int _) (by unfold maxLen; omega) (by omega) (by simp; omega) ?_; intro v' w3 hown3 hgr3 hnil hat)
                   have hblk := hgr3.block nb (by simp; omega) (fun e => hvn e.symm)
                   have hcell3 : ∀ j, j < 24 → w3.cell? ⟨nb, j, none⟩ = some (.int .i64 (nums.getD j 0)) := fun j hj => by
                     rw [World.cell?_of_block (a := ⟨nb, j, none⟩) hblk, World.cell?_alloc_lt _ _ _ hsz]
                     exact hcell j hj
                   have hlog3 := kept_log hown hlog hlb hkb hgr3
                   have hbel3 := kept_below hown hbel hB hbel.size hgr3
                   have hsz3 := hgr3.size
                   have hvn3 : v'.ownBlock ≠ some nb := by
                     rcases hat with hat | hat
                     · rw [hat]; exact hvn
                     · rw [hat]; intro e; simp at e; omega
                   go_roundw
                   case rel => exact ⟨k + 1, m + 1, by omega, by omega, by go_num, by go_num, by omega, by rw [hstep]; simpa using hown3, hvn3, hcell3, hlog3, hbel3, by simp at hsz3; omega⟩
                   case measure => simp [intOf]; omega)
            · rw [show add false (adds false (W r0) (nums.take k)) (nums.getD k 0) = adds false (W r0) (nums.take k) by unfold add; rw [if_neg hroom]] at hstep
              have hroom2 : false = false → 256 ≤ (adds false (W r0) (nums.take k)).length := fun h => Nat.le_of_not_lt (fun h2 => hroom ⟨h, h2⟩)
              first | (have hroom3 := hroom2 rfl) | skip
              go_wp2
              go_roundw
              case rel => exact ⟨k + 1, m, by omega, by omega, by go_num, rfl, by rw [hstep]; exact hml, by rw [hstep]; exact hown, hvn, hcell, hlog, hbel, hsz⟩
              case measure => simp [intOf]; omega
          · have : k = 24 := by omega
            have hzl := zero_log
            have hall : nums.take k = nums := by rw [this]; rfl
            rw [hall] at hown hml
            clear hall
            subst this
            go_wp2_with fail
            refine (begin_log lb kb _ _ _ hlog).mono ?_
            rintro e wa ⟨ma, rfl, hma, hloga, hgra⟩
            obtain rfl : ma = m := Nat.add_right_cancel (hma.trans hml.symm)
            have howna := hown.kept hgra (owns_far hown hkb)
            have hnba : nb ≠ kb := fun h => by have := hlogS.kb_lt; omega
            have hcella : ∀ j, j < 24 → wa.cell? ⟨nb, j, none⟩ = some (.int .i64 (nums.getD j 0)) := fun j hj => hgra.cell (hcell j hj) (fun h => hnba (Option.some.inj h))
            have hbela := hbel.grown hgra hbel.size (fun j hj => by cases hj; exact hkb0)
            have hnsa : nb < wa.heap.size := Nat.lt_of_lt_of_le hsz hgra.size
            clear hcell hgra hbel hsz hlog hown
            go_wp2_with fail
            refine (list_any lb kb _ _ _ hloga).mono ?_
            rintro e wb ⟨vb, rfl, hownb, hgrb⟩
            have hownc := howna.kept hgrb (Classical.em _)
            have hlogb := hloga.grown hgrb (by simp) (by simp)
            have hcellb : ∀ j, j < 24 → wb.cell? ⟨nb, j, none⟩ = some (.int .i64 (nums.getD j 0)) := fun j hj => hgrb.cell (hcella j hj) (by simp)
            have hbelb := hbela.grown hgrb hbela.size (fun j hj => by cases hj)
            have hnsb : nb < wb.heap.size := Nat.lt_of_lt_of_le hnsa hgrb.size
            clear hcella hgrb hbela hnsa hloga howna
            go_wp2_with fail
            refine (same_true _ _ _ _ (Ints.of_owns hownb) (Ints.of_owns hownc)).mono ?_
            rintro e wc ⟨rfl, hdc⟩
            have hlogc := hlogb.heap hdc.1
            have hcellc : ∀ j, j < 24 → wc.cell? ⟨nb, j, none⟩ = some (.int .i64 (nums.getD j 0)) := fun j hj => (hdc.cell _).trans (hcellb j hj)
            have hbelc := hbelb.grown (hdc.grown none) hbelb.size (fun j hj => by cases hj)
            have hnsc : nb < wc.heap.size := by rw [hdc.1]; exact hnsb
            clear hcellb hdc hbelb hnsb hlogb hownb hownc
            go_wp2_with fail
            refine (closed_any lb kb _ _ _ hlogc).mono ?_
            rintro e wd ⟨rfl, hd⟩
            have hd := hd.symm
            subst hd
            have hadds : adds true (adds false (W r0) nums) nums = adds false (W r0) nums := adds_true _ _
            go_wp2_with fail
            refine (begin_log lb kb _ _ _ hlogc).mono ?_
            rintro e we ⟨me, rfl, hme, hloge, hgre⟩
            rw [hadds] at hme
            obtain rfl : me = 0 := by omega
            have hcelle : ∀ j, j < 24 → we.cell? ⟨nb, j, none⟩ = some (.int .i64 (nums.getD j 0)) := fun j hj => hgre.cell (hcellc j hj) (fun h => hnba (Option.some.inj h))
            have hbele := hbelc.grown hgre hbelc.size (fun j hj => by cases hj; exact hkb0)
            have hnse : nb < we.heap.size := Nat.lt_of_lt_of_le hnsc hgre.size
            clear hcellc hbelc hnsc hlogc hloge hme hgre
            go_wp2_with fail
            refine (begin_no _ _ (.inl rfl)).mono ?_
            rintro e wd ⟨rfl, hd⟩
            have hd := hd.symm
            subst hd
            go_wp2_with fail
            have hc0 : (we.alloc (.cells #[.pointer none] 115)).cell? ⟨we.heap.size, 0, none⟩ = some (.pointer none) := by rw [World.cell?_alloc_new]; rfl
            refine (begin_no _ _ (.inr ⟨_, rfl, hc0⟩)).mono ?_
            rintro e wd ⟨rfl, hd⟩
            have hd := hd.symm
            subst hd
            have hbelf := hbele.alloc hbele.size (.cells #[.pointer none] 115)
            have hcellf : ∀ j, j < 24 → (we.alloc (.cells #[.pointer none] 115)).cell? ⟨nb, j, none⟩ = some (.int .i64 (nums.getD j 0)) := fun j hj => by rw [World.cell?_alloc_lt _ _ _ hnse]; exact hcelle j hj
            have hnsf : nb < (we.alloc (.cells #[.pointer none] 115)).heap.size := by simp; omega
            have hwf := hbelf.size
            clear hcelle hbele hnse hc0
            go_wp2_with fail
            refine (bh.c_wlog _).mono ?_
            rintro e wf ⟨⟨n1, c1, rfl, hn1, hl1, ht1⟩, hb1⟩
            have hbelg := hbelf.trans (hb1.mono hbelf.size)
            have hcellg : ∀ j, j < 24 → wf.cell? ⟨nb, j, none⟩ = some (.int .i64 (nums.getD j 0)) := fun j hj => (hb1.cell (p := ⟨nb, j, none⟩) hnsf).trans (hcellf j hj)
            have hnsg : nb < wf.heap.size := Nat.lt_of_lt_of_le hnsf hb1.size
            have hn1b : nb ≠ n1 := by omega
            clear hcellf hbelf hb1
            have hnI : Ints wf (.slice (some ⟨nb, 0, none⟩) 24 ncap) nums := ⟨some ⟨nb, 0, none⟩, ncap, rfl, fun i hi => ⟨nb, rfl, fun j hj => hcellg j hj⟩, by unfold maxLen; decide⟩
            go_wp2_with fail
            refine (same_true nums _ _ _ ht1.ints hnI).mono ?_
            rintro e wg ⟨rfl, hdg⟩
            have hbB : Below wf.heap.size wf wg := ⟨hdg.2.1, hdg.2.2.1, hdg.2.2.2, by rw [hdg.1]; exact Nat.le_refl _, fun k _ => by rw [hdg.1]⟩
            have ht2 := ht1.kept hbB
            have hcellh : ∀ j, j < 24 → wg.cell? ⟨nb, j, none⟩ = some (.int .i64 (nums.getD j 0)) := fun j hj => (hdg.cell _).trans (hcellg j hj)
            have hbelh := hbelg.trans (hbB.mono hbelg.size)
            have hnsh : nb < wg.heap.size := by rw [hdg.1]; exact hnsg
            clear hcellg hbelg hbB hdg ht1 hnsg hnI hl1
            go_wp2_with fail
            refine (bh.c_wlog _).mono ?_
            rintro e wi ⟨⟨n2, c2, rfl, hn2, hl2, ht3⟩, hb2⟩
            have ht4 := ht2.kept hb2
            have hn12 : n1 ≠ n2 := by have := ht2.lt; omega
            have hn2b : nb ≠ n2 := by omega
            have hbeli := hbelh.trans (hb2.mono hbelh.size)
            have hcelli : ∀ j, j < 24 → wi.cell? ⟨nb, j, none⟩ = some (.int .i64 (nums.getD j 0)) := fun j hj => (hb2.cell (p := ⟨nb, j, none⟩) hnsh).trans (hcellh j hj)
            have hnsi : nb < wi.heap.size := Nat.lt_of_lt_of_le hnsh hb2.size
            have hn1w : w.heap.size ≤ n1 := Nat.le_trans hwf hn1
            have hn2w : w.heap.size ≤ n2 := Nat.le_trans hbelh.size hn2
            clear hcellh hbelh hb2 hnsh ht2 hl2 hn1 hn2
            go_wp2_with fail
            refine (bh.c_apart ht4 ht3 hn12).mono ?_
            rintro e wj ⟨rfl, hsp⟩
            have hbelj : Below w.heap.size w wj := hbeli.trans (hsp.below hbeli.size (fun b hb => by
              rcases List.mem_cons.1 hb with rfl | hb
              · exact hn1w
              · obtain rfl := List.mem_singleton.1 hb
                exact hn2w))
            have hcellj : ∀ j, j < 24 → wj.cell? ⟨nb, j, none⟩ = some (.int .i64 (nums.getD j 0)) := fun j hj => by
              rw [World.cell?_of_block (w := wi) (a := ⟨nb, j, none⟩) (hsp.block nb hnsi (fun hm => by
                rcases List.mem_cons.1 hm with h | h
                · exact hn1b h
                · exact hn2b (List.mem_singleton.1 h)))]
              exact hcelli j hj
            have hnsj : nb < wj.heap.size := Nat.lt_of_lt_of_le hnsi hsp.size
            go_upto_region 26 with (fail)
            obtain ⟨e0, hRS, h00, h01⟩ := bh.st_two (cap := ncap) (wh.knownW hkn hbelj) hnsj hcellj
            refine Sim.tail_run (fuel := 60) (l := [_]) num mixed (Sim.orCall_ok bh.livesH_ok wh.H_ok) rfl ⟨_, _, rfl, (by assumption), fun _ _ _ h => h⟩ 105 [(8, .slice (some ⟨1, 0, none⟩) 24 Sim.big)] (by kernel_rfl) rfl rfl (fun p hp => ?_) hRS (wh.globs1 h00) (fun w' hb => ⟨rfl, hbelj.trans (hb.mono hbelj.size)⟩)
            obtain rfl := List.mem_singleton.1 hp
            exact ⟨_, rfl, nb, ncap, h01, rfl, rfl, fun _ => hncap⟩
        


set_option maxRecDepth 100000 in
theorem lifted (os : Os) (started : os.Started) (H : Type) (enc : TypeId × Value → H) :
    ReturnsInHanded {} Tryz.checked os 9 .any (fun w args => (Rows.wholeBeginsSpec.pre enc Tryz.prog Tryz.f9 Rows.wholeBeginsRow.domain false w args ∧ laidMetH Tryz.prog Rows.wholeBeginsRow.laid w) ∧ sizedMet enc Tryz.prog Tryz.f9 (OpenSpec.ofChange Rows.wholeBeginsSpec) false w args)
      (Rows.wholeBeginsSpec.post enc Tryz.prog Tryz.f9 false true false false) := by
  refine returnsInHanded_of_change_and (C := Tryz.checked) (X := fun w _ => laidMetH Tryz.prog Rows.wholeBeginsRow.laid w) (fun _ _ _ hh h => h.of_heap hh) own started (by kernel_rfl) Tryz.func9
    (ChangeSpec.witness_shaped (enc := enc) (C := Tryz.checked) (os := os) (X := fun w _ => laidMetH Tryz.prog Rows.wholeBeginsRow.laid w) false (World.laidAll Tryz.prog os Rows.wholeBeginsRow.laid) #[.int .i64 0, .bool false] 8 (World.laidAll_os _ _ _)
      (World.shaped_of_ZipB (by kernel_rfl) (by kernel_rfl)) (by kernel_rfl) (by kernel_rfl) (by kernel_rfl)
      (by rw [MakeChecks.laidMetH_plain _ _ _ (by kernel_rfl)]; exact laidMet_laidAll _ (by kernel_rfl) (by kernel_rfl))) ?_
  intro W base args ds gs before hval0 hW _ _ hL _
  have hval : ∀ (j : Nat) t v, Tryz.f9.params[j]? = some t → args[j]? = some v → Value.okWide Tryz.prog W .any base t v := hval0
  have hW' := hW
  obtain ⟨p, q, hA0, hV, rfl, hfz, hnd⟩ := hW
  have hA : DataW.TrodAll enc Tryz.prog W 0 (fun _ => true) true Tryz.f9.params.toList args.toList ds p := hA0
  rw [Tryz.params9] at hA hval
  obtain ⟨v0, vs0, d0, ds0, p0, q0, hargs, rfl, rfl, h0, r0⟩ := trodAll_cons hA
  obtain ⟨v1, vs1, d1, ds1, p1, q1, rfl, rfl, rfl, h1, r1⟩ := trodAll_cons r0
  obtain ⟨rfl, rfl, rfl⟩ := trodAll_nil r1
  obtain rfl : args = #[v0, v1] := by cases args; simp_all
  obtain ⟨rfl, rfl⟩ := trodVars_none hV
  obtain ⟨a0, rfl, rfl, rfl, w0⟩ := open_int Tryz.underlying3 (hval 0 3 v0 rfl rfl) h0
  obtain ⟨a1, rfl, rfl, rfl⟩ := open_bool Tryz.underlying4 (hval 1 4 v1 rfl rfl) h1
  clear hA0 hval0
  simp only [List.append_nil] at hW'
  refine (walk a0 a1 w0 W (kn.known3 rfl rfl hL)).mono fun e W' ⟨he, bel⟩ => ?_
  subst he
  exact ⟨_, rfl, _, _, _, [], _, [], hW', trodAll_mk1 (shut_bool Tryz.underlying4 _), (trodAll_cons_mk (shut_int Tryz.underlying3 w0) (trodAll_cons_mk (shut_bool Tryz.underlying4 _) trodAll_mk0)), rfl, bel.frame _, fun h => by cases h⟩

theorem over : Rows.wholeBeginsRow.holds Tryz.pinned (OpenSpec.ofChange Rows.wholeBeginsSpec) :=
  OpenClaim.holds_of_wide 9 Tryz.f9 rfl rfl rfl rfl rfl rfl rfl ⟨rfl, rfl, rfl, rfl, rfl⟩ rfl rfl rfl rfl rfl (by kernel_rfl) Tryz.func9 (by kernel_rfl)
    (of_decide_eq_true (by kernel_rfl)) (by unfold Func.isWrapper; first | (rw [if_pos (by decide +kernel)]; kernel_rfl) | (rw [if_neg (by decide +kernel)]; exact ⟨rfl, rfl⟩))
    (fun os started H enc _ => lifted os started H enc)
end Go.Proofs.YtecmlefiajhajaaGreatDoor.wholeBegins
namespace Go.Proofs.YtecmlefiajhajaaGreatDoor
theorem WholeBeginsCardHolds : Rows.WholeBeginsCardSaid :=
  Claim7.holds_tied_plain_at .later [] [.data, .data, .pinned] true (true, "1abcdf3bde55cf0cf6563ac3d4721f7f4065351a883545310eb66ddb6c9b0853") false wholeBegins.over (fun _ h => by cases h) (by kernel_rfl) (fun _ h => by cases h) wholeBegins_row_tie rfl ⟨rfl, rfl⟩ (by kernel_rfl) rfl
    (fun f fn hf hfn => by
      obtain rfl : f = 9 := Option.some.inj ((show Tryz.prog.funcNamed "gambit/gambitlaw14.WholeBegins" = some 9 by kernel_rfl).symm.trans hf) |>.symm
      obtain rfl : fn = Tryz.f9 := (Option.some.inj (Tryz.func9.symm.trans hfn)).symm
      exact ⟨by kernel_rfl, fun j t ht => by
        rw [Tryz.params9] at ht
        have hm : t ∈ [3, 4] := by simpa using Array.mem_of_getElem? ht
        have hall : ([3, 4].all fun u => !Tryz.prog.wantsStandIn u) = true := by kernel_rfl
        exact (show Tryz.prog.wantsStandIn t = false by simpa using List.all_eq_true.1 hall t hm)⟩)
    (by kernel_rfl)
#print axioms WholeBeginsCardHolds
end Go.Proofs.YtecmlefiajhajaaGreatDoor
