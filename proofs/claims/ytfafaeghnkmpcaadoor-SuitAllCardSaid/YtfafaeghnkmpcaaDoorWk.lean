/- gambitlaw03.walk over the function that suit.All hands back: the suits that have come, up to so many. -/
import Derived.Test.YtfafaeghnkmpcaaDoorOf
import Derived.RangeFuncBox
import Derived.Maps.AppendAt
namespace Go.Proofs.YtfafaeghnkmpcaaDoor.suitWalk
open Go.RowKit Go.Shelf Go.Proofs.YtfafaeghnkmpcaaDoor.suitOf
attribute [local go_sem] Oper.semAt_some
set_option linter.unusedVariables false

theorem notNil (W : World) : (binOp .eql 30 (.func (.func 49) #[] #[]) .nilFunc).run Tryd.prog W = .ok (.bool false) W := by kernel_rfl
theorem infoE : (Tryd.prog.info? 22).map (fun i => (i.zero, i.size, i.bytes)) = some (some (.int .u8 0), 1, 1) := by kernel_rfl


set_option maxRecDepth 100000 in
set_option maxHeartbeats 4000000 in
theorem walk_in1 (F : Fence) (n : Nat) (h18 : F.fn 18) (h49 : F.fn 49) (hro : F.round = none) (hn : 4 ≤ n) (w : World) :
    CallsIn F n Tryd.prog 18 #[.func (.func 49) #[] #[], .int .i64 1] w fun e w' => ∃ v, e = .returned v ∧ w'.ownsRow (w.heap.size + 1) 22 1 v 1 ((upto 1).map (Value.int .u8)) ∧ Below w.heap.size w w' := by
  have h1 : 1 ≤ n := by omega
  obtain ⟨i0, hi, hz0, hz1, hz2⟩ := info_parts infoE
  refine callsIn_of_wp_marks Tryd.func18 rfl h18 ?_ hro
  simp only [Tryd.ntmps18, List.size_toArray, List.length_cons, List.length_nil, Nat.reduceAdd, Nat.reduceSub, Array.replicate_succ, Array.replicate_zero, List.push_toArray, List.append_toArray, List.nil_append, List.cons_append]
  have hnn := notNil
  gi_wp2
  have bM := Boxed.new w 3 (.int .i64 1)
  have bO := Boxed.new (w.alloc (.cells #[.int .i64 1] 3)) 32 (.slice none 0 0)
  rw [World.size_alloc] at bO
  have hB0 : Below w.heap.size w ((w.alloc (.cells #[.int .i64 1] 3)).alloc (.cells #[.slice none 0 0] 32)) := ((Below.refl _ w).alloc (Nat.le_refl _) _).alloc (by simp) _
  refine wpIn_rangeFunc_ownG hro h1 (gf := 49) (lb := #[]) rfl h49 (enters_of Tryd.func49 (by kernel_rfl) rfl)
    (all_stops F (n - 1) h49 hro (by omega) _) walksK_t walksK_b (Below.refl _ _) (fun _ => rfl)
    (fun pre W => ((W.cell? ⟨w.heap.size, 0, none⟩ = some (.int .i64 1) ∧ pre.length < 1) ∧ (∃ v, Boxed W (w.heap.size + 1) 32 v ∧ W.ownsRow (w.heap.size + 1) 22 1 v (pre : List Int).length (pre.map (Value.int .u8)) ∧ (v = .slice none 0 0 ↔ pre = []))) ∧ Below w.heap.size w W)
    (fun c pre W => (((c = .exit 0 ∧ pre.length = 1) ∧ True) ∧ (∃ v, Boxed W (w.heap.size + 1) 32 v ∧ W.ownsRow (w.heap.size + 1) 22 1 v (pre : List Int).length (pre.map (Value.int .u8)) ∧ True)) ∧ Below w.heap.size w W)
    (OwnFrom.and (OwnFrom.and (Own.from (fun s A B row hs hg hr => ⟨cell_kept hs.1 hg hr, hs.2⟩) _) (Own.from (holdsRow_own (w.heap.size + 1) (w.heap.size + 1) 32 22 1 (fun pre : List Int => pre.length) (fun pre => pre.map (Value.int .u8)) (fun pre v => v = .slice none 0 0 ↔ pre = [])) _)) (ownFrom_below (Nat.le_refl _) (by simp; omega)))
    (fun c => OwnFrom.and (OwnFrom.and (Own.from (fun s A B row hs hg hr => hs) _) (Own.from (holdsRow_own (w.heap.size + 1) (w.heap.size + 1) 32 22 1 (fun pre : List Int => pre.length) (fun pre => pre.map (Value.int .u8)) (fun pre v => True)) _)) (ownFrom_below (Nat.le_refl _) (by simp; omega)))
    ⟨⟨⟨(bM.alloc _).cell, by simp⟩, ⟨_, bO, World.ownsRow_nil _ _ _ _, by simp⟩⟩, hB0⟩
    (fun x => { tmps := #[.func (.func 49) #[] #[], .int .i64 1, undef, .pointer (some ⟨w.heap.size, 0, none⟩), .slice none 0 0, .pointer (some ⟨w.heap.size + 1, 0, none⟩), .int .u8 x, .func (.func 49) #[] #[], .bool false, .bool false, .int .i64 1, .bool false, .bool false, undef, .func (.func 49) #[] #[], .int .u8 x, undef, undef, undef, undef, undef, undef, undef, undef, undef], defers := [] }) ?assign ?body ?done ?stop
  case assign =>
    intro l x W K hK
    gi_wp2
    exact hK
  case body =>
    rintro l pre x W ⟨⟨⟨hm, hlen⟩, ⟨v, hv, hrow, hnil⟩⟩, hB⟩ hlt
    have hc := hv.cell
    by_cases hr : pre.length + 1 = 1
    · have hri : (pre.length : Int) + 1 = 1 := by omega
      gi_wp2_with (gi_at_builtin; refine wpListIn_append_own _ rfl _ _ 32 rfl (w.heap.size + 1) 22 i0 (.int .u8 0) 1 1 Tryd.underlying32 hi hz0 hz1 hz2 rfl (by decide) _ _ _ rfl (hrow.alloc _) ⟨W.heap.size, 0, none⟩ 1 1 [.int .u8 x] rfl rfl (cell_one_new _ _ _) (by simp [Value.oneCell']) (by unfold maxLen; omega) (by omega) (by have := hv.lt; simp; omega) ?_; intro v' w1 hown' hgrow _; obtain ⟨g', cap', rfl⟩ := ownsRow_succ hown'; obtain ⟨hv1, hv2, hr2, hk2, hb2⟩ := hv.appended (by decide) hrow (by have := hv.lt; omega) (Nat.le_refl _) hown' hgrow; have hc1 := hv1.cell; have hf1 := hv1.frozen; have hc2 := hv2.cell; have hm2 := (hb2.cell (p := ⟨w.heap.size, 0, none⟩) (by simp)).trans hm; have hm1 := hm2; rw [World.cell?_setCell_other _ _ _ _ (by intro e; injection e with e _ _; omega)] at hm1)
      have hr2 : (w1.setCell ⟨w.heap.size + 1, 0, none⟩ (.slice (some ⟨g', 0, none⟩) (pre.length + 1) cap')).ownsRow (w.heap.size + 1) 22 1 (.slice (some ⟨g', 0, none⟩) (pre.length + 1) cap') (pre ++ [x]).length ((pre ++ [x]).map (Value.int .u8)) := by simpa using hr2
      rw [hr] at hv2 hk2 hb2 hr2
      exact ⟨hk2.from _, ⟨⟨⟨rfl, by rw [List.length_append, List.length_singleton]; exact hr⟩, trivial⟩, ⟨_, hv2, hr2, trivial⟩⟩, hB.trans (hb2.mono (Nat.le_succ _))⟩
    · exact absurd hlen (by omega)
  case done =>
    rintro D ys W hD rfl ⟨⟨⟨hm, hlen⟩, ⟨v, hv, hrow, hnil⟩⟩, hB⟩ hK
    have hc := hv.cell
    exact absurd hlen (by rw [upto_length]; omega)
  case stop =>
    rintro D c pre W hD ⟨k, hk, rfl⟩ ⟨⟨⟨⟨rfl, hlen⟩, -⟩, ⟨v, hv, hrow, -⟩⟩, hB⟩ hK
    rw [upto_length] at hlen hrow
    have hk' : k = 0 := by omega
    subst hk'
    have hc := hv.cell
    gi_wp2
    refine ⟨by simp, .inl ⟨_, _, rfl, run_takeDeferred hK, ?_⟩⟩
    exact ⟨_, results_tmp rfl _ _ _, v, rfl, ownsRow_putObj hrow _ hK rfl, hB.trans (belowK_b (w := w) (Nat.le_refl _) W D _ _ (by simp at hD; omega) hK rfl rfl)⟩


set_option maxRecDepth 100000 in
set_option maxHeartbeats 4000000 in
theorem walk_in2 (F : Fence) (n : Nat) (h18 : F.fn 18) (h49 : F.fn 49) (hro : F.round = none) (hn : 4 ≤ n) (w : World) :
    CallsIn F n Tryd.prog 18 #[.func (.func 49) #[] #[], .int .i64 2] w fun e w' => ∃ v, e = .returned v ∧ w'.ownsRow (w.heap.size + 1) 22 1 v 2 ((upto 2).map (Value.int .u8)) ∧ Below w.heap.size w w' := by
  have h1 : 1 ≤ n := by omega
  obtain ⟨i0, hi, hz0, hz1, hz2⟩ := info_parts infoE
  refine callsIn_of_wp_marks Tryd.func18 rfl h18 ?_ hro
  simp only [Tryd.ntmps18, List.size_toArray, List.length_cons, List.length_nil, Nat.reduceAdd, Nat.reduceSub, Array.replicate_succ, Array.replicate_zero, List.push_toArray, List.append_toArray, List.nil_append, List.cons_append]
  have hnn := notNil
  gi_wp2
  have bM := Boxed.new w 3 (.int .i64 2)
  have bO := Boxed.new (w.alloc (.cells #[.int .i64 2] 3)) 32 (.slice none 0 0)
  rw [World.size_alloc] at bO
  have hB0 : Below w.heap.size w ((w.alloc (.cells #[.int .i64 2] 3)).alloc (.cells #[.slice none 0 0] 32)) := ((Below.refl _ w).alloc (Nat.le_refl _) _).alloc (by simp) _
  refine wpIn_rangeFunc_ownG hro h1 (gf := 49) (lb := #[]) rfl h49 (enters_of Tryd.func49 (by kernel_rfl) rfl)
    (all_stops F (n - 1) h49 hro (by omega) _) walksK_t walksK_b (Below.refl _ _) (fun _ => rfl)
    (fun pre W => ((W.cell? ⟨w.heap.size, 0, none⟩ = some (.int .i64 2) ∧ pre.length < 2) ∧ (∃ v, Boxed W (w.heap.size + 1) 32 v ∧ W.ownsRow (w.heap.size + 1) 22 1 v (pre : List Int).length (pre.map (Value.int .u8)) ∧ (v = .slice none 0 0 ↔ pre = []))) ∧ Below w.heap.size w W)
    (fun c pre W => (((c = .exit 0 ∧ pre.length = 2) ∧ True) ∧ (∃ v, Boxed W (w.heap.size + 1) 32 v ∧ W.ownsRow (w.heap.size + 1) 22 1 v (pre : List Int).length (pre.map (Value.int .u8)) ∧ True)) ∧ Below w.heap.size w W)
    (OwnFrom.and (OwnFrom.and (Own.from (fun s A B row hs hg hr => ⟨cell_kept hs.1 hg hr, hs.2⟩) _) (Own.from (holdsRow_own (w.heap.size + 1) (w.heap.size + 1) 32 22 1 (fun pre : List Int => pre.length) (fun pre => pre.map (Value.int .u8)) (fun pre v => v = .slice none 0 0 ↔ pre = [])) _)) (ownFrom_below (Nat.le_refl _) (by simp; omega)))
    (fun c => OwnFrom.and (OwnFrom.and (Own.from (fun s A B row hs hg hr => hs) _) (Own.from (holdsRow_own (w.heap.size + 1) (w.heap.size + 1) 32 22 1 (fun pre : List Int => pre.length) (fun pre => pre.map (Value.int .u8)) (fun pre v => True)) _)) (ownFrom_below (Nat.le_refl _) (by simp; omega)))
    ⟨⟨⟨(bM.alloc _).cell, by simp⟩, ⟨_, bO, World.ownsRow_nil _ _ _ _, by simp⟩⟩, hB0⟩
    (fun x => { tmps := #[.func (.func 49) #[] #[], .int .i64 2, undef, .pointer (some ⟨w.heap.size, 0, none⟩), .slice none 0 0, .pointer (some ⟨w.heap.size + 1, 0, none⟩), .int .u8 x, .func (.func 49) #[] #[], .bool false, .bool false, .int .i64 2, .bool false, .bool false, undef, .func (.func 49) #[] #[], .int .u8 x, undef, undef, undef, undef, undef, undef, undef, undef, undef], defers := [] }) ?assign ?body ?done ?stop
  case assign =>
    intro l x W K hK
    gi_wp2
    exact hK
  case body =>
    rintro l pre x W ⟨⟨⟨hm, hlen⟩, ⟨v, hv, hrow, hnil⟩⟩, hB⟩ hlt
    have hc := hv.cell
    by_cases hr : pre.length + 1 = 2
    · have hri : (pre.length : Int) + 1 = 2 := by omega
      gi_wp2_with (gi_at_builtin; refine wpListIn_append_own _ rfl _ _ 32 rfl (w.heap.size + 1) 22 i0 (.int .u8 0) 1 1 Tryd.underlying32 hi hz0 hz1 hz2 rfl (by decide) _ _ _ rfl (hrow.alloc _) ⟨W.heap.size, 0, none⟩ 1 1 [.int .u8 x] rfl rfl (cell_one_new _ _ _) (by simp [Value.oneCell']) (by unfold maxLen; omega) (by omega) (by have := hv.lt; simp; omega) ?_; intro v' w1 hown' hgrow _; obtain ⟨g', cap', rfl⟩ := ownsRow_succ hown'; obtain ⟨hv1, hv2, hr2, hk2, hb2⟩ := hv.appended (by decide) hrow (by have := hv.lt; omega) (Nat.le_refl _) hown' hgrow; have hc1 := hv1.cell; have hf1 := hv1.frozen; have hc2 := hv2.cell; have hm2 := (hb2.cell (p := ⟨w.heap.size, 0, none⟩) (by simp)).trans hm; have hm1 := hm2; rw [World.cell?_setCell_other _ _ _ _ (by intro e; injection e with e _ _; omega)] at hm1)
      have hr2 : (w1.setCell ⟨w.heap.size + 1, 0, none⟩ (.slice (some ⟨g', 0, none⟩) (pre.length + 1) cap')).ownsRow (w.heap.size + 1) 22 1 (.slice (some ⟨g', 0, none⟩) (pre.length + 1) cap') (pre ++ [x]).length ((pre ++ [x]).map (Value.int .u8)) := by simpa using hr2
      rw [hr] at hv2 hk2 hb2 hr2
      exact ⟨hk2.from _, ⟨⟨⟨rfl, by rw [List.length_append, List.length_singleton]; exact hr⟩, trivial⟩, ⟨_, hv2, hr2, trivial⟩⟩, hB.trans (hb2.mono (Nat.le_succ _))⟩
    · have hri : ¬ (pre.length : Int) + 1 = 2 := by omega
      gi_wp2_with (gi_at_builtin; refine wpListIn_append_own _ rfl _ _ 32 rfl (w.heap.size + 1) 22 i0 (.int .u8 0) 1 1 Tryd.underlying32 hi hz0 hz1 hz2 rfl (by decide) _ _ _ rfl (hrow.alloc _) ⟨W.heap.size, 0, none⟩ 1 1 [.int .u8 x] rfl rfl (cell_one_new _ _ _) (by simp [Value.oneCell']) (by unfold maxLen; omega) (by omega) (by have := hv.lt; simp; omega) ?_; intro v' w1 hown' hgrow _; obtain ⟨g', cap', rfl⟩ := ownsRow_succ hown'; obtain ⟨hv1, hv2, hr2, hk2, hb2⟩ := hv.appended (by decide) hrow (by have := hv.lt; omega) (Nat.le_refl _) hown' hgrow; have hc1 := hv1.cell; have hf1 := hv1.frozen; have hc2 := hv2.cell; have hm2 := (hb2.cell (p := ⟨w.heap.size, 0, none⟩) (by simp)).trans hm; have hm1 := hm2; rw [World.cell?_setCell_other _ _ _ _ (by intro e; injection e with e _ _; omega)] at hm1)
      exact ⟨hk2.from _, hk2.walks, ⟨⟨hm2, by rw [List.length_append, List.length_singleton]; omega⟩, ⟨_, hv2, by simpa using hr2, by simp⟩⟩, hB.trans (hb2.mono (Nat.le_succ _))⟩
  case done =>
    rintro D ys W hD rfl ⟨⟨⟨hm, hlen⟩, ⟨v, hv, hrow, hnil⟩⟩, hB⟩ hK
    have hc := hv.cell
    exact absurd hlen (by rw [upto_length]; omega)
  case stop =>
    rintro D c pre W hD ⟨k, hk, rfl⟩ ⟨⟨⟨⟨rfl, hlen⟩, -⟩, ⟨v, hv, hrow, -⟩⟩, hB⟩ hK
    rw [upto_length] at hlen hrow
    have hk' : k = 1 := by omega
    subst hk'
    have hc := hv.cell
    gi_wp2
    refine ⟨by simp, .inl ⟨_, _, rfl, run_takeDeferred hK, ?_⟩⟩
    exact ⟨_, results_tmp rfl _ _ _, v, rfl, ownsRow_putObj hrow _ hK rfl, hB.trans (belowK_b (w := w) (Nat.le_refl _) W D _ _ (by simp at hD; omega) hK rfl rfl)⟩


set_option maxRecDepth 100000 in
set_option maxHeartbeats 4000000 in
theorem walk_in3 (F : Fence) (n : Nat) (h18 : F.fn 18) (h49 : F.fn 49) (hro : F.round = none) (hn : 4 ≤ n) (w : World) :
    CallsIn F n Tryd.prog 18 #[.func (.func 49) #[] #[], .int .i64 3] w fun e w' => ∃ v, e = .returned v ∧ w'.ownsRow (w.heap.size + 1) 22 1 v 3 ((upto 3).map (Value.int .u8)) ∧ Below w.heap.size w w' := by
  have h1 : 1 ≤ n := by omega
  obtain ⟨i0, hi, hz0, hz1, hz2⟩ := info_parts infoE
  refine callsIn_of_wp_marks Tryd.func18 rfl h18 ?_ hro
  simp only [Tryd.ntmps18, List.size_toArray, List.length_cons, List.length_nil, Nat.reduceAdd, Nat.reduceSub, Array.replicate_succ, Array.replicate_zero, List.push_toArray, List.append_toArray, List.nil_append, List.cons_append]
  have hnn := notNil
  gi_wp2
  have bM := Boxed.new w 3 (.int .i64 3)
  have bO := Boxed.new (w.alloc (.cells #[.int .i64 3] 3)) 32 (.slice none 0 0)
  rw [World.size_alloc] at bO
  have hB0 : Below w.heap.size w ((w.alloc (.cells #[.int .i64 3] 3)).alloc (.cells #[.slice none 0 0] 32)) := ((Below.refl _ w).alloc (Nat.le_refl _) _).alloc (by simp) _
  refine wpIn_rangeFunc_ownG hro h1 (gf := 49) (lb := #[]) rfl h49 (enters_of Tryd.func49 (by kernel_rfl) rfl)
    (all_stops F (n - 1) h49 hro (by omega) _) walksK_t walksK_b (Below.refl _ _) (fun _ => rfl)
    (fun pre W => ((W.cell? ⟨w.heap.size, 0, none⟩ = some (.int .i64 3) ∧ pre.length < 3) ∧ (∃ v, Boxed W (w.heap.size + 1) 32 v ∧ W.ownsRow (w.heap.size + 1) 22 1 v (pre : List Int).length (pre.map (Value.int .u8)) ∧ (v = .slice none 0 0 ↔ pre = []))) ∧ Below w.heap.size w W)
    (fun c pre W => (((c = .exit 0 ∧ pre.length = 3) ∧ True) ∧ (∃ v, Boxed W (w.heap.size + 1) 32 v ∧ W.ownsRow (w.heap.size + 1) 22 1 v (pre : List Int).length (pre.map (Value.int .u8)) ∧ True)) ∧ Below w.heap.size w W)
    (OwnFrom.and (OwnFrom.and (Own.from (fun s A B row hs hg hr => ⟨cell_kept hs.1 hg hr, hs.2⟩) _) (Own.from (holdsRow_own (w.heap.size + 1) (w.heap.size + 1) 32 22 1 (fun pre : List Int => pre.length) (fun pre => pre.map (Value.int .u8)) (fun pre v => v = .slice none 0 0 ↔ pre = [])) _)) (ownFrom_below (Nat.le_refl _) (by simp; omega)))
    (fun c => OwnFrom.and (OwnFrom.and (Own.from (fun s A B row hs hg hr => hs) _) (Own.from (holdsRow_own (w.heap.size + 1) (w.heap.size + 1) 32 22 1 (fun pre : List Int => pre.length) (fun pre => pre.map (Value.int .u8)) (fun pre v => True)) _)) (ownFrom_below (Nat.le_refl _) (by simp; omega)))
    ⟨⟨⟨(bM.alloc _).cell, by simp⟩, ⟨_, bO, World.ownsRow_nil _ _ _ _, by simp⟩⟩, hB0⟩
    (fun x => { tmps := #[.func (.func 49) #[] #[], .int .i64 3, undef, .pointer (some ⟨w.heap.size, 0, none⟩), .slice none 0 0, .pointer (some ⟨w.heap.size + 1, 0, none⟩), .int .u8 x, .func (.func 49) #[] #[], .bool false, .bool false, .int .i64 3, .bool false, .bool false, undef, .func (.func 49) #[] #[], .int .u8 x, undef, undef, undef, undef, undef, undef, undef, undef, undef], defers := [] }) ?assign ?body ?done ?stop
  case assign =>
    intro l x W K hK
    gi_wp2
    exact hK
  case body =>
    rintro l pre x W ⟨⟨⟨hm, hlen⟩, ⟨v, hv, hrow, hnil⟩⟩, hB⟩ hlt
    have hc := hv.cell
    by_cases hr : pre.length + 1 = 3
    · have hri : (pre.length : Int) + 1 = 3 := by omega
      gi_wp2_with (gi_at_builtin; refine wpListIn_append_own _ rfl _ _ 32 rfl (w.heap.size + 1) 22 i0 (.int .u8 0) 1 1 Tryd.underlying32 hi hz0 hz1 hz2 rfl (by decide) _ _ _ rfl (hrow.alloc _) ⟨W.heap.size, 0, none⟩ 1 1 [.int .u8 x] rfl rfl (cell_one_new _ _ _) (by simp [Value.oneCell']) (by unfold maxLen; omega) (by omega) (by have := hv.lt; simp; omega) ?_; intro v' w1 hown' hgrow _; obtain ⟨g', cap', rfl⟩ := ownsRow_succ hown'; obtain ⟨hv1, hv2, hr2, hk2, hb2⟩ := hv.appended (by decide) hrow (by have := hv.lt; omega) (Nat.le_refl _) hown' hgrow; have hc1 := hv1.cell; have hf1 := hv1.frozen; have hc2 := hv2.cell; have hm2 := (hb2.cell (p := ⟨w.heap.size, 0, none⟩) (by simp)).trans hm; have hm1 := hm2; rw [World.cell?_setCell_other _ _ _ _ (by intro e; injection e with e _ _; omega)] at hm1)
      have hr2 : (w1.setCell ⟨w.heap.size + 1, 0, none⟩ (.slice (some ⟨g', 0, none⟩) (pre.length + 1) cap')).ownsRow (w.heap.size + 1) 22 1 (.slice (some ⟨g', 0, none⟩) (pre.length + 1) cap') (pre ++ [x]).length ((pre ++ [x]).map (Value.int .u8)) := by simpa using hr2
      rw [hr] at hv2 hk2 hb2 hr2
      exact ⟨hk2.from _, ⟨⟨⟨rfl, by rw [List.length_append, List.length_singleton]; exact hr⟩, trivial⟩, ⟨_, hv2, hr2, trivial⟩⟩, hB.trans (hb2.mono (Nat.le_succ _))⟩
    · have hri : ¬ (pre.length : Int) + 1 = 3 := by omega
      gi_wp2_with (gi_at_builtin; refine wpListIn_append_own _ rfl _ _ 32 rfl (w.heap.size + 1) 22 i0 (.int .u8 0) 1 1 Tryd.underlying32 hi hz0 hz1 hz2 rfl (by decide) _ _ _ rfl (hrow.alloc _) ⟨W.heap.size, 0, none⟩ 1 1 [.int .u8 x] rfl rfl (cell_one_new _ _ _) (by simp [Value.oneCell']) (by unfold maxLen; omega) (by omega) (by have := hv.lt; simp; omega) ?_; intro v' w1 hown' hgrow _; obtain ⟨g', cap', rfl⟩ := ownsRow_succ hown'; obtain ⟨hv1, hv2, hr2, hk2, hb2⟩ := hv.appended (by decide) hrow (by have := hv.lt; omega) (Nat.le_refl _) hown' hgrow; have hc1 := hv1.cell; have hf1 := hv1.frozen; have hc2 := hv2.cell; have hm2 := (hb2.cell (p := ⟨w.heap.size, 0, none⟩) (by simp)).trans hm; have hm1 := hm2; rw [World.cell?_setCell_other _ _ _ _ (by intro e; injection e with e _ _; omega)] at hm1)
      exact ⟨hk2.from _, hk2.walks, ⟨⟨hm2, by rw [List.length_append, List.length_singleton]; omega⟩, ⟨_, hv2, by simpa using hr2, by simp⟩⟩, hB.trans (hb2.mono (Nat.le_succ _))⟩
  case done =>
    rintro D ys W hD rfl ⟨⟨⟨hm, hlen⟩, ⟨v, hv, hrow, hnil⟩⟩, hB⟩ hK
    have hc := hv.cell
    exact absurd hlen (by rw [upto_length]; omega)
  case stop =>
    rintro D c pre W hD ⟨k, hk, rfl⟩ ⟨⟨⟨⟨rfl, hlen⟩, -⟩, ⟨v, hv, hrow, -⟩⟩, hB⟩ hK
    rw [upto_length] at hlen hrow
    have hk' : k = 2 := by omega
    subst hk'
    have hc := hv.cell
    gi_wp2
    refine ⟨by simp, .inl ⟨_, _, rfl, run_takeDeferred hK, ?_⟩⟩
    exact ⟨_, results_tmp rfl _ _ _, v, rfl, ownsRow_putObj hrow _ hK rfl, hB.trans (belowK_b (w := w) (Nat.le_refl _) W D _ _ (by simp at hD; omega) hK rfl rfl)⟩


set_option maxRecDepth 100000 in
set_option maxHeartbeats 4000000 in
theorem walk_in4 (F : Fence) (n : Nat) (h18 : F.fn 18) (h49 : F.fn 49) (hro : F.round = none) (hn : 4 ≤ n) (w : World) :
    CallsIn F n Tryd.prog 18 #[.func (.func 49) #[] #[], .int .i64 4] w fun e w' => ∃ v, e = .returned v ∧ w'.ownsRow (w.heap.size + 1) 22 1 v 4 ((upto 4).map (Value.int .u8)) ∧ Below w.heap.size w w' := by
  have h1 : 1 ≤ n := by omega
  obtain ⟨i0, hi, hz0, hz1, hz2⟩ := info_parts infoE
  refine callsIn_of_wp_marks Tryd.func18 rfl h18 ?_ hro
  simp only [Tryd.ntmps18, List.size_toArray, List.length_cons, List.length_nil, Nat.reduceAdd, Nat.reduceSub, Array.replicate_succ, Array.replicate_zero, List.push_toArray, List.append_toArray, List.nil_append, List.cons_append]
  have hnn := notNil
  gi_wp2
  have bM := Boxed.new w 3 (.int .i64 4)
  have bO := Boxed.new (w.alloc (.cells #[.int .i64 4] 3)) 32 (.slice none 0 0)
  rw [World.size_alloc] at bO
  have hB0 : Below w.heap.size w ((w.alloc (.cells #[.int .i64 4] 3)).alloc (.cells #[.slice none 0 0] 32)) := ((Below.refl _ w).alloc (Nat.le_refl _) _).alloc (by simp) _
  refine wpIn_rangeFunc_ownG hro h1 (gf := 49) (lb := #[]) rfl h49 (enters_of Tryd.func49 (by kernel_rfl) rfl)
    (all_stops F (n - 1) h49 hro (by omega) _) walksK_t walksK_b (Below.refl _ _) (fun _ => rfl)
    (fun pre W => ((W.cell? ⟨w.heap.size, 0, none⟩ = some (.int .i64 4) ∧ pre.length < 4) ∧ (∃ v, Boxed W (w.heap.size + 1) 32 v ∧ W.ownsRow (w.heap.size + 1) 22 1 v (pre : List Int).length (pre.map (Value.int .u8)) ∧ (v = .slice none 0 0 ↔ pre = []))) ∧ Below w.heap.size w W)
    (fun c pre W => (((c = .exit 0 ∧ pre.length = 4) ∧ True) ∧ (∃ v, Boxed W (w.heap.size + 1) 32 v ∧ W.ownsRow (w.heap.size + 1) 22 1 v (pre : List Int).length (pre.map (Value.int .u8)) ∧ True)) ∧ Below w.heap.size w W)
    (OwnFrom.and (OwnFrom.and (Own.from (fun s A B row hs hg hr => ⟨cell_kept hs.1 hg hr, hs.2⟩) _) (Own.from (holdsRow_own (w.heap.size + 1) (w.heap.size + 1) 32 22 1 (fun pre : List Int => pre.length) (fun pre => pre.map (Value.int .u8)) (fun pre v => v = .slice none 0 0 ↔ pre = [])) _)) (ownFrom_below (Nat.le_refl _) (by simp; omega)))
    (fun c => OwnFrom.and (OwnFrom.and (Own.from (fun s A B row hs hg hr => hs) _) (Own.from (holdsRow_own (w.heap.size + 1) (w.heap.size + 1) 32 22 1 (fun pre : List Int => pre.length) (fun pre => pre.map (Value.int .u8)) (fun pre v => True)) _)) (ownFrom_below (Nat.le_refl _) (by simp; omega)))
    ⟨⟨⟨(bM.alloc _).cell, by simp⟩, ⟨_, bO, World.ownsRow_nil _ _ _ _, by simp⟩⟩, hB0⟩
    (fun x => { tmps := #[.func (.func 49) #[] #[], .int .i64 4, undef, .pointer (some ⟨w.heap.size, 0, none⟩), .slice none 0 0, .pointer (some ⟨w.heap.size + 1, 0, none⟩), .int .u8 x, .func (.func 49) #[] #[], .bool false, .bool false, .int .i64 4, .bool false, .bool false, undef, .func (.func 49) #[] #[], .int .u8 x, undef, undef, undef, undef, undef, undef, undef, undef, undef], defers := [] }) ?assign ?body ?done ?stop
  case assign =>
    intro l x W K hK
    gi_wp2
    exact hK
  case body =>
    rintro l pre x W ⟨⟨⟨hm, hlen⟩, ⟨v, hv, hrow, hnil⟩⟩, hB⟩ hlt
    have hc := hv.cell
    by_cases hr : pre.length + 1 = 4
    · have hri : (pre.length : Int) + 1 = 4 := by omega
      gi_wp2_with (gi_at_builtin; refine wpListIn_append_own _ rfl _ _ 32 rfl (w.heap.size + 1) 22 i0 (.int .u8 0) 1 1 Tryd.underlying32 hi hz0 hz1 hz2 rfl (by decide) _ _ _ rfl (hrow.alloc _) ⟨W.heap.size, 0, none⟩ 1 1 [.int .u8 x] rfl rfl (cell_one_new _ _ _) (by simp [Value.oneCell']) (by unfold maxLen; omega) (by omega) (by have := hv.lt; simp; omega) ?_; intro v' w1 hown' hgrow _; obtain ⟨g', cap', rfl⟩ := ownsRow_succ hown'; obtain ⟨hv1, hv2, hr2, hk2, hb2⟩ := hv.appended (by decide) hrow (by have := hv.lt; omega) (Nat.le_refl _) hown' hgrow; have hc1 := hv1.cell; have hf1 := hv1.frozen; have hc2 := hv2.cell; have hm2 := (hb2.cell (p := ⟨w.heap.size, 0, none⟩) (by simp)).trans hm; have hm1 := hm2; rw [World.cell?_setCell_other _ _ _ _ (by intro e; injection e with e _ _; omega)] at hm1)
      have hr2 : (w1.setCell ⟨w.heap.size + 1, 0, none⟩ (.slice (some ⟨g', 0, none⟩) (pre.length + 1) cap')).ownsRow (w.heap.size + 1) 22 1 (.slice (some ⟨g', 0, none⟩) (pre.length + 1) cap') (pre ++ [x]).length ((pre ++ [x]).map (Value.int .u8)) := by simpa using hr2
      rw [hr] at hv2 hk2 hb2 hr2
      exact ⟨hk2.from _, ⟨⟨⟨rfl, by rw [List.length_append, List.length_singleton]; exact hr⟩, trivial⟩, ⟨_, hv2, hr2, trivial⟩⟩, hB.trans (hb2.mono (Nat.le_succ _))⟩
    · have hri : ¬ (pre.length : Int) + 1 = 4 := by omega
      gi_wp2_with (gi_at_builtin; refine wpListIn_append_own _ rfl _ _ 32 rfl (w.heap.size + 1) 22 i0 (.int .u8 0) 1 1 Tryd.underlying32 hi hz0 hz1 hz2 rfl (by decide) _ _ _ rfl (hrow.alloc _) ⟨W.heap.size, 0, none⟩ 1 1 [.int .u8 x] rfl rfl (cell_one_new _ _ _) (by simp [Value.oneCell']) (by unfold maxLen; omega) (by omega) (by have := hv.lt; simp; omega) ?_; intro v' w1 hown' hgrow _; obtain ⟨g', cap', rfl⟩ := ownsRow_succ hown'; obtain ⟨hv1, hv2, hr2, hk2, hb2⟩ := hv.appended (by decide) hrow (by have := hv.lt; omega) (Nat.le_refl _) hown' hgrow; have hc1 := hv1.cell; have hf1 := hv1.frozen; have hc2 := hv2.cell; have hm2 := (hb2.cell (p := ⟨w.heap.size, 0, none⟩) (by simp)).trans hm; have hm1 := hm2; rw [World.cell?_setCell_other _ _ _ _ (by intro e; injection e with e _ _; omega)] at hm1)
      exact ⟨hk2.from _, hk2.walks, ⟨⟨hm2, by rw [List.length_append, List.length_singleton]; omega⟩, ⟨_, hv2, by simpa using hr2, by simp⟩⟩, hB.trans (hb2.mono (Nat.le_succ _))⟩
  case done =>
    rintro D ys W hD rfl ⟨⟨⟨hm, hlen⟩, ⟨v, hv, hrow, hnil⟩⟩, hB⟩ hK
    have hc := hv.cell
    exact absurd hlen (by rw [upto_length]; omega)
  case stop =>
    rintro D c pre W hD ⟨k, hk, rfl⟩ ⟨⟨⟨⟨rfl, hlen⟩, -⟩, ⟨v, hv, hrow, -⟩⟩, hB⟩ hK
    rw [upto_length] at hlen hrow
    have hk' : k = 3 := by omega
    subst hk'
    have hc := hv.cell
    gi_wp2
    refine ⟨by simp, .inl ⟨_, _, rfl, run_takeDeferred hK, ?_⟩⟩
    exact ⟨_, results_tmp rfl _ _ _, v, rfl, ownsRow_putObj hrow _ hK rfl, hB.trans (belowK_b (w := w) (Nat.le_refl _) W D _ _ (by simp at hD; omega) hK rfl rfl)⟩


set_option maxRecDepth 100000 in
set_option maxHeartbeats 4000000 in
theorem walk_in5 (F : Fence) (n : Nat) (h18 : F.fn 18) (h49 : F.fn 49) (hro : F.round = none) (hn : 4 ≤ n) (w : World) :
    CallsIn F n Tryd.prog 18 #[.func (.func 49) #[] #[], .int .i64 5] w fun e w' => ∃ v, e = .returned v ∧ w'.ownsRow (w.heap.size + 1) 22 1 v 5 ((upto 5).map (Value.int .u8)) ∧ Below w.heap.size w w' := by
  have h1 : 1 ≤ n := by omega
  obtain ⟨i0, hi, hz0, hz1, hz2⟩ := info_parts infoE
  refine callsIn_of_wp_marks Tryd.func18 rfl h18 ?_ hro
  simp only [Tryd.ntmps18, List.size_toArray, List.length_cons, List.length_nil, Nat.reduceAdd, Nat.reduceSub, Array.replicate_succ, Array.replicate_zero, List.push_toArray, List.append_toArray, List.nil_append, List.cons_append]
  have hnn := notNil
  gi_wp2
  have bM := Boxed.new w 3 (.int .i64 5)
  have bO := Boxed.new (w.alloc (.cells #[.int .i64 5] 3)) 32 (.slice none 0 0)
  rw [World.size_alloc] at bO
  have hB0 : Below w.heap.size w ((w.alloc (.cells #[.int .i64 5] 3)).alloc (.cells #[.slice none 0 0] 32)) := ((Below.refl _ w).alloc (Nat.le_refl _) _).alloc (by simp) _
  refine wpIn_rangeFunc_ownG hro h1 (gf := 49) (lb := #[]) rfl h49 (enters_of Tryd.func49 (by kernel_rfl) rfl)
    (all_stops F (n - 1) h49 hro (by omega) _) walksK_t walksK_b (Below.refl _ _) (fun _ => rfl)
    (fun pre W => ((W.cell? ⟨w.heap.size, 0, none⟩ = some (.int .i64 5) ∧ pre.length < 5) ∧ (∃ v, Boxed W (w.heap.size + 1) 32 v ∧ W.ownsRow (w.heap.size + 1) 22 1 v (pre : List Int).length (pre.map (Value.int .u8)) ∧ (v = .slice none 0 0 ↔ pre = []))) ∧ Below w.heap.size w W)
    (fun c pre W => (((c = .exit 0 ∧ pre.length = 5) ∧ True) ∧ (∃ v, Boxed W (w.heap.size + 1) 32 v ∧ W.ownsRow (w.heap.size + 1) 22 1 v (pre : List Int).length (pre.map (Value.int .u8)) ∧ True)) ∧ Below w.heap.size w W)
    (OwnFrom.and (OwnFrom.and (Own.from (fun s A B row hs hg hr => ⟨cell_kept hs.1 hg hr, hs.2⟩) _) (Own.from (holdsRow_own (w.heap.size + 1) (w.heap.size + 1) 32 22 1 (fun pre : List Int => pre.length) (fun pre => pre.map (Value.int .u8)) (fun pre v => v = .slice none 0 0 ↔ pre = [])) _)) (ownFrom_below (Nat.le_refl _) (by simp; omega)))
    (fun c => OwnFrom.and (OwnFrom.and (Own.from (fun s A B row hs hg hr => hs) _) (Own.from (holdsRow_own (w.heap.size + 1) (w.heap.size + 1) 32 22 1 (fun pre : List Int => pre.length) (fun pre => pre.map (Value.int .u8)) (fun pre v => True)) _)) (ownFrom_below (Nat.le_refl _) (by simp; omega)))
    ⟨⟨⟨(bM.alloc _).cell, by simp⟩, ⟨_, bO, World.ownsRow_nil _ _ _ _, by simp⟩⟩, hB0⟩
    (fun x => { tmps := #[.func (.func 49) #[] #[], .int .i64 5, undef, .pointer (some ⟨w.heap.size, 0, none⟩), .slice none 0 0, .pointer (some ⟨w.heap.size + 1, 0, none⟩), .int .u8 x, .func (.func 49) #[] #[], .bool false, .bool false, .int .i64 5, .bool false, .bool false, undef, .func (.func 49) #[] #[], .int .u8 x, undef, undef, undef, undef, undef, undef, undef, undef, undef], defers := [] }) ?assign ?body ?done ?stop
  case assign =>
    intro l x W K hK
    gi_wp2
    exact hK
  case body =>
    rintro l pre x W ⟨⟨⟨hm, hlen⟩, ⟨v, hv, hrow, hnil⟩⟩, hB⟩ hlt
    have hc := hv.cell
    by_cases hr : pre.length + 1 = 5
    · have hri : (pre.length : Int) + 1 = 5 := by omega
      gi_wp2_with (gi_at_builtin; refine wpListIn_append_own _ rfl _ _ 32 rfl (w.heap.size + 1) 22 i0 (.int .u8 0) 1 1 Tryd.underlying32 hi hz0 hz1 hz2 rfl (by decide) _ _ _ rfl (hrow.alloc _) ⟨W.heap.size, 0, none⟩ 1 1 [.int .u8 x] rfl rfl (cell_one_new _ _ _) (by simp [Value.oneCell']) (by unfold maxLen; omega) (by omega) (by have := hv.lt; simp; omega) ?_; intro v' w1 hown' hgrow _; obtain ⟨g', cap', rfl⟩ := ownsRow_succ hown'; obtain ⟨hv1, hv2, hr2, hk2, hb2⟩ := hv.appended (by decide) hrow (by have := hv.lt; omega) (Nat.le_refl _) hown' hgrow; have hc1 := hv1.cell; have hf1 := hv1.frozen; have hc2 := hv2.cell; have hm2 := (hb2.cell (p := ⟨w.heap.size, 0, none⟩) (by simp)).trans hm; have hm1 := hm2; rw [World.cell?_setCell_other _ _ _ _ (by intro e; injection e with e _ _; omega)] at hm1)
      have hr2 : (w1.setCell ⟨w.heap.size + 1, 0, none⟩ (.slice (some ⟨g', 0, none⟩) (pre.length + 1) cap')).ownsRow (w.heap.size + 1) 22 1 (.slice (some ⟨g', 0, none⟩) (pre.length + 1) cap') (pre ++ [x]).length ((pre ++ [x]).map (Value.int .u8)) := by simpa using hr2
      rw [hr] at hv2 hk2 hb2 hr2
      exact ⟨hk2.from _, ⟨⟨⟨rfl, by rw [List.length_append, List.length_singleton]; exact hr⟩, trivial⟩, ⟨_, hv2, hr2, trivial⟩⟩, hB.trans (hb2.mono (Nat.le_succ _))⟩
    · have hri : ¬ (pre.length : Int) + 1 = 5 := by omega
      gi_wp2_with (gi_at_builtin; refine wpListIn_append_own _ rfl _ _ 32 rfl (w.heap.size + 1) 22 i0 (.int .u8 0) 1 1 Tryd.underlying32 hi hz0 hz1 hz2 rfl (by decide) _ _ _ rfl (hrow.alloc _) ⟨W.heap.size, 0, none⟩ 1 1 [.int .u8 x] rfl rfl (cell_one_new _ _ _) (by simp [Value.oneCell']) (by unfold maxLen; omega) (by omega) (by have := hv.lt; simp; omega) ?_; intro v' w1 hown' hgrow _; obtain ⟨g', cap', rfl⟩ := ownsRow_succ hown'; obtain ⟨hv1, hv2, hr2, hk2, hb2⟩ := hv.appended (by decide) hrow (by have := hv.lt; omega) (Nat.le_refl _) hown' hgrow; have hc1 := hv1.cell; have hf1 := hv1.frozen; have hc2 := hv2.cell; have hm2 := (hb2.cell (p := ⟨w.heap.size, 0, none⟩) (by simp)).trans hm; have hm1 := hm2; rw [World.cell?_setCell_other _ _ _ _ (by intro e; injection e with e _ _; omega)] at hm1)
      exact ⟨hk2.from _, hk2.walks, ⟨⟨hm2, by rw [List.length_append, List.length_singleton]; omega⟩, ⟨_, hv2, by simpa using hr2, by simp⟩⟩, hB.trans (hb2.mono (Nat.le_succ _))⟩
  case done =>
    rintro D ys W hD rfl ⟨⟨⟨hm, hlen⟩, ⟨v, hv, hrow, hnil⟩⟩, hB⟩ hK
    have hc := hv.cell
    exact absurd hlen (by rw [upto_length]; omega)
  case stop =>
    rintro D c pre W hD ⟨k, hk, rfl⟩ ⟨⟨⟨⟨rfl, hlen⟩, -⟩, ⟨v, hv, hrow, -⟩⟩, hB⟩ hK
    rw [upto_length] at hlen hrow
    have hk' : k = 4 := by omega
    subst hk'
    have hc := hv.cell
    gi_wp2
    refine ⟨by simp, .inl ⟨_, _, rfl, run_takeDeferred hK, ?_⟩⟩
    exact ⟨_, results_tmp rfl _ _ _, v, rfl, ownsRow_putObj hrow _ hK rfl, hB.trans (belowK_b (w := w) (Nat.le_refl _) W D _ _ (by simp at hD; omega) hK rfl rfl)⟩


set_option maxRecDepth 100000 in
set_option maxHeartbeats 4000000 in
theorem walk_in6 (F : Fence) (n : Nat) (h18 : F.fn 18) (h49 : F.fn 49) (hro : F.round = none) (hn : 4 ≤ n) (w : World) :
    CallsIn F n Tryd.prog 18 #[.func (.func 49) #[] #[], .int .i64 6] w fun e w' => ∃ v, e = .returned v ∧ w'.ownsRow (w.heap.size + 1) 22 1 v 6 ((upto 6).map (Value.int .u8)) ∧ Below w.heap.size w w' := by
  have h1 : 1 ≤ n := by omega
  obtain ⟨i0, hi, hz0, hz1, hz2⟩ := info_parts infoE
  refine callsIn_of_wp_marks Tryd.func18 rfl h18 ?_ hro
  simp only [Tryd.ntmps18, List.size_toArray, List.length_cons, List.length_nil, Nat.reduceAdd, Nat.reduceSub, Array.replicate_succ, Array.replicate_zero, List.push_toArray, List.append_toArray, List.nil_append, List.cons_append]
  have hnn := notNil
  gi_wp2
  have bM := Boxed.new w 3 (.int .i64 6)
  have bO := Boxed.new (w.alloc (.cells #[.int .i64 6] 3)) 32 (.slice none 0 0)
  rw [World.size_alloc] at bO
  have hB0 : Below w.heap.size w ((w.alloc (.cells #[.int .i64 6] 3)).alloc (.cells #[.slice none 0 0] 32)) := ((Below.refl _ w).alloc (Nat.le_refl _) _).alloc (by simp) _
  refine wpIn_rangeFunc_ownG hro h1 (gf := 49) (lb := #[]) rfl h49 (enters_of Tryd.func49 (by kernel_rfl) rfl)
    (all_stops F (n - 1) h49 hro (by omega) _) walksK_t walksK_b (Below.refl _ _) (fun _ => rfl)
    (fun pre W => ((W.cell? ⟨w.heap.size, 0, none⟩ = some (.int .i64 6) ∧ pre.length < 6) ∧ (∃ v, Boxed W (w.heap.size + 1) 32 v ∧ W.ownsRow (w.heap.size + 1) 22 1 v (pre : List Int).length (pre.map (Value.int .u8)) ∧ (v = .slice none 0 0 ↔ pre = []))) ∧ Below w.heap.size w W)
    (fun c pre W => (((c = .exit 0 ∧ pre.length = 6) ∧ True) ∧ (∃ v, Boxed W (w.heap.size + 1) 32 v ∧ W.ownsRow (w.heap.size + 1) 22 1 v (pre : List Int).length (pre.map (Value.int .u8)) ∧ True)) ∧ Below w.heap.size w W)
    (OwnFrom.and (OwnFrom.and (Own.from (fun s A B row hs hg hr => ⟨cell_kept hs.1 hg hr, hs.2⟩) _) (Own.from (holdsRow_own (w.heap.size + 1) (w.heap.size + 1) 32 22 1 (fun pre : List Int => pre.length) (fun pre => pre.map (Value.int .u8)) (fun pre v => v = .slice none 0 0 ↔ pre = [])) _)) (ownFrom_below (Nat.le_refl _) (by simp; omega)))
    (fun c => OwnFrom.and (OwnFrom.and (Own.from (fun s A B row hs hg hr => hs) _) (Own.from (holdsRow_own (w.heap.size + 1) (w.heap.size + 1) 32 22 1 (fun pre : List Int => pre.length) (fun pre => pre.map (Value.int .u8)) (fun pre v => True)) _)) (ownFrom_below (Nat.le_refl _) (by simp; omega)))
    ⟨⟨⟨(bM.alloc _).cell, by simp⟩, ⟨_, bO, World.ownsRow_nil _ _ _ _, by simp⟩⟩, hB0⟩
    (fun x => { tmps := #[.func (.func 49) #[] #[], .int .i64 6, undef, .pointer (some ⟨w.heap.size, 0, none⟩), .slice none 0 0, .pointer (some ⟨w.heap.size + 1, 0, none⟩), .int .u8 x, .func (.func 49) #[] #[], .bool false, .bool false, .int .i64 6, .bool false, .bool false, undef, .func (.func 49) #[] #[], .int .u8 x, undef, undef, undef, undef, undef, undef, undef, undef, undef], defers := [] }) ?assign ?body ?done ?stop
  case assign =>
    intro l x W K hK
    gi_wp2
    exact hK
  case body =>
    rintro l pre x W ⟨⟨⟨hm, hlen⟩, ⟨v, hv, hrow, hnil⟩⟩, hB⟩ hlt
    have hc := hv.cell
    by_cases hr : pre.length + 1 = 6
    · have hri : (pre.length : Int) + 1 = 6 := by omega
      gi_wp2_with (gi_at_builtin; refine wpListIn_append_own _ rfl _ _ 32 rfl (w.heap.size + 1) 22 i0 (.int .u8 0) 1 1 Tryd.underlying32 hi hz0 hz1 hz2 rfl (by decide) _ _ _ rfl (hrow.alloc _) ⟨W.heap.size, 0, none⟩ 1 1 [.int .u8 x] rfl rfl (cell_one_new _ _ _) (by simp [Value.oneCell']) (by unfold maxLen; omega) (by omega) (by have := hv.lt; simp; omega) ?_; intro v' w1 hown' hgrow _; obtain ⟨g', cap', rfl⟩ := ownsRow_succ hown'; obtain ⟨hv1, hv2, hr2, hk2, hb2⟩ := hv.appended (by decide) hrow (by have := hv.lt; omega) (Nat.le_refl _) hown' hgrow; have hc1 := hv1.cell; have hf1 := hv1.frozen; have hc2 := hv2.cell; have hm2 := (hb2.cell (p := ⟨w.heap.size, 0, none⟩) (by simp)).trans hm; have hm1 := hm2; rw [World.cell?_setCell_other _ _ _ _ (by intro e; injection e with e _ _; omega)] at hm1)
      have hr2 : (w1.setCell ⟨w.heap.size + 1, 0, none⟩ (.slice (some ⟨g', 0, none⟩) (pre.length + 1) cap')).ownsRow (w.heap.size + 1) 22 1 (.slice (some ⟨g', 0, none⟩) (pre.length + 1) cap') (pre ++ [x]).length ((pre ++ [x]).map (Value.int .u8)) := by simpa using hr2
      rw [hr] at hv2 hk2 hb2 hr2
      exact ⟨hk2.from _, ⟨⟨⟨rfl, by rw [List.length_append, List.length_singleton]; exact hr⟩, trivial⟩, ⟨_, hv2, hr2, trivial⟩⟩, hB.trans (hb2.mono (Nat.le_succ _))⟩
    · have hri : ¬ (pre.length : Int) + 1 = 6 := by omega
      gi_wp2_with (gi_at_builtin; refine wpListIn_append_own _ rfl _ _ 32 rfl (w.heap.size + 1) 22 i0 (.int .u8 0) 1 1 Tryd.underlying32 hi hz0 hz1 hz2 rfl (by decide) _ _ _ rfl (hrow.alloc _) ⟨W.heap.size, 0, none⟩ 1 1 [.int .u8 x] rfl rfl (cell_one_new _ _ _) (by simp [Value.oneCell']) (by unfold maxLen; omega) (by omega) (by have := hv.lt; simp; omega) ?_; intro v' w1 hown' hgrow _; obtain ⟨g', cap', rfl⟩ := ownsRow_succ hown'; obtain ⟨hv1, hv2, hr2, hk2, hb2⟩ := hv.appended (by decide) hrow (by have := hv.lt; omega) (Nat.le_refl _) hown' hgrow; have hc1 := hv1.cell; have hf1 := hv1.frozen; have hc2 := hv2.cell; have hm2 := (hb2.cell (p := ⟨w.heap.size, 0, none⟩) (by simp)).trans hm; have hm1 := hm2; rw [World.cell?_setCell_other _ _ _ _ (by intro e; injection e with e _ _; omega)] at hm1)
      exact ⟨hk2.from _, hk2.walks, ⟨⟨hm2, by rw [List.length_append, List.length_singleton]; omega⟩, ⟨_, hv2, by simpa using hr2, by simp⟩⟩, hB.trans (hb2.mono (Nat.le_succ _))⟩
  case done =>
    rintro D ys W hD rfl ⟨⟨⟨hm, hlen⟩, ⟨v, hv, hrow, hnil⟩⟩, hB⟩ hK
    have hc := hv.cell
    exact absurd hlen (by rw [upto_length]; omega)
  case stop =>
    rintro D c pre W hD ⟨k, hk, rfl⟩ ⟨⟨⟨⟨rfl, hlen⟩, -⟩, ⟨v, hv, hrow, -⟩⟩, hB⟩ hK
    rw [upto_length] at hlen hrow
    have hk' : k = 5 := by omega
    subst hk'
    have hc := hv.cell
    gi_wp2
    refine ⟨by simp, .inl ⟨_, _, rfl, run_takeDeferred hK, ?_⟩⟩
    exact ⟨_, results_tmp rfl _ _ _, v, rfl, ownsRow_putObj hrow _ hK rfl, hB.trans (belowK_b (w := w) (Nat.le_refl _) W D _ _ (by simp at hD; omega) hK rfl rfl)⟩


set_option maxRecDepth 100000 in
set_option maxHeartbeats 4000000 in
theorem walk_in7 (F : Fence) (n : Nat) (h18 : F.fn 18) (h49 : F.fn 49) (hro : F.round = none) (hn : 4 ≤ n) (w : World) :
    CallsIn F n Tryd.prog 18 #[.func (.func 49) #[] #[], .int .i64 7] w fun e w' => ∃ v, e = .returned v ∧ w'.ownsRow (w.heap.size + 1) 22 1 v 6 ((upto 6).map (Value.int .u8)) ∧ Below w.heap.size w w' := by
  have h1 : 1 ≤ n := by omega
  obtain ⟨i0, hi, hz0, hz1, hz2⟩ := info_parts infoE
  refine callsIn_of_wp_marks Tryd.func18 rfl h18 ?_ hro
  simp only [Tryd.ntmps18, List.size_toArray, List.length_cons, List.length_nil, Nat.reduceAdd, Nat.reduceSub, Array.replicate_succ, Array.replicate_zero, List.push_toArray, List.append_toArray, List.nil_append, List.cons_append]
  have hnn := notNil
  gi_wp2
  have bM := Boxed.new w 3 (.int .i64 7)
  have bO := Boxed.new (w.alloc (.cells #[.int .i64 7] 3)) 32 (.slice none 0 0)
  rw [World.size_alloc] at bO
  have hB0 : Below w.heap.size w ((w.alloc (.cells #[.int .i64 7] 3)).alloc (.cells #[.slice none 0 0] 32)) := ((Below.refl _ w).alloc (Nat.le_refl _) _).alloc (by simp) _
  refine wpIn_rangeFunc_ownG hro h1 (gf := 49) (lb := #[]) rfl h49 (enters_of Tryd.func49 (by kernel_rfl) rfl)
    (all_stops F (n - 1) h49 hro (by omega) _) walksK_t walksK_b (Below.refl _ _) (fun _ => rfl)
    (fun pre W => ((W.cell? ⟨w.heap.size, 0, none⟩ = some (.int .i64 7) ∧ pre.length < 7) ∧ (∃ v, Boxed W (w.heap.size + 1) 32 v ∧ W.ownsRow (w.heap.size + 1) 22 1 v (pre : List Int).length (pre.map (Value.int .u8)) ∧ (v = .slice none 0 0 ↔ pre = []))) ∧ Below w.heap.size w W)
    (fun c pre W => (((c = .exit 0 ∧ pre.length = 7) ∧ True) ∧ (∃ v, Boxed W (w.heap.size + 1) 32 v ∧ W.ownsRow (w.heap.size + 1) 22 1 v (pre : List Int).length (pre.map (Value.int .u8)) ∧ True)) ∧ Below w.heap.size w W)
    (OwnFrom.and (OwnFrom.and (Own.from (fun s A B row hs hg hr => ⟨cell_kept hs.1 hg hr, hs.2⟩) _) (Own.from (holdsRow_own (w.heap.size + 1) (w.heap.size + 1) 32 22 1 (fun pre : List Int => pre.length) (fun pre => pre.map (Value.int .u8)) (fun pre v => v = .slice none 0 0 ↔ pre = [])) _)) (ownFrom_below (Nat.le_refl _) (by simp; omega)))
    (fun c => OwnFrom.and (OwnFrom.and (Own.from (fun s A B row hs hg hr => hs) _) (Own.from (holdsRow_own (w.heap.size + 1) (w.heap.size + 1) 32 22 1 (fun pre : List Int => pre.length) (fun pre => pre.map (Value.int .u8)) (fun pre v => True)) _)) (ownFrom_below (Nat.le_refl _) (by simp; omega)))
    ⟨⟨⟨(bM.alloc _).cell, by simp⟩, ⟨_, bO, World.ownsRow_nil _ _ _ _, by simp⟩⟩, hB0⟩
    (fun x => { tmps := #[.func (.func 49) #[] #[], .int .i64 7, undef, .pointer (some ⟨w.heap.size, 0, none⟩), .slice none 0 0, .pointer (some ⟨w.heap.size + 1, 0, none⟩), .int .u8 x, .func (.func 49) #[] #[], .bool false, .bool false, .int .i64 7, .bool false, .bool false, undef, .func (.func 49) #[] #[], .int .u8 x, undef, undef, undef, undef, undef, undef, undef, undef, undef], defers := [] }) ?assign ?body ?done ?stop
  case assign =>
    intro l x W K hK
    gi_wp2
    exact hK
  case body =>
    rintro l pre x W ⟨⟨⟨hm, hlen⟩, ⟨v, hv, hrow, hnil⟩⟩, hB⟩ hlt
    have hc := hv.cell
    by_cases hr : pre.length + 1 = 7
    · exact absurd hlt (by omega)
    · have hri : ¬ (pre.length : Int) + 1 = 7 := by omega
      gi_wp2_with (gi_at_builtin; refine wpListIn_append_own _ rfl _ _ 32 rfl (w.heap.size + 1) 22 i0 (.int .u8 0) 1 1 Tryd.underlying32 hi hz0 hz1 hz2 rfl (by decide) _ _ _ rfl (hrow.alloc _) ⟨W.heap.size, 0, none⟩ 1 1 [.int .u8 x] rfl rfl (cell_one_new _ _ _) (by simp [Value.oneCell']) (by unfold maxLen; omega) (by omega) (by have := hv.lt; simp; omega) ?_; intro v' w1 hown' hgrow _; obtain ⟨g', cap', rfl⟩ := ownsRow_succ hown'; obtain ⟨hv1, hv2, hr2, hk2, hb2⟩ := hv.appended (by decide) hrow (by have := hv.lt; omega) (Nat.le_refl _) hown' hgrow; have hc1 := hv1.cell; have hf1 := hv1.frozen; have hc2 := hv2.cell; have hm2 := (hb2.cell (p := ⟨w.heap.size, 0, none⟩) (by simp)).trans hm; have hm1 := hm2; rw [World.cell?_setCell_other _ _ _ _ (by intro e; injection e with e _ _; omega)] at hm1)
      exact ⟨hk2.from _, hk2.walks, ⟨⟨hm2, by rw [List.length_append, List.length_singleton]; omega⟩, ⟨_, hv2, by simpa using hr2, by simp⟩⟩, hB.trans (hb2.mono (Nat.le_succ _))⟩
  case done =>
    rintro D ys W hD rfl ⟨⟨⟨hm, hlen⟩, ⟨v, hv, hrow, hnil⟩⟩, hB⟩ hK
    have hc := hv.cell
    rw [upto_length] at hrow
    gi_wp2
    refine ⟨by simp, .inl ⟨_, _, rfl, run_takeDeferred hK, ?_⟩⟩
    exact ⟨_, results_tmp rfl _ _ _, v, rfl, ownsRow_putObj hrow _ hK rfl, hB.trans (belowK_b (w := w) (Nat.le_refl _) W D _ _ (by simp at hD; omega) hK rfl rfl)⟩
  case stop =>
    rintro D c pre W hD ⟨k, hk, rfl⟩ ⟨⟨⟨⟨rfl, hlen⟩, -⟩, ⟨v, hv, hrow, -⟩⟩, hB⟩ hK
    rw [upto_length] at hlen hrow
    omega


theorem walk_in0 (w : World) : Calls Tryd.prog 18 #[.func (.func 49) #[] #[], .int .i64 0] w fun e w' => ∃ v, e = .returned v ∧ w'.ownsRow (w.heap.size + 1) 22 1 v 0 ((upto 0).map (Value.int .u8)) ∧ Below w.heap.size w w' := by
  have hnn := notNil
  go_enter Tryd.func18, Tryd.ntmps18
  go_wp2
  go_ret
  exact ⟨_, rfl, World.ownsRow_nil _ _ _ _, ((Below.refl _ w).alloc (Nat.le_refl _) _).alloc (by simp) _⟩

/-- THE CONTRACT -/
theorem walk_calls : ∀ (r : Nat), r ≤ 7 → ∀ (w : World), Calls Tryd.prog 18 #[.func (.func 49) #[] #[], .int .i64 r] w fun e w' => ∃ v, e = .returned v ∧ w'.ownsRow (w.heap.size + 1) 22 1 v (min r 6) ((upto (min r 6)).map (Value.int .u8)) ∧ Below w.heap.size w w'
  | 0, _, w => walk_in0 w
  | 1, _, w => (callsIn_wide (n := 5)).1 (walk_in1 Fence.wide 5 trivial trivial rfl (by omega) w)
  | 2, _, w => (callsIn_wide (n := 5)).1 (walk_in2 Fence.wide 5 trivial trivial rfl (by omega) w)
  | 3, _, w => (callsIn_wide (n := 5)).1 (walk_in3 Fence.wide 5 trivial trivial rfl (by omega) w)
  | 4, _, w => (callsIn_wide (n := 5)).1 (walk_in4 Fence.wide 5 trivial trivial rfl (by omega) w)
  | 5, _, w => (callsIn_wide (n := 5)).1 (walk_in5 Fence.wide 5 trivial trivial rfl (by omega) w)
  | 6, _, w => (callsIn_wide (n := 5)).1 (walk_in6 Fence.wide 5 trivial trivial rfl (by omega) w)
  | 7, _, w => (callsIn_wide (n := 5)).1 (walk_in7 Fence.wide 5 trivial trivial rfl (by omega) w)
  | r + 8, h, w => by omega
end Go.Proofs.YtfafaeghnkmpcaaDoor.suitWalk
