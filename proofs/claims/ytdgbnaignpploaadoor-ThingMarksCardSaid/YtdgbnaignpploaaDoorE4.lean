/- Which card may be: card.Check. -/
import Derived.Test.YtdgbnaignpploaaDoorSy
import Derived.Test.YtdgbnaignpploaaDoorE3
namespace Go.Proofs.YtdgbnaignpploaaDoor.bk
open Go.Sym
set_option linter.unusedVariables false
set_option linter.unusedSimpArgs false
set_option maxRecDepth 100000
variable {Bar : Nat} {X : St}
/-- what parts may be, for a kind -/
def partsE (ki : Int) : List Part → Int
  | [] => 0
  | p :: ps => if partCheck p ≠ 0 then partCheck p else if (decide (ki = 2) && !decide (p.wn = 1)) || (decide (ki = 3) && decide (p.wn = 4)) then 8 else partsE ki ps
def cardCheck (h : Head) (ps : List Part) : Int := if faceE h ps.length ≠ 0 then faceE h ps.length else partsE h.ki ps
theorem pflat_len : ∀ ps : List Part, (ps.flatMap Part.cells).length = ps.length * 8
  | [] => rfl
  | p :: ps => by rw [List.flatMap_cons, List.length_append, pflat_len ps, List.length_cons]; show 8 + _ = _; omega
theorem pflat_at {ps : List Part} {k : Nat} {p : Part} (h : ps[k]? = some p) : ((ps.flatMap Part.cells).drop (k * 8)).take 8 = p.cells := by
  obtain ⟨hk, rfl⟩ := List.getElem?_eq_some_iff.1 h
  have : ps.flatMap Part.cells = (ps.take k).flatMap Part.cells ++ (ps[k].cells ++ (ps.drop (k + 1)).flatMap Part.cells) := by
    rw [← List.flatMap_cons, ← List.flatMap_append, List.getElem_cons_drop, List.take_append_drop]
  rw [this]
  have hl : ((ps.take k).flatMap Part.cells).length = k * 8 := by rw [pflat_len, List.length_take]; omega
  rw [← hl, List.drop_left]
  exact List.take_left' rfl
theorem pflat_single (ps : List Part) : ∀ v ∈ ps.flatMap Part.cells, single v = true := by
  intro v hv
  obtain ⟨p, -, hp⟩ := List.mem_flatMap.1 hv
  simp only [Part.cells, List.mem_cons, List.not_mem_nil, or_false] at hp
  rcases hp with rfl | rfl | rfl | rfl | rfl | rfl | rfl | rfl <;> rfl
theorem cellsOf_lt {b o n : Nat} {l : List Value} (h : cellsOf (X.get b) o n = some l) : b < X.next := by
  unfold cellsOf at h
  split at h
  · rename_i B hB; exact St.lt hB
  · cases h
theorem cellsOf_le {X Y : St} {b o n : Nat} {l : List Value} (h : cellsOf (X.get b) o n = some l) (k : Le X Y) : cellsOf (Y.get b) o n = some l := by
  unfold cellsOf at h ⊢
  split at h
  · rename_i B hB; rw [k.blk b B hB]; exact h
  · cases h
theorem cellsOf_sub {M : Option Blk} {o n : Nat} {l : List Value} (h : cellsOf M o n = some l) {i m : Nat} (hi : i + m ≤ n) : cellsOf M (o + i) m = some ((l.drop i).take m) := by
  unfold cellsOf at h ⊢
  split at h
  · rename_i B
    split at h
    · rename_i hl
      cases h
      rw [if_pos (by omega), List.drop_take, List.take_take, Nat.min_eq_left (by omega), List.drop_drop]
    · cases h
  · cases h
/-- parts lie somewhere -/
def PartsK (X : St) (po : Option Addr) (ps : List Part) : Prop := ps = [] ∨ ∃ b o, po = some ⟨b, o, none⟩ ∧ cellsOf (X.get b) o (ps.length * 8) = some (ps.flatMap Part.cells)
theorem PartsK.le {X Y : St} {po : Option Addr} {ps : List Part} (h : PartsK X po ps) (k : Le X Y) : PartsK Y po ps := by
  rcases h with h | ⟨b, o, rfl, h⟩
  · exact .inl h
  · exact .inr ⟨b, o, rfl, cellsOf_le h k⟩
theorem PartsK.at {X : St} {po : Option Addr} {ps : List Part} (h : PartsK X po ps) : ps = [] ∨ ∃ b o, po = some ⟨b, o, none⟩ ∧ ∀ k p, ps[k]? = some p → cellsOf (X.get b) (o + k * 8) 8 = some p.cells := by
  rcases h with h | ⟨b, o, rfl, h⟩
  · exact .inl h
  · refine .inr ⟨b, o, rfl, fun k p hk => ?_⟩
    have := (List.getElem?_eq_some_iff.1 hk).1
    rw [cellsOf_sub h (by omega), pflat_at hk]
theorem faceE_len {h : Head} {n : Nat} (e : faceE h n = 0) : n ≤ 4 := by
  by_cases hn : n ≤ 4
  · exact hn
  · exfalso
    unfold faceE at e
    have : decide (4 < n) = true := decide_eq_true (by omega)
    rw [this] at e
    repeat (split at e; · omega)
    exact absurd rfl ‹¬ true = true›
set_option maxHeartbeats 2000000 in
theorem d_cardCheck (h : Head) (po : Option Addr) (ps : List Part) (c : Nat) (hp : PartsK X po ps) : Does Go.Proofs.Tryd.prog Bar 32 [.agg ⟨h.cells ++ [.slice po ps.length c]⟩] X (fun r X' => r = .int .i64 (cardCheck h ps) ∧ X' = X) := by
  obtain ⟨p1, p2, p3, p4, p5, p6, p7, p8⟩ := h
  simp only [Head.cells, List.cons_append, List.nil_append]
  refine Does.body numOK mixed k.f32 rfl k.o32 (Nat.le_of_ble_eq_true rfl) ?_
  simp (disch := first | omega | (simp only [Zv, Zw, Zx, Zy, Zz]; omega)) only [↓SA, Vi, Vj, Vk, Vl, Vm, List.set_cons_zero, List.set_cons_succ, Vn, Vo, Vp, Vq, Vr, Vs, Vt, Vu, Vv, Vw, Vx, Vy, List.forall_mem_cons, Vz, VA, VB, VC, VD, VE, VF, VG, VH, VI, VJ, VK, VL, VM, VN, VO, VP, VQ, VR, VS, VT, VU, VV, VW, VX, VY, VZ, V0, V1, V2, V3, V4, V5, V9, Ga, Gp, Gq, GF, GG, GH, GI, GJ, GK, GL, GM, GN, GO, Option.isNone_some, Option.isNone_none, Option.isSome_some, Option.isSome_none, GP, GQ, GR, GS, GT, GU, GV, GW, GX, GY, GZ, G0, G1, G2, G3, G4, G5, G6, G7, G8, G9, Za, Zb, Zc, Zd, Ze, Zf, Zg, Zh, Zi, Zj, Zk, Zl, Zm, Zn, Zo, List.drop_zero, List.take_succ_cons, List.drop_succ_cons, List.take_zero, List.take_nil, List.append_nil, List.nil_append, if_true, if_false, ite_true, ite_false, ↓reduceIte, Bool.false_eq_true, Bool.true_eq_false, decide_eq_true_eq, eq_self, true_and, and_true, Option.map_some, Option.map_none, Nat.reduceAdd, Nat.reduceEqDiff, Nat.reduceMul, Nat.add_zero, Nat.zero_add, reduceCtorEq, Bool.not_true, Bool.not_false, List.getElem?_cons_zero, List.getElem?_cons_succ, and_self, exists_eq_left', exists_eq_left, List.length_cons, List.length_nil, Nat.reduceLeDiff, Nat.reduceSub, Zr, Zs, decide_true, decide_false, Int.natCast_zero, Int.cast_ofNat_Int, Int.reduceLE, Int.reduceLT, Int.reduceEq, Int.reduceAdd, Int.reduceSub, Int.reduceMul, Int.reduceToNat, Int.reduceNeg, Int.toNat_natCast, Nat.reduceLT, ge_iff_le, gt_iff_lt, Zt, Zu]
  repeat' (first | (refine cnd_intro (fun h => ?_) (fun h => ?_) <;> (try simp only [decide_eq_true_eq, decide_eq_false_iff_not, Bool.not_eq_true', Bool.not_eq_false'] at h)) | (refine AllN_intro (fun n hn => ?_) <;> (try simp only [Zv, Zw, Zx, Zy, Zz] at hn)) | (refine DoesK.by (d_face ⟨_, _, _, _, _, _, _, _⟩ _ _ _) ?_; rintro _ X2 ⟨rfl, hX2⟩; subst X2) | (simp (disch := first | omega | (simp only [Zv, Zw, Zx, Zy, Zz]; omega)) only [↓SA, Vi, Vj, Vk, Vl, Vm, List.set_cons_zero, List.set_cons_succ, Vn, Vo, Vp, Vq, Vr, Vs, Vt, Vu, Vv, Vw, Vx, Vy, List.forall_mem_cons, Vz, VA, VB, VC, VD, VE, VF, VG, VH, VI, VJ, VK, VL, VM, VN, VO, VP, VQ, VR, VS, VT, VU, VV, VW, VX, VY, VZ, V0, V1, V2, V3, V4, V5, V9, Ga, Gp, Gq, GF, GG, GH, GI, GJ, GK, GL, GM, GN, GO, Option.isNone_some, Option.isNone_none, Option.isSome_some, Option.isSome_none, GP, GQ, GR, GS, GT, GU, GV, GW, GX, GY, GZ, G0, G1, G2, G3, G4, G5, G6, G7, G8, G9, Za, Zb, Zc, Zd, Ze, Zf, Zg, Zh, Zi, Zj, Zk, Zl, Zm, Zn, Zo, List.drop_zero, List.take_succ_cons, List.drop_succ_cons, List.take_zero, List.take_nil, List.append_nil, List.nil_append, if_true, if_false, ite_true, ite_false, ↓reduceIte, Bool.false_eq_true, Bool.true_eq_false, decide_eq_true_eq, eq_self, true_and, and_true, Option.map_some, Option.map_none, Nat.reduceAdd, Nat.reduceEqDiff, Nat.reduceMul, Nat.add_zero, Nat.zero_add, reduceCtorEq, Bool.not_true, Bool.not_false, List.getElem?_cons_zero, List.getElem?_cons_succ, and_self, exists_eq_left', exists_eq_left, List.length_cons, List.length_nil, Nat.reduceLeDiff, Nat.reduceSub, Zr, Zs, decide_true, decide_false, Int.natCast_zero, Int.cast_ofNat_Int, Int.reduceLE, Int.reduceLT, Int.reduceEq, Int.reduceAdd, Int.reduceSub, Int.reduceMul, Int.reduceToNat, Int.reduceNeg, Int.toNat_natCast, Nat.reduceLT, ge_iff_le, gt_iff_lt, Zt, Zu, VG, *]))
  · exact ⟨_, (by repeat' (first | exact Le.refl _ | (refine Le.new_of ?_ (by first | omega | (simp only [Zv, Zw, Zx, Zy, Zz] at *; omega))) | (refine Le.set_of ?_ (by first | omega | (simp only [Zv, Zw, Zx, Zy, Zz] at *; omega))))), (by first | rfl | (simp_all [cardCheck]; done) | (simp_all [cardCheck] <;> omega)), rfl⟩
  · refine wpC_loop (fun k : Nat => ⟨43, [(1, .pointer (some ⟨n, 0, none⟩)), (13, .slice po ps.length c), (14, .int .i64 ps.length), (15, .int .i64 k)]⟩) (fun _ => X.new n ⟨[.string p1, .int .u8 p2, .int .u8 p3, .int .i64 p4, .int .i64 p5, .int .i64 p6, .int .u16 p7, .bool p8, .slice po ps.length c], 9, 51, true⟩)
      (fun k => k ≤ ps.length ∧ partsE p3 (ps.drop k) = partsE p3 ps) (fun k => ps.length - k) 0 rfl (Le.refl _) ⟨Nat.zero_le _, rfl⟩ ?_
    have hlen := faceE_len h
    rintro k ⟨hk, hi⟩
    by_cases hkl : k < ps.length
    · obtain ⟨q, hq⟩ : ∃ q, ps[k]? = some q := ⟨_, List.getElem?_eq_getElem hkl⟩
      have hd : ps.drop k = q :: ps.drop (k + 1) := by
        rw [List.drop_eq_getElem_cons hkl]; rw [List.getElem?_eq_getElem hkl] at hq; cases hq; rfl
      rw [hd] at hi
      rcases hp.at with rfl | ⟨b, o, rfl, hp'⟩
      · cases hkl
      have hc := hp' k q hq
      have hlt := cellsOf_lt hc
      have hkl' : decide ((k : Int) < ps.length) = true := decide_eq_true (by omega)
      obtain ⟨q1, q2, q3, q4, q5, q6, q7, q8⟩ := q
      simp only [Part.cells] at hc
      simp (disch := first | omega | (simp only [Zv, Zw, Zx, Zy, Zz]; omega)) only [↓SA, Vi, Vj, Vk, Vl, Vm, List.set_cons_zero, List.set_cons_succ, Vn, Vo, Vp, Vq, Vr, Vs, Vt, Vu, Vv, Vw, Vx, Vy, List.forall_mem_cons, Vz, VA, VB, VC, VD, VE, VF, VG, VH, VI, VJ, VK, VL, VM, VN, VO, VP, VQ, VR, VS, VT, VU, VV, VW, VX, VY, VZ, V0, V1, V2, V3, V4, V5, V9, Ga, Gp, Gq, GF, GG, GH, GI, GJ, GK, GL, GM, GN, GO, Option.isNone_some, Option.isNone_none, Option.isSome_some, Option.isSome_none, GP, GQ, GR, GS, GT, GU, GV, GW, GX, GY, GZ, G0, G1, G2, G3, G4, G5, G6, G7, G8, G9, Za, Zb, Zc, Zd, Ze, Zf, Zg, Zh, Zi, Zj, Zk, Zl, Zm, Zn, Zo, List.drop_zero, List.take_succ_cons, List.drop_succ_cons, List.take_zero, List.take_nil, List.append_nil, List.nil_append, if_true, if_false, ite_true, ite_false, ↓reduceIte, Bool.false_eq_true, Bool.true_eq_false, decide_eq_true_eq, eq_self, true_and, and_true, Option.map_some, Option.map_none, Nat.reduceAdd, Nat.reduceEqDiff, Nat.reduceMul, Nat.add_zero, Nat.zero_add, reduceCtorEq, Bool.not_true, Bool.not_false, List.getElem?_cons_zero, List.getElem?_cons_succ, and_self, exists_eq_left', exists_eq_left, List.length_cons, List.length_nil, Nat.reduceLeDiff, Nat.reduceSub, Zr, Zs, decide_true, decide_false, Int.natCast_zero, Int.cast_ofNat_Int, Int.reduceLE, Int.reduceLT, Int.reduceEq, Int.reduceAdd, Int.reduceSub, Int.reduceMul, Int.reduceToNat, Int.reduceNeg, Int.toNat_natCast, Nat.reduceLT, ge_iff_le, gt_iff_lt, Zt, Zu, hkl', Int.toNat_natCast, hc, VH]
      repeat' (first | (refine cnd_intro (fun h => ?_) (fun h => ?_) <;> (try simp only [decide_eq_true_eq, decide_eq_false_iff_not, Bool.not_eq_true', Bool.not_eq_false'] at h)) | (refine AllN_intro (fun n hn => ?_) <;> (try simp only [Zv, Zw, Zx, Zy, Zz] at hn)) | (refine DoesK.by (d_effectCheck ⟨_, _, _, _, _, _, _, _⟩) ?_; rintro _ X2 ⟨rfl, hX2⟩; subst X2) | (simp (disch := first | omega | (simp only [Zv, Zw, Zx, Zy, Zz]; omega)) only [↓SA, Vi, Vj, Vk, Vl, Vm, List.set_cons_zero, List.set_cons_succ, Vn, Vo, Vp, Vq, Vr, Vs, Vt, Vu, Vv, Vw, Vx, Vy, List.forall_mem_cons, Vz, VA, VB, VC, VD, VE, VF, VG, VH, VI, VJ, VK, VL, VM, VN, VO, VP, VQ, VR, VS, VT, VU, VV, VW, VX, VY, VZ, V0, V1, V2, V3, V4, V5, V9, Ga, Gp, Gq, GF, GG, GH, GI, GJ, GK, GL, GM, GN, GO, Option.isNone_some, Option.isNone_none, Option.isSome_some, Option.isSome_none, GP, GQ, GR, GS, GT, GU, GV, GW, GX, GY, GZ, G0, G1, G2, G3, G4, G5, G6, G7, G8, G9, Za, Zb, Zc, Zd, Ze, Zf, Zg, Zh, Zi, Zj, Zk, Zl, Zm, Zn, Zo, List.drop_zero, List.take_succ_cons, List.drop_succ_cons, List.take_zero, List.take_nil, List.append_nil, List.nil_append, if_true, if_false, ite_true, ite_false, ↓reduceIte, Bool.false_eq_true, Bool.true_eq_false, decide_eq_true_eq, eq_self, true_and, and_true, Option.map_some, Option.map_none, Nat.reduceAdd, Nat.reduceEqDiff, Nat.reduceMul, Nat.add_zero, Nat.zero_add, reduceCtorEq, Bool.not_true, Bool.not_false, List.getElem?_cons_zero, List.getElem?_cons_succ, and_self, exists_eq_left', exists_eq_left, List.length_cons, List.length_nil, Nat.reduceLeDiff, Nat.reduceSub, Zr, Zs, decide_true, decide_false, Int.natCast_zero, Int.cast_ofNat_Int, Int.reduceLE, Int.reduceLT, Int.reduceEq, Int.reduceAdd, Int.reduceSub, Int.reduceMul, Int.reduceToNat, Int.reduceNeg, Int.toNat_natCast, Nat.reduceLT, ge_iff_le, gt_iff_lt, Zt, Zu, VG, VH, hc, Int.toNat_natCast, *]))
      all_goals clear hp hp' hq hc hd
      all_goals first | exact ⟨_, (by repeat' (first | exact Le.refl _ | (refine Le.new_of ?_ (by first | omega | (simp only [Zv, Zw, Zx, Zy, Zz] at *; omega))) | (refine Le.set_of ?_ (by first | omega | (simp only [Zv, Zw, Zx, Zy, Zz] at *; omega))))), (by first | rfl | (simp_all [cardCheck, partsE]; done) | (simp_all [cardCheck, partsE] <;> omega)), rfl⟩ | exact ⟨k + 1, rfl, (by repeat' (first | exact Le.refl _ | (refine Le.new_of ?_ (by first | omega | (simp only [Zv, Zw, Zx, Zy, Zz] at *; omega))) | (refine Le.set_of ?_ (by first | omega | (simp only [Zv, Zw, Zx, Zy, Zz] at *; omega))))), ⟨by omega, (by first | rfl | (simp_all [partsE]; done) | (simp_all [partsE] <;> omega))⟩, by omega⟩
    · have hkl' : decide ((k : Int) < ps.length) = false := decide_eq_false (by omega)
      simp (disch := first | omega | (simp only [Zv, Zw, Zx, Zy, Zz]; omega)) only [↓SA, Vi, Vj, Vk, Vl, Vm, List.set_cons_zero, List.set_cons_succ, Vn, Vo, Vp, Vq, Vr, Vs, Vt, Vu, Vv, Vw, Vx, Vy, List.forall_mem_cons, Vz, VA, VB, VC, VD, VE, VF, VG, VH, VI, VJ, VK, VL, VM, VN, VO, VP, VQ, VR, VS, VT, VU, VV, VW, VX, VY, VZ, V0, V1, V2, V3, V4, V5, V9, Ga, Gp, Gq, GF, GG, GH, GI, GJ, GK, GL, GM, GN, GO, Option.isNone_some, Option.isNone_none, Option.isSome_some, Option.isSome_none, GP, GQ, GR, GS, GT, GU, GV, GW, GX, GY, GZ, G0, G1, G2, G3, G4, G5, G6, G7, G8, G9, Za, Zb, Zc, Zd, Ze, Zf, Zg, Zh, Zi, Zj, Zk, Zl, Zm, Zn, Zo, List.drop_zero, List.take_succ_cons, List.drop_succ_cons, List.take_zero, List.take_nil, List.append_nil, List.nil_append, if_true, if_false, ite_true, ite_false, ↓reduceIte, Bool.false_eq_true, Bool.true_eq_false, decide_eq_true_eq, eq_self, true_and, and_true, Option.map_some, Option.map_none, Nat.reduceAdd, Nat.reduceEqDiff, Nat.reduceMul, Nat.add_zero, Nat.zero_add, reduceCtorEq, Bool.not_true, Bool.not_false, List.getElem?_cons_zero, List.getElem?_cons_succ, and_self, exists_eq_left', exists_eq_left, List.length_cons, List.length_nil, Nat.reduceLeDiff, Nat.reduceSub, Zr, Zs, decide_true, decide_false, Int.natCast_zero, Int.cast_ofNat_Int, Int.reduceLE, Int.reduceLT, Int.reduceEq, Int.reduceAdd, Int.reduceSub, Int.reduceMul, Int.reduceToNat, Int.reduceNeg, Int.toNat_natCast, Nat.reduceLT, ge_iff_le, gt_iff_lt, Zt, Zu, hkl']
      have : ps.drop k = [] := List.drop_eq_nil_of_le (by omega)
      rw [this] at hi
      have hi : partsE p3 ps = 0 := hi.symm
      exact ⟨_, (by repeat' (first | exact Le.refl _ | (refine Le.new_of ?_ (by first | omega | (simp only [Zv, Zw, Zx, Zy, Zz] at *; omega))) | (refine Le.set_of ?_ (by first | omega | (simp only [Zv, Zw, Zx, Zy, Zz] at *; omega))))), (by first | rfl | (simp_all [cardCheck]; done) | (simp_all [cardCheck] <;> omega)), rfl⟩
end Go.Proofs.YtdgbnaignpploaaDoor.bk
