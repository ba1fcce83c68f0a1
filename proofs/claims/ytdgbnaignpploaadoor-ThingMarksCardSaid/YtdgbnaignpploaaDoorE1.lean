/- What a name is; which part may be. -/
import Derived.Test.YtdgbnaignpploaaDoorSy
import Derived.Test.YtdgbnaignpploaaDoorE0
import Derived.Test.YtdgbnaignpploaaDoorTm
namespace Go.Proofs.YtdgbnaignpploaaDoor.bk
open Go.Sym
set_option linter.unusedVariables false
set_option linter.unusedSimpArgs false
set_option maxRecDepth 100000
variable {Bar : Nat} {X : St}

theorem trim_empty (l : List UInt8) : (Lib.trimS l cutL).isEmpty = l.all fun b => cutL.contains b := by
  have hd : ∀ l : List UInt8, (l.dropWhile (cutL.contains ·) = []) ↔ (l.all fun b => cutL.contains b) = true := by
    intro l
    induction l with
    | nil => simp
    | cons a r ih =>
      rw [List.dropWhile_cons]
      split
      · rename_i h; rw [ih, List.all_cons, h]; simp
      · rename_i h; rw [List.all_cons]; simp at h; simp [h]
  have hsub : ∀ l : List UInt8, (l.all fun b => cutL.contains b) = true → Lib.trimRightS l cutL = [] := by
    intro l hl
    unfold Lib.trimRightS
    have : (l.reverse.all fun b => cutL.contains b) = true := by rw [List.all_reverse]; exact hl
    rw [(hd _).2 this]; rfl
  rw [Bool.eq_iff_iff, List.isEmpty_iff]
  unfold Lib.trimS Lib.trimLeftS
  constructor
  · intro h
    have h1 := (hd _).1 h
    unfold Lib.trimRightS at h1
    rw [List.all_reverse] at h1
    by_cases he : l.reverse.dropWhile (cutL.contains ·) = []
    · have := (hd _).1 he
      rwa [List.all_reverse] at this
    · have hh := List.head_dropWhile_not (cutL.contains ·) he
      have hm : (l.reverse.dropWhile (cutL.contains ·)).head he ∈ l.reverse.dropWhile (cutL.contains ·) := List.head_mem he
      have := (List.all_eq_true.1 h1) _ hm
      rw [this] at hh
      cases hh
  · intro h
    rw [hsub l h]; rfl
theorem beq_empty (l : List UInt8) : beqB ⟨l.toArray⟩ ⟨#[]⟩ = l.isEmpty := by
  unfold beqB
  rw [ByteArray.toList_eq, ByteArray.toList_eq]
  cases l <;> rfl
theorem beqB_nil (s : ByteArray) : beqB s ⟨#[]⟩ = s.data.toList.isEmpty := by
  have := beq_empty s.data.toList
  rw [← this]
theorem d_ename (s : ByteArray) : Does Go.Proofs.Tryd.prog Bar 99 [.string s] X (fun r X' => r = .bool (nmOk s) ∧ X' = X) := by
  have hz : s.size = s.data.toList.length := (Array.length_toList).symm
  rcases hs : s.data.toList with _ | ⟨c, r⟩
  · rw [hs] at hz
    have hz : s.size = 0 := hz
    refine Does.body numOK mixed k.f99 rfl k.o99 (Nat.le_of_ble_eq_true rfl) ?_
    simp (disch := first | omega | (simp only [Zv, Zw, Zx, Zy, Zz]; omega)) only [↓SA, Vi, Vj, Vk, Vl, Vm, List.set_cons_zero, List.set_cons_succ, Vn, Vo, Vp, Vq, Vr, Vs, Vt, Vu, Vv, Vw, Vx, Vy, List.forall_mem_cons, Vz, VA, VB, VC, VD, VE, VF, VG, VH, VI, VJ, VK, VL, VM, VN, VO, VP, VQ, VR, VS, VT, VU, VV, VW, VX, VY, VZ, V0, V1, V2, V3, V4, V5, V9, Ga, Gp, Gq, GF, GG, GH, GI, GJ, GK, GL, GM, GN, GO, Option.isNone_some, Option.isNone_none, Option.isSome_some, Option.isSome_none, GP, GQ, GR, GS, GT, GU, GV, GW, GX, GY, GZ, G0, G1, G2, G3, G4, G5, G6, G7, G8, G9, Za, Zb, Zc, Zd, Ze, Zf, Zg, Zh, Zi, Zj, Zk, Zl, Zm, Zn, Zo, List.drop_zero, List.take_succ_cons, List.drop_succ_cons, List.take_zero, List.take_nil, List.append_nil, List.nil_append, if_true, if_false, ite_true, ite_false, ↓reduceIte, Bool.false_eq_true, Bool.true_eq_false, decide_eq_true_eq, eq_self, true_and, and_true, Option.map_some, Option.map_none, Nat.reduceAdd, Nat.reduceEqDiff, Nat.reduceMul, Nat.add_zero, Nat.zero_add, reduceCtorEq, Bool.not_true, Bool.not_false, List.getElem?_cons_zero, List.getElem?_cons_succ, and_self, exists_eq_left', exists_eq_left, List.length_cons, List.length_nil, Nat.reduceLeDiff, Nat.reduceSub, Zr, Zs, decide_true, decide_false, Int.natCast_zero, Int.cast_ofNat_Int, Int.reduceLE, Int.reduceLT, Int.reduceEq, Int.reduceAdd, Int.reduceSub, Int.reduceMul, Int.reduceToNat, Int.reduceNeg, Int.toNat_natCast, Nat.reduceLT, ge_iff_le, gt_iff_lt, Zt, Zu, hz]
    repeat' (first | (refine cnd_intro (fun h => ?_) (fun h => ?_) <;> (try simp only [decide_eq_true_eq, decide_eq_false_iff_not, Bool.not_eq_true', Bool.not_eq_false'] at h)) | (refine AllN_intro (fun n hn => ?_) <;> (try simp only [Zv, Zw, Zx, Zy, Zz] at hn)) | (simp (disch := first | omega | (simp only [Zv, Zw, Zx, Zy, Zz]; omega)) only [↓SA, Vi, Vj, Vk, Vl, Vm, List.set_cons_zero, List.set_cons_succ, Vn, Vo, Vp, Vq, Vr, Vs, Vt, Vu, Vv, Vw, Vx, Vy, List.forall_mem_cons, Vz, VA, VB, VC, VD, VE, VF, VG, VH, VI, VJ, VK, VL, VM, VN, VO, VP, VQ, VR, VS, VT, VU, VV, VW, VX, VY, VZ, V0, V1, V2, V3, V4, V5, V9, Ga, Gp, Gq, GF, GG, GH, GI, GJ, GK, GL, GM, GN, GO, Option.isNone_some, Option.isNone_none, Option.isSome_some, Option.isSome_none, GP, GQ, GR, GS, GT, GU, GV, GW, GX, GY, GZ, G0, G1, G2, G3, G4, G5, G6, G7, G8, G9, Za, Zb, Zc, Zd, Ze, Zf, Zg, Zh, Zi, Zj, Zk, Zl, Zm, Zn, Zo, List.drop_zero, List.take_succ_cons, List.drop_succ_cons, List.take_zero, List.take_nil, List.append_nil, List.nil_append, if_true, if_false, ite_true, ite_false, ↓reduceIte, Bool.false_eq_true, Bool.true_eq_false, decide_eq_true_eq, eq_self, true_and, and_true, Option.map_some, Option.map_none, Nat.reduceAdd, Nat.reduceEqDiff, Nat.reduceMul, Nat.add_zero, Nat.zero_add, reduceCtorEq, Bool.not_true, Bool.not_false, List.getElem?_cons_zero, List.getElem?_cons_succ, and_self, exists_eq_left', exists_eq_left, List.length_cons, List.length_nil, Nat.reduceLeDiff, Nat.reduceSub, Zr, Zs, decide_true, decide_false, Int.natCast_zero, Int.cast_ofNat_Int, Int.reduceLE, Int.reduceLT, Int.reduceEq, Int.reduceAdd, Int.reduceSub, Int.reduceMul, Int.reduceToNat, Int.reduceNeg, Int.toNat_natCast, Nat.reduceLT, ge_iff_le, gt_iff_lt, Zt, Zu, hs, hz, *]))
    all_goals exact ⟨_, (by repeat' (first | exact Le.refl _ | (refine Le.new_of ?_ (by first | omega | (simp only [Zv, Zw, Zx, Zy, Zz] at *; omega))) | (refine Le.set_of ?_ (by first | omega | (simp only [Zv, Zw, Zx, Zy, Zz] at *; omega))))), by simp_all [nmOk], rfl⟩
  · rw [hs] at hz
    have hz : s.size = r.length + 1 := hz
    refine Does.body numOK mixed k.f99 rfl k.o99 (Nat.le_of_ble_eq_true rfl) ?_
    simp (disch := first | omega | (simp only [Zv, Zw, Zx, Zy, Zz]; omega)) only [↓SA, Vi, Vj, Vk, Vl, Vm, List.set_cons_zero, List.set_cons_succ, Vn, Vo, Vp, Vq, Vr, Vs, Vt, Vu, Vv, Vw, Vx, Vy, List.forall_mem_cons, Vz, VA, VB, VC, VD, VE, VF, VG, VH, VI, VJ, VK, VL, VM, VN, VO, VP, VQ, VR, VS, VT, VU, VV, VW, VX, VY, VZ, V0, V1, V2, V3, V4, V5, V9, Ga, Gp, Gq, GF, GG, GH, GI, GJ, GK, GL, GM, GN, GO, Option.isNone_some, Option.isNone_none, Option.isSome_some, Option.isSome_none, GP, GQ, GR, GS, GT, GU, GV, GW, GX, GY, GZ, G0, G1, G2, G3, G4, G5, G6, G7, G8, G9, Za, Zb, Zc, Zd, Ze, Zf, Zg, Zh, Zi, Zj, Zk, Zl, Zm, Zn, Zo, List.drop_zero, List.take_succ_cons, List.drop_succ_cons, List.take_zero, List.take_nil, List.append_nil, List.nil_append, if_true, if_false, ite_true, ite_false, ↓reduceIte, Bool.false_eq_true, Bool.true_eq_false, decide_eq_true_eq, eq_self, true_and, and_true, Option.map_some, Option.map_none, Nat.reduceAdd, Nat.reduceEqDiff, Nat.reduceMul, Nat.add_zero, Nat.zero_add, reduceCtorEq, Bool.not_true, Bool.not_false, List.getElem?_cons_zero, List.getElem?_cons_succ, and_self, exists_eq_left', exists_eq_left, List.length_cons, List.length_nil, Nat.reduceLeDiff, Nat.reduceSub, Zr, Zs, decide_true, decide_false, Int.natCast_zero, Int.cast_ofNat_Int, Int.reduceLE, Int.reduceLT, Int.reduceEq, Int.reduceAdd, Int.reduceSub, Int.reduceMul, Int.reduceToNat, Int.reduceNeg, Int.toNat_natCast, Nat.reduceLT, ge_iff_le, gt_iff_lt, Zt, Zu, hz]
    repeat' (first | (refine cnd_intro (fun h => ?_) (fun h => ?_) <;> (try simp only [decide_eq_true_eq, decide_eq_false_iff_not, Bool.not_eq_true', Bool.not_eq_false'] at h)) | (refine AllN_intro (fun n hn => ?_) <;> (try simp only [Zv, Zw, Zx, Zy, Zz] at hn)) | (refine DoesK.by (YtdgbnaignpploaaDoor.d_trim _ _ (by omega) (by decide) (by decide)) ?_ ; rintro _ _ ⟨rfl, rfl⟩) | (simp (disch := first | omega | (simp only [Zv, Zw, Zx, Zy, Zz]; omega)) only [↓SA, Vi, Vj, Vk, Vl, Vm, List.set_cons_zero, List.set_cons_succ, Vn, Vo, Vp, Vq, Vr, Vs, Vt, Vu, Vv, Vw, Vx, Vy, List.forall_mem_cons, Vz, VA, VB, VC, VD, VE, VF, VG, VH, VI, VJ, VK, VL, VM, VN, VO, VP, VQ, VR, VS, VT, VU, VV, VW, VX, VY, VZ, V0, V1, V2, V3, V4, V5, V9, Ga, Gp, Gq, GF, GG, GH, GI, GJ, GK, GL, GM, GN, GO, Option.isNone_some, Option.isNone_none, Option.isSome_some, Option.isSome_none, GP, GQ, GR, GS, GT, GU, GV, GW, GX, GY, GZ, G0, G1, G2, G3, G4, G5, G6, G7, G8, G9, Za, Zb, Zc, Zd, Ze, Zf, Zg, Zh, Zi, Zj, Zk, Zl, Zm, Zn, Zo, List.drop_zero, List.take_succ_cons, List.drop_succ_cons, List.take_zero, List.take_nil, List.append_nil, List.nil_append, if_true, if_false, ite_true, ite_false, ↓reduceIte, Bool.false_eq_true, Bool.true_eq_false, decide_eq_true_eq, eq_self, true_and, and_true, Option.map_some, Option.map_none, Nat.reduceAdd, Nat.reduceEqDiff, Nat.reduceMul, Nat.add_zero, Nat.zero_add, reduceCtorEq, Bool.not_true, Bool.not_false, List.getElem?_cons_zero, List.getElem?_cons_succ, and_self, exists_eq_left', exists_eq_left, List.length_cons, List.length_nil, Nat.reduceLeDiff, Nat.reduceSub, Zr, Zs, decide_true, decide_false, Int.natCast_zero, Int.cast_ofNat_Int, Int.reduceLE, Int.reduceLT, Int.reduceEq, Int.reduceAdd, Int.reduceSub, Int.reduceMul, Int.reduceToNat, Int.reduceNeg, Int.toNat_natCast, Nat.reduceLT, ge_iff_le, gt_iff_lt, Zt, Zu, hs, hz, *]))
    · refine ⟨_, (by repeat' (first | exact Le.refl _ | (refine Le.new_of ?_ (by first | omega | (simp only [Zv, Zw, Zx, Zy, Zz] at *; omega))) | (refine Le.set_of ?_ (by first | omega | (simp only [Zv, Zw, Zx, Zy, Zz] at *; omega))))), ?_, rfl⟩
      rw [show (btx [97, 98, 99, 100, 101, 102, 103, 104, 105, 106, 107, 108, 109, 110, 111, 112, 113, 114, 115, 116, 117, 118, 119, 120, 121, 122, 45]).data.toList = cutL from rfl, beq_empty, trim_empty]
      unfold nmOk
      rw [hs]
      simp_all
      omega
    all_goals exact ⟨_, (by repeat' (first | exact Le.refl _ | (refine Le.new_of ?_ (by first | omega | (simp only [Zv, Zw, Zx, Zy, Zz] at *; omega))) | (refine Le.set_of ?_ (by first | omega | (simp only [Zv, Zw, Zx, Zy, Zz] at *; omega))))), by (simp_all [nmOk] <;> omega), rfl⟩
/-- P5.1 -/
def partCheck (p : Part) : Int :=
  if decide (p.wn < 1) || decide (6 < p.wn) || decide (p.vb < 1) || decide (19 < p.vb) || decide (p.wm < 1) || decide (10 < p.wm) then 2
  else if !wnt p.wn p.vb || (decide (p.vb = 11) && decide (p.wm = 9)) then 8
  else if !abt p then 13
  else if !wth p.ct (uC p.vb) (lowF p.vb) (highF p.vb) || (uC p.vb && !decide (p.vb = 14) && decide (p.ct = 0)) then 2
  else if !wth p.su (uS p.vb p.wm) 1 6 || !wth p.tr (uT p.vb p.wm) 1 8 || !wth p.ma (uM p.vb) 1 4 then 2
  else if (uN p.vb != !p.nm.data.toList.isEmpty) || (uN p.vb && !nmOk p.nm) then 4
  else 0
set_option maxHeartbeats 8000000 in
theorem d_effectCheck (p : Part) : Does Go.Proofs.Tryd.prog Bar 70 [.agg ⟨p.cells⟩] X (fun r X' => r = .int .i64 (partCheck p) ∧ X' = X) := by
  obtain ⟨p1, p2, p3, p4, p5, p6, p7, p8⟩ := p
  simp only [Part.cells]
  refine Does.body numOK mixed k.f70 rfl k.o70 (Nat.le_of_ble_eq_true rfl) ?_
  simp (disch := first | omega | (simp only [Zv, Zw, Zx, Zy, Zz]; omega)) only [↓SA, Vi, Vj, Vk, Vl, Vm, List.set_cons_zero, List.set_cons_succ, Vn, Vo, Vp, Vq, Vr, Vs, Vt, Vu, Vv, Vw, Vx, Vy, List.forall_mem_cons, Vz, VA, VB, VC, VD, VE, VF, VG, VH, VI, VJ, VK, VL, VM, VN, VO, VP, VQ, VR, VS, VT, VU, VV, VW, VX, VY, VZ, V0, V1, V2, V3, V4, V5, V9, Ga, Gp, Gq, GF, GG, GH, GI, GJ, GK, GL, GM, GN, GO, Option.isNone_some, Option.isNone_none, Option.isSome_some, Option.isSome_none, GP, GQ, GR, GS, GT, GU, GV, GW, GX, GY, GZ, G0, G1, G2, G3, G4, G5, G6, G7, G8, G9, Za, Zb, Zc, Zd, Ze, Zf, Zg, Zh, Zi, Zj, Zk, Zl, Zm, Zn, Zo, List.drop_zero, List.take_succ_cons, List.drop_succ_cons, List.take_zero, List.take_nil, List.append_nil, List.nil_append, if_true, if_false, ite_true, ite_false, ↓reduceIte, Bool.false_eq_true, Bool.true_eq_false, decide_eq_true_eq, eq_self, true_and, and_true, Option.map_some, Option.map_none, Nat.reduceAdd, Nat.reduceEqDiff, Nat.reduceMul, Nat.add_zero, Nat.zero_add, reduceCtorEq, Bool.not_true, Bool.not_false, List.getElem?_cons_zero, List.getElem?_cons_succ, and_self, exists_eq_left', exists_eq_left, List.length_cons, List.length_nil, Nat.reduceLeDiff, Nat.reduceSub, Zr, Zs, decide_true, decide_false, Int.natCast_zero, Int.cast_ofNat_Int, Int.reduceLE, Int.reduceLT, Int.reduceEq, Int.reduceAdd, Int.reduceSub, Int.reduceMul, Int.reduceToNat, Int.reduceNeg, Int.toNat_natCast, Nat.reduceLT, ge_iff_le, gt_iff_lt, Zt, Zu]
  repeat' (first | (refine cnd_intro (fun h => ?_) (fun h => ?_) <;> (try simp only [decide_eq_true_eq, decide_eq_false_iff_not, Bool.not_eq_true', Bool.not_eq_false'] at h)) | (refine AllN_intro (fun n hn => ?_) <;> (try simp only [Zv, Zw, Zx, Zy, Zz] at hn)) | (refine DoesK.by (d_uses _ _) ?_; rintro _ X2 ⟨rfl, hX2⟩; subst X2) | (refine DoesK.by (d_bounds _) ?_; rintro _ X2 ⟨rfl, hX2⟩; subst X2) | (refine DoesK.by (d_wanted _ _) ?_; rintro _ X2 ⟨rfl, hX2⟩; subst X2) | (refine DoesK.by (d_about ⟨_, _, _, _, _, _, _, _⟩) ?_; rintro _ X2 ⟨rfl, hX2⟩; subst X2) | (refine DoesK.by (d_within1 _ _ _ _) ?_; rintro _ X2 ⟨rfl, hX2⟩; subst X2) | (refine DoesK.by (d_within2 _ _ _ _) ?_; rintro _ X2 ⟨rfl, hX2⟩; subst X2) | (refine DoesK.by (d_within3 _ _ _ _) ?_; rintro _ X2 ⟨rfl, hX2⟩; subst X2) | (refine DoesK.by (d_within4 _ _ _ _) ?_; rintro _ X2 ⟨rfl, hX2⟩; subst X2) | (refine DoesK.by (d_ename _) ?_; rintro _ X2 ⟨rfl, hX2⟩; subst X2) | (simp (disch := first | omega | (simp only [Zv, Zw, Zx, Zy, Zz]; omega)) only [↓SA, Vi, Vj, Vk, Vl, Vm, List.set_cons_zero, List.set_cons_succ, Vn, Vo, Vp, Vq, Vr, Vs, Vt, Vu, Vv, Vw, Vx, Vy, List.forall_mem_cons, Vz, VA, VB, VC, VD, VE, VF, VG, VH, VI, VJ, VK, VL, VM, VN, VO, VP, VQ, VR, VS, VT, VU, VV, VW, VX, VY, VZ, V0, V1, V2, V3, V4, V5, V9, Ga, Gp, Gq, GF, GG, GH, GI, GJ, GK, GL, GM, GN, GO, Option.isNone_some, Option.isNone_none, Option.isSome_some, Option.isSome_none, GP, GQ, GR, GS, GT, GU, GV, GW, GX, GY, GZ, G0, G1, G2, G3, G4, G5, G6, G7, G8, G9, Za, Zb, Zc, Zd, Ze, Zf, Zg, Zh, Zi, Zj, Zk, Zl, Zm, Zn, Zo, List.drop_zero, List.take_succ_cons, List.drop_succ_cons, List.take_zero, List.take_nil, List.append_nil, List.nil_append, if_true, if_false, ite_true, ite_false, ↓reduceIte, Bool.false_eq_true, Bool.true_eq_false, decide_eq_true_eq, eq_self, true_and, and_true, Option.map_some, Option.map_none, Nat.reduceAdd, Nat.reduceEqDiff, Nat.reduceMul, Nat.add_zero, Nat.zero_add, reduceCtorEq, Bool.not_true, Bool.not_false, List.getElem?_cons_zero, List.getElem?_cons_succ, and_self, exists_eq_left', exists_eq_left, List.length_cons, List.length_nil, Nat.reduceLeDiff, Nat.reduceSub, Zr, Zs, decide_true, decide_false, Int.natCast_zero, Int.cast_ofNat_Int, Int.reduceLE, Int.reduceLT, Int.reduceEq, Int.reduceAdd, Int.reduceSub, Int.reduceMul, Int.reduceToNat, Int.reduceNeg, Int.toNat_natCast, Nat.reduceLT, ge_iff_le, gt_iff_lt, Zt, Zu, VG, beqB_nil, *]))

  all_goals exact ⟨_, (by repeat' (first | exact Le.refl _ | (refine Le.new_of ?_ (by first | omega | (simp only [Zv, Zw, Zx, Zy, Zz] at *; omega))) | (refine Le.set_of ?_ (by first | omega | (simp only [Zv, Zw, Zx, Zy, Zz] at *; omega))))), by simp_all [partCheck], rfl⟩
end Go.Proofs.YtdgbnaignpploaaDoor.bk
