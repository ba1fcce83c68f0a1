/- Which card may be: card.Check. -/
import Derived.Test.YtdgbnaignpploaaDoorSy
import Derived.Test.YtdgbnaignpploaaDoorE2
namespace Go.Proofs.YtdgbnaignpploaaDoor.bk
open Go.Sym
set_option linter.unusedVariables false
set_option linter.unusedSimpArgs false
set_option maxRecDepth 100000
variable {Bar : Nat} {X : St}
def trOk (t : Int) : Bool := decide (t.fdiv 256 = 0)
theorem shf8 (t : Int) : shfF .shr .u16 t 8 = some (t.fdiv 256) := rfl
theorem d_trCheck (t : Int) : Does Go.Proofs.Tryd.prog Bar 90 [.int .u16 t] X (fun r X' => r = .bool (trOk t) ∧ X' = X) := by
  refine Does.body numOK mixed k.f90 rfl k.o90 (Nat.le_of_ble_eq_true rfl) ?_
  simp (disch := first | omega | (simp only [Zv, Zw, Zx, Zy, Zz]; omega)) only [↓SA, Vi, Vj, Vk, Vl, Vm, List.set_cons_zero, List.set_cons_succ, Vn, Vo, Vp, Vq, Vr, Vs, Vt, Vu, Vv, Vw, Vx, Vy, List.forall_mem_cons, Vz, VA, VB, VC, VD, VE, VF, VG, VH, VI, VJ, VK, VL, VM, VN, VO, VP, VQ, VR, VS, VT, VU, VV, VW, VX, VY, VZ, V0, V1, V2, V3, V4, V5, V9, Ga, Gp, Gq, GF, GG, GH, GI, GJ, GK, GL, GM, GN, GO, Option.isNone_some, Option.isNone_none, Option.isSome_some, Option.isSome_none, GP, GQ, GR, GS, GT, GU, GV, GW, GX, GY, GZ, G0, G1, G2, G3, G4, G5, G6, G7, G8, G9, Za, Zb, Zc, Zd, Ze, Zf, Zg, Zh, Zi, Zj, Zk, Zl, Zm, Zn, Zo, List.drop_zero, List.take_succ_cons, List.drop_succ_cons, List.take_zero, List.take_nil, List.append_nil, List.nil_append, if_true, if_false, ite_true, ite_false, ↓reduceIte, Bool.false_eq_true, Bool.true_eq_false, decide_eq_true_eq, eq_self, true_and, and_true, Option.map_some, Option.map_none, Nat.reduceAdd, Nat.reduceEqDiff, Nat.reduceMul, Nat.add_zero, Nat.zero_add, reduceCtorEq, Bool.not_true, Bool.not_false, List.getElem?_cons_zero, List.getElem?_cons_succ, and_self, exists_eq_left', exists_eq_left, List.length_cons, List.length_nil, Nat.reduceLeDiff, Nat.reduceSub, Zr, Zs, decide_true, decide_false, Int.natCast_zero, Int.cast_ofNat_Int, Int.reduceLE, Int.reduceLT, Int.reduceEq, Int.reduceAdd, Int.reduceSub, Int.reduceMul, Int.reduceToNat, Int.reduceNeg, Int.toNat_natCast, Nat.reduceLT, ge_iff_le, gt_iff_lt, Zt, Zu, shf8]
  all_goals exact ⟨_, (by repeat' (first | exact Le.refl _ | (refine Le.new_of ?_ (by first | omega | (simp only [Zv, Zw, Zx, Zy, Zz] at *; omega))) | (refine Le.set_of ?_ (by first | omega | (simp only [Zv, Zw, Zx, Zy, Zz] at *; omega))))), (by first | rfl | (simp_all [trOk]; done) | (simp_all [trOk] <;> omega)), rfl⟩
theorem suitT_nil (s : Int) : beqB (suitT s) ⟨#[]⟩ = !(decide (1 ≤ s) && decide (s ≤ 6)) := by
  rw [beqB_nil]
  unfold suitT
  by_cases h1 : s = 1; · subst h1; rfl
  by_cases h2 : s = 2; · subst h2; rfl
  by_cases h3 : s = 3; · subst h3; rfl
  by_cases h4 : s = 4; · subst h4; rfl
  by_cases h5 : s = 5; · subst h5; rfl
  by_cases h6 : s = 6; · subst h6; rfl
  have : ¬ (1 ≤ s ∧ s ≤ 6) := by omega
  rw [if_neg h1, if_neg h2, if_neg h3, if_neg h4, if_neg h5, if_neg h6, ← Bool.decide_and, decide_eq_false this]
  rfl
theorem kindT_nil (s : Int) : beqB (kindT s) ⟨#[]⟩ = !(decide (1 ≤ s) && decide (s ≤ 3)) := by
  rw [beqB_nil]
  unfold kindT
  by_cases h1 : s = 1; · subst h1; rfl
  by_cases h2 : s = 2; · subst h2; rfl
  by_cases h3 : s = 3; · subst h3; rfl
  have : ¬ (1 ≤ s ∧ s ≤ 3) := by omega
  rw [if_neg h1, if_neg h2, if_neg h3, ← Bool.decide_and, decide_eq_false this]
  rfl
def faceE (h : Head) (n : Nat) : Int :=
  if !nmOk h.nm then 4
  else if !(decide (1 ≤ h.su) && decide (h.su ≤ 6)) || !(decide (1 ≤ h.ki) && decide (h.ki ≤ 3)) then 8
  else if !(decide (0 ≤ h.co) && decide (h.co ≤ 10)) || !(decide (0 ≤ h.po) && decide (h.po ≤ 99)) || !(decide (0 ≤ h.he) && decide (h.he ≤ 99)) then 2
  else if (decide (h.ki = 1) && decide (h.he = 0)) || (!decide (h.ki = 1) && (!decide (h.po = 0) || !decide (h.he = 0))) then 8
  else if !trOk h.tr || (decide (h.ki = 2) && h.tk) then 8
  else if decide (4 < n) then 3
  else 0
set_option maxHeartbeats 4000000 in
theorem d_face (h : Head) (sp : Option Addr) (n c : Nat) : Does Go.Proofs.Tryd.prog Bar 69 [.agg ⟨h.cells ++ [.slice sp n c]⟩] X (fun r X' => r = .int .i64 (faceE h n) ∧ X' = X) := by
  obtain ⟨p1, p2, p3, p4, p5, p6, p7, p8⟩ := h
  simp only [Head.cells, List.cons_append, List.nil_append]
  refine Does.body numOK mixed k.f69 rfl k.o69 (Nat.le_of_ble_eq_true rfl) ?_
  simp (disch := first | omega | (simp only [Zv, Zw, Zx, Zy, Zz]; omega)) only [↓SA, Vi, Vj, Vk, Vl, Vm, List.set_cons_zero, List.set_cons_succ, Vn, Vo, Vp, Vq, Vr, Vs, Vt, Vu, Vv, Vw, Vx, Vy, List.forall_mem_cons, Vz, VA, VB, VC, VD, VE, VF, VG, VH, VI, VJ, VK, VL, VM, VN, VO, VP, VQ, VR, VS, VT, VU, VV, VW, VX, VY, VZ, V0, V1, V2, V3, V4, V5, V9, Ga, Gp, Gq, GF, GG, GH, GI, GJ, GK, GL, GM, GN, GO, Option.isNone_some, Option.isNone_none, Option.isSome_some, Option.isSome_none, GP, GQ, GR, GS, GT, GU, GV, GW, GX, GY, GZ, G0, G1, G2, G3, G4, G5, G6, G7, G8, G9, Za, Zb, Zc, Zd, Ze, Zf, Zg, Zh, Zi, Zj, Zk, Zl, Zm, Zn, Zo, List.drop_zero, List.take_succ_cons, List.drop_succ_cons, List.take_zero, List.take_nil, List.append_nil, List.nil_append, if_true, if_false, ite_true, ite_false, ↓reduceIte, Bool.false_eq_true, Bool.true_eq_false, decide_eq_true_eq, eq_self, true_and, and_true, Option.map_some, Option.map_none, Nat.reduceAdd, Nat.reduceEqDiff, Nat.reduceMul, Nat.add_zero, Nat.zero_add, reduceCtorEq, Bool.not_true, Bool.not_false, List.getElem?_cons_zero, List.getElem?_cons_succ, and_self, exists_eq_left', exists_eq_left, List.length_cons, List.length_nil, Nat.reduceLeDiff, Nat.reduceSub, Zr, Zs, decide_true, decide_false, Int.natCast_zero, Int.cast_ofNat_Int, Int.reduceLE, Int.reduceLT, Int.reduceEq, Int.reduceAdd, Int.reduceSub, Int.reduceMul, Int.reduceToNat, Int.reduceNeg, Int.toNat_natCast, Nat.reduceLT, ge_iff_le, gt_iff_lt, Zt, Zu]
  repeat' (first | (refine cnd_intro (fun h => ?_) (fun h => ?_) <;> (try simp only [decide_eq_true_eq, decide_eq_false_iff_not, Bool.not_eq_true', Bool.not_eq_false'] at h)) | (refine AllN_intro (fun n hn => ?_) <;> (try simp only [Zv, Zw, Zx, Zy, Zz] at hn)) | (refine DoesK.by (d_named _) ?_; rintro _ X2 ⟨rfl, hX2⟩; subst X2) | (refine DoesK.by (d_suitName _) ?_; rintro _ X2 ⟨rfl, hX2⟩; subst X2) | (refine DoesK.by (d_word _) ?_; rintro _ X2 ⟨rfl, hX2⟩; subst X2) | (refine DoesK.by (d_cwithin _ _) ?_; rintro _ X2 ⟨rfl, hX2⟩; subst X2) | (refine DoesK.by (d_trCheck _) ?_; rintro _ X2 ⟨rfl, hX2⟩; subst X2) | (simp (disch := first | omega | (simp only [Zv, Zw, Zx, Zy, Zz]; omega)) only [↓SA, Vi, Vj, Vk, Vl, Vm, List.set_cons_zero, List.set_cons_succ, Vn, Vo, Vp, Vq, Vr, Vs, Vt, Vu, Vv, Vw, Vx, Vy, List.forall_mem_cons, Vz, VA, VB, VC, VD, VE, VF, VG, VH, VI, VJ, VK, VL, VM, VN, VO, VP, VQ, VR, VS, VT, VU, VV, VW, VX, VY, VZ, V0, V1, V2, V3, V4, V5, V9, Ga, Gp, Gq, GF, GG, GH, GI, GJ, GK, GL, GM, GN, GO, Option.isNone_some, Option.isNone_none, Option.isSome_some, Option.isSome_none, GP, GQ, GR, GS, GT, GU, GV, GW, GX, GY, GZ, G0, G1, G2, G3, G4, G5, G6, G7, G8, G9, Za, Zb, Zc, Zd, Ze, Zf, Zg, Zh, Zi, Zj, Zk, Zl, Zm, Zn, Zo, List.drop_zero, List.take_succ_cons, List.drop_succ_cons, List.take_zero, List.take_nil, List.append_nil, List.nil_append, if_true, if_false, ite_true, ite_false, ↓reduceIte, Bool.false_eq_true, Bool.true_eq_false, decide_eq_true_eq, eq_self, true_and, and_true, Option.map_some, Option.map_none, Nat.reduceAdd, Nat.reduceEqDiff, Nat.reduceMul, Nat.add_zero, Nat.zero_add, reduceCtorEq, Bool.not_true, Bool.not_false, List.getElem?_cons_zero, List.getElem?_cons_succ, and_self, exists_eq_left', exists_eq_left, List.length_cons, List.length_nil, Nat.reduceLeDiff, Nat.reduceSub, Zr, Zs, decide_true, decide_false, Int.natCast_zero, Int.cast_ofNat_Int, Int.reduceLE, Int.reduceLT, Int.reduceEq, Int.reduceAdd, Int.reduceSub, Int.reduceMul, Int.reduceToNat, Int.reduceNeg, Int.toNat_natCast, Nat.reduceLT, ge_iff_le, gt_iff_lt, Zt, Zu, VG, suitT_nil, kindT_nil, *]))
  all_goals exact ⟨_, (by repeat' (first | exact Le.refl _ | (refine Le.new_of ?_ (by first | omega | (simp only [Zv, Zw, Zx, Zy, Zz] at *; omega))) | (refine Le.set_of ?_ (by first | omega | (simp only [Zv, Zw, Zx, Zy, Zz] at *; omega))))), (by first | rfl | (simp_all [faceE]; done) | (simp_all [faceE] <;> omega)), rfl⟩
end Go.Proofs.YtdgbnaignpploaaDoor.bk
