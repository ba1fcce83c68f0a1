/- The document's answers 05, 06: which part, which card may be. -/
import Derived.Test.YtdgbnaignpploaaDoorSy
import Derived.Test.YtdgbnaignpploaaDoorR1
import Derived.Test.YtdgbnaignpploaaDoorE4
import Derived.Test.YtdgbnaignpploaaDoorB0
namespace Go.Proofs.YtdgbnaignpploaaDoor.bk
open Go.Sym
set_option linter.unusedVariables false
set_option linter.unusedSimpArgs false
set_option maxRecDepth 100000
variable {Bar : Nat} {X : St}
/-- as the document asks -/
def rcheck (p : Part) : Int :=
  if decide (p.wn < 1) || decide (6 < p.wn) || decide (p.vb < 1) || decide (19 < p.vb) || decide (p.wm < 1) || decide (10 < p.wm) then 2
  else if !decide (kd p.vb = wt p.wn) || (decide (p.vb = 11) && decide (p.wm = 9)) then 8
  else if !rabt p then 13
  else if !cnt p then 2
  else if !wth p.su (uS p.vb p.wm) 1 6 || !wth p.tr (uT p.vb p.wm) 1 8 || !wth p.ma (uM p.vb) 1 4 then 2
  else if (uN p.vb && !nmOk p.nm) || (!uN p.vb && !p.nm.data.toList.isEmpty) then 4
  else 0
theorem wnt_kd : ∀ (w : Fin 7) (v : Fin 20), 1 ≤ w.1 → 1 ≤ v.1 → decide (kd (v.1 : Int) = wt (w.1 : Int)) = wnt (w.1 : Int) (v.1 : Int) := by decide
theorem abt_kd : ∀ (w : Fin 7) (v : Fin 20) (m : Fin 11), 1 ≤ v.1 → rabt ⟨w.1, v.1, m.1, 0, 0, 0, 0, ⟨#[]⟩⟩ = abt ⟨w.1, v.1, m.1, 0, 0, 0, 0, ⟨#[]⟩⟩ := by decide +kernel
theorem cnt_eq (p : Part) : cnt p = !(!wth p.ct (uC p.vb) (lowF p.vb) (highF p.vb) || (uC p.vb && !decide (p.vb = 14) && decide (p.ct = 0))) := by
  unfold cnt wth cLo cHi
  cases h : uC p.vb
  · simp only [Bool.false_eq_true, if_false]
    by_cases h0 : p.ct = 0
    · simp [h0]
    · simp [h0]; omega
  · simp only [if_true]
    by_cases h14 : p.vb = 14
    · simp [h14, lowF, highF]
    · by_cases h0 : p.ct = 0
      · have hl : lowF p.vb ≠ 0 := by
          unfold lowF
          split
          · decide
          · split
            · decide
            · split
              · decide
              · first | (split <;> omega) | omega
        simp [h14, h0]
        omega
      · simp [h14, h0]
theorem rcheck_eq (p : Part) : rcheck p = partCheck p := by
  unfold rcheck partCheck
  by_cases hg : (decide (p.wn < 1) || decide (6 < p.wn) || decide (p.vb < 1) || decide (19 < p.vb) || decide (p.wm < 1) || decide (10 < p.wm)) = true
  · rw [if_pos hg, if_pos hg]
  rw [if_neg hg, if_neg hg]
  simp only [Bool.or_eq_true, decide_eq_true_eq, not_or] at hg
  obtain ⟨⟨⟨⟨⟨g1, g2⟩, g3⟩, g4⟩, g5⟩, g6⟩ := hg
  have e1 : decide (kd p.vb = wt p.wn) = wnt p.wn p.vb := by
    have := wnt_kd ⟨p.wn.toNat, by omega⟩ ⟨p.vb.toNat, by omega⟩ (by show 1 ≤ p.wn.toNat; omega) (by show 1 ≤ p.vb.toNat; omega)
    simpa only [Int.toNat_of_nonneg (show 0 ≤ p.wn by omega), Int.toNat_of_nonneg (show 0 ≤ p.vb by omega)] using this
  have e2 : rabt p = abt p := by
    have := abt_kd ⟨p.wn.toNat, by omega⟩ ⟨p.vb.toNat, by omega⟩ ⟨p.wm.toNat, by omega⟩ (by show 1 ≤ p.vb.toNat; omega)
    simp only [Int.toNat_of_nonneg (show 0 ≤ p.wn by omega), Int.toNat_of_nonneg (show 0 ≤ p.vb by omega), Int.toNat_of_nonneg (show 0 ≤ p.wm by omega)] at this
    exact this
  have e3 := cnt_eq p
  have e4 : ((uN p.vb && !nmOk p.nm) || (!uN p.vb && !p.nm.data.toList.isEmpty)) = ((uN p.vb != !p.nm.data.toList.isEmpty) || (uN p.vb && !nmOk p.nm)) := by
    cases hu : uN p.vb
    · simp
    · cases he : p.nm.data.toList.isEmpty
      · simp
      · have : nmOk p.nm = false := by unfold nmOk; rw [List.isEmpty_iff.1 he]
        simp [this]
  rw [e1, e2, e3, e4, Bool.not_not]
theorem wrap8 {n : Int} (h : U8 n) : IntKind.i64.wrap n = n := by obtain ⟨h1, h2⟩ := h; rw [Zt] <;> omega
set_option maxHeartbeats 8000000 in
theorem r_check5 (p : Part) (hU : p.U) : Does Go.Proofs.Tryd.prog Bar 105 [.agg ⟨p.cells⟩] X (fun r X' => r = .int .i64 (partCheck p) ∧ X' = X) := by
  rw [← rcheck_eq]
  have u1 := wrap8 hU.su
  have u2 := wrap8 hU.tr
  have u3 := wrap8 hU.ma
  clear hU
  obtain ⟨p1, p2, p3, p4, p5, p6, p7, p8⟩ := p
  simp only [Part.cells]
  simp only at u1 u2 u3
  refine Does.body numOK mixed k.f105 rfl k.o105 (Nat.le_of_ble_eq_true rfl) ?_
  simp (disch := first | omega | (simp only [Zv, Zw, Zx, Zy, Zz]; omega)) only [↓SA, Vi, Vj, Vk, Vl, Vm, List.set_cons_zero, List.set_cons_succ, Vn, Vo, Vp, Vq, Vr, Vs, Vt, Vu, Vv, Vw, Vx, Vy, List.forall_mem_cons, Vz, VA, VB, VC, VD, VE, VF, VG, VH, VI, VJ, VK, VL, VM, VN, VO, VP, VQ, VR, VS, VT, VU, VV, VW, VX, VY, VZ, V0, V1, V2, V3, V4, V5, V9, Ga, Gp, Gq, GF, GG, GH, GI, GJ, GK, GL, GM, GN, GO, Option.isNone_some, Option.isNone_none, Option.isSome_some, Option.isSome_none, GP, GQ, GR, GS, GT, GU, GV, GW, GX, GY, GZ, G0, G1, G2, G3, G4, G5, G6, G7, G8, G9, Za, Zb, Zc, Zd, Ze, Zf, Zg, Zh, Zi, Zj, Zk, Zl, Zm, Zn, Zo, List.drop_zero, List.take_succ_cons, List.drop_succ_cons, List.take_zero, List.take_nil, List.append_nil, List.nil_append, if_true, if_false, ite_true, ite_false, ↓reduceIte, Bool.false_eq_true, Bool.true_eq_false, decide_eq_true_eq, eq_self, true_and, and_true, Option.map_some, Option.map_none, Nat.reduceAdd, Nat.reduceEqDiff, Nat.reduceMul, Nat.add_zero, Nat.zero_add, reduceCtorEq, Bool.not_true, Bool.not_false, List.getElem?_cons_zero, List.getElem?_cons_succ, and_self, exists_eq_left', exists_eq_left, List.length_cons, List.length_nil, Nat.reduceLeDiff, Nat.reduceSub, Zr, Zs, decide_true, decide_false, Int.natCast_zero, Int.cast_ofNat_Int, Int.reduceLE, Int.reduceLT, Int.reduceEq, Int.reduceAdd, Int.reduceSub, Int.reduceMul, Int.reduceToNat, Int.reduceNeg, Int.toNat_natCast, Nat.reduceLT, ge_iff_le, gt_iff_lt, Zt, Zu]
  repeat' (first | (refine cnd_intro (fun h => ?_) (fun h => ?_) <;> (try simp only [decide_eq_true_eq, decide_eq_false_iff_not, Bool.not_eq_true', Bool.not_eq_false'] at h)) | (refine AllN_intro (fun n hn => ?_) <;> (try simp only [Zv, Zw, Zx, Zy, Zz] at hn)) | (refine DoesK.by (r_uses _ _) ?_; rintro _ X2 ⟨rfl, hX2⟩; subst X2) | (refine DoesK.by (r_kind _) ?_; rintro _ X2 ⟨rfl, hX2⟩; subst X2) | (refine DoesK.by (r_wants _) ?_; rintro _ X2 ⟨rfl, hX2⟩; subst X2) | (refine DoesK.by (r_about ⟨_, _, _, _, _, _, _, _⟩) ?_; rintro _ X2 ⟨rfl, hX2⟩; subst X2) | (refine DoesK.by (r_counted ⟨_, _, _, _, _, _, _, _⟩) ?_; rintro _ X2 ⟨rfl, hX2⟩; subst X2) | (refine DoesK.by (r_within5 _ _ _) ?_; rintro _ X2 ⟨rfl, hX2⟩; subst X2) | (refine DoesK.by (r_name5 _) ?_; rintro _ X2 ⟨rfl, hX2⟩; subst X2) | (refine wpC_plan _ _ _ _ (by repeat' (first | exact Le.refl _ | (refine Le.new_of ?_ (by omega)))) ?_) | (refine cj_intro (by repeat' (first | exact Le.refl _ | (refine Le.new_of ?_ (by omega)))) ?_) | (simp (disch := first | omega | (simp only [Zv, Zw, Zx, Zy, Zz]; omega)) only [↓SA, Vi, Vj, Vk, Vl, Vm, List.set_cons_zero, List.set_cons_succ, Vn, Vo, Vp, Vq, Vr, Vs, Vt, Vu, Vv, Vw, Vx, Vy, List.forall_mem_cons, Vz, VA, VB, VC, VD, VE, VF, VG, VH, VI, VJ, VK, VL, VM, VN, VO, VP, VQ, VR, VS, VT, VU, VV, VW, VX, VY, VZ, V0, V1, V2, V3, V4, V5, V9, Ga, Gp, Gq, GF, GG, GH, GI, GJ, GK, GL, GM, GN, GO, Option.isNone_some, Option.isNone_none, Option.isSome_some, Option.isSome_none, GP, GQ, GR, GS, GT, GU, GV, GW, GX, GY, GZ, G0, G1, G2, G3, G4, G5, G6, G7, G8, G9, Za, Zb, Zc, Zd, Ze, Zf, Zg, Zh, Zi, Zj, Zk, Zl, Zm, Zn, Zo, List.drop_zero, List.take_succ_cons, List.drop_succ_cons, List.take_zero, List.take_nil, List.append_nil, List.nil_append, if_true, if_false, ite_true, ite_false, ↓reduceIte, Bool.false_eq_true, Bool.true_eq_false, decide_eq_true_eq, eq_self, true_and, and_true, Option.map_some, Option.map_none, Nat.reduceAdd, Nat.reduceEqDiff, Nat.reduceMul, Nat.add_zero, Nat.zero_add, reduceCtorEq, Bool.not_true, Bool.not_false, List.getElem?_cons_zero, List.getElem?_cons_succ, and_self, exists_eq_left', exists_eq_left, List.length_cons, List.length_nil, Nat.reduceLeDiff, Nat.reduceSub, Zr, Zs, decide_true, decide_false, Int.natCast_zero, Int.cast_ofNat_Int, Int.reduceLE, Int.reduceLT, Int.reduceEq, Int.reduceAdd, Int.reduceSub, Int.reduceMul, Int.reduceToNat, Int.reduceNeg, Int.toNat_natCast, Nat.reduceLT, ge_iff_le, gt_iff_lt, Zt, Zu, VG, beqB_nil, u1, u2, u3, *]))
  all_goals exact ⟨_, (by repeat' (first | exact Le.refl _ | (refine Le.new_of ?_ (by first | omega | (simp only [Zv, Zw, Zx, Zy, Zz] at *; omega))) | (refine Le.set_of ?_ (by first | omega | (simp only [Zv, Zw, Zx, Zy, Zz] at *; omega))))), by simp_all [rcheck], rfl⟩
end Go.Proofs.YtdgbnaignpploaaDoor.bk
