/- The document's answer 07: Seal, MarkOf. -/
import Derived.Test.YtdgbnaignpploaaDoorG0
import Derived.Test.YtdgbnaignpploaaDoorSy
import Derived.Test.YtdgbnaignpploaaDoorR5
import Derived.Test.YtdgbnaignpploaaDoorP1
import Derived.Test.YtdgbnaignpploaaDoorBD
namespace Go.Proofs.YtdgbnaignpploaaDoor.bk
open Go.Sym
set_option linter.unusedVariables false
set_option linter.unusedSimpArgs false
set_option maxRecDepth 100000
variable {Bar : Nat} {X : St}
theorem res63r : ∀ A X a, resV Go.Proofs.Tryd.prog A X (.cell a 63) = cellRes (A.get a) X (some 4) := res_cell (by kernel_rfl)
theorem r_markOf {b : Nat} {s : Bool} {cs : List KC} {ns : List ByteArray} {ms : List MK} (hR : Rk X b s cs ns ms) (m : Int) : Does Go.Proofs.Tryd.prog Bar 50 [.pointer (some ⟨b, 0, none⟩), .int .u8 m] X
    (fun r X' => r = .tuple ⟨match (if 1 ≤ m ∧ m ≤ 4 then ms[m.toNat]? else none) with | some y => if y.ma = 0 then [.agg ⟨noMark⟩, .bool false] else [.agg ⟨y.cells⟩, .bool true] | none => [.agg ⟨noMark⟩, .bool false]⟩ ∧ X' = X) := by
  obtain ⟨lo, cap, hb, -⟩ := hR.lst
  have hblt := St.lt hb
  have hml := hR.ml
  have hnl := hR.nl
  by_cases hm : 1 ≤ m ∧ m ≤ 4
  · obtain ⟨num, rfl⟩ : ∃ num : Nat, m = num := ⟨m.toNat, by omega⟩
    obtain ⟨y, hy⟩ : ∃ y, ms[num]? = some y := ⟨_, List.getElem?_eq_getElem (by omega)⟩
    have hy0 := rk_mark0 s lo cs.length cap hnl hy
    have hy4 := fun d e wr => rk_mark s lo cs.length cap hnl hy d e wr
    have hds : (∀ v ∈ y.cells, single v = true) = True := eq_true (MK.single _)
    have hlen : y.cells.length = 4 := rfl
    have hk5 : ((0 : Int) ≤ num ∧ (num : Int) < 5) = True := eq_true ⟨by omega, by omega⟩
    have hsp : Sym.splice [.int .u8 0, .string ⟨#[]⟩, .int .i64 0, .int .i64 0] 0 y.cells = y.cells := rfl
    have htk : y.cells.take 4 = y.cells := rfl
    rw [if_pos hm, Int.toNat_natCast, hy]
    refine Does.body numOK mixed k.f50 rfl k.o50 (Nat.le_of_ble_eq_true rfl) ?_
    simp (disch := first | omega | (simp only [Zv, Zw, Zx, Zy, Zz]; omega)) only [↓SA, Vi, Vj, Vk, Vl, Vm, Ya, Yb, Vn, Vo, Vp, Vq, Vr, Vs, Vt, Vu, Vv, Vw, Vx, Vy, Yc, Vz, VA, VB, VC, VD, VE, VF, VG, VH, VI, VJ, VK, VL, VM, VN, VO, VP, VQ, VR, VS, VT, VU, VV, VW, VX, VY, VZ, V0, V1, V2, V3, V4, V5, V9, Ga, Gp, Gq, GF, GG, GH, GI, GJ, GK, GL, GM, GN, GO, Yd, Ye, Yf, Yg, GP, GQ, GR, GS, GT, GU, GV, GW, GX, GY, GZ, G0, G1, G2, G3, G4, G5, G6, G7, G8, G9, Za, Zb, Zc, Zd, Ze, Zf, Zg, Zh, Zi, Zj, Zk, Zl, Zm, Zn, Zo, Yh, Yi, Yj, Yk, Yl, Ym, Yn, Yo, Yp, Yq, Yr, ↓reduceIte, Ys, Yu, Yv, Yw, Yx, Yy, Yz, YA, Nat.reduceAdd, Nat.reduceEqDiff, Nat.reduceMul, YB, YC, reduceCtorEq, YD, YE, YF, YG, YH, YI, YJ, YK, YL, Nat.reduceLeDiff, Nat.reduceSub, Zr, Zs, YM, YN, YO, YP, Int.reduceLE, Int.reduceLT, Int.reduceEq, Int.reduceAdd, Int.reduceSub, Int.reduceMul, Int.reduceToNat, Int.reduceNeg, YQ, Nat.reduceLT, YR, YS, Zt, Zu, hb, rkL_0, rkL_1]
    repeat' (first | (refine cnd_intro (fun h => ?_) (fun h => ?_) <;> (try simp only [decide_eq_true_eq, decide_eq_false_iff_not, Bool.not_eq_true', Bool.not_eq_false'] at h)) | (refine AllN_intro (fun n hn => ?_) <;> (try simp only [Zv, Zw, Zx, Zy, Zz] at hn)) | (refine DoesK.by (r_none (hR.mono (Le.new (Le.refl _) hn))) ?_; rintro _ X2 ⟨rfl, hX2⟩; subst X2) | (refine wpC_plan _ _ _ _ (Le.refl _) ?_) | (simp (disch := first | omega | (simp only [Zv, Zw, Zx, Zy, Zz]; omega)) only [↓SA, Vi, Vj, Vk, Vl, Vm, Ya, Yb, Vn, Vo, Vp, Vq, Vr, Vs, Vt, Vu, Vv, Vw, Vx, Vy, Yc, Vz, VA, VB, VC, VD, VE, VF, VG, VH, VI, VJ, VK, VL, VM, VN, VO, VP, VQ, VR, VS, VT, VU, VV, VW, VX, VY, VZ, V0, V1, V2, V3, V4, V5, V9, Ga, Gp, Gq, GF, GG, GH, GI, GJ, GK, GL, GM, GN, GO, Yd, Ye, Yf, Yg, GP, GQ, GR, GS, GT, GU, GV, GW, GX, GY, GZ, G0, G1, G2, G3, G4, G5, G6, G7, G8, G9, Za, Zb, Zc, Zd, Ze, Zf, Zg, Zh, Zi, Zj, Zk, Zl, Zm, Zn, Zo, Yh, Yi, Yj, Yk, Yl, Ym, Yn, Yo, Yp, Yq, Yr, ↓reduceIte, Ys, Yu, Yv, Yw, Yx, Yy, Yz, YA, Nat.reduceAdd, Nat.reduceEqDiff, Nat.reduceMul, YB, YC, reduceCtorEq, YD, YE, YF, YG, YH, YI, YJ, YK, YL, Nat.reduceLeDiff, Nat.reduceSub, Zr, Zs, YM, YN, YO, YP, Int.reduceLE, Int.reduceLT, Int.reduceEq, Int.reduceAdd, Int.reduceSub, Int.reduceMul, Int.reduceToNat, Int.reduceNeg, YQ, Nat.reduceLT, YR, YS, Zt, Zu, hb, rkL_0, rkL_1, hy0, hy4, hds, hlen, hk5, hsp, htk, YQ, res63r, *]))
    all_goals first
      | (exfalso; omega)
      | exact ⟨X, (by repeat' (first | exact Le.refl _ | (refine Le.new_of ?_ (by first | omega | (simp only [Zv, Zw, Zx, Zy, Zz] at *; omega))) | (refine Le.set_of ?_ (by first | omega | (simp only [Zv, Zw, Zx, Zy, Zz] at *; omega))))), by simp only [‹y.ma = 0›, if_true]; rfl, rfl⟩
      | exact ⟨X, (by repeat' (first | exact Le.refl _ | (refine Le.new_of ?_ (by first | omega | (simp only [Zv, Zw, Zx, Zy, Zz] at *; omega))) | (refine Le.set_of ?_ (by first | omega | (simp only [Zv, Zw, Zx, Zy, Zz] at *; omega))))), by simp only [‹¬ y.ma = 0›, if_false], rfl⟩
      | exact ⟨X, (by repeat' (first | exact Le.refl _ | (refine Le.new_of ?_ (by first | omega | (simp only [Zv, Zw, Zx, Zy, Zz] at *; omega))) | (refine Le.set_of ?_ (by first | omega | (simp only [Zv, Zw, Zx, Zy, Zz] at *; omega))))), rfl, rfl⟩
      | exact ⟨X, (by repeat' (first | exact Le.refl _ | (refine Le.new_of ?_ (by first | omega | (simp only [Zv, Zw, Zx, Zy, Zz] at *; omega))) | (refine Le.set_of ?_ (by first | omega | (simp only [Zv, Zw, Zx, Zy, Zz] at *; omega))))), rfl⟩
      | trace_state
  · rw [if_neg hm]
    refine Does.body numOK mixed k.f50 rfl k.o50 (Nat.le_of_ble_eq_true rfl) ?_
    simp (disch := first | omega | (simp only [Zv, Zw, Zx, Zy, Zz]; omega)) only [↓SA, Vi, Vj, Vk, Vl, Vm, Ya, Yb, Vn, Vo, Vp, Vq, Vr, Vs, Vt, Vu, Vv, Vw, Vx, Vy, Yc, Vz, VA, VB, VC, VD, VE, VF, VG, VH, VI, VJ, VK, VL, VM, VN, VO, VP, VQ, VR, VS, VT, VU, VV, VW, VX, VY, VZ, V0, V1, V2, V3, V4, V5, V9, Ga, Gp, Gq, GF, GG, GH, GI, GJ, GK, GL, GM, GN, GO, Yd, Ye, Yf, Yg, GP, GQ, GR, GS, GT, GU, GV, GW, GX, GY, GZ, G0, G1, G2, G3, G4, G5, G6, G7, G8, G9, Za, Zb, Zc, Zd, Ze, Zf, Zg, Zh, Zi, Zj, Zk, Zl, Zm, Zn, Zo, Yh, Yi, Yj, Yk, Yl, Ym, Yn, Yo, Yp, Yq, Yr, ↓reduceIte, Ys, Yu, Yv, Yw, Yx, Yy, Yz, YA, Nat.reduceAdd, Nat.reduceEqDiff, Nat.reduceMul, YB, YC, reduceCtorEq, YD, YE, YF, YG, YH, YI, YJ, YK, YL, Nat.reduceLeDiff, Nat.reduceSub, Zr, Zs, YM, YN, YO, YP, Int.reduceLE, Int.reduceLT, Int.reduceEq, Int.reduceAdd, Int.reduceSub, Int.reduceMul, Int.reduceToNat, Int.reduceNeg, YQ, Nat.reduceLT, YR, YS, Zt, Zu, hb, rkL_0, rkL_1]
    repeat' (first | (refine cnd_intro (fun h => ?_) (fun h => ?_) <;> (try simp only [decide_eq_true_eq, decide_eq_false_iff_not, Bool.not_eq_true', Bool.not_eq_false'] at h)) | (refine AllN_intro (fun n hn => ?_) <;> (try simp only [Zv, Zw, Zx, Zy, Zz] at hn)) | (refine DoesK.by (r_none (hR.mono (Le.new (Le.refl _) hn))) ?_; rintro _ X2 ⟨rfl, hX2⟩; subst X2) | (refine wpC_plan _ _ _ _ (Le.refl _) ?_) | (simp (disch := first | omega | (simp only [Zv, Zw, Zx, Zy, Zz]; omega)) only [↓SA, Vi, Vj, Vk, Vl, Vm, Ya, Yb, Vn, Vo, Vp, Vq, Vr, Vs, Vt, Vu, Vv, Vw, Vx, Vy, Yc, Vz, VA, VB, VC, VD, VE, VF, VG, VH, VI, VJ, VK, VL, VM, VN, VO, VP, VQ, VR, VS, VT, VU, VV, VW, VX, VY, VZ, V0, V1, V2, V3, V4, V5, V9, Ga, Gp, Gq, GF, GG, GH, GI, GJ, GK, GL, GM, GN, GO, Yd, Ye, Yf, Yg, GP, GQ, GR, GS, GT, GU, GV, GW, GX, GY, GZ, G0, G1, G2, G3, G4, G5, G6, G7, G8, G9, Za, Zb, Zc, Zd, Ze, Zf, Zg, Zh, Zi, Zj, Zk, Zl, Zm, Zn, Zo, Yh, Yi, Yj, Yk, Yl, Ym, Yn, Yo, Yp, Yq, Yr, ↓reduceIte, Ys, Yu, Yv, Yw, Yx, Yy, Yz, YA, Nat.reduceAdd, Nat.reduceEqDiff, Nat.reduceMul, YB, YC, reduceCtorEq, YD, YE, YF, YG, YH, YI, YJ, YK, YL, Nat.reduceLeDiff, Nat.reduceSub, Zr, Zs, YM, YN, YO, YP, Int.reduceLE, Int.reduceLT, Int.reduceEq, Int.reduceAdd, Int.reduceSub, Int.reduceMul, Int.reduceToNat, Int.reduceNeg, YQ, Nat.reduceLT, YR, YS, Zt, Zu, hb, rkL_0, rkL_1, res63r, *]))
    all_goals first
      | exact ⟨X, (by repeat' (first | exact Le.refl _ | (refine Le.new_of ?_ (by first | omega | (simp only [Zv, Zw, Zx, Zy, Zz] at *; omega))) | (refine Le.set_of ?_ (by first | omega | (simp only [Zv, Zw, Zx, Zy, Zz] at *; omega))))), rfl⟩
      | exact ⟨X, (by repeat' (first | exact Le.refl _ | (refine Le.new_of ?_ (by first | omega | (simp only [Zv, Zw, Zx, Zy, Zz] at *; omega))) | (refine Le.set_of ?_ (by first | omega | (simp only [Zv, Zw, Zx, Zy, Zz] at *; omega))))), rfl, rfl⟩
      | (exfalso; omega)
      | trace_state
set_option maxHeartbeats 4000000 in
theorem r_seal {b : Nat} {s : Bool} {cs : List KC} {ns : List ByteArray} {ms : List MK} (hR : Rk X b s cs ns ms) :
    Does Go.Proofs.Tryd.prog Bar 46 [.pointer (some ⟨b, 0, none⟩)] X (fun r X' => r = .int .i64 (sealRes s cs) ∧ (sealRes s cs ≠ 0 → X' = X) ∧ (sealRes s cs = 0 → Rk X' b true cs ns ms ∧ Keep b X X')) := by
  obtain ⟨lo, cap, hb, hlst⟩ := hR.lst
  have hblt := St.lt hb
  have hle := hR.le
  cases s
  · have hrl := rkL_len hR.nl hR.ml false lo cs.length cap
    have key : ∀ Z, Le X Z → ∀ v : Int, sealRes false cs = v → v ≠ 0 → ∃ Y, Le Y Z ∧ Value.int IntKind.i64 v = .int .i64 (sealRes false cs) ∧ (sealRes false cs ≠ 0 → Y = X) ∧ (sealRes false cs = 0 → Rk Y b true cs ns ms ∧ Keep b X Y) :=
      fun Z hz v h1 h2 => ⟨X, hz, by rw [h1], fun _ => rfl, fun h0 => absurd (h1.symm.trans h0) h2⟩
    refine Does.body numOK mixed k.f46 rfl k.o46 (Nat.le_of_ble_eq_true rfl) ?_
    simp (disch := first | omega | (simp only [Zv, Zw, Zx, Zy, Zz]; omega)) only [↓SA, Vi, Vj, Vk, Vl, Vm, Ya, Yb, Vn, Vo, Vp, Vq, Vr, Vs, Vt, Vu, Vv, Vw, Vx, Vy, Yc, Vz, VA, VB, VC, VD, VE, VF, VG, VH, VI, VJ, VK, VL, VM, VN, VO, VP, VQ, VR, VS, VT, VU, VV, VW, VX, VY, VZ, V0, V1, V2, V3, V4, V5, V9, Ga, Gp, Gq, GF, GG, GH, GI, GJ, GK, GL, GM, GN, GO, Yd, Ye, Yf, Yg, GP, GQ, GR, GS, GT, GU, GV, GW, GX, GY, GZ, G0, G1, G2, G3, G4, G5, G6, G7, G8, G9, Za, Zb, Zc, Zd, Ze, Zf, Zg, Zh, Zi, Zj, Zk, Zl, Zm, Zn, Zo, Yh, Yi, Yj, Yk, Yl, Ym, Yn, Yo, Yp, Yq, Yr, ↓reduceIte, Ys, Yu, Yv, Yw, Yx, Yy, Yz, YA, Nat.reduceAdd, Nat.reduceEqDiff, Nat.reduceMul, YB, YC, reduceCtorEq, YD, YE, YF, YG, YH, YI, YJ, YK, YL, Nat.reduceLeDiff, Nat.reduceSub, Zr, Zs, YM, YN, YO, YP, Int.reduceLE, Int.reduceLT, Int.reduceEq, Int.reduceAdd, Int.reduceSub, Int.reduceMul, Int.reduceToNat, Int.reduceNeg, YQ, Nat.reduceLT, YR, YS, Zt, Zu, hb, rkL_0, rkL_1]
    repeat' (first | (refine cnd_intro (fun h => ?_) (fun h => ?_) <;> (try simp only [decide_eq_true_eq, decide_eq_false_iff_not, Bool.not_eq_true', Bool.not_eq_false'] at h)) | (refine AllN_intro (fun n hn => ?_) <;> (try simp only [Zv, Zw, Zx, Zy, Zz] at hn)) | (refine DoesK.by (r_none hR) ?_; rintro _ X2 ⟨rfl, hX2⟩; subst X2) | (simp (disch := first | omega | (simp only [Zv, Zw, Zx, Zy, Zz]; omega)) only [↓SA, Vi, Vj, Vk, Vl, Vm, Ya, Yb, Vn, Vo, Vp, Vq, Vr, Vs, Vt, Vu, Vv, Vw, Vx, Vy, Yc, Vz, VA, VB, VC, VD, VE, VF, VG, VH, VI, VJ, VK, VL, VM, VN, VO, VP, VQ, VR, VS, VT, VU, VV, VW, VX, VY, VZ, V0, V1, V2, V3, V4, V5, V9, Ga, Gp, Gq, GF, GG, GH, GI, GJ, GK, GL, GM, GN, GO, Yd, Ye, Yf, Yg, GP, GQ, GR, GS, GT, GU, GV, GW, GX, GY, GZ, G0, G1, G2, G3, G4, G5, G6, G7, G8, G9, Za, Zb, Zc, Zd, Ze, Zf, Zg, Zh, Zi, Zj, Zk, Zl, Zm, Zn, Zo, Yh, Yi, Yj, Yk, Yl, Ym, Yn, Yo, Yp, Yq, Yr, ↓reduceIte, Ys, Yu, Yv, Yw, Yx, Yy, Yz, YA, Nat.reduceAdd, Nat.reduceEqDiff, Nat.reduceMul, YB, YC, reduceCtorEq, YD, YE, YF, YG, YH, YI, YJ, YK, YL, Nat.reduceLeDiff, Nat.reduceSub, Zr, Zs, YM, YN, YO, YP, Int.reduceLE, Int.reduceLT, Int.reduceEq, Int.reduceAdd, Int.reduceSub, Int.reduceMul, Int.reduceToNat, Int.reduceNeg, YQ, Nat.reduceLT, YR, YS, Zt, Zu, hb, rkL_0, rkL_1, *]))
    refine wpC_loop (fun i : Nat => ⟨67, [(0, .pointer (some ⟨b, 0, none⟩)), (3, .int .i64 i)]⟩) (fun _ => X) (fun i => i ≤ cs.length ∧ sealCs cs (cs.drop i) = sealCs cs cs) (fun i => cs.length - i) 0 rfl (Le.refl _) ⟨Nat.zero_le _, rfl⟩ ?_
    rintro i ⟨hi, hinv⟩
    by_cases hil : i < cs.length
    · obtain ⟨c, hc⟩ : ∃ c, cs[i]? = some c := ⟨_, List.getElem?_eq_getElem hil⟩
      have hil' : decide ((i : Int) < cs.length) = true := decide_eq_true (by omega)
      rcases hlst with rfl | ⟨lb, full, rfl, hlb⟩
      · cases hil
      have hlbl := St.lt hlb
      obtain ⟨hpc0, hp4⟩ := hR.p c (List.mem_of_getElem? hc)
      have hpc := hpc0.k
      have hc8 : (cs.flatMap KC.cells)[i * 9 + 8]? = some (.slice c.po c.ps.length c.pc) := (flat_cell hc (by decide)).trans rfl
      rw [drop_cons0 hc] at hinv
      have hinv2 : (if sealPs cs c.ps ≠ 0 then sealPs cs c.ps else sealCs cs (cs.drop (i + 1))) = sealCs cs cs := hinv
      clear hinv
      simp (disch := first | omega | (simp only [Zv, Zw, Zx, Zy, Zz]; omega)) only [↓SA, Vi, Vj, Vk, Vl, Vm, Ya, Yb, Vn, Vo, Vp, Vq, Vr, Vs, Vt, Vu, Vv, Vw, Vx, Vy, Yc, Vz, VA, VB, VC, VD, VE, VF, VG, VH, VI, VJ, VK, VL, VM, VN, VO, VP, VQ, VR, VS, VT, VU, VV, VW, VX, VY, VZ, V0, V1, V2, V3, V4, V5, V9, Ga, Gp, Gq, GF, GG, GH, GI, GJ, GK, GL, GM, GN, GO, Yd, Ye, Yf, Yg, GP, GQ, GR, GS, GT, GU, GV, GW, GX, GY, GZ, G0, G1, G2, G3, G4, G5, G6, G7, G8, G9, Za, Zb, Zc, Zd, Ze, Zf, Zg, Zh, Zi, Zj, Zk, Zl, Zm, Zn, Zo, Yh, Yi, Yj, Yk, Yl, Ym, Yn, Yo, Yp, Yq, Yr, ↓reduceIte, Ys, Yu, Yv, Yw, Yx, Yy, Yz, YA, Nat.reduceAdd, Nat.reduceEqDiff, Nat.reduceMul, YB, YC, reduceCtorEq, YD, YE, YF, YG, YH, YI, YJ, YK, YL, Nat.reduceLeDiff, Nat.reduceSub, Zr, Zs, YM, YN, YO, YP, Int.reduceLE, Int.reduceLT, Int.reduceEq, Int.reduceAdd, Int.reduceSub, Int.reduceMul, Int.reduceToNat, Int.reduceNeg, YQ, Nat.reduceLT, YR, YS, Zt, Zu, hil', hb, rkL_2]
      refine wpC_loop (fun j : Nat => ⟨67, [(0, .pointer (some ⟨b, 0, none⟩)), (3, .int .i64 i), (4, .int .i64 j)]⟩) (fun _ => X) (fun j => j ≤ c.ps.length ∧ sealPs cs (c.ps.drop j) = sealPs cs c.ps) (fun j => c.ps.length - j) 0 rfl (Le.refl _) ⟨Nat.zero_le _, rfl⟩ ?_
      rintro j ⟨hj, hjn⟩
      by_cases hjl : j < c.ps.length
      · obtain ⟨q, hq⟩ : ∃ q, c.ps[j]? = some q := ⟨_, List.getElem?_eq_getElem hjl⟩
        have hjl' : decide ((j : Int) < c.ps.length) = true := decide_eq_true (by omega)
        rw [drop_cons0 hq] at hjn
        rcases hpc.at with h0 | ⟨pb, po', hpo, hp'⟩
        · rw [h0] at hjl; cases hjl
        have hq8 := hp' j q hq
        have hplt := cellsOf_lt hq8
        rw [hpo] at hc8
        obtain ⟨q1, q2, q3, q4, q5, q6, q7, q8⟩ := q
        simp only [Part.cells] at hq8
        have hstop : Hid (∀ v : Int, sealPs cs (⟨q1, q2, q3, q4, q5, q6, q7, q8⟩ :: c.ps.drop (j + 1)) = v → v ≠ 0 → sealRes false cs = v) := ⟨by
          intro v h1 h2
          show sealCs cs cs = v
          rw [← hinv2, ← hjn, h1, if_pos h2]⟩
        have hgo : Hid (sealPs cs (⟨q1, q2, q3, q4, q5, q6, q7, q8⟩ :: c.ps.drop (j + 1)) = sealPs cs (c.ps.drop (j + 1)) → sealPs cs (c.ps.drop (j + 1)) = sealPs cs c.ps) := ⟨fun h1 => h1.symm.trans hjn⟩
        clear hinv2 hjn hp' hpc hpo hc hq hpc0
        by_cases h0 : 0 ≤ pos q8 cs
        · have hpl := pos_lt q8 cs
          obtain ⟨ck, hck⟩ : ∃ ck, cs[(pos q8 cs).toNat]? = some ck := ⟨_, List.getElem?_eq_getElem (by omega)⟩
          have hkind : (cs.flatMap KC.cells)[(pos q8 cs).toNat * 9 + 2]? = some (.int .u8 ck.h.ki) := (flat_cell hck (by decide)).trans rfl
          have hE : Hid (sealPs cs (⟨q1, q2, q3, q4, q5, q6, q7, q8⟩ :: c.ps.drop (j + 1)) = if q2 = 7 then (if pos q8 cs < 0 then 6 else if (decide (ck.h.ki = 2) = true) then 8 else sealPs cs (c.ps.drop (j + 1))) else sealPs cs (c.ps.drop (j + 1))) := ⟨by
            show (if q2 = 7 then (if pos q8 cs < 0 then 6 else if ((cs[(pos q8 cs).toNat]?).any fun c => decide (c.h.ki = 2)) then 8 else sealPs cs (c.ps.drop (j + 1))) else sealPs cs (c.ps.drop (j + 1))) = _
            rw [hck]; rfl⟩
          have h0' : decide (pos q8 cs < 0) = false := decide_eq_false (by omega)
          have hcj : (0 ≤ pos q8 cs ∧ pos q8 cs < cs.length) = True := eq_true ⟨h0, hpl.1⟩
          have hcj2 : (pos q8 cs < (cs.length : Int)) = True := eq_true hpl.1
          clear hck hpl
          simp (disch := first | omega | (simp only [Zv, Zw, Zx, Zy, Zz]; omega)) only [↓SA, Vi, Vj, Vk, Vl, Vm, Ya, Yb, Vn, Vo, Vp, Vq, Vr, Vs, Vt, Vu, Vv, Vw, Vx, Vy, Yc, Vz, VA, VB, VC, VD, VE, VF, VG, VH, VI, VJ, VK, VL, VM, VN, VO, VP, VQ, VR, VS, VT, VU, VV, VW, VX, VY, VZ, V0, V1, V2, V3, V4, V5, V9, Ga, Gp, Gq, GF, GG, GH, GI, GJ, GK, GL, GM, GN, GO, Yd, Ye, Yf, Yg, GP, GQ, GR, GS, GT, GU, GV, GW, GX, GY, GZ, G0, G1, G2, G3, G4, G5, G6, G7, G8, G9, Za, Zb, Zc, Zd, Ze, Zf, Zg, Zh, Zi, Zj, Zk, Zl, Zm, Zn, Zo, Yh, Yi, Yj, Yk, Yl, Ym, Yn, Yo, Yp, Yq, Yr, ↓reduceIte, Ys, Yu, Yv, Yw, Yx, Yy, Yz, YA, Nat.reduceAdd, Nat.reduceEqDiff, Nat.reduceMul, YB, YC, reduceCtorEq, YD, YE, YF, YG, YH, YI, YJ, YK, YL, Nat.reduceLeDiff, Nat.reduceSub, Zr, Zs, YM, YN, YO, YP, Int.reduceLE, Int.reduceLT, Int.reduceEq, Int.reduceAdd, Int.reduceSub, Int.reduceMul, Int.reduceToNat, Int.reduceNeg, YQ, Nat.reduceLT, YR, YS, Zt, Zu, hil', hjl', hb, rkL_2, hlb, hc8, hq8, YQ]
          repeat' (first | (refine cnd_intro (fun h => ?_) (fun h => ?_) <;> (try simp only [decide_eq_true_eq, decide_eq_false_iff_not, Bool.not_eq_true', Bool.not_eq_false'] at h)) | (refine AllN_intro (fun n hn => ?_) <;> (try simp only [Zv, Zw, Zx, Zy, Zz] at hn)) | (refine DoesK.by (r_place (hR.mono (Le.new (Le.refl _) hn)) _) ?_; rintro _ X2 ⟨rfl, hX2⟩; subst X2) | (refine wpC_plan _ _ _ _ (by repeat' (first | exact Le.refl _ | (refine Le.new_of ?_ (by omega)))) ?_) | (simp (disch := first | omega | (simp only [Zv, Zw, Zx, Zy, Zz]; omega)) only [↓SA, Vi, Vj, Vk, Vl, Vm, Ya, Yb, Vn, Vo, Vp, Vq, Vr, Vs, Vt, Vu, Vv, Vw, Vx, Vy, Yc, Vz, VA, VB, VC, VD, VE, VF, VG, VH, VI, VJ, VK, VL, VM, VN, VO, VP, VQ, VR, VS, VT, VU, VV, VW, VX, VY, VZ, V0, V1, V2, V3, V4, V5, V9, Ga, Gp, Gq, GF, GG, GH, GI, GJ, GK, GL, GM, GN, GO, Yd, Ye, Yf, Yg, GP, GQ, GR, GS, GT, GU, GV, GW, GX, GY, GZ, G0, G1, G2, G3, G4, G5, G6, G7, G8, G9, Za, Zb, Zc, Zd, Ze, Zf, Zg, Zh, Zi, Zj, Zk, Zl, Zm, Zn, Zo, Yh, Yi, Yj, Yk, Yl, Ym, Yn, Yo, Yp, Yq, Yr, ↓reduceIte, Ys, Yu, Yv, Yw, Yx, Yy, Yz, YA, Nat.reduceAdd, Nat.reduceEqDiff, Nat.reduceMul, YB, YC, reduceCtorEq, YD, YE, YF, YG, YH, YI, YJ, YK, YL, Nat.reduceLeDiff, Nat.reduceSub, Zr, Zs, YM, YN, YO, YP, Int.reduceLE, Int.reduceLT, Int.reduceEq, Int.reduceAdd, Int.reduceSub, Int.reduceMul, Int.reduceToNat, Int.reduceNeg, YQ, Nat.reduceLT, YR, YS, Zt, Zu, hil', hjl', hb, rkL_2, hlb, hc8, hq8, hkind, h0', hcj, hcj2, YQ, *]))
          all_goals first
            | exact ⟨j + 1, rfl, (by repeat' (first | exact Le.refl _ | (refine Le.new_of ?_ (by first | omega | (simp only [Zv, Zw, Zx, Zy, Zz] at *; omega))) | (refine Le.set_of ?_ (by first | omega | (simp only [Zv, Zw, Zx, Zy, Zz] at *; omega))))), ⟨by omega, hgo.h (by rw [hE.h, if_neg ‹¬ q2 = 7›])⟩, by omega⟩
            | exact ⟨j + 1, rfl, (by repeat' (first | exact Le.refl _ | (refine Le.new_of ?_ (by first | omega | (simp only [Zv, Zw, Zx, Zy, Zz] at *; omega))) | (refine Le.set_of ?_ (by first | omega | (simp only [Zv, Zw, Zx, Zy, Zz] at *; omega))))), ⟨by omega, hgo.h (by rw [hE.h, if_pos rfl, if_neg (show ¬ pos q8 cs < 0 by omega), if_neg (by simpa using ‹¬ ck.h.ki = 2›)])⟩, by omega⟩
            | exact key _ (by repeat' (first | exact Le.refl _ | (refine Le.new_of ?_ (by first | omega | (simp only [Zv, Zw, Zx, Zy, Zz] at *; omega))) | (refine Le.set_of ?_ (by first | omega | (simp only [Zv, Zw, Zx, Zy, Zz] at *; omega))))) _ (hstop.h _ (by rw [hE.h, if_pos rfl, if_neg (show ¬ pos q8 cs < 0 by omega), if_pos (by simpa using ‹ck.h.ki = 2›)]) (by omega)) (by omega)
            | exact ⟨j + 1, rfl, (by repeat' (first | exact Le.refl _ | (refine Le.new_of ?_ (by first | omega | (simp only [Zv, Zw, Zx, Zy, Zz] at *; omega))) | (refine Le.set_of ?_ (by first | omega | (simp only [Zv, Zw, Zx, Zy, Zz] at *; omega))))), ⟨by omega, hgo.h (by rw [hE.h, if_pos ‹q2 = 7›, if_neg (show ¬ pos q8 cs < 0 by omega), if_neg (by simpa using ‹¬ ck.h.ki = 2›)])⟩, by omega⟩
            | exact key _ (by repeat' (first | exact Le.refl _ | (refine Le.new_of ?_ (by first | omega | (simp only [Zv, Zw, Zx, Zy, Zz] at *; omega))) | (refine Le.set_of ?_ (by first | omega | (simp only [Zv, Zw, Zx, Zy, Zz] at *; omega))))) _ (hstop.h _ (by rw [hE.h, if_pos ‹q2 = 7›, if_neg (show ¬ pos q8 cs < 0 by omega), if_pos (by simpa using ‹ck.h.ki = 2›)]) (by omega)) (by omega)
        · have hE : Hid (sealPs cs (⟨q1, q2, q3, q4, q5, q6, q7, q8⟩ :: c.ps.drop (j + 1)) = if q2 = 7 then (if pos q8 cs < 0 then 6 else if (((cs[(pos q8 cs).toNat]?).any fun c => decide (c.h.ki = 2)) = true) then 8 else sealPs cs (c.ps.drop (j + 1))) else sealPs cs (c.ps.drop (j + 1))) := ⟨rfl⟩
          have h0' : decide (pos q8 cs < 0) = true := decide_eq_true (by omega)
          simp (disch := first | omega | (simp only [Zv, Zw, Zx, Zy, Zz]; omega)) only [↓SA, Vi, Vj, Vk, Vl, Vm, Ya, Yb, Vn, Vo, Vp, Vq, Vr, Vs, Vt, Vu, Vv, Vw, Vx, Vy, Yc, Vz, VA, VB, VC, VD, VE, VF, VG, VH, VI, VJ, VK, VL, VM, VN, VO, VP, VQ, VR, VS, VT, VU, VV, VW, VX, VY, VZ, V0, V1, V2, V3, V4, V5, V9, Ga, Gp, Gq, GF, GG, GH, GI, GJ, GK, GL, GM, GN, GO, Yd, Ye, Yf, Yg, GP, GQ, GR, GS, GT, GU, GV, GW, GX, GY, GZ, G0, G1, G2, G3, G4, G5, G6, G7, G8, G9, Za, Zb, Zc, Zd, Ze, Zf, Zg, Zh, Zi, Zj, Zk, Zl, Zm, Zn, Zo, Yh, Yi, Yj, Yk, Yl, Ym, Yn, Yo, Yp, Yq, Yr, ↓reduceIte, Ys, Yu, Yv, Yw, Yx, Yy, Yz, YA, Nat.reduceAdd, Nat.reduceEqDiff, Nat.reduceMul, YB, YC, reduceCtorEq, YD, YE, YF, YG, YH, YI, YJ, YK, YL, Nat.reduceLeDiff, Nat.reduceSub, Zr, Zs, YM, YN, YO, YP, Int.reduceLE, Int.reduceLT, Int.reduceEq, Int.reduceAdd, Int.reduceSub, Int.reduceMul, Int.reduceToNat, Int.reduceNeg, YQ, Nat.reduceLT, YR, YS, Zt, Zu, hil', hjl', hb, rkL_2, hlb, hc8, hq8, YQ]
          repeat' (first | (refine cnd_intro (fun h => ?_) (fun h => ?_) <;> (try simp only [decide_eq_true_eq, decide_eq_false_iff_not, Bool.not_eq_true', Bool.not_eq_false'] at h)) | (refine AllN_intro (fun n hn => ?_) <;> (try simp only [Zv, Zw, Zx, Zy, Zz] at hn)) | (refine DoesK.by (r_place (hR.mono (Le.new (Le.refl _) hn)) _) ?_; rintro _ X2 ⟨rfl, hX2⟩; subst X2) | (refine wpC_plan _ _ _ _ (by repeat' (first | exact Le.refl _ | (refine Le.new_of ?_ (by omega)))) ?_) | (simp (disch := first | omega | (simp only [Zv, Zw, Zx, Zy, Zz]; omega)) only [↓SA, Vi, Vj, Vk, Vl, Vm, Ya, Yb, Vn, Vo, Vp, Vq, Vr, Vs, Vt, Vu, Vv, Vw, Vx, Vy, Yc, Vz, VA, VB, VC, VD, VE, VF, VG, VH, VI, VJ, VK, VL, VM, VN, VO, VP, VQ, VR, VS, VT, VU, VV, VW, VX, VY, VZ, V0, V1, V2, V3, V4, V5, V9, Ga, Gp, Gq, GF, GG, GH, GI, GJ, GK, GL, GM, GN, GO, Yd, Ye, Yf, Yg, GP, GQ, GR, GS, GT, GU, GV, GW, GX, GY, GZ, G0, G1, G2, G3, G4, G5, G6, G7, G8, G9, Za, Zb, Zc, Zd, Ze, Zf, Zg, Zh, Zi, Zj, Zk, Zl, Zm, Zn, Zo, Yh, Yi, Yj, Yk, Yl, Ym, Yn, Yo, Yp, Yq, Yr, ↓reduceIte, Ys, Yu, Yv, Yw, Yx, Yy, Yz, YA, Nat.reduceAdd, Nat.reduceEqDiff, Nat.reduceMul, YB, YC, reduceCtorEq, YD, YE, YF, YG, YH, YI, YJ, YK, YL, Nat.reduceLeDiff, Nat.reduceSub, Zr, Zs, YM, YN, YO, YP, Int.reduceLE, Int.reduceLT, Int.reduceEq, Int.reduceAdd, Int.reduceSub, Int.reduceMul, Int.reduceToNat, Int.reduceNeg, YQ, Nat.reduceLT, YR, YS, Zt, Zu, hil', hjl', hb, rkL_2, hlb, hc8, hq8, h0', YQ, *]))
          all_goals first
            | exact ⟨j + 1, rfl, (by repeat' (first | exact Le.refl _ | (refine Le.new_of ?_ (by first | omega | (simp only [Zv, Zw, Zx, Zy, Zz] at *; omega))) | (refine Le.set_of ?_ (by first | omega | (simp only [Zv, Zw, Zx, Zy, Zz] at *; omega))))), ⟨by omega, hgo.h (by rw [hE.h, if_neg ‹¬ q2 = 7›])⟩, by omega⟩
            | exact key _ (by repeat' (first | exact Le.refl _ | (refine Le.new_of ?_ (by first | omega | (simp only [Zv, Zw, Zx, Zy, Zz] at *; omega))) | (refine Le.set_of ?_ (by first | omega | (simp only [Zv, Zw, Zx, Zy, Zz] at *; omega))))) _ (hstop.h _ (by rw [hE.h, if_pos rfl, if_pos (show pos q8 cs < 0 by omega)]) (by omega)) (by omega)
            | exact key _ (by repeat' (first | exact Le.refl _ | (refine Le.new_of ?_ (by first | omega | (simp only [Zv, Zw, Zx, Zy, Zz] at *; omega))) | (refine Le.set_of ?_ (by first | omega | (simp only [Zv, Zw, Zx, Zy, Zz] at *; omega))))) _ (hstop.h _ (by rw [hE.h, if_pos ‹q2 = 7›, if_pos (show pos q8 cs < 0 by omega)]) (by omega)) (by omega)
      · have hjl' : decide ((j : Int) < c.ps.length) = false := decide_eq_false (by omega)
        simp (disch := first | omega | (simp only [Zv, Zw, Zx, Zy, Zz]; omega)) only [↓SA, Vi, Vj, Vk, Vl, Vm, Ya, Yb, Vn, Vo, Vp, Vq, Vr, Vs, Vt, Vu, Vv, Vw, Vx, Vy, Yc, Vz, VA, VB, VC, VD, VE, VF, VG, VH, VI, VJ, VK, VL, VM, VN, VO, VP, VQ, VR, VS, VT, VU, VV, VW, VX, VY, VZ, V0, V1, V2, V3, V4, V5, V9, Ga, Gp, Gq, GF, GG, GH, GI, GJ, GK, GL, GM, GN, GO, Yd, Ye, Yf, Yg, GP, GQ, GR, GS, GT, GU, GV, GW, GX, GY, GZ, G0, G1, G2, G3, G4, G5, G6, G7, G8, G9, Za, Zb, Zc, Zd, Ze, Zf, Zg, Zh, Zi, Zj, Zk, Zl, Zm, Zn, Zo, Yh, Yi, Yj, Yk, Yl, Ym, Yn, Yo, Yp, Yq, Yr, ↓reduceIte, Ys, Yu, Yv, Yw, Yx, Yy, Yz, YA, Nat.reduceAdd, Nat.reduceEqDiff, Nat.reduceMul, YB, YC, reduceCtorEq, YD, YE, YF, YG, YH, YI, YJ, YK, YL, Nat.reduceLeDiff, Nat.reduceSub, Zr, Zs, YM, YN, YO, YP, Int.reduceLE, Int.reduceLT, Int.reduceEq, Int.reduceAdd, Int.reduceSub, Int.reduceMul, Int.reduceToNat, Int.reduceNeg, YQ, Nat.reduceLT, YR, YS, Zt, Zu, hil', hjl', hb, rkL_2, hlb, hc8, YQ]
        have : c.ps.drop j = [] := List.drop_eq_nil_of_le (by omega)
        rw [this] at hjn
        have hjn : sealPs cs c.ps = 0 := hjn.symm
        rw [hjn, if_neg (by simp)] at hinv2
        exact ⟨i + 1, rfl, Le.refl _, ⟨by omega, hinv2⟩, by omega⟩
    · have hil' : decide ((i : Int) < cs.length) = false := decide_eq_false (by omega)
      simp (disch := first | omega | (simp only [Zv, Zw, Zx, Zy, Zz]; omega)) only [↓SA, Vi, Vj, Vk, Vl, Vm, Ya, Yb, Vn, Vo, Vp, Vq, Vr, Vs, Vt, Vu, Vv, Vw, Vx, Vy, Yc, Vz, VA, VB, VC, VD, VE, VF, VG, VH, VI, VJ, VK, VL, VM, VN, VO, VP, VQ, VR, VS, VT, VU, VV, VW, VX, VY, VZ, V0, V1, V2, V3, V4, V5, V9, Ga, Gp, Gq, GF, GG, GH, GI, GJ, GK, GL, GM, GN, GO, Yd, Ye, Yf, Yg, GP, GQ, GR, GS, GT, GU, GV, GW, GX, GY, GZ, G0, G1, G2, G3, G4, G5, G6, G7, G8, G9, Za, Zb, Zc, Zd, Ze, Zf, Zg, Zh, Zi, Zj, Zk, Zl, Zm, Zn, Zo, Yh, Yi, Yj, Yk, Yl, Ym, Yn, Yo, Yp, Yq, Yr, ↓reduceIte, Ys, Yu, Yv, Yw, Yx, Yy, Yz, YA, Nat.reduceAdd, Nat.reduceEqDiff, Nat.reduceMul, YB, YC, reduceCtorEq, YD, YE, YF, YG, YH, YI, YJ, YK, YL, Nat.reduceLeDiff, Nat.reduceSub, Zr, Zs, YM, YN, YO, YP, Int.reduceLE, Int.reduceLT, Int.reduceEq, Int.reduceAdd, Int.reduceSub, Int.reduceMul, Int.reduceToNat, Int.reduceNeg, YQ, Nat.reduceLT, YR, YS, Zt, Zu, hil', hb, rkL_2, hrl, rkL_s]
      have : cs.drop i = [] := List.drop_eq_nil_of_le (by omega)
      rw [this] at hinv
      have e : sealRes false cs = 0 := hinv.symm
      refine ⟨_, Le.refl _, by rw [e], fun h0 => absurd e h0, fun _ => ⟨⟨⟨lo, cap, VI hblt, ?_⟩, hR.nl, hR.ml, hR.m0, fun c hc => ⟨(hR.p c hc).1.keep hb (show TR ≠ TP by decide) Keep.set, (hR.p c hc).2⟩, hR.u, hR.le⟩, Keep.set⟩⟩
      rcases hlst with h | ⟨lb, full, hlo, h⟩
      · exact .inl h
      · refine .inr ⟨lb, full, hlo, ?_⟩
        rw [VJ (fun e => ?_)]
        · exact h
        · subst e
          rw [hb] at h
          have h9 : (some TR : Option Nat) = some TC := congrArg (fun o => o.map Blk.elem) h
          exact absurd (Option.some.inj h9) (by decide)
  · refine Does.body numOK mixed k.f46 rfl k.o46 (Nat.le_of_ble_eq_true rfl) ?_
    simp (disch := first | omega | (simp only [Zv, Zw, Zx, Zy, Zz]; omega)) only [↓SA, Vi, Vj, Vk, Vl, Vm, Ya, Yb, Vn, Vo, Vp, Vq, Vr, Vs, Vt, Vu, Vv, Vw, Vx, Vy, Yc, Vz, VA, VB, VC, VD, VE, VF, VG, VH, VI, VJ, VK, VL, VM, VN, VO, VP, VQ, VR, VS, VT, VU, VV, VW, VX, VY, VZ, V0, V1, V2, V3, V4, V5, V9, Ga, Gp, Gq, GF, GG, GH, GI, GJ, GK, GL, GM, GN, GO, Yd, Ye, Yf, Yg, GP, GQ, GR, GS, GT, GU, GV, GW, GX, GY, GZ, G0, G1, G2, G3, G4, G5, G6, G7, G8, G9, Za, Zb, Zc, Zd, Ze, Zf, Zg, Zh, Zi, Zj, Zk, Zl, Zm, Zn, Zo, Yh, Yi, Yj, Yk, Yl, Ym, Yn, Yo, Yp, Yq, Yr, ↓reduceIte, Ys, Yu, Yv, Yw, Yx, Yy, Yz, YA, Nat.reduceAdd, Nat.reduceEqDiff, Nat.reduceMul, YB, YC, reduceCtorEq, YD, YE, YF, YG, YH, YI, YJ, YK, YL, Nat.reduceLeDiff, Nat.reduceSub, Zr, Zs, YM, YN, YO, YP, Int.reduceLE, Int.reduceLT, Int.reduceEq, Int.reduceAdd, Int.reduceSub, Int.reduceMul, Int.reduceToNat, Int.reduceNeg, YQ, Nat.reduceLT, YR, YS, Zt, Zu, hb, rkL_0, rkL_1]
    repeat' (first | (refine cnd_intro (fun h => ?_) (fun h => ?_) <;> (try simp only [decide_eq_true_eq, decide_eq_false_iff_not, Bool.not_eq_true', Bool.not_eq_false'] at h)) | (refine AllN_intro (fun n hn => ?_) <;> (try simp only [Zv, Zw, Zx, Zy, Zz] at hn)) | (refine DoesK.by (r_none hR) ?_; rintro _ X2 ⟨rfl, hX2⟩; subst X2) | (simp (disch := first | omega | (simp only [Zv, Zw, Zx, Zy, Zz]; omega)) only [↓SA, Vi, Vj, Vk, Vl, Vm, Ya, Yb, Vn, Vo, Vp, Vq, Vr, Vs, Vt, Vu, Vv, Vw, Vx, Vy, Yc, Vz, VA, VB, VC, VD, VE, VF, VG, VH, VI, VJ, VK, VL, VM, VN, VO, VP, VQ, VR, VS, VT, VU, VV, VW, VX, VY, VZ, V0, V1, V2, V3, V4, V5, V9, Ga, Gp, Gq, GF, GG, GH, GI, GJ, GK, GL, GM, GN, GO, Yd, Ye, Yf, Yg, GP, GQ, GR, GS, GT, GU, GV, GW, GX, GY, GZ, G0, G1, G2, G3, G4, G5, G6, G7, G8, G9, Za, Zb, Zc, Zd, Ze, Zf, Zg, Zh, Zi, Zj, Zk, Zl, Zm, Zn, Zo, Yh, Yi, Yj, Yk, Yl, Ym, Yn, Yo, Yp, Yq, Yr, ↓reduceIte, Ys, Yu, Yv, Yw, Yx, Yy, Yz, YA, Nat.reduceAdd, Nat.reduceEqDiff, Nat.reduceMul, YB, YC, reduceCtorEq, YD, YE, YF, YG, YH, YI, YJ, YK, YL, Nat.reduceLeDiff, Nat.reduceSub, Zr, Zs, YM, YN, YO, YP, Int.reduceLE, Int.reduceLT, Int.reduceEq, Int.reduceAdd, Int.reduceSub, Int.reduceMul, Int.reduceToNat, Int.reduceNeg, YQ, Nat.reduceLT, YR, YS, Zt, Zu, hb, rkL_0, rkL_1, *]))
    all_goals exact ⟨X, (by repeat' (first | exact Le.refl _ | (refine Le.new_of ?_ (by first | omega | (simp only [Zv, Zw, Zx, Zy, Zz] at *; omega))) | (refine Le.set_of ?_ (by first | omega | (simp only [Zv, Zw, Zx, Zy, Zz] at *; omega))))), rfl, fun _ => rfl, fun h0 => absurd h0 (show ¬ ((7 : Int) = 0) by decide)⟩
end Go.Proofs.YtdgbnaignpploaaDoor.bk
