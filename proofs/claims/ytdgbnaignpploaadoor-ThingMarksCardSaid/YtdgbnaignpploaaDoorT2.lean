/- The document's Marked, Left. -/
import Derived.Test.YtdgbnaignpploaaDoorG0
import Derived.Test.YtdgbnaignpploaaDoorSy
import Derived.Test.YtdgbnaignpploaaDoorT1
namespace Go.Proofs.YtdgbnaignpploaaDoor.bk
open Go.Sym
set_option linter.unusedVariables false
set_option linter.unusedSimpArgs false
set_option maxRecDepth 100000
variable {Bar : Nat} {X : St}
structure TKc where
  ca : Int
  ow : Int
  pl : Int
  st : Int
  hu : Int
  ma : List Int
  dn : Int
  fr : Bool
def TKc.cells (t : TKc) : List Value := [.int .i64 t.ca, .int .i64 t.ow, .int .u8 t.pl, .int .i64 t.st, .int .i64 t.hu] ++ ints t.ma ++ [.int .i64 t.dn, .bool t.fr]
theorem d_left (f : FK) (l : List Value) (h : l.length = 11) (hs : (∀ v ∈ l, single v = true) = True) (u : Int) (h4 : l[4]? = some (.int .i64 u)) : Does Go.Proofs.Tryd.prog Bar 12 [.agg ⟨f.cells⟩, .agg ⟨l⟩] X (fun r X' => r = .int .i64 (IntKind.i64.wrap (f.he - u)) ∧ X' = X) := by
  obtain ⟨ho, su, tr, po, he⟩ := f
  simp only [FK.cells]
  refine Does.body numOK mixed k.f12 rfl k.o12 (Nat.le_of_ble_eq_true rfl) ?_
  simp (disch := first | omega | (simp only [Zv, Zw, Zx, Zy, Zz]; omega)) only [↓SA, Vi, Vj, Vk, Vl, Vm, Ya, Yb, Vn, Vo, Vp, Vq, Vr, Vs, Vt, Vu, Vv, Vw, Vx, Vy, Yc, Vz, VA, VB, VC, VD, VE, VF, VG, VH, VI, VJ, VK, VL, VM, VN, VO, VP, VQ, VR, VS, VT, VU, VV, VW, VX, VY, VZ, V0, V1, V2, V3, V4, V5, V9, Ga, Gp, Gq, GF, GG, GH, GI, GJ, GK, GL, GM, GN, GO, Yd, Ye, Yf, Yg, GP, GQ, GR, GS, GT, GU, GV, GW, GX, GY, GZ, G0, G1, G2, G3, G4, G5, G6, G7, G8, G9, Za, Zb, Zc, Zd, Ze, Zf, Zg, Zh, Zi, Zj, Zk, Zl, Zm, Zn, Zo, Yh, Yi, Yj, Yk, Yl, Ym, Yn, Yo, Yp, Yq, Yr, ↓reduceIte, Ys, Yu, Yv, Yw, Yx, Yy, Yz, YA, Nat.reduceAdd, Nat.reduceEqDiff, Nat.reduceMul, YB, YC, reduceCtorEq, YD, YE, YF, YG, YH, YI, YJ, YK, YL, Nat.reduceLeDiff, Nat.reduceSub, Zr, Zs, YM, YN, YO, YP, Int.reduceLE, Int.reduceLT, Int.reduceEq, Int.reduceAdd, Int.reduceSub, Int.reduceMul, Int.reduceToNat, Int.reduceNeg, YQ, Nat.reduceLT, YR, YS, Zt, Zu, h, hs, h4]
  repeat' (first | (refine cnd_intro (fun h => ?_) (fun h => ?_) <;> (try simp only [decide_eq_true_eq, decide_eq_false_iff_not, Bool.not_eq_true', Bool.not_eq_false'] at h)) | (refine AllN_intro (fun n hn => ?_) <;> (try simp only [Zv, Zw, Zx, Zy, Zz] at hn)) | (simp (disch := first | omega | (simp only [Zv, Zw, Zx, Zy, Zz]; omega)) only [↓SA, Vi, Vj, Vk, Vl, Vm, Ya, Yb, Vn, Vo, Vp, Vq, Vr, Vs, Vt, Vu, Vv, Vw, Vx, Vy, Yc, Vz, VA, VB, VC, VD, VE, VF, VG, VH, VI, VJ, VK, VL, VM, VN, VO, VP, VQ, VR, VS, VT, VU, VV, VW, VX, VY, VZ, V0, V1, V2, V3, V4, V5, V9, Ga, Gp, Gq, GF, GG, GH, GI, GJ, GK, GL, GM, GN, GO, Yd, Ye, Yf, Yg, GP, GQ, GR, GS, GT, GU, GV, GW, GX, GY, GZ, G0, G1, G2, G3, G4, G5, G6, G7, G8, G9, Za, Zb, Zc, Zd, Ze, Zf, Zg, Zh, Zi, Zj, Zk, Zl, Zm, Zn, Zo, Yh, Yi, Yj, Yk, Yl, Ym, Yn, Yo, Yp, Yq, Yr, ↓reduceIte, Ys, Yu, Yv, Yw, Yx, Yy, Yz, YA, Nat.reduceAdd, Nat.reduceEqDiff, Nat.reduceMul, YB, YC, reduceCtorEq, YD, YE, YF, YG, YH, YI, YJ, YK, YL, Nat.reduceLeDiff, Nat.reduceSub, Zr, Zs, YM, YN, YO, YP, Int.reduceLE, Int.reduceLT, Int.reduceEq, Int.reduceAdd, Int.reduceSub, Int.reduceMul, Int.reduceToNat, Int.reduceNeg, YQ, Nat.reduceLT, YR, YS, Zt, Zu, h, hs, h4, *]))
  all_goals exact ⟨X, (by repeat' (first | exact Le.refl _ | (refine Le.new_of ?_ (by first | omega | (simp only [Zv, Zw, Zx, Zy, Zz] at *; omega))) | (refine Le.set_of ?_ (by first | omega | (simp only [Zv, Zw, Zx, Zy, Zz] at *; omega))))), rfl⟩
theorem r_left (f : FK) (l : List Value) (h : l.length = 11) (hs : (∀ v ∈ l, single v = true) = True) (u : Int) (h4 : l[4]? = some (.int .i64 u)) : Does Go.Proofs.Tryd.prog Bar 13 [.agg ⟨f.cells⟩, .agg ⟨l⟩] X (fun r X' => r = .int .i64 (IntKind.i64.wrap (f.he - u)) ∧ X' = X) := by
  obtain ⟨ho, su, tr, po, he⟩ := f
  simp only [FK.cells]
  refine Does.body numOK mixed k.f13 rfl k.o13 (Nat.le_of_ble_eq_true rfl) ?_
  simp (disch := first | omega | (simp only [Zv, Zw, Zx, Zy, Zz]; omega)) only [↓SA, Vi, Vj, Vk, Vl, Vm, Ya, Yb, Vn, Vo, Vp, Vq, Vr, Vs, Vt, Vu, Vv, Vw, Vx, Vy, Yc, Vz, VA, VB, VC, VD, VE, VF, VG, VH, VI, VJ, VK, VL, VM, VN, VO, VP, VQ, VR, VS, VT, VU, VV, VW, VX, VY, VZ, V0, V1, V2, V3, V4, V5, V9, Ga, Gp, Gq, GF, GG, GH, GI, GJ, GK, GL, GM, GN, GO, Yd, Ye, Yf, Yg, GP, GQ, GR, GS, GT, GU, GV, GW, GX, GY, GZ, G0, G1, G2, G3, G4, G5, G6, G7, G8, G9, Za, Zb, Zc, Zd, Ze, Zf, Zg, Zh, Zi, Zj, Zk, Zl, Zm, Zn, Zo, Yh, Yi, Yj, Yk, Yl, Ym, Yn, Yo, Yp, Yq, Yr, ↓reduceIte, Ys, Yu, Yv, Yw, Yx, Yy, Yz, YA, Nat.reduceAdd, Nat.reduceEqDiff, Nat.reduceMul, YB, YC, reduceCtorEq, YD, YE, YF, YG, YH, YI, YJ, YK, YL, Nat.reduceLeDiff, Nat.reduceSub, Zr, Zs, YM, YN, YO, YP, Int.reduceLE, Int.reduceLT, Int.reduceEq, Int.reduceAdd, Int.reduceSub, Int.reduceMul, Int.reduceToNat, Int.reduceNeg, YQ, Nat.reduceLT, YR, YS, Zt, Zu, h, hs, h4]
  repeat' (first | (refine cnd_intro (fun h => ?_) (fun h => ?_) <;> (try simp only [decide_eq_true_eq, decide_eq_false_iff_not, Bool.not_eq_true', Bool.not_eq_false'] at h)) | (refine AllN_intro (fun n hn => ?_) <;> (try simp only [Zv, Zw, Zx, Zy, Zz] at hn)) | (simp (disch := first | omega | (simp only [Zv, Zw, Zx, Zy, Zz]; omega)) only [↓SA, Vi, Vj, Vk, Vl, Vm, Ya, Yb, Vn, Vo, Vp, Vq, Vr, Vs, Vt, Vu, Vv, Vw, Vx, Vy, Yc, Vz, VA, VB, VC, VD, VE, VF, VG, VH, VI, VJ, VK, VL, VM, VN, VO, VP, VQ, VR, VS, VT, VU, VV, VW, VX, VY, VZ, V0, V1, V2, V3, V4, V5, V9, Ga, Gp, Gq, GF, GG, GH, GI, GJ, GK, GL, GM, GN, GO, Yd, Ye, Yf, Yg, GP, GQ, GR, GS, GT, GU, GV, GW, GX, GY, GZ, G0, G1, G2, G3, G4, G5, G6, G7, G8, G9, Za, Zb, Zc, Zd, Ze, Zf, Zg, Zh, Zi, Zj, Zk, Zl, Zm, Zn, Zo, Yh, Yi, Yj, Yk, Yl, Ym, Yn, Yo, Yp, Yq, Yr, ↓reduceIte, Ys, Yu, Yv, Yw, Yx, Yy, Yz, YA, Nat.reduceAdd, Nat.reduceEqDiff, Nat.reduceMul, YB, YC, reduceCtorEq, YD, YE, YF, YG, YH, YI, YJ, YK, YL, Nat.reduceLeDiff, Nat.reduceSub, Zr, Zs, YM, YN, YO, YP, Int.reduceLE, Int.reduceLT, Int.reduceEq, Int.reduceAdd, Int.reduceSub, Int.reduceMul, Int.reduceToNat, Int.reduceNeg, YQ, Nat.reduceLT, YR, YS, Zt, Zu, h, hs, h4, *]))
  all_goals exact ⟨X, (by repeat' (first | exact Le.refl _ | (refine Le.new_of ?_ (by first | omega | (simp only [Zv, Zw, Zx, Zy, Zz] at *; omega))) | (refine Le.set_of ?_ (by first | omega | (simp only [Zv, Zw, Zx, Zy, Zz] at *; omega))))), rfl⟩
set_option maxHeartbeats 8000000 in
theorem r_marked {b : Nat} {s : Bool} {cs : List KC} {ns : List ByteArray} {ms : List MK} (hB : Rk X b s cs ns ms) (f : FK) {mk : List Int} (hmk : mk.length = 4) :
    Does Go.Proofs.Tryd.prog Bar 11 [.pointer (some ⟨b, 0, none⟩), .agg ⟨f.cells⟩, .agg ⟨ints mk⟩] X (fun r X' => r = .tuple ⟨markedF ms mk f⟩ ∧ X' = X) := by
  obtain ⟨lo, cap, hbb, -⟩ := hB.lst
  obtain ⟨ho, su, tr, po, he⟩ := f
  simp only [FK.cells]
  have hml := hB.ml
  have hil := ints_len mk
  rw [hmk] at hil
  have hsi := ints_single mk
  have htk : (ints mk).take 4 = ints mk := List.take_of_length_le (by omega)
  have hbl := St.lt hbb
  refine Does.body numOK mixed k.f11 rfl k.o11 (Nat.le_of_ble_eq_true rfl) ?_
  simp (disch := first | omega | (simp only [Zv, Zw, Zx, Zy, Zz]; omega)) only [↓SA, Vi, Vj, Vk, Vl, Vm, Ya, Yb, Vn, Vo, Vp, Vq, Vr, Vs, Vt, Vu, Vv, Vw, Vx, Vy, Yc, Vz, VA, VB, VC, VD, VE, VF, VG, VH, VI, VJ, VK, VL, VM, VN, VO, VP, VQ, VR, VS, VT, VU, VV, VW, VX, VY, VZ, V0, V1, V2, V3, V4, V5, V9, Ga, Gp, Gq, GF, GG, GH, GI, GJ, GK, GL, GM, GN, GO, Yd, Ye, Yf, Yg, GP, GQ, GR, GS, GT, GU, GV, GW, GX, GY, GZ, G0, G1, G2, G3, G4, G5, G6, G7, G8, G9, Za, Zb, Zc, Zd, Ze, Zf, Zg, Zh, Zi, Zj, Zk, Zl, Zm, Zn, Zo, Yh, Yi, Yj, Yk, Yl, Ym, Yn, Yo, Yp, Yq, Yr, ↓reduceIte, Ys, Yu, Yv, Yw, Yx, Yy, Yz, YA, Nat.reduceAdd, Nat.reduceEqDiff, Nat.reduceMul, YB, YC, reduceCtorEq, YD, YE, YF, YG, YH, YI, YJ, YK, YL, Nat.reduceLeDiff, Nat.reduceSub, Zr, Zs, YM, YN, YO, YP, Int.reduceLE, Int.reduceLT, Int.reduceEq, Int.reduceAdd, Int.reduceSub, Int.reduceMul, Int.reduceToNat, Int.reduceNeg, YQ, Nat.reduceLT, YR, YS, Zt, Zu, hil, hsi, res30]
  refine AllN_intro (fun n4 h4 => ?_)
  simp (disch := first | omega | (simp only [Zv, Zw, Zx, Zy, Zz]; omega)) only [↓SA, Vi, Vj, Vk, Vl, Vm, Ya, Yb, Vn, Vo, Vp, Vq, Vr, Vs, Vt, Vu, Vv, Vw, Vx, Vy, Yc, Vz, VA, VB, VC, VD, VE, VF, VG, VH, VI, VJ, VK, VL, VM, VN, VO, VP, VQ, VR, VS, VT, VU, VV, VW, VX, VY, VZ, V0, V1, V2, V3, V4, V5, V9, Ga, Gp, Gq, GF, GG, GH, GI, GJ, GK, GL, GM, GN, GO, Yd, Ye, Yf, Yg, GP, GQ, GR, GS, GT, GU, GV, GW, GX, GY, GZ, G0, G1, G2, G3, G4, G5, G6, G7, G8, G9, Za, Zb, Zc, Zd, Ze, Zf, Zg, Zh, Zi, Zj, Zk, Zl, Zm, Zn, Zo, Yh, Yi, Yj, Yk, Yl, Ym, Yn, Yo, Yp, Yq, Yr, ↓reduceIte, Ys, Yu, Yv, Yw, Yx, Yy, Yz, YA, Nat.reduceAdd, Nat.reduceEqDiff, Nat.reduceMul, YB, YC, reduceCtorEq, YD, YE, YF, YG, YH, YI, YJ, YK, YL, Nat.reduceLeDiff, Nat.reduceSub, Zr, Zs, YM, YN, YO, YP, Int.reduceLE, Int.reduceLT, Int.reduceEq, Int.reduceAdd, Int.reduceSub, Int.reduceMul, Int.reduceToNat, Int.reduceNeg, YQ, Nat.reduceLT, YR, YS, Zt, Zu, hil, hsi, res30]
  refine AllN_intro (fun n5 h5 => ?_)
  simp (disch := first | omega | (simp only [Zv, Zw, Zx, Zy, Zz]; omega)) only [↓SA, Vi, Vj, Vk, Vl, Vm, Ya, Yb, Vn, Vo, Vp, Vq, Vr, Vs, Vt, Vu, Vv, Vw, Vx, Vy, Yc, Vz, VA, VB, VC, VD, VE, VF, VG, VH, VI, VJ, VK, VL, VM, VN, VO, VP, VQ, VR, VS, VT, VU, VV, VW, VX, VY, VZ, V0, V1, V2, V3, V4, V5, V9, Ga, Gp, Gq, GF, GG, GH, GI, GJ, GK, GL, GM, GN, GO, Yd, Ye, Yf, Yg, GP, GQ, GR, GS, GT, GU, GV, GW, GX, GY, GZ, G0, G1, G2, G3, G4, G5, G6, G7, G8, G9, Za, Zb, Zc, Zd, Ze, Zf, Zg, Zh, Zi, Zj, Zk, Zl, Zm, Zn, Zo, Yh, Yi, Yj, Yk, Yl, Ym, Yn, Yo, Yp, Yq, Yr, ↓reduceIte, Ys, Yu, Yv, Yw, Yx, Yy, Yz, YA, Nat.reduceAdd, Nat.reduceEqDiff, Nat.reduceMul, YB, YC, reduceCtorEq, YD, YE, YF, YG, YH, YI, YJ, YK, YL, Nat.reduceLeDiff, Nat.reduceSub, Zr, Zs, YM, YN, YO, YP, Int.reduceLE, Int.reduceLT, Int.reduceEq, Int.reduceAdd, Int.reduceSub, Int.reduceMul, Int.reduceToNat, Int.reduceNeg, YQ, Nat.reduceLT, YR, YS, Zt, Zu, hil, hsi, res30]
  refine AllN_intro (fun n6 h6 => ?_)
  simp only [Zv] at h5 h6
  have hLe : Le X (((X.new n4 ⟨[.int .i64 ho, .int .u8 su, .int .u16 tr, .int .i64 po, .int .i64 he], 5, 30, true⟩).new n5 ⟨ints mk, 4, 31, true⟩).new n6 ⟨[.int .i64 0, .int .u8 0, .int .u16 0, .int .i64 0, .int .i64 0], 5, 30, true⟩) := Le.new_of (Le.new_of (Le.new_of (Le.refl _) h4) (by omega)) (by omega)
  simp (disch := first | omega | (simp only [Zv, Zw, Zx, Zy, Zz]; omega)) only [↓SA, Vi, Vj, Vk, Vl, Vm, Ya, Yb, Vn, Vo, Vp, Vq, Vr, Vs, Vt, Vu, Vv, Vw, Vx, Vy, Yc, Vz, VA, VB, VC, VD, VE, VF, VG, VH, VI, VJ, VK, VL, VM, VN, VO, VP, VQ, VR, VS, VT, VU, VV, VW, VX, VY, VZ, V0, V1, V2, V3, V4, V5, V9, Ga, Gp, Gq, GF, GG, GH, GI, GJ, GK, GL, GM, GN, GO, Yd, Ye, Yf, Yg, GP, GQ, GR, GS, GT, GU, GV, GW, GX, GY, GZ, G0, G1, G2, G3, G4, G5, G6, G7, G8, G9, Za, Zb, Zc, Zd, Ze, Zf, Zg, Zh, Zi, Zj, Zk, Zl, Zm, Zn, Zo, Yh, Yi, Yj, Yk, Yl, Ym, Yn, Yo, Yp, Yq, Yr, ↓reduceIte, Ys, Yu, Yv, Yw, Yx, Yy, Yz, YA, Nat.reduceAdd, Nat.reduceEqDiff, Nat.reduceMul, YB, YC, reduceCtorEq, YD, YE, YF, YG, YH, YI, YJ, YK, YL, Nat.reduceLeDiff, Nat.reduceSub, Zr, Zs, YM, YN, YO, YP, Int.reduceLE, Int.reduceLT, Int.reduceEq, Int.reduceAdd, Int.reduceSub, Int.reduceMul, Int.reduceToNat, Int.reduceNeg, YQ, Nat.reduceLT, YR, YS, Zt, Zu, hil, hsi, res30]
  refine DoesK.by (r_none (hB.mono hLe)) ?_
  rintro _ X2 ⟨rfl, hX2⟩; subst X2
  all_goals
    simp (disch := first | omega | (simp only [Zv, Zw, Zx, Zy, Zz]; omega)) only [↓SA, Vi, Vj, Vk, Vl, Vm, Ya, Yb, Vn, Vo, Vp, Vq, Vr, Vs, Vt, Vu, Vv, Vw, Vx, Vy, Yc, Vz, VA, VB, VC, VD, VE, VF, VG, VH, VI, VJ, VK, VL, VM, VN, VO, VP, VQ, VR, VS, VT, VU, VV, VW, VX, VY, VZ, V0, V1, V2, V3, V4, V5, V9, Ga, Gp, Gq, GF, GG, GH, GI, GJ, GK, GL, GM, GN, GO, Yd, Ye, Yf, Yg, GP, GQ, GR, GS, GT, GU, GV, GW, GX, GY, GZ, G0, G1, G2, G3, G4, G5, G6, G7, G8, G9, Za, Zb, Zc, Zd, Ze, Zf, Zg, Zh, Zi, Zj, Zk, Zl, Zm, Zn, Zo, Yh, Yi, Yj, Yk, Yl, Ym, Yn, Yo, Yp, Yq, Yr, ↓reduceIte, Ys, Yu, Yv, Yw, Yx, Yy, Yz, YA, Nat.reduceAdd, Nat.reduceEqDiff, Nat.reduceMul, YB, YC, reduceCtorEq, YD, YE, YF, YG, YH, YI, YJ, YK, YL, Nat.reduceLeDiff, Nat.reduceSub, Zr, Zs, YM, YN, YO, YP, Int.reduceLE, Int.reduceLT, Int.reduceEq, Int.reduceAdd, Int.reduceSub, Int.reduceMul, Int.reduceToNat, Int.reduceNeg, YQ, Nat.reduceLT, YR, YS, Zt, Zu, hil, hsi, htk, res30]
    generalize hZ : ((X.new n4 ⟨[.int .i64 ho, .int .u8 su, .int .u16 tr, .int .i64 po, .int .i64 he], 5, 30, true⟩).new n5 ⟨ints mk, 4, 31, true⟩).new n6 ⟨[.int .i64 0, .int .u8 0, .int .u16 0, .int .i64 0, .int .i64 0], 5, 30, true⟩ = Z at *
    have hn54 : n4 < n5 := by omega
    have hn65 : n5 < n6 := by omega
    have hn6Z : Z.get n6 = some ⟨[.int .i64 0, .int .u8 0, .int .u16 0, .int .i64 0, .int .i64 0], 5, 30, true⟩ := by rw [← hZ]; exact VG
    have hn5Z : Z.get n5 = some ⟨ints mk, 4, 31, true⟩ := by rw [← hZ, VH (by omega)]; exact VG
    have hn4Z : Z.get n4 = some ⟨[.int .i64 ho, .int .u8 su, .int .u16 tr, .int .i64 po, .int .i64 he], 5, 30, true⟩ := by rw [← hZ, VH (by omega), VH (by omega)]; exact VG
    clear hZ
    have hn6l := St.lt hn6Z
    refine wpC_loop (fun k : Nat => ⟨68, [(0, .pointer (some ⟨b, 0, none⟩)), (4, .pointer (some ⟨n4, 0, none⟩)), (5, .pointer (some ⟨n5, 0, none⟩)), (6, .pointer (some ⟨n6, 0, none⟩)), (8, .int .i64 k)]⟩) (fun _ => Z) (fun k => k ≤ 4 ∧ ∀ (j : Nat) (n : Int), j < k → mk[j]? = some n → 0 ≤ n ∧ n ≤ 99) (fun k => 4 - k) 0 rfl (Le.refl _) ⟨Nat.zero_le _, fun j n hj => absurd hj (Nat.not_lt_zero _)⟩ ?_
    rintro k ⟨hk, hi⟩
    by_cases hkl : k < 4
    · obtain ⟨m, hm⟩ : ∃ m, mk[k]? = some m := ⟨_, List.getElem?_eq_getElem (by omega)⟩
      have hmi := ints_at hm
      have d1 : decide ((k : Int) < 4) = true := decide_eq_true (by omega)
      have hk4 : ((0 : Int) ≤ k ∧ (k : Int) < 4) = True := eq_true ⟨by omega, by omega⟩
      by_cases hb1 : m < 0 ∨ 99 < m
      · have hno := mkOk_no hm hb1
        by_cases hb2 : m < 0
        · have d2 : decide (m < 0) = true := decide_eq_true hb2
          simp (disch := first | omega | (simp only [Zv, Zw, Zx, Zy, Zz]; omega)) only [↓SA, Vi, Vj, Vk, Vl, Vm, Ya, Yb, Vn, Vo, Vp, Vq, Vr, Vs, Vt, Vu, Vv, Vw, Vx, Vy, Yc, Vz, VA, VB, VC, VD, VE, VF, VG, VH, VI, VJ, VK, VL, VM, VN, VO, VP, VQ, VR, VS, VT, VU, VV, VW, VX, VY, VZ, V0, V1, V2, V3, V4, V5, V9, Ga, Gp, Gq, GF, GG, GH, GI, GJ, GK, GL, GM, GN, GO, Yd, Ye, Yf, Yg, GP, GQ, GR, GS, GT, GU, GV, GW, GX, GY, GZ, G0, G1, G2, G3, G4, G5, G6, G7, G8, G9, Za, Zb, Zc, Zd, Ze, Zf, Zg, Zh, Zi, Zj, Zk, Zl, Zm, Zn, Zo, Yh, Yi, Yj, Yk, Yl, Ym, Yn, Yo, Yp, Yq, Yr, ↓reduceIte, Ys, Yu, Yv, Yw, Yx, Yy, Yz, YA, Nat.reduceAdd, Nat.reduceEqDiff, Nat.reduceMul, YB, YC, reduceCtorEq, YD, YE, YF, YG, YH, YI, YJ, YK, YL, Nat.reduceLeDiff, Nat.reduceSub, Zr, Zs, YM, YN, YO, YP, Int.reduceLE, Int.reduceLT, Int.reduceEq, Int.reduceAdd, Int.reduceSub, Int.reduceMul, Int.reduceToNat, Int.reduceNeg, YQ, Nat.reduceLT, YR, YS, Zt, Zu, d1, hk4, hn5Z, Nat.mul_one, YC, hmi, d2, hn6Z, hn6l, res30, YQ]
          exact ⟨X, Le.set_of hLe (by omega), by unfold markedF; rw [hno]; rfl, rfl⟩
        · have d2 : decide (m < 0) = false := decide_eq_false (by omega)
          have d3 : decide (m > 99) = true := decide_eq_true (by omega)
          simp (disch := first | omega | (simp only [Zv, Zw, Zx, Zy, Zz]; omega)) only [↓SA, Vi, Vj, Vk, Vl, Vm, Ya, Yb, Vn, Vo, Vp, Vq, Vr, Vs, Vt, Vu, Vv, Vw, Vx, Vy, Yc, Vz, VA, VB, VC, VD, VE, VF, VG, VH, VI, VJ, VK, VL, VM, VN, VO, VP, VQ, VR, VS, VT, VU, VV, VW, VX, VY, VZ, V0, V1, V2, V3, V4, V5, V9, Ga, Gp, Gq, GF, GG, GH, GI, GJ, GK, GL, GM, GN, GO, Yd, Ye, Yf, Yg, GP, GQ, GR, GS, GT, GU, GV, GW, GX, GY, GZ, G0, G1, G2, G3, G4, G5, G6, G7, G8, G9, Za, Zb, Zc, Zd, Ze, Zf, Zg, Zh, Zi, Zj, Zk, Zl, Zm, Zn, Zo, Yh, Yi, Yj, Yk, Yl, Ym, Yn, Yo, Yp, Yq, Yr, ↓reduceIte, Ys, Yu, Yv, Yw, Yx, Yy, Yz, YA, Nat.reduceAdd, Nat.reduceEqDiff, Nat.reduceMul, YB, YC, reduceCtorEq, YD, YE, YF, YG, YH, YI, YJ, YK, YL, Nat.reduceLeDiff, Nat.reduceSub, Zr, Zs, YM, YN, YO, YP, Int.reduceLE, Int.reduceLT, Int.reduceEq, Int.reduceAdd, Int.reduceSub, Int.reduceMul, Int.reduceToNat, Int.reduceNeg, YQ, Nat.reduceLT, YR, YS, Zt, Zu, d1, hk4, hn5Z, Nat.mul_one, YC, hmi, d2, d3, hn6Z, hn6l, res30, YQ]
          exact ⟨X, Le.set_of hLe (by omega), by unfold markedF; rw [hno]; rfl, rfl⟩
      · have d2 : decide (m < 0) = false := decide_eq_false (by omega)
        have d3 : decide (m > 99) = false := decide_eq_false (by omega)
        simp (disch := first | omega | (simp only [Zv, Zw, Zx, Zy, Zz]; omega)) only [↓SA, Vi, Vj, Vk, Vl, Vm, Ya, Yb, Vn, Vo, Vp, Vq, Vr, Vs, Vt, Vu, Vv, Vw, Vx, Vy, Yc, Vz, VA, VB, VC, VD, VE, VF, VG, VH, VI, VJ, VK, VL, VM, VN, VO, VP, VQ, VR, VS, VT, VU, VV, VW, VX, VY, VZ, V0, V1, V2, V3, V4, V5, V9, Ga, Gp, Gq, GF, GG, GH, GI, GJ, GK, GL, GM, GN, GO, Yd, Ye, Yf, Yg, GP, GQ, GR, GS, GT, GU, GV, GW, GX, GY, GZ, G0, G1, G2, G3, G4, G5, G6, G7, G8, G9, Za, Zb, Zc, Zd, Ze, Zf, Zg, Zh, Zi, Zj, Zk, Zl, Zm, Zn, Zo, Yh, Yi, Yj, Yk, Yl, Ym, Yn, Yo, Yp, Yq, Yr, ↓reduceIte, Ys, Yu, Yv, Yw, Yx, Yy, Yz, YA, Nat.reduceAdd, Nat.reduceEqDiff, Nat.reduceMul, YB, YC, reduceCtorEq, YD, YE, YF, YG, YH, YI, YJ, YK, YL, Nat.reduceLeDiff, Nat.reduceSub, Zr, Zs, YM, YN, YO, YP, Int.reduceLE, Int.reduceLT, Int.reduceEq, Int.reduceAdd, Int.reduceSub, Int.reduceMul, Int.reduceToNat, Int.reduceNeg, YQ, Nat.reduceLT, YR, YS, Zt, Zu, d1, hk4, hn5Z, Nat.mul_one, YC, hmi, d2, d3, YQ]
        exact ⟨k + 1, rfl, Le.refl _, ⟨by omega, fun j n hj hn => by
          by_cases hjk : j = k
          · subst hjk; rw [hm] at hn; cases hn; omega
          · exact hi j n (by omega) hn⟩, by omega⟩
    · have d1 : decide ((k : Int) < 4) = false := decide_eq_false (by omega)
      have hk4 : k = 4 := by omega
      subst hk4
      have hyes := mkOk_yes hi hmk
      simp (disch := first | omega | (simp only [Zv, Zw, Zx, Zy, Zz]; omega)) only [↓SA, Vi, Vj, Vk, Vl, Vm, Ya, Yb, Vn, Vo, Vp, Vq, Vr, Vs, Vt, Vu, Vv, Vw, Vx, Vy, Yc, Vz, VA, VB, VC, VD, VE, VF, VG, VH, VI, VJ, VK, VL, VM, VN, VO, VP, VQ, VR, VS, VT, VU, VV, VW, VX, VY, VZ, V0, V1, V2, V3, V4, V5, V9, Ga, Gp, Gq, GF, GG, GH, GI, GJ, GK, GL, GM, GN, GO, Yd, Ye, Yf, Yg, GP, GQ, GR, GS, GT, GU, GV, GW, GX, GY, GZ, G0, G1, G2, G3, G4, G5, G6, G7, G8, G9, Za, Zb, Zc, Zd, Ze, Zf, Zg, Zh, Zi, Zj, Zk, Zl, Zm, Zn, Zo, Yh, Yi, Yj, Yk, Yl, Ym, Yn, Yo, Yp, Yq, Yr, ↓reduceIte, Ys, Yu, Yv, Yw, Yx, Yy, Yz, YA, Nat.reduceAdd, Nat.reduceEqDiff, Nat.reduceMul, YB, YC, reduceCtorEq, YD, YE, YF, YG, YH, YI, YJ, YK, YL, Nat.reduceLeDiff, Nat.reduceSub, Zr, Zs, YM, YN, YO, YP, Int.reduceLE, Int.reduceLT, Int.reduceEq, Int.reduceAdd, Int.reduceSub, Int.reduceMul, Int.reduceToNat, Int.reduceNeg, YQ, Nat.reduceLT, YR, YS, Zt, Zu, d1, hn5Z, hil, htk]
      clear d1 hkl hi hk
      have hBZ := hB.mono hLe
      refine wpC_loop (fun k : Nat => ⟨68, [(0, .pointer (some ⟨b, 0, none⟩)), (4, .pointer (some ⟨n4, 0, none⟩)), (5, .pointer (some ⟨n5, 0, none⟩)), (6, .pointer (some ⟨n6, 0, none⟩)), (9, .int .i64 k)]⟩)
        (fun k => Z.set n4 ⟨[.int .i64 ho, .int .u8 su, .int .u16 tr, .int .i64 (mfold ms mk (po, he) k).1, .int .i64 (mfold ms mk (po, he) k).2], 5, 30, true⟩) (fun k => k ≤ 4) (fun k => 4 - k) 0 rfl (Le.set_self hn4Z) (Nat.zero_le _) ?_
      intro k hk
      have hn4l := St.lt hn4Z
      have hn4b : n4 ≠ b := by omega
      by_cases hkl : k < 4
      · obtain ⟨m, hm⟩ : ∃ m, mk[k]? = some m := ⟨_, List.getElem?_eq_getElem (by omega)⟩
        obtain ⟨⟨ma, nm, mpo, mhe⟩, hy⟩ : ∃ y, ms[k + 1]? = some y := ⟨_, List.getElem?_eq_getElem (by omega)⟩
        have hmi := ints_at hm
        have d1 : decide ((k : Int) < 4) = true := decide_eq_true (by omega)
        have hk4 : ((0 : Int) ≤ k ∧ (k : Int) < 4) = True := eq_true ⟨by omega, by omega⟩
        have hst : mfold ms mk (po, he) (k + 1) = mstep ms m k (mfold ms mk (po, he) k) := by
          show mstep ms (mk.getD k 0) k _ = _
          rw [List.getD_eq_getElem?_getD, hm]; rfl
        have hBk := hBZ.keep hn4Z (show 30 ≠ TP by decide) (show 30 ≠ TC by decide) (Ne.symm hn4b) (Keep.set (B := ⟨[.int .i64 ho, .int .u8 su, .int .u16 tr, .int .i64 (mfold ms mk (po, he) k).1, .int .i64 (mfold ms mk (po, he) k).2], 5, 30, true⟩))
        have hw8 : IntKind.u8.wrap ((k : Int) + 1) = (k : Int) + 1 := by rw [Zu (by omega) (by omega)]
        have hst : mfold ms mk (po, he) (k + 1) = if ma = 0 then mfold ms mk (po, he) k else (IntKind.i64.wrap ((mfold ms mk (po, he) k).1 + IntKind.i64.wrap (m * mpo)), IntKind.i64.wrap ((mfold ms mk (po, he) k).2 + IntKind.i64.wrap (m * mhe))) := by
          rw [hst]; unfold mstep; rw [hy]
        have hn5V : (Z.set n4 ⟨[.int .i64 ho, .int .u8 su, .int .u16 tr, .int .i64 (mfold ms mk (po, he) k).1, .int .i64 (mfold ms mk (po, he) k).2], 5, 30, true⟩).get n5 = some ⟨ints mk, 4, 31, true⟩ := by rw [VJ (by omega)]; exact hn5Z
        have hn5l := St.lt hn5V
        simp (disch := first | omega | (simp only [Zv, Zw, Zx, Zy, Zz]; omega)) only [↓SA, Vi, Vj, Vk, Vl, Vm, Ya, Yb, Vn, Vo, Vp, Vq, Vr, Vs, Vt, Vu, Vv, Vw, Vx, Vy, Yc, Vz, VA, VB, VC, VD, VE, VF, VG, VH, VI, VJ, VK, VL, VM, VN, VO, VP, VQ, VR, VS, VT, VU, VV, VW, VX, VY, VZ, V0, V1, V2, V3, V4, V5, V9, Ga, Gp, Gq, GF, GG, GH, GI, GJ, GK, GL, GM, GN, GO, Yd, Ye, Yf, Yg, GP, GQ, GR, GS, GT, GU, GV, GW, GX, GY, GZ, G0, G1, G2, G3, G4, G5, G6, G7, G8, G9, Za, Zb, Zc, Zd, Ze, Zf, Zg, Zh, Zi, Zj, Zk, Zl, Zm, Zn, Zo, Yh, Yi, Yj, Yk, Yl, Ym, Yn, Yo, Yp, Yq, Yr, ↓reduceIte, Ys, Yu, Yv, Yw, Yx, Yy, Yz, YA, Nat.reduceAdd, Nat.reduceEqDiff, Nat.reduceMul, YB, YC, reduceCtorEq, YD, YE, YF, YG, YH, YI, YJ, YK, YL, Nat.reduceLeDiff, Nat.reduceSub, Zr, Zs, YM, YN, YO, YP, Int.reduceLE, Int.reduceLT, Int.reduceEq, Int.reduceAdd, Int.reduceSub, Int.reduceMul, Int.reduceToNat, Int.reduceNeg, YQ, Nat.reduceLT, YR, YS, Zt, Zu, d1, hk4, hmi, hw8, YQ]
        refine DoesK.by (Q := fun r X' => r = .tuple ⟨if ma = 0 then [.agg ⟨noMark⟩, .bool false] else [.agg ⟨[.int .u8 ma, .string nm, .int .i64 mpo, .int .i64 mhe]⟩, .bool true]⟩ ∧ X' = _) ((r_markOf hBk ((k : Int) + 1)).mono (fun r X' h => ⟨h.1.trans (by rw [if_pos (by omega), show ((k : Int) + 1).toNat = k + 1 by omega, hy]; rfl), h.2⟩)) ?_
        rintro _ X2 ⟨rfl, hX2⟩; subst X2
        clear hy hBk
        generalize hP : (⟨[.int .i64 ho, .int .u8 su, .int .u16 tr, .int .i64 (mfold ms mk (po, he) k).1, .int .i64 (mfold ms mk (po, he) k).2], 5, 30, true⟩ : Blk) = P at *
        have hZ4 : (Z.set n4 P).get n4 = some ⟨[.int .i64 ho, .int .u8 su, .int .u16 tr, .int .i64 (mfold ms mk (po, he) k).1, .int .i64 (mfold ms mk (po, he) k).2], 5, 30, true⟩ := by rw [hP]; exact VI hn4l
        have hkV : Keep n4 Z (Z.set n4 P) := Keep.set
        have hV4 := St.lt hZ4
        generalize hV : Z.set n4 P = V at *
        by_cases hma : ma = 0
        · rw [if_pos hma]
          simp only [noMark]
          simp (disch := first | omega | (simp only [Zv, Zw, Zx, Zy, Zz]; omega)) only [↓SA, Vi, Vj, Vk, Vl, Vm, Ya, Yb, Vn, Vo, Vp, Vq, Vr, Vs, Vt, Vu, Vv, Vw, Vx, Vy, Yc, Vz, VA, VB, VC, VD, VE, VF, VG, VH, VI, VJ, VK, VL, VM, VN, VO, VP, VQ, VR, VS, VT, VU, VV, VW, VX, VY, VZ, V0, V1, V2, V3, V4, V5, V9, Ga, Gp, Gq, GF, GG, GH, GI, GJ, GK, GL, GM, GN, GO, Yd, Ye, Yf, Yg, GP, GQ, GR, GS, GT, GU, GV, GW, GX, GY, GZ, G0, G1, G2, G3, G4, G5, G6, G7, G8, G9, Za, Zb, Zc, Zd, Ze, Zf, Zg, Zh, Zi, Zj, Zk, Zl, Zm, Zn, Zo, Yh, Yi, Yj, Yk, Yl, Ym, Yn, Yo, Yp, Yq, Yr, ↓reduceIte, Ys, Yu, Yv, Yw, Yx, Yy, Yz, YA, Nat.reduceAdd, Nat.reduceEqDiff, Nat.reduceMul, YB, YC, reduceCtorEq, YD, YE, YF, YG, YH, YI, YJ, YK, YL, Nat.reduceLeDiff, Nat.reduceSub, Zr, Zs, YM, YN, YO, YP, Int.reduceLE, Int.reduceLT, Int.reduceEq, Int.reduceAdd, Int.reduceSub, Int.reduceMul, Int.reduceToNat, Int.reduceNeg, YQ, Nat.reduceLT, YR, YS, Zt, Zu, d1, hk4, hn5Z, Nat.mul_one, YC, hmi, YQ]
          refine AllN_intro (fun n14 h14 => ?_)
          simp (disch := first | omega | (simp only [Zv, Zw, Zx, Zy, Zz]; omega)) only [↓SA, Vi, Vj, Vk, Vl, Vm, Ya, Yb, Vn, Vo, Vp, Vq, Vr, Vs, Vt, Vu, Vv, Vw, Vx, Vy, Yc, Vz, VA, VB, VC, VD, VE, VF, VG, VH, VI, VJ, VK, VL, VM, VN, VO, VP, VQ, VR, VS, VT, VU, VV, VW, VX, VY, VZ, V0, V1, V2, V3, V4, V5, V9, Ga, Gp, Gq, GF, GG, GH, GI, GJ, GK, GL, GM, GN, GO, Yd, Ye, Yf, Yg, GP, GQ, GR, GS, GT, GU, GV, GW, GX, GY, GZ, G0, G1, G2, G3, G4, G5, G6, G7, G8, G9, Za, Zb, Zc, Zd, Ze, Zf, Zg, Zh, Zi, Zj, Zk, Zl, Zm, Zn, Zo, Yh, Yi, Yj, Yk, Yl, Ym, Yn, Yo, Yp, Yq, Yr, ↓reduceIte, Ys, Yu, Yv, Yw, Yx, Yy, Yz, YA, Nat.reduceAdd, Nat.reduceEqDiff, Nat.reduceMul, YB, YC, reduceCtorEq, YD, YE, YF, YG, YH, YI, YJ, YK, YL, Nat.reduceLeDiff, Nat.reduceSub, Zr, Zs, YM, YN, YO, YP, Int.reduceLE, Int.reduceLT, Int.reduceEq, Int.reduceAdd, Int.reduceSub, Int.reduceMul, Int.reduceToNat, Int.reduceNeg, YQ, Nat.reduceLT, YR, YS, Zt, Zu, d1, hk4, hn5Z, Nat.mul_one, YC, hmi, YQ]
          refine ⟨k + 1, rfl, ?_, by omega, by omega⟩
          simp only [hst, if_pos hma]
          rw [hP, hV]
          exact Le.new (Le.refl _) h14
        · rw [if_neg hma]
          simp (disch := first | omega | (simp only [Zv, Zw, Zx, Zy, Zz]; omega)) only [↓SA, Vi, Vj, Vk, Vl, Vm, Ya, Yb, Vn, Vo, Vp, Vq, Vr, Vs, Vt, Vu, Vv, Vw, Vx, Vy, Yc, Vz, VA, VB, VC, VD, VE, VF, VG, VH, VI, VJ, VK, VL, VM, VN, VO, VP, VQ, VR, VS, VT, VU, VV, VW, VX, VY, VZ, V0, V1, V2, V3, V4, V5, V9, Ga, Gp, Gq, GF, GG, GH, GI, GJ, GK, GL, GM, GN, GO, Yd, Ye, Yf, Yg, GP, GQ, GR, GS, GT, GU, GV, GW, GX, GY, GZ, G0, G1, G2, G3, G4, G5, G6, G7, G8, G9, Za, Zb, Zc, Zd, Ze, Zf, Zg, Zh, Zi, Zj, Zk, Zl, Zm, Zn, Zo, Yh, Yi, Yj, Yk, Yl, Ym, Yn, Yo, Yp, Yq, Yr, ↓reduceIte, Ys, Yu, Yv, Yw, Yx, Yy, Yz, YA, Nat.reduceAdd, Nat.reduceEqDiff, Nat.reduceMul, YB, YC, reduceCtorEq, YD, YE, YF, YG, YH, YI, YJ, YK, YL, Nat.reduceLeDiff, Nat.reduceSub, Zr, Zs, YM, YN, YO, YP, Int.reduceLE, Int.reduceLT, Int.reduceEq, Int.reduceAdd, Int.reduceSub, Int.reduceMul, Int.reduceToNat, Int.reduceNeg, YQ, Nat.reduceLT, YR, YS, Zt, Zu, d1, hk4, hn5Z, Nat.mul_one, YC, hmi, YQ]
          refine AllN_intro (fun n14 h14 => ?_)
          simp (disch := first | omega | (simp only [Zv, Zw, Zx, Zy, Zz]; omega)) only [↓SA, Vi, Vj, Vk, Vl, Vm, Ya, Yb, Vn, Vo, Vp, Vq, Vr, Vs, Vt, Vu, Vv, Vw, Vx, Vy, Yc, Vz, VA, VB, VC, VD, VE, VF, VG, VH, VI, VJ, VK, VL, VM, VN, VO, VP, VQ, VR, VS, VT, VU, VV, VW, VX, VY, VZ, V0, V1, V2, V3, V4, V5, V9, Ga, Gp, Gq, GF, GG, GH, GI, GJ, GK, GL, GM, GN, GO, Yd, Ye, Yf, Yg, GP, GQ, GR, GS, GT, GU, GV, GW, GX, GY, GZ, G0, G1, G2, G3, G4, G5, G6, G7, G8, G9, Za, Zb, Zc, Zd, Ze, Zf, Zg, Zh, Zi, Zj, Zk, Zl, Zm, Zn, Zo, Yh, Yi, Yj, Yk, Yl, Ym, Yn, Yo, Yp, Yq, Yr, ↓reduceIte, Ys, Yu, Yv, Yw, Yx, Yy, Yz, YA, Nat.reduceAdd, Nat.reduceEqDiff, Nat.reduceMul, YB, YC, reduceCtorEq, YD, YE, YF, YG, YH, YI, YJ, YK, YL, Nat.reduceLeDiff, Nat.reduceSub, Zr, Zs, YM, YN, YO, YP, Int.reduceLE, Int.reduceLT, Int.reduceEq, Int.reduceAdd, Int.reduceSub, Int.reduceMul, Int.reduceToNat, Int.reduceNeg, YQ, Nat.reduceLT, YR, YS, Zt, Zu, d1, hk4, hn5V, hmi, hZ4, Nat.mul_one, YC, YQ]
          refine ⟨k + 1, rfl, ?_, by omega, by omega⟩
          simp only [hst, if_neg hma]
          rw [← hV, VE]
          exact Le.new (Le.refl _) (by have := hkV.next; rw [Zw]; omega)
      · have d1 : decide ((k : Int) < 4) = false := decide_eq_false (by omega)
        have hk4 : k = 4 := by omega
        subst hk4
        have hmF : markedF ms mk ⟨ho, su, tr, po, he⟩ = [.agg ⟨[.int .i64 ho, .int .u8 su, .int .u16 tr, .int .i64 (max (mfold ms mk (po, he) 4).1 0), .int .i64 (mfold ms mk (po, he) 4).2]⟩, .int .i64 0] := by unfold markedF; rw [hyes]; rfl
        rw [hmF]
        generalize mfold ms mk (po, he) 4 = p at *
        have hZ4 : (Z.set n4 ⟨[.int .i64 ho, .int .u8 su, .int .u16 tr, .int .i64 p.1, .int .i64 p.2], 5, 30, true⟩).get n4 = some ⟨[.int .i64 ho, .int .u8 su, .int .u16 tr, .int .i64 p.1, .int .i64 p.2], 5, 30, true⟩ := VI hn4l
        have hmx : max p.1 0 = if p.1 < 0 then 0 else p.1 := by split <;> omega
        rw [hmx]
        by_cases hp0 : p.1 < 0
        · have d2 : decide (p.1 < 0) = true := decide_eq_true hp0
          rw [if_pos hp0]
          simp (disch := first | omega | (simp only [Zv, Zw, Zx, Zy, Zz]; omega)) only [↓SA, Vi, Vj, Vk, Vl, Vm, Ya, Yb, Vn, Vo, Vp, Vq, Vr, Vs, Vt, Vu, Vv, Vw, Vx, Vy, Yc, Vz, VA, VB, VC, VD, VE, VF, VG, VH, VI, VJ, VK, VL, VM, VN, VO, VP, VQ, VR, VS, VT, VU, VV, VW, VX, VY, VZ, V0, V1, V2, V3, V4, V5, V9, Ga, Gp, Gq, GF, GG, GH, GI, GJ, GK, GL, GM, GN, GO, Yd, Ye, Yf, Yg, GP, GQ, GR, GS, GT, GU, GV, GW, GX, GY, GZ, G0, G1, G2, G3, G4, G5, G6, G7, G8, G9, Za, Zb, Zc, Zd, Ze, Zf, Zg, Zh, Zi, Zj, Zk, Zl, Zm, Zn, Zo, Yh, Yi, Yj, Yk, Yl, Ym, Yn, Yo, Yp, Yq, Yr, ↓reduceIte, Ys, Yu, Yv, Yw, Yx, Yy, Yz, YA, Nat.reduceAdd, Nat.reduceEqDiff, Nat.reduceMul, YB, YC, reduceCtorEq, YD, YE, YF, YG, YH, YI, YJ, YK, YL, Nat.reduceLeDiff, Nat.reduceSub, Zr, Zs, YM, YN, YO, YP, Int.reduceLE, Int.reduceLT, Int.reduceEq, Int.reduceAdd, Int.reduceSub, Int.reduceMul, Int.reduceToNat, Int.reduceNeg, YQ, Nat.reduceLT, YR, YS, Zt, Zu, d1, d2, hn4l, hn6l, hn6Z, res30]
          exact ⟨X, Le.set_of (Le.set_of hLe (by omega)) (by omega), rfl⟩
        · have d2 : decide (p.1 < 0) = false := decide_eq_false hp0
          rw [if_neg hp0]
          simp (disch := first | omega | (simp only [Zv, Zw, Zx, Zy, Zz]; omega)) only [↓SA, Vi, Vj, Vk, Vl, Vm, Ya, Yb, Vn, Vo, Vp, Vq, Vr, Vs, Vt, Vu, Vv, Vw, Vx, Vy, Yc, Vz, VA, VB, VC, VD, VE, VF, VG, VH, VI, VJ, VK, VL, VM, VN, VO, VP, VQ, VR, VS, VT, VU, VV, VW, VX, VY, VZ, V0, V1, V2, V3, V4, V5, V9, Ga, Gp, Gq, GF, GG, GH, GI, GJ, GK, GL, GM, GN, GO, Yd, Ye, Yf, Yg, GP, GQ, GR, GS, GT, GU, GV, GW, GX, GY, GZ, G0, G1, G2, G3, G4, G5, G6, G7, G8, G9, Za, Zb, Zc, Zd, Ze, Zf, Zg, Zh, Zi, Zj, Zk, Zl, Zm, Zn, Zo, Yh, Yi, Yj, Yk, Yl, Ym, Yn, Yo, Yp, Yq, Yr, ↓reduceIte, Ys, Yu, Yv, Yw, Yx, Yy, Yz, YA, Nat.reduceAdd, Nat.reduceEqDiff, Nat.reduceMul, YB, YC, reduceCtorEq, YD, YE, YF, YG, YH, YI, YJ, YK, YL, Nat.reduceLeDiff, Nat.reduceSub, Zr, Zs, YM, YN, YO, YP, Int.reduceLE, Int.reduceLT, Int.reduceEq, Int.reduceAdd, Int.reduceSub, Int.reduceMul, Int.reduceToNat, Int.reduceNeg, YQ, Nat.reduceLT, YR, YS, Zt, Zu, d1, d2, hn4l, hn6l, hn6Z, res30]
          exact ⟨X, Le.set_of (Le.set_of hLe (by omega)) (by omega), rfl⟩
end Go.Proofs.YtdgbnaignpploaaDoor.bk
