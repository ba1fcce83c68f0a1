/- gambitkit.Books: both books, filled alike. -/
import Derived.Test.YtdgbnaignpploaaDoorG0
import Derived.Test.YtdgbnaignpploaaDoorSy
import Derived.Test.YtdgbnaignpploaaDoorS0
import Derived.Test.YtdgbnaignpploaaDoorP7
import Derived.Test.YtdgbnaignpploaaDoorR6
import Derived.Test.YtdgbnaignpploaaDoorB6
import Derived.Test.YtdgbnaignpploaaDoorM0
namespace Go.Proofs.YtdgbnaignpploaaDoor.bk
open Go.Sym
set_option linter.unusedVariables false
set_option linter.unusedSimpArgs false
set_option maxRecDepth 100000
variable {Bar : Nat} {X : St}
theorem get_hidden {a : Nat} : (hide X a).get a = none := by simp [St.get, hide]
theorem obj_hidden {a : Nat} : (hide X a).obj a = none := by simp [St.obj, hide]
/-- both books' blocks forgotten -/
def hide2 (X : St) (a b : Nat) : St := hide (hide X a) b
theorem get_hide2 {a b c : Nat} (h : c ≠ a) (k : c ≠ b) : (hide2 X a b).get c = X.get c := by unfold hide2; rw [get_hide k, get_hide h]
theorem hide2_le {a b : Nat} : Le (hide2 X a b) X := hide_le.trans hide_le
theorem hide2_none {a b : Nat} : ((hide2 X a b).get a = none ∧ (hide2 X a b).obj a = none) ∧ ((hide2 X a b).get b = none ∧ (hide2 X a b).obj b = none) := by
  refine ⟨?_, get_hidden, obj_hidden⟩
  unfold hide2
  constructor
  · simp [St.get, hide]
  · simp [St.obj, hide]
theorem le_keep {R Y Z : St} {a : Nat} (h : Le R Y) (ha : R.get a = none ∧ R.obj a = none) (k : Keep a Y Z) : Le R Z :=
  ⟨Nat.le_trans h.next k.next, fun c C e => k.blk c C (fun hc => by subst hc; rw [ha.1] at e; cases e) (h.blk c C e), fun c o e => k.obj c o (fun hc => by subst hc; rw [ha.2] at e; cases e) (h.obj c o e)⟩
theorem Bk.keepE {X Y : St} {a b : Nat} {C : Blk} {s : Bool} {cs zs : List KC} {ns : List ByteArray} {ms : List MK} (h : Bk X a s cs zs ns ms) (hb : X.get b = some C) (he : C.elem ≠ TP) (hab : a ≠ b) (k : Keep b X Y) : Bk Y a s cs zs ns ms :=
  ⟨⟨⟨k.blk a _ hab h.t.bk.blk, h.t.bk.len, h.t.bk.tll⟩, h.t.nl, h.t.ml⟩, fun c hc => ⟨(h.p c hc).1.keep hb he k, (h.p c hc).2⟩⟩
theorem le_hide2 {Y : St} {a b : Nat} (h : Le X Y) (ha : X.next ≤ a) (hb : X.next ≤ b) : Le X (hide2 Y a b) :=
  ⟨h.next, fun c C e => by have := St.lt e; rw [get_hide2 (by omega) (by omega)]; exact h.blk c C e, fun c o e => by
    have := St.olt e
    have h1 : (hide2 Y a b).obj c = Y.obj c := by simp [hide2, St.obj, hide, show c ≠ a by omega, show c ≠ b by omega]
    rw [h1]; exact h.obj c o e⟩
theorem KC.U.at {c : KC} (h : c.U) (p : Option Addr) (n : Nat) : (KC.mk c.h p n c.ps).U := ⟨h.su, h.ki, h.co, h.po, h.he, h.tr, h.nm, h.ps, h.ln⟩
set_option maxHeartbeats 8000000 in
theorem d_books {co mo : Option Addr} {cc mc : Nat} {C : List KC} {M : List MK} (op : Bool) (hC : CardsK X co C) (hM : MarksK X mo M) (uC : ∀ c ∈ C, c.U ∧ Small c) (uM : ∀ m ∈ M, m.U) (lC : C.length ≤ maxLen) (lM : M.length ≤ maxLen) :
    Does Go.Proofs.Tryd.prog Bar 9 [.agg ⟨[.slice co C.length cc, .slice mo M.length mc, .bool op]⟩] X (fun r X' => ∃ a b s cs zs ds ns ms, r = .tuple ⟨[.pointer (some ⟨a, 0, none⟩), .pointer (some ⟨b, 0, none⟩), .bool true]⟩ ∧
      Bk X' a s cs zs ns ms ∧ Rk X' b s ds ns ms ∧ Both cs ds ∧ a ≠ b ∧ Le X X' ∧ X.next ≤ a ∧ X.next ≤ b) := by
  refine Does.body numOK mixed k.f9 rfl k.o9 (Nat.le_of_ble_eq_true rfl) ?_
  simp (disch := first | omega | (simp only [Zv, Zw, Zx, Zy, Zz]; omega)) only [↓SA, Vi, Vj, Vk, Vl, Vm, Ya, Yb, Vn, Vo, Vp, Vq, Vr, Vs, Vt, Vu, Vv, Vw, Vx, Vy, Yc, Vz, VA, VB, VC, VD, VE, VF, VG, VH, VI, VJ, VK, VL, VM, VN, VO, VP, VQ, VR, VS, VT, VU, VV, VW, VX, VY, VZ, V0, V1, V2, V3, V4, V5, V9, Ga, Gp, Gq, GF, GG, GH, GI, GJ, GK, GL, GM, GN, GO, Yd, Ye, Yf, Yg, GP, GQ, GR, GS, GT, GU, GV, GW, GX, GY, GZ, G0, G1, G2, G3, G4, G5, G6, G7, G8, G9, Za, Zb, Zc, Zd, Ze, Zf, Zg, Zh, Zi, Zj, Zk, Zl, Zm, Zn, Zo, Yh, Yi, Yj, Yk, Yl, Ym, Yn, Yo, Yp, Yq, Yr, ↓reduceIte, Ys, Yu, Yv, Yw, Yx, Yy, Yz, YA, Nat.reduceAdd, Nat.reduceEqDiff, Nat.reduceMul, YB, YC, reduceCtorEq, YD, YE, YF, YG, YH, YI, YJ, YK, YL, Nat.reduceLeDiff, Nat.reduceSub, Zr, Zs, YM, YN, YO, YP, Int.reduceLE, Int.reduceLT, Int.reduceEq, Int.reduceAdd, Int.reduceSub, Int.reduceMul, Int.reduceToNat, Int.reduceNeg, YQ, Nat.reduceLT, YR, YS, Zt, Zu]
  refine AllN_intro (fun n hn => ?_)
  simp (disch := first | omega | (simp only [Zv, Zw, Zx, Zy, Zz]; omega)) only [↓SA, Vi, Vj, Vk, Vl, Vm, Ya, Yb, Vn, Vo, Vp, Vq, Vr, Vs, Vt, Vu, Vv, Vw, Vx, Vy, Yc, Vz, VA, VB, VC, VD, VE, VF, VG, VH, VI, VJ, VK, VL, VM, VN, VO, VP, VQ, VR, VS, VT, VU, VV, VW, VX, VY, VZ, V0, V1, V2, V3, V4, V5, V9, Ga, Gp, Gq, GF, GG, GH, GI, GJ, GK, GL, GM, GN, GO, Yd, Ye, Yf, Yg, GP, GQ, GR, GS, GT, GU, GV, GW, GX, GY, GZ, G0, G1, G2, G3, G4, G5, G6, G7, G8, G9, Za, Zb, Zc, Zd, Ze, Zf, Zg, Zh, Zi, Zj, Zk, Zl, Zm, Zn, Zo, Yh, Yi, Yj, Yk, Yl, Ym, Yn, Yo, Yp, Yq, Yr, ↓reduceIte, Ys, Yu, Yv, Yw, Yx, Yy, Yz, YA, Nat.reduceAdd, Nat.reduceEqDiff, Nat.reduceMul, YB, YC, reduceCtorEq, YD, YE, YF, YG, YH, YI, YJ, YK, YL, Nat.reduceLeDiff, Nat.reduceSub, Zr, Zs, YM, YN, YO, YP, Int.reduceLE, Int.reduceLT, Int.reduceEq, Int.reduceAdd, Int.reduceSub, Int.reduceMul, Int.reduceToNat, Int.reduceNeg, YQ, Nat.reduceLT, YR, YS, Zt, Zu]
  refine DoesK.by k_new ?_
  rintro _ Xa ⟨a, ha, rfl, hA0, hLa⟩
  simp (disch := first | omega | (simp only [Zv, Zw, Zx, Zy, Zz]; omega)) only [↓SA, Vi, Vj, Vk, Vl, Vm, Ya, Yb, Vn, Vo, Vp, Vq, Vr, Vs, Vt, Vu, Vv, Vw, Vx, Vy, Yc, Vz, VA, VB, VC, VD, VE, VF, VG, VH, VI, VJ, VK, VL, VM, VN, VO, VP, VQ, VR, VS, VT, VU, VV, VW, VX, VY, VZ, V0, V1, V2, V3, V4, V5, V9, Ga, Gp, Gq, GF, GG, GH, GI, GJ, GK, GL, GM, GN, GO, Yd, Ye, Yf, Yg, GP, GQ, GR, GS, GT, GU, GV, GW, GX, GY, GZ, G0, G1, G2, G3, G4, G5, G6, G7, G8, G9, Za, Zb, Zc, Zd, Ze, Zf, Zg, Zh, Zi, Zj, Zk, Zl, Zm, Zn, Zo, Yh, Yi, Yj, Yk, Yl, Ym, Yn, Yo, Yp, Yq, Yr, ↓reduceIte, Ys, Yu, Yv, Yw, Yx, Yy, Yz, YA, Nat.reduceAdd, Nat.reduceEqDiff, Nat.reduceMul, YB, YC, reduceCtorEq, YD, YE, YF, YG, YH, YI, YJ, YK, YL, Nat.reduceLeDiff, Nat.reduceSub, Zr, Zs, YM, YN, YO, YP, Int.reduceLE, Int.reduceLT, Int.reduceEq, Int.reduceAdd, Int.reduceSub, Int.reduceMul, Int.reduceToNat, Int.reduceNeg, YQ, Nat.reduceLT, YR, YS, Zt, Zu]
  refine DoesK.by r_new ?_
  rintro _ Xb ⟨b, hb, rfl, hB0, hLb⟩
  simp (disch := first | omega | (simp only [Zv, Zw, Zx, Zy, Zz]; omega)) only [↓SA, Vi, Vj, Vk, Vl, Vm, Ya, Yb, Vn, Vo, Vp, Vq, Vr, Vs, Vt, Vu, Vv, Vw, Vx, Vy, Yc, Vz, VA, VB, VC, VD, VE, VF, VG, VH, VI, VJ, VK, VL, VM, VN, VO, VP, VQ, VR, VS, VT, VU, VV, VW, VX, VY, VZ, V0, V1, V2, V3, V4, V5, V9, Ga, Gp, Gq, GF, GG, GH, GI, GJ, GK, GL, GM, GN, GO, Yd, Ye, Yf, Yg, GP, GQ, GR, GS, GT, GU, GV, GW, GX, GY, GZ, G0, G1, G2, G3, G4, G5, G6, G7, G8, G9, Za, Zb, Zc, Zd, Ze, Zf, Zg, Zh, Zi, Zj, Zk, Zl, Zm, Zn, Zo, Yh, Yi, Yj, Yk, Yl, Ym, Yn, Yo, Yp, Yq, Yr, ↓reduceIte, Ys, Yu, Yv, Yw, Yx, Yy, Yz, YA, Nat.reduceAdd, Nat.reduceEqDiff, Nat.reduceMul, YB, YC, reduceCtorEq, YD, YE, YF, YG, YH, YI, YJ, YK, YL, Nat.reduceLeDiff, Nat.reduceSub, Zr, Zs, YM, YN, YO, YP, Int.reduceLE, Int.reduceLT, Int.reduceEq, Int.reduceAdd, Int.reduceSub, Int.reduceMul, Int.reduceToNat, Int.reduceNeg, YQ, Nat.reduceLT, YR, YS, Zt, Zu]
  have hA1 := hA0.le hLb
  have hal := St.lt hA0.t.bk.blk
  have hab : a ≠ b := by omega
  have hna : n < a := by simp only [Zv] at ha; omega
  have hLbn := hLb.next
  have hnXb : Xb.get n = some ⟨[.slice co C.length cc, .slice mo M.length mc, .bool op], 3, 25, true⟩ := hLb.blk n _ (hLa.blk n _ VG)
  have hXb : Le X Xb := (Le.new (Le.refl _) hn).trans (hLa.trans hLb)
  have hXag : X.next ≤ a := by omega
  have hXbg : X.next ≤ b := by omega
  have hRX : Le (hide2 Xb a b) Xb := hide2_le
  have hXR : Le X (hide2 Xb a b) := le_hide2 hXb hXag hXbg
  have hnR : (hide2 Xb a b).get n = some ⟨[.slice co C.length cc, .slice mo M.length mc, .bool op], 3, 25, true⟩ := by rw [get_hide2 (by omega) (by omega)]; exact hnXb
  obtain ⟨hRa, hRb⟩ := hide2_none (X := Xb) (a := a) (b := b)
  generalize hide2 Xb a b = R at *
  have hCR := hC.le hXR
  have hMR := hM.le hXR
  clear hC hM hXb hLa hLb hnXb hA0
  have hlC : C.length ≤ 9223372036854775807 := lC
  have hlM : M.length ≤ 9223372036854775807 := lM
  refine wpC_loop (α := Nat × St × List KC × List KC × List KC) (fun t => ⟨80, [(1, .pointer (some ⟨n, 0, none⟩)), (5, .pointer (some ⟨a, 0, none⟩)), (6, .pointer (some ⟨b, 0, none⟩)), (7, .int .i64 t.1)]⟩) (fun t => t.2.1)
    (fun t => t.1 ≤ C.length ∧ Le R t.2.1 ∧ Bk t.2.1 a false t.2.2.1 t.2.2.2.1 (List.replicate 9 ⟨#[]⟩) (List.replicate 5 noMK) ∧ Rk t.2.1 b false t.2.2.2.2 (List.replicate 9 ⟨#[]⟩) (List.replicate 5 noMK) ∧ Both t.2.2.1 t.2.2.2.2)
    (fun t => C.length - t.1) (0, Xb, [], List.replicate 64 noKC, []) rfl (Le.refl _) ⟨Nat.zero_le _, hRX, hA1, hB0, Both.nil⟩ ?_
  clear hA1 hB0 hRX
  rintro ⟨i, Y, csA, zsA, csB⟩ hinv
  obtain ⟨hi, hRY, hA, hB, hBo⟩ : i ≤ C.length ∧ Le R Y ∧ Bk Y a false csA zsA (List.replicate 9 ⟨#[]⟩) (List.replicate 5 noMK) ∧ Rk Y b false csB (List.replicate 9 ⟨#[]⟩) (List.replicate 5 noMK) ∧ Both csA csB := hinv
  have hnY := hRY.blk n _ hnR
  by_cases hil : i < C.length
  · obtain ⟨c, hc⟩ : ∃ c, C[i]? = some c := ⟨_, List.getElem?_eq_getElem hil⟩
    have hm := List.mem_of_getElem? hc
    have d1 : decide ((i : Int) < C.length) = true := decide_eq_true (by omega)
    obtain ⟨cb, oo, rfl, hcc⟩ := hCR.at hc
    obtain ⟨uc, sc⟩ := uC c hm
    have hpc := hCR.2 c hm
    simp (disch := first | omega | (simp only [Zv, Zw, Zx, Zy, Zz]; omega)) only [↓SA, Vi, Vj, Vk, Vl, Vm, Ya, Yb, Vn, Vo, Vp, Vq, Vr, Vs, Vt, Vu, Vv, Vw, Vx, Vy, Yc, Vz, VA, VB, VC, VD, VE, VF, VG, VH, VI, VJ, VK, VL, VM, VN, VO, VP, VQ, VR, VS, VT, VU, VV, VW, VX, VY, VZ, V0, V1, V2, V3, V4, V5, V9, Ga, Gp, Gq, GF, GG, GH, GI, GJ, GK, GL, GM, GN, GO, Yd, Ye, Yf, Yg, GP, GQ, GR, GS, GT, GU, GV, GW, GX, GY, GZ, G0, G1, G2, G3, G4, G5, G6, G7, G8, G9, Za, Zb, Zc, Zd, Ze, Zf, Zg, Zh, Zi, Zj, Zk, Zl, Zm, Zn, Zo, Yh, Yi, Yj, Yk, Yl, Ym, Yn, Yo, Yp, Yq, Yr, ↓reduceIte, Ys, Yu, Yv, Yw, Yx, Yy, Yz, YA, Nat.reduceAdd, Nat.reduceEqDiff, Nat.reduceMul, YB, YC, reduceCtorEq, YD, YE, YF, YG, YH, YI, YJ, YK, YL, Nat.reduceLeDiff, Nat.reduceSub, Zr, Zs, YM, YN, YO, YP, Int.reduceLE, Int.reduceLT, Int.reduceEq, Int.reduceAdd, Int.reduceSub, Int.reduceMul, Int.reduceToNat, Int.reduceNeg, YQ, Nat.reduceLT, YR, YS, Zt, Zu, d1, hnY]
    refine wpC_plan R _ _ _ hRY ?_
    simp (disch := first | omega | (simp only [Zv, Zw, Zx, Zy, Zz]; omega)) only [↓SA, Vi, Vj, Vk, Vl, Vm, Ya, Yb, Vn, Vo, Vp, Vq, Vr, Vs, Vt, Vu, Vv, Vw, Vx, Vy, Yc, Vz, VA, VB, VC, VD, VE, VF, VG, VH, VI, VJ, VK, VL, VM, VN, VO, VP, VQ, VR, VS, VT, VU, VV, VW, VX, VY, VZ, V0, V1, V2, V3, V4, V5, V9, Ga, Gp, Gq, GF, GG, GH, GI, GJ, GK, GL, GM, GN, GO, Yd, Ye, Yf, Yg, GP, GQ, GR, GS, GT, GU, GV, GW, GX, GY, GZ, G0, G1, G2, G3, G4, G5, G6, G7, G8, G9, Za, Zb, Zc, Zd, Ze, Zf, Zg, Zh, Zi, Zj, Zk, Zl, Zm, Zn, Zo, Yh, Yi, Yj, Yk, Yl, Ym, Yn, Yo, Yp, Yq, Yr, ↓reduceIte, Ys, Yu, Yv, Yw, Yx, Yy, Yz, YA, Nat.reduceAdd, Nat.reduceEqDiff, Nat.reduceMul, YB, YC, reduceCtorEq, YD, YE, YF, YG, YH, YI, YJ, YK, YL, Nat.reduceLeDiff, Nat.reduceSub, Zr, Zs, YM, YN, YO, YP, Int.reduceLE, Int.reduceLT, Int.reduceEq, Int.reduceAdd, Int.reduceSub, Int.reduceMul, Int.reduceToNat, Int.reduceNeg, YQ, Nat.reduceLT, YR, YS, Zt, Zu, hnR, hcc, YQ]
    refine DoesK.by (d_copyCard c (hpc.le hRY) sc) ?_
    rintro _ Y1 ⟨p1, n1, rfl, hp1, hl1, hf1⟩
    refine cj_intro (hRY.trans hl1) ?_
    simp (disch := first | omega | (simp only [Zv, Zw, Zx, Zy, Zz]; omega)) only [↓SA, Vi, Vj, Vk, Vl, Vm, Ya, Yb, Vn, Vo, Vp, Vq, Vr, Vs, Vt, Vu, Vv, Vw, Vx, Vy, Yc, Vz, VA, VB, VC, VD, VE, VF, VG, VH, VI, VJ, VK, VL, VM, VN, VO, VP, VQ, VR, VS, VT, VU, VV, VW, VX, VY, VZ, V0, V1, V2, V3, V4, V5, V9, Ga, Gp, Gq, GF, GG, GH, GI, GJ, GK, GL, GM, GN, GO, Yd, Ye, Yf, Yg, GP, GQ, GR, GS, GT, GU, GV, GW, GX, GY, GZ, G0, G1, G2, G3, G4, G5, G6, G7, G8, G9, Za, Zb, Zc, Zd, Ze, Zf, Zg, Zh, Zi, Zj, Zk, Zl, Zm, Zn, Zo, Yh, Yi, Yj, Yk, Yl, Ym, Yn, Yo, Yp, Yq, Yr, ↓reduceIte, Ys, Yu, Yv, Yw, Yx, Yy, Yz, YA, Nat.reduceAdd, Nat.reduceEqDiff, Nat.reduceMul, YB, YC, reduceCtorEq, YD, YE, YF, YG, YH, YI, YJ, YK, YL, Nat.reduceLeDiff, Nat.reduceSub, Zr, Zs, YM, YN, YO, YP, Int.reduceLE, Int.reduceLT, Int.reduceEq, Int.reduceAdd, Int.reduceSub, Int.reduceMul, Int.reduceToNat, Int.reduceNeg, YQ, Nat.reduceLT, YR, YS, Zt, Zu]
    have hA1 := hA.le hl1
    refine DoesK.by (k_card hA1 ⟨c.h, p1, n1, c.ps⟩ hp1.k (fun h0 => (hp1.ne hA1.t.bk.blk (show TB ≠ TP by decide)).resolve_left h0)) ?_
    rintro _ Y2 ⟨rfl, hz2, h2, hk2⟩
    have hR2 := le_keep (hRY.trans hl1) hRa hk2
    refine cj_intro hR2 ?_
    simp (disch := first | omega | (simp only [Zv, Zw, Zx, Zy, Zz]; omega)) only [↓SA, Vi, Vj, Vk, Vl, Vm, Ya, Yb, Vn, Vo, Vp, Vq, Vr, Vs, Vt, Vu, Vv, Vw, Vx, Vy, Yc, Vz, VA, VB, VC, VD, VE, VF, VG, VH, VI, VJ, VK, VL, VM, VN, VO, VP, VQ, VR, VS, VT, VU, VV, VW, VX, VY, VZ, V0, V1, V2, V3, V4, V5, V9, Ga, Gp, Gq, GF, GG, GH, GI, GJ, GK, GL, GM, GN, GO, Yd, Ye, Yf, Yg, GP, GQ, GR, GS, GT, GU, GV, GW, GX, GY, GZ, G0, G1, G2, G3, G4, G5, G6, G7, G8, G9, Za, Zb, Zc, Zd, Ze, Zf, Zg, Zh, Zi, Zj, Zk, Zl, Zm, Zn, Zo, Yh, Yi, Yj, Yk, Yl, Ym, Yn, Yo, Yp, Yq, Yr, ↓reduceIte, Ys, Yu, Yv, Yw, Yx, Yy, Yz, YA, Nat.reduceAdd, Nat.reduceEqDiff, Nat.reduceMul, YB, YC, reduceCtorEq, YD, YE, YF, YG, YH, YI, YJ, YK, YL, Nat.reduceLeDiff, Nat.reduceSub, Zr, Zs, YM, YN, YO, YP, Int.reduceLE, Int.reduceLT, Int.reduceEq, Int.reduceAdd, Int.reduceSub, Int.reduceMul, Int.reduceToNat, Int.reduceNeg, YQ, Nat.reduceLT, YR, YS, Zt, Zu]
    refine DoesK.by (d_copyCard c (hpc.le hR2) sc) ?_
    rintro _ Y3 ⟨p3, n3, rfl, hp3, hl3, hf3⟩
    have hB3 := ((hB.mono hl1).keep hA1.t.bk.blk (show TB ≠ TP by decide) (show TB ≠ TC by decide) (Ne.symm hab) hk2).mono hl3
    simp (disch := first | omega | (simp only [Zv, Zw, Zx, Zy, Zz]; omega)) only [↓SA, Vi, Vj, Vk, Vl, Vm, Ya, Yb, Vn, Vo, Vp, Vq, Vr, Vs, Vt, Vu, Vv, Vw, Vx, Vy, Yc, Vz, VA, VB, VC, VD, VE, VF, VG, VH, VI, VJ, VK, VL, VM, VN, VO, VP, VQ, VR, VS, VT, VU, VV, VW, VX, VY, VZ, V0, V1, V2, V3, V4, V5, V9, Ga, Gp, Gq, GF, GG, GH, GI, GJ, GK, GL, GM, GN, GO, Yd, Ye, Yf, Yg, GP, GQ, GR, GS, GT, GU, GV, GW, GX, GY, GZ, G0, G1, G2, G3, G4, G5, G6, G7, G8, G9, Za, Zb, Zc, Zd, Ze, Zf, Zg, Zh, Zi, Zj, Zk, Zl, Zm, Zn, Zo, Yh, Yi, Yj, Yk, Yl, Ym, Yn, Yo, Yp, Yq, Yr, ↓reduceIte, Ys, Yu, Yv, Yw, Yx, Yy, Yz, YA, Nat.reduceAdd, Nat.reduceEqDiff, Nat.reduceMul, YB, YC, reduceCtorEq, YD, YE, YF, YG, YH, YI, YJ, YK, YL, Nat.reduceLeDiff, Nat.reduceSub, Zr, Zs, YM, YN, YO, YP, Int.reduceLE, Int.reduceLT, Int.reduceEq, Int.reduceAdd, Int.reduceSub, Int.reduceMul, Int.reduceToNat, Int.reduceNeg, YQ, Nat.reduceLT, YR, YS, Zt, Zu]
    refine DoesK.by (r_card hB3 ⟨c.h, p3, n3, c.ps⟩ (uc.at _ _) hp3.k) ?_
    rintro _ Y4 ⟨rfl, hz4, h4⟩
    have e4 : cardRes false csB ⟨c.h, p3, n3, c.ps⟩ = cardRes false csA c := (cardRes_val hBo.v false c).symm
    have e2 : cardRes false csA ⟨c.h, p1, n1, c.ps⟩ = cardRes false csA c := rfl
    rw [e4] at hz4 h4 ⊢
    rw [e2] at hz2 h2 ⊢
    have hnew : ∃ csA' zsA' csB', Le R Y4 ∧ Bk Y4 a false csA' zsA' (List.replicate 9 ⟨#[]⟩) (List.replicate 5 noMK) ∧ Rk Y4 b false csB' (List.replicate 9 ⟨#[]⟩) (List.replicate 5 noMK) ∧ Both csA' csB' := by
      by_cases h0 : cardRes false csA c = 0
      · obtain ⟨q1, m1, zs', hA2⟩ := h2 h0
        obtain ⟨q3, m3, hB4, hk4⟩ := h4 h0
        obtain ⟨lo, cap, hbb, -⟩ := hB3.lst
        exact ⟨_, zs', _, le_keep (hR2.trans hl3) hRb hk4, (hA2.le hl3).keepE hbb (show TR ≠ TP by decide) hab hk4, hB4, hBo.step h0 q1 m1 q3 m3⟩
      · have e5 := hz2 h0
        have e6 := hz4 h0
        subst e5 e6
        exact ⟨csA, zsA, csB, hR2.trans hl3, hA1.le hl3, hB3, hBo⟩
    obtain ⟨csA', zsA', csB', g1, g2, g3, g4⟩ := hnew
    simp (disch := first | omega | (simp only [Zv, Zw, Zx, Zy, Zz]; omega)) only [↓SA, Vi, Vj, Vk, Vl, Vm, Ya, Yb, Vn, Vo, Vp, Vq, Vr, Vs, Vt, Vu, Vv, Vw, Vx, Vy, Yc, Vz, VA, VB, VC, VD, VE, VF, VG, VH, VI, VJ, VK, VL, VM, VN, VO, VP, VQ, VR, VS, VT, VU, VV, VW, VX, VY, VZ, V0, V1, V2, V3, V4, V5, V9, Ga, Gp, Gq, GF, GG, GH, GI, GJ, GK, GL, GM, GN, GO, Yd, Ye, Yf, Yg, GP, GQ, GR, GS, GT, GU, GV, GW, GX, GY, GZ, G0, G1, G2, G3, G4, G5, G6, G7, G8, G9, Za, Zb, Zc, Zd, Ze, Zf, Zg, Zh, Zi, Zj, Zk, Zl, Zm, Zn, Zo, Yh, Yi, Yj, Yk, Yl, Ym, Yn, Yo, Yp, Yq, Yr, ↓reduceIte, Ys, Yu, Yv, Yw, Yx, Yy, Yz, YA, Nat.reduceAdd, Nat.reduceEqDiff, Nat.reduceMul, YB, YC, reduceCtorEq, YD, YE, YF, YG, YH, YI, YJ, YK, YL, Nat.reduceLeDiff, Nat.reduceSub, Zr, Zs, YM, YN, YO, YP, Int.reduceLE, Int.reduceLT, Int.reduceEq, Int.reduceAdd, Int.reduceSub, Int.reduceMul, Int.reduceToNat, Int.reduceNeg, YQ, Nat.reduceLT, YR, YS, Zt, Zu]
    exact ⟨(i + 1, Y4, csA', zsA', csB'), rfl, Le.refl _, ⟨by show i + 1 ≤ C.length; omega, g1, g2, g3, g4⟩, by show C.length - (i + 1) < C.length - i; omega⟩
  have d1 : decide ((i : Int) < C.length) = false := decide_eq_false (by omega)
  simp (disch := first | omega | (simp only [Zv, Zw, Zx, Zy, Zz]; omega)) only [↓SA, Vi, Vj, Vk, Vl, Vm, Ya, Yb, Vn, Vo, Vp, Vq, Vr, Vs, Vt, Vu, Vv, Vw, Vx, Vy, Yc, Vz, VA, VB, VC, VD, VE, VF, VG, VH, VI, VJ, VK, VL, VM, VN, VO, VP, VQ, VR, VS, VT, VU, VV, VW, VX, VY, VZ, V0, V1, V2, V3, V4, V5, V9, Ga, Gp, Gq, GF, GG, GH, GI, GJ, GK, GL, GM, GN, GO, Yd, Ye, Yf, Yg, GP, GQ, GR, GS, GT, GU, GV, GW, GX, GY, GZ, G0, G1, G2, G3, G4, G5, G6, G7, G8, G9, Za, Zb, Zc, Zd, Ze, Zf, Zg, Zh, Zi, Zj, Zk, Zl, Zm, Zn, Zo, Yh, Yi, Yj, Yk, Yl, Ym, Yn, Yo, Yp, Yq, Yr, ↓reduceIte, Ys, Yu, Yv, Yw, Yx, Yy, Yz, YA, Nat.reduceAdd, Nat.reduceEqDiff, Nat.reduceMul, YB, YC, reduceCtorEq, YD, YE, YF, YG, YH, YI, YJ, YK, YL, Nat.reduceLeDiff, Nat.reduceSub, Zr, Zs, YM, YN, YO, YP, Int.reduceLE, Int.reduceLT, Int.reduceEq, Int.reduceAdd, Int.reduceSub, Int.reduceMul, Int.reduceToNat, Int.reduceNeg, YQ, Nat.reduceLT, YR, YS, Zt, Zu, d1, hnY]
  clear d1 hil hi hnY
  refine wpC_loop (α := Nat × St × List MK) (fun t => ⟨80, [(1, .pointer (some ⟨n, 0, none⟩)), (5, .pointer (some ⟨a, 0, none⟩)), (6, .pointer (some ⟨b, 0, none⟩)), (8, .int .i64 t.1)]⟩) (fun t => t.2.1)
    (fun t => t.1 ≤ M.length ∧ Le R t.2.1 ∧ Bk t.2.1 a false csA zsA (List.replicate 9 ⟨#[]⟩) t.2.2 ∧ Rk t.2.1 b false csB (List.replicate 9 ⟨#[]⟩) t.2.2)
    (fun t => M.length - t.1) (0, Y, List.replicate 5 noMK) rfl (Le.refl _) ⟨Nat.zero_le _, hRY, hA, hB⟩ ?_
  clear hA hB hRY
  rintro ⟨i, Y, ms⟩ hinv
  obtain ⟨hi, hRY, hA, hB⟩ : i ≤ M.length ∧ Le R Y ∧ Bk Y a false csA zsA (List.replicate 9 ⟨#[]⟩) ms ∧ Rk Y b false csB (List.replicate 9 ⟨#[]⟩) ms := hinv
  have hnY := hRY.blk n _ hnR
  by_cases hil : i < M.length
  · obtain ⟨c, hc⟩ : ∃ c, M[i]? = some c := ⟨_, List.getElem?_eq_getElem hil⟩
    have hm := List.mem_of_getElem? hc
    have d1 : decide ((i : Int) < M.length) = true := decide_eq_true (by omega)
    obtain ⟨cb, oo, rfl, hcc⟩ := hMR.at hc
    have uc := uM c hm
    simp (disch := first | omega | (simp only [Zv, Zw, Zx, Zy, Zz]; omega)) only [↓SA, Vi, Vj, Vk, Vl, Vm, Ya, Yb, Vn, Vo, Vp, Vq, Vr, Vs, Vt, Vu, Vv, Vw, Vx, Vy, Yc, Vz, VA, VB, VC, VD, VE, VF, VG, VH, VI, VJ, VK, VL, VM, VN, VO, VP, VQ, VR, VS, VT, VU, VV, VW, VX, VY, VZ, V0, V1, V2, V3, V4, V5, V9, Ga, Gp, Gq, GF, GG, GH, GI, GJ, GK, GL, GM, GN, GO, Yd, Ye, Yf, Yg, GP, GQ, GR, GS, GT, GU, GV, GW, GX, GY, GZ, G0, G1, G2, G3, G4, G5, G6, G7, G8, G9, Za, Zb, Zc, Zd, Ze, Zf, Zg, Zh, Zi, Zj, Zk, Zl, Zm, Zn, Zo, Yh, Yi, Yj, Yk, Yl, Ym, Yn, Yo, Yp, Yq, Yr, ↓reduceIte, Ys, Yu, Yv, Yw, Yx, Yy, Yz, YA, Nat.reduceAdd, Nat.reduceEqDiff, Nat.reduceMul, YB, YC, reduceCtorEq, YD, YE, YF, YG, YH, YI, YJ, YK, YL, Nat.reduceLeDiff, Nat.reduceSub, Zr, Zs, YM, YN, YO, YP, Int.reduceLE, Int.reduceLT, Int.reduceEq, Int.reduceAdd, Int.reduceSub, Int.reduceMul, Int.reduceToNat, Int.reduceNeg, YQ, Nat.reduceLT, YR, YS, Zt, Zu, d1, hnY]
    refine wpC_plan R _ _ _ hRY ?_
    simp (disch := first | omega | (simp only [Zv, Zw, Zx, Zy, Zz]; omega)) only [↓SA, Vi, Vj, Vk, Vl, Vm, Ya, Yb, Vn, Vo, Vp, Vq, Vr, Vs, Vt, Vu, Vv, Vw, Vx, Vy, Yc, Vz, VA, VB, VC, VD, VE, VF, VG, VH, VI, VJ, VK, VL, VM, VN, VO, VP, VQ, VR, VS, VT, VU, VV, VW, VX, VY, VZ, V0, V1, V2, V3, V4, V5, V9, Ga, Gp, Gq, GF, GG, GH, GI, GJ, GK, GL, GM, GN, GO, Yd, Ye, Yf, Yg, GP, GQ, GR, GS, GT, GU, GV, GW, GX, GY, GZ, G0, G1, G2, G3, G4, G5, G6, G7, G8, G9, Za, Zb, Zc, Zd, Ze, Zf, Zg, Zh, Zi, Zj, Zk, Zl, Zm, Zn, Zo, Yh, Yi, Yj, Yk, Yl, Ym, Yn, Yo, Yp, Yq, Yr, ↓reduceIte, Ys, Yu, Yv, Yw, Yx, Yy, Yz, YA, Nat.reduceAdd, Nat.reduceEqDiff, Nat.reduceMul, YB, YC, reduceCtorEq, YD, YE, YF, YG, YH, YI, YJ, YK, YL, Nat.reduceLeDiff, Nat.reduceSub, Zr, Zs, YM, YN, YO, YP, Int.reduceLE, Int.reduceLT, Int.reduceEq, Int.reduceAdd, Int.reduceSub, Int.reduceMul, Int.reduceToNat, Int.reduceNeg, YQ, Nat.reduceLT, YR, YS, Zt, Zu, hnR, hcc, YQ]
    refine DoesK.by (k_mark hA c) ?_
    rintro _ Y2 ⟨rfl, hz2, h2, hk2⟩
    have hR2 := le_keep hRY hRa hk2
    try refine cj_intro hR2 ?_
    simp (disch := first | omega | (simp only [Zv, Zw, Zx, Zy, Zz]; omega)) only [↓SA, Vi, Vj, Vk, Vl, Vm, Ya, Yb, Vn, Vo, Vp, Vq, Vr, Vs, Vt, Vu, Vv, Vw, Vx, Vy, Yc, Vz, VA, VB, VC, VD, VE, VF, VG, VH, VI, VJ, VK, VL, VM, VN, VO, VP, VQ, VR, VS, VT, VU, VV, VW, VX, VY, VZ, V0, V1, V2, V3, V4, V5, V9, Ga, Gp, Gq, GF, GG, GH, GI, GJ, GK, GL, GM, GN, GO, Yd, Ye, Yf, Yg, GP, GQ, GR, GS, GT, GU, GV, GW, GX, GY, GZ, G0, G1, G2, G3, G4, G5, G6, G7, G8, G9, Za, Zb, Zc, Zd, Ze, Zf, Zg, Zh, Zi, Zj, Zk, Zl, Zm, Zn, Zo, Yh, Yi, Yj, Yk, Yl, Ym, Yn, Yo, Yp, Yq, Yr, ↓reduceIte, Ys, Yu, Yv, Yw, Yx, Yy, Yz, YA, Nat.reduceAdd, Nat.reduceEqDiff, Nat.reduceMul, YB, YC, reduceCtorEq, YD, YE, YF, YG, YH, YI, YJ, YK, YL, Nat.reduceLeDiff, Nat.reduceSub, Zr, Zs, YM, YN, YO, YP, Int.reduceLE, Int.reduceLT, Int.reduceEq, Int.reduceAdd, Int.reduceSub, Int.reduceMul, Int.reduceToNat, Int.reduceNeg, YQ, Nat.reduceLT, YR, YS, Zt, Zu]
    have hB2 := hB.keep hA.t.bk.blk (show TB ≠ TP by decide) (show TB ≠ TC by decide) (Ne.symm hab) hk2
    refine DoesK.by (r_mark hB2 c uc.ma) ?_
    rintro _ Y4 ⟨rfl, hz4, h4⟩
    have hnew : ∃ ms', Le R Y4 ∧ Bk Y4 a false csA zsA (List.replicate 9 ⟨#[]⟩) ms' ∧ Rk Y4 b false csB (List.replicate 9 ⟨#[]⟩) ms' := by
      by_cases h0 : markRes false ms c = 0
      · obtain ⟨hB4, hk4⟩ := h4 h0
        obtain ⟨lo, cap, hbb, -⟩ := hB2.lst
        exact ⟨_, le_keep hR2 hRb hk4, (h2 h0).keepE hbb (show TR ≠ TP by decide) hab hk4, hB4⟩
      · have e5 := hz2 h0
        have e6 := hz4 h0
        subst e5 e6
        exact ⟨ms, hR2, hA, hB2⟩
    obtain ⟨ms', g1, g2, g3⟩ := hnew
    simp (disch := first | omega | (simp only [Zv, Zw, Zx, Zy, Zz]; omega)) only [↓SA, Vi, Vj, Vk, Vl, Vm, Ya, Yb, Vn, Vo, Vp, Vq, Vr, Vs, Vt, Vu, Vv, Vw, Vx, Vy, Yc, Vz, VA, VB, VC, VD, VE, VF, VG, VH, VI, VJ, VK, VL, VM, VN, VO, VP, VQ, VR, VS, VT, VU, VV, VW, VX, VY, VZ, V0, V1, V2, V3, V4, V5, V9, Ga, Gp, Gq, GF, GG, GH, GI, GJ, GK, GL, GM, GN, GO, Yd, Ye, Yf, Yg, GP, GQ, GR, GS, GT, GU, GV, GW, GX, GY, GZ, G0, G1, G2, G3, G4, G5, G6, G7, G8, G9, Za, Zb, Zc, Zd, Ze, Zf, Zg, Zh, Zi, Zj, Zk, Zl, Zm, Zn, Zo, Yh, Yi, Yj, Yk, Yl, Ym, Yn, Yo, Yp, Yq, Yr, ↓reduceIte, Ys, Yu, Yv, Yw, Yx, Yy, Yz, YA, Nat.reduceAdd, Nat.reduceEqDiff, Nat.reduceMul, YB, YC, reduceCtorEq, YD, YE, YF, YG, YH, YI, YJ, YK, YL, Nat.reduceLeDiff, Nat.reduceSub, Zr, Zs, YM, YN, YO, YP, Int.reduceLE, Int.reduceLT, Int.reduceEq, Int.reduceAdd, Int.reduceSub, Int.reduceMul, Int.reduceToNat, Int.reduceNeg, YQ, Nat.reduceLT, YR, YS, Zt, Zu]
    exact ⟨(i + 1, Y4, ms'), rfl, Le.refl _, ⟨by show i + 1 ≤ M.length; omega, g1, g2, g3⟩, by show M.length - (i + 1) < M.length - i; omega⟩
  have d1 : decide ((i : Int) < M.length) = false := decide_eq_false (by omega)
  have hXY := hXR.trans hRY
  have e3 : sealRes false csB = sealRes false csA := (sealRes_val hBo.v false).symm
  cases op
  · simp (disch := first | omega | (simp only [Zv, Zw, Zx, Zy, Zz]; omega)) only [↓SA, Vi, Vj, Vk, Vl, Vm, Ya, Yb, Vn, Vo, Vp, Vq, Vr, Vs, Vt, Vu, Vv, Vw, Vx, Vy, Yc, Vz, VA, VB, VC, VD, VE, VF, VG, VH, VI, VJ, VK, VL, VM, VN, VO, VP, VQ, VR, VS, VT, VU, VV, VW, VX, VY, VZ, V0, V1, V2, V3, V4, V5, V9, Ga, Gp, Gq, GF, GG, GH, GI, GJ, GK, GL, GM, GN, GO, Yd, Ye, Yf, Yg, GP, GQ, GR, GS, GT, GU, GV, GW, GX, GY, GZ, G0, G1, G2, G3, G4, G5, G6, G7, G8, G9, Za, Zb, Zc, Zd, Ze, Zf, Zg, Zh, Zi, Zj, Zk, Zl, Zm, Zn, Zo, Yh, Yi, Yj, Yk, Yl, Ym, Yn, Yo, Yp, Yq, Yr, ↓reduceIte, Ys, Yu, Yv, Yw, Yx, Yy, Yz, YA, Nat.reduceAdd, Nat.reduceEqDiff, Nat.reduceMul, YB, YC, reduceCtorEq, YD, YE, YF, YG, YH, YI, YJ, YK, YL, Nat.reduceLeDiff, Nat.reduceSub, Zr, Zs, YM, YN, YO, YP, Int.reduceLE, Int.reduceLT, Int.reduceEq, Int.reduceAdd, Int.reduceSub, Int.reduceMul, Int.reduceToNat, Int.reduceNeg, YQ, Nat.reduceLT, YR, YS, Zt, Zu, d1, hnY]
    refine DoesK.by (k_seal hA) ?_
    rintro _ Y2 ⟨rfl, hz2, hA2, hk2⟩
    simp (disch := first | omega | (simp only [Zv, Zw, Zx, Zy, Zz]; omega)) only [↓SA, Vi, Vj, Vk, Vl, Vm, Ya, Yb, Vn, Vo, Vp, Vq, Vr, Vs, Vt, Vu, Vv, Vw, Vx, Vy, Yc, Vz, VA, VB, VC, VD, VE, VF, VG, VH, VI, VJ, VK, VL, VM, VN, VO, VP, VQ, VR, VS, VT, VU, VV, VW, VX, VY, VZ, V0, V1, V2, V3, V4, V5, V9, Ga, Gp, Gq, GF, GG, GH, GI, GJ, GK, GL, GM, GN, GO, Yd, Ye, Yf, Yg, GP, GQ, GR, GS, GT, GU, GV, GW, GX, GY, GZ, G0, G1, G2, G3, G4, G5, G6, G7, G8, G9, Za, Zb, Zc, Zd, Ze, Zf, Zg, Zh, Zi, Zj, Zk, Zl, Zm, Zn, Zo, Yh, Yi, Yj, Yk, Yl, Ym, Yn, Yo, Yp, Yq, Yr, ↓reduceIte, Ys, Yu, Yv, Yw, Yx, Yy, Yz, YA, Nat.reduceAdd, Nat.reduceEqDiff, Nat.reduceMul, YB, YC, reduceCtorEq, YD, YE, YF, YG, YH, YI, YJ, YK, YL, Nat.reduceLeDiff, Nat.reduceSub, Zr, Zs, YM, YN, YO, YP, Int.reduceLE, Int.reduceLT, Int.reduceEq, Int.reduceAdd, Int.reduceSub, Int.reduceMul, Int.reduceToNat, Int.reduceNeg, YQ, Nat.reduceLT, YR, YS, Zt, Zu]
    have hB2 := hB.keep hA.t.bk.blk (show TB ≠ TP by decide) (show TB ≠ TC by decide) (Ne.symm hab) hk2
    refine DoesK.by (r_seal hB2) ?_
    rintro _ Y4 ⟨rfl, hz4, h4⟩
    rw [e3] at hz4 h4 ⊢
    have hR2 := le_keep hRY hRa hk2
    have hnew : ∃ s, Le R Y4 ∧ Bk Y4 a s csA zsA (List.replicate 9 ⟨#[]⟩) ms ∧ Rk Y4 b s csB (List.replicate 9 ⟨#[]⟩) ms := by
      by_cases h0 : sealRes false csA = 0
      · obtain ⟨hB4, hk4⟩ := h4 h0
        obtain ⟨lo, cap, hbb, -⟩ := hB2.lst
        rw [decide_eq_true h0, Bool.or_true] at hA2
        exact ⟨true, le_keep hR2 hRb hk4, hA2.keepE hbb (show TR ≠ TP by decide) hab hk4, hB4⟩
      · rw [decide_eq_false h0, Bool.or_false] at hA2
        have e6 := hz4 h0
        subst e6
        exact ⟨false, hR2, hA2, hB2⟩
    obtain ⟨s, g1, g2, g3⟩ := hnew
    have hX4 := hXR.trans g1
    simp (disch := first | omega | (simp only [Zv, Zw, Zx, Zy, Zz]; omega)) only [↓SA, Vi, Vj, Vk, Vl, Vm, Ya, Yb, Vn, Vo, Vp, Vq, Vr, Vs, Vt, Vu, Vv, Vw, Vx, Vy, Yc, Vz, VA, VB, VC, VD, VE, VF, VG, VH, VI, VJ, VK, VL, VM, VN, VO, VP, VQ, VR, VS, VT, VU, VV, VW, VX, VY, VZ, V0, V1, V2, V3, V4, V5, V9, Ga, Gp, Gq, GF, GG, GH, GI, GJ, GK, GL, GM, GN, GO, Yd, Ye, Yf, Yg, GP, GQ, GR, GS, GT, GU, GV, GW, GX, GY, GZ, G0, G1, G2, G3, G4, G5, G6, G7, G8, G9, Za, Zb, Zc, Zd, Ze, Zf, Zg, Zh, Zi, Zj, Zk, Zl, Zm, Zn, Zo, Yh, Yi, Yj, Yk, Yl, Ym, Yn, Yo, Yp, Yq, Yr, ↓reduceIte, Ys, Yu, Yv, Yw, Yx, Yy, Yz, YA, Nat.reduceAdd, Nat.reduceEqDiff, Nat.reduceMul, YB, YC, reduceCtorEq, YD, YE, YF, YG, YH, YI, YJ, YK, YL, Nat.reduceLeDiff, Nat.reduceSub, Zr, Zs, YM, YN, YO, YP, Int.reduceLE, Int.reduceLT, Int.reduceEq, Int.reduceAdd, Int.reduceSub, Int.reduceMul, Int.reduceToNat, Int.reduceNeg, YQ, Nat.reduceLT, YR, YS, Zt, Zu]
    refine DoesK.by (d_sealed g2.t.bk) ?_
    rintro _ X2 ⟨rfl, hX2⟩; subst X2
    simp (disch := first | omega | (simp only [Zv, Zw, Zx, Zy, Zz]; omega)) only [↓SA, Vi, Vj, Vk, Vl, Vm, Ya, Yb, Vn, Vo, Vp, Vq, Vr, Vs, Vt, Vu, Vv, Vw, Vx, Vy, Yc, Vz, VA, VB, VC, VD, VE, VF, VG, VH, VI, VJ, VK, VL, VM, VN, VO, VP, VQ, VR, VS, VT, VU, VV, VW, VX, VY, VZ, V0, V1, V2, V3, V4, V5, V9, Ga, Gp, Gq, GF, GG, GH, GI, GJ, GK, GL, GM, GN, GO, Yd, Ye, Yf, Yg, GP, GQ, GR, GS, GT, GU, GV, GW, GX, GY, GZ, G0, G1, G2, G3, G4, G5, G6, G7, G8, G9, Za, Zb, Zc, Zd, Ze, Zf, Zg, Zh, Zi, Zj, Zk, Zl, Zm, Zn, Zo, Yh, Yi, Yj, Yk, Yl, Ym, Yn, Yo, Yp, Yq, Yr, ↓reduceIte, Ys, Yu, Yv, Yw, Yx, Yy, Yz, YA, Nat.reduceAdd, Nat.reduceEqDiff, Nat.reduceMul, YB, YC, reduceCtorEq, YD, YE, YF, YG, YH, YI, YJ, YK, YL, Nat.reduceLeDiff, Nat.reduceSub, Zr, Zs, YM, YN, YO, YP, Int.reduceLE, Int.reduceLT, Int.reduceEq, Int.reduceAdd, Int.reduceSub, Int.reduceMul, Int.reduceToNat, Int.reduceNeg, YQ, Nat.reduceLT, YR, YS, Zt, Zu]
    refine DoesK.by (r_sealed g3) ?_
    rintro _ X2 ⟨rfl, hX2⟩; subst X2
    simp (disch := first | omega | (simp only [Zv, Zw, Zx, Zy, Zz]; omega)) only [↓SA, Vi, Vj, Vk, Vl, Vm, Ya, Yb, Vn, Vo, Vp, Vq, Vr, Vs, Vt, Vu, Vv, Vw, Vx, Vy, Yc, Vz, VA, VB, VC, VD, VE, VF, VG, VH, VI, VJ, VK, VL, VM, VN, VO, VP, VQ, VR, VS, VT, VU, VV, VW, VX, VY, VZ, V0, V1, V2, V3, V4, V5, V9, Ga, Gp, Gq, GF, GG, GH, GI, GJ, GK, GL, GM, GN, GO, Yd, Ye, Yf, Yg, GP, GQ, GR, GS, GT, GU, GV, GW, GX, GY, GZ, G0, G1, G2, G3, G4, G5, G6, G7, G8, G9, Za, Zb, Zc, Zd, Ze, Zf, Zg, Zh, Zi, Zj, Zk, Zl, Zm, Zn, Zo, Yh, Yi, Yj, Yk, Yl, Ym, Yn, Yo, Yp, Yq, Yr, ↓reduceIte, Ys, Yu, Yv, Yw, Yx, Yy, Yz, YA, Nat.reduceAdd, Nat.reduceEqDiff, Nat.reduceMul, YB, YC, reduceCtorEq, YD, YE, YF, YG, YH, YI, YJ, YK, YL, Nat.reduceLeDiff, Nat.reduceSub, Zr, Zs, YM, YN, YO, YP, Int.reduceLE, Int.reduceLT, Int.reduceEq, Int.reduceAdd, Int.reduceSub, Int.reduceMul, Int.reduceToNat, Int.reduceNeg, YQ, Nat.reduceLT, YR, YS, Zt, Zu]
    exact ⟨_, Le.refl _, a, b, s, csA, zsA, csB, _, ms, by simp, g2, g3, hBo, hab, hX4, hXag, hXbg⟩
  · simp (disch := first | omega | (simp only [Zv, Zw, Zx, Zy, Zz]; omega)) only [↓SA, Vi, Vj, Vk, Vl, Vm, Ya, Yb, Vn, Vo, Vp, Vq, Vr, Vs, Vt, Vu, Vv, Vw, Vx, Vy, Yc, Vz, VA, VB, VC, VD, VE, VF, VG, VH, VI, VJ, VK, VL, VM, VN, VO, VP, VQ, VR, VS, VT, VU, VV, VW, VX, VY, VZ, V0, V1, V2, V3, V4, V5, V9, Ga, Gp, Gq, GF, GG, GH, GI, GJ, GK, GL, GM, GN, GO, Yd, Ye, Yf, Yg, GP, GQ, GR, GS, GT, GU, GV, GW, GX, GY, GZ, G0, G1, G2, G3, G4, G5, G6, G7, G8, G9, Za, Zb, Zc, Zd, Ze, Zf, Zg, Zh, Zi, Zj, Zk, Zl, Zm, Zn, Zo, Yh, Yi, Yj, Yk, Yl, Ym, Yn, Yo, Yp, Yq, Yr, ↓reduceIte, Ys, Yu, Yv, Yw, Yx, Yy, Yz, YA, Nat.reduceAdd, Nat.reduceEqDiff, Nat.reduceMul, YB, YC, reduceCtorEq, YD, YE, YF, YG, YH, YI, YJ, YK, YL, Nat.reduceLeDiff, Nat.reduceSub, Zr, Zs, YM, YN, YO, YP, Int.reduceLE, Int.reduceLT, Int.reduceEq, Int.reduceAdd, Int.reduceSub, Int.reduceMul, Int.reduceToNat, Int.reduceNeg, YQ, Nat.reduceLT, YR, YS, Zt, Zu, d1, hnY]
    refine DoesK.by (d_sealed hA.t.bk) ?_
    rintro _ X2 ⟨rfl, hX2⟩; subst X2
    simp (disch := first | omega | (simp only [Zv, Zw, Zx, Zy, Zz]; omega)) only [↓SA, Vi, Vj, Vk, Vl, Vm, Ya, Yb, Vn, Vo, Vp, Vq, Vr, Vs, Vt, Vu, Vv, Vw, Vx, Vy, Yc, Vz, VA, VB, VC, VD, VE, VF, VG, VH, VI, VJ, VK, VL, VM, VN, VO, VP, VQ, VR, VS, VT, VU, VV, VW, VX, VY, VZ, V0, V1, V2, V3, V4, V5, V9, Ga, Gp, Gq, GF, GG, GH, GI, GJ, GK, GL, GM, GN, GO, Yd, Ye, Yf, Yg, GP, GQ, GR, GS, GT, GU, GV, GW, GX, GY, GZ, G0, G1, G2, G3, G4, G5, G6, G7, G8, G9, Za, Zb, Zc, Zd, Ze, Zf, Zg, Zh, Zi, Zj, Zk, Zl, Zm, Zn, Zo, Yh, Yi, Yj, Yk, Yl, Ym, Yn, Yo, Yp, Yq, Yr, ↓reduceIte, Ys, Yu, Yv, Yw, Yx, Yy, Yz, YA, Nat.reduceAdd, Nat.reduceEqDiff, Nat.reduceMul, YB, YC, reduceCtorEq, YD, YE, YF, YG, YH, YI, YJ, YK, YL, Nat.reduceLeDiff, Nat.reduceSub, Zr, Zs, YM, YN, YO, YP, Int.reduceLE, Int.reduceLT, Int.reduceEq, Int.reduceAdd, Int.reduceSub, Int.reduceMul, Int.reduceToNat, Int.reduceNeg, YQ, Nat.reduceLT, YR, YS, Zt, Zu]
    refine DoesK.by (r_sealed hB) ?_
    rintro _ X2 ⟨rfl, hX2⟩; subst X2
    simp (disch := first | omega | (simp only [Zv, Zw, Zx, Zy, Zz]; omega)) only [↓SA, Vi, Vj, Vk, Vl, Vm, Ya, Yb, Vn, Vo, Vp, Vq, Vr, Vs, Vt, Vu, Vv, Vw, Vx, Vy, Yc, Vz, VA, VB, VC, VD, VE, VF, VG, VH, VI, VJ, VK, VL, VM, VN, VO, VP, VQ, VR, VS, VT, VU, VV, VW, VX, VY, VZ, V0, V1, V2, V3, V4, V5, V9, Ga, Gp, Gq, GF, GG, GH, GI, GJ, GK, GL, GM, GN, GO, Yd, Ye, Yf, Yg, GP, GQ, GR, GS, GT, GU, GV, GW, GX, GY, GZ, G0, G1, G2, G3, G4, G5, G6, G7, G8, G9, Za, Zb, Zc, Zd, Ze, Zf, Zg, Zh, Zi, Zj, Zk, Zl, Zm, Zn, Zo, Yh, Yi, Yj, Yk, Yl, Ym, Yn, Yo, Yp, Yq, Yr, ↓reduceIte, Ys, Yu, Yv, Yw, Yx, Yy, Yz, YA, Nat.reduceAdd, Nat.reduceEqDiff, Nat.reduceMul, YB, YC, reduceCtorEq, YD, YE, YF, YG, YH, YI, YJ, YK, YL, Nat.reduceLeDiff, Nat.reduceSub, Zr, Zs, YM, YN, YO, YP, Int.reduceLE, Int.reduceLT, Int.reduceEq, Int.reduceAdd, Int.reduceSub, Int.reduceMul, Int.reduceToNat, Int.reduceNeg, YQ, Nat.reduceLT, YR, YS, Zt, Zu]
    exact ⟨_, Le.refl _, a, b, false, csA, zsA, csB, _, ms, rfl, hA, hB, hBo, hab, hXY, hXag, hXbg⟩
end Go.Proofs.YtdgbnaignpploaaDoor.bk
