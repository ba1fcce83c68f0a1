/- thing.Marked, thing.Left and the document's. -/
import Derived.Test.YtdgbnaignpploaaDoorG0
import Derived.Test.YtdgbnaignpploaaDoorSy
import Derived.Test.YtdgbnaignpploaaDoorS1
namespace Go.Proofs.YtdgbnaignpploaaDoor.bk
open Go.Sym
set_option linter.unusedVariables false
set_option linter.unusedSimpArgs false
set_option maxRecDepth 100000
variable {Bar : Nat} {X : St}
theorem res30 : ∀ A X a, resV Go.Proofs.Tryd.prog A X (.cell a 30) = cellRes (A.get a) X (some 5) := res_cell (by kernel_rfl)
def wr (x : Int) : Int := IntKind.i64.wrap x
/-- what a book's marks add -/
def mstep (ms : List MK) (n : Int) (k : Nat) (p : Int × Int) : Int × Int :=
  match ms[k + 1]? with
  | some y => if y.ma = 0 then p else (IntKind.i64.wrap (p.1 + IntKind.i64.wrap (n * y.po)), IntKind.i64.wrap (p.2 + IntKind.i64.wrap (n * y.he)))
  | none => p
def mfold (ms : List MK) (mk : List Int) (p : Int × Int) : Nat → Int × Int
  | 0 => p
  | k + 1 => mstep ms (mk.getD k 0) k (mfold ms mk p k)
def mkOk (mk : List Int) : Bool := mk.all fun n => decide (0 ≤ n) && decide (n ≤ 99)
structure FK where
  ho : Int
  su : Int
  tr : Int
  po : Int
  he : Int
def FK.cells (f : FK) : List Value := [.int .i64 f.ho, .int .u8 f.su, .int .u16 f.tr, .int .i64 f.po, .int .i64 f.he]
def markedF (ms : List MK) (mk : List Int) (f : FK) : List Value :=
  if mkOk mk then [.agg ⟨[.int .i64 f.ho, .int .u8 f.su, .int .u16 f.tr, .int .i64 (max (mfold ms mk (f.po, f.he) 4).1 0), .int .i64 (mfold ms mk (f.po, f.he) 4).2]⟩, .int .i64 0]
  else [.agg ⟨[.int .i64 0, .int .u8 0, .int .u16 0, .int .i64 0, .int .i64 0]⟩, .int .i64 2]
def ints (l : List Int) : List Value := l.map (.int .i64)
theorem ints_at {l : List Int} {k : Nat} {n : Int} (h : l[k]? = some n) : (ints l)[k]? = some (.int .i64 n) := by unfold ints; rw [List.getElem?_map, h]; rfl
theorem ints_len (l : List Int) : (ints l).length = l.length := by unfold ints; rw [List.length_map]
theorem ints_single (l : List Int) : (∀ v ∈ ints l, single v = true) = True := eq_true (by
  intro v hv
  unfold ints at hv
  obtain ⟨n, -, rfl⟩ := List.mem_map.1 hv
  rfl)
theorem mkOk_no {mk : List Int} {k : Nat} {n : Int} (h : mk[k]? = some n) (hn : n < 0 ∨ 99 < n) : mkOk mk = false := by
  unfold mkOk
  rw [List.all_eq_false]
  exact ⟨n, List.mem_of_getElem? h, by simp; omega⟩
theorem mkOk_yes {mk : List Int} (h : ∀ (j : Nat) (n : Int), j < 4 → mk[j]? = some n → 0 ≤ n ∧ n ≤ 99) (hl : mk.length = 4) : mkOk mk = true := by
  unfold mkOk
  rw [List.all_eq_true]
  intro n hn
  obtain ⟨j, hj⟩ := List.getElem?_of_mem hn
  have := h j n (by have := (List.getElem?_eq_some_iff.1 hj).1; omega) hj
  simp; omega
set_option maxHeartbeats 8000000 in
theorem d_marked {b : Nat} {s : Bool} {cs zs : List KC} {ns : List ByteArray} {ms : List MK} (hB : Bk X b s cs zs ns ms) (f : FK) {mk : List Int} (hmk : mk.length = 4) :
    Does Go.Proofs.Tryd.prog Bar 10 [.pointer (some ⟨b, 0, none⟩), .agg ⟨f.cells⟩, .agg ⟨ints mk⟩] X (fun r X' => r = .tuple ⟨markedF ms mk f⟩ ∧ X' = X) := by
  obtain ⟨ho, su, tr, po, he⟩ := f
  simp only [FK.cells]
  have hml := hB.t.ml
  have hil := ints_len mk
  rw [hmk] at hil
  have hsi := ints_single mk
  have htk : (ints mk).take 4 = ints mk := List.take_of_length_le (by omega)
  have hbl := St.lt hB.t.bk.blk
  refine Does.body numOK mixed k.f10 rfl k.o10 (Nat.le_of_ble_eq_true rfl) ?_
  simp (disch := first | omega | (simp only [Zv, Zw, Zx, Zy, Zz]; omega)) only [↓SA, Vi, Vj, Vk, Vl, Vm, Ya, Yb, Vn, Vo, Vp, Vq, Vr, Vs, Vt, Vu, Vv, Vw, Vx, Vy, Yc, Vz, VA, VB, VC, VD, VE, VF, VG, VH, VI, VJ, VK, VL, VM, VN, VO, VP, VQ, VR, VS, VT, VU, VV, VW, VX, VY, VZ, V0, V1, V2, V3, V4, V5, V9, Ga, Gp, Gq, GF, GG, GH, GI, GJ, GK, GL, GM, GN, GO, Yd, Ye, Yf, Yg, GP, GQ, GR, GS, GT, GU, GV, GW, GX, GY, GZ, G0, G1, G2, G3, G4, G5, G6, G7, G8, G9, Za, Zb, Zc, Zd, Ze, Zf, Zg, Zh, Zi, Zj, Zk, Zl, Zm, Zn, Zo, Yh, Yi, Yj, Yk, Yl, Ym, Yn, Yo, Yp, Yq, Yr, ↓reduceIte, Ys, Yu, Yv, Yw, Yx, Yy, Yz, YA, Nat.reduceAdd, Nat.reduceEqDiff, Nat.reduceMul, YB, YC, reduceCtorEq, YD, YE, YF, YG, YH, YI, YJ, YK, YL, Nat.reduceLeDiff, Nat.reduceSub, Zr, Zs, YM, YN, YO, YP, Int.reduceLE, Int.reduceLT, Int.reduceEq, Int.reduceAdd, Int.reduceSub, Int.reduceMul, Int.reduceToNat, Int.reduceNeg, YQ, Nat.reduceLT, YR, YS, Zt, Zu, hil, hsi, res30]
  refine AllN_intro (fun n4 h4 => ?_)
  simp (disch := first | omega | (simp only [Zv, Zw, Zx, Zy, Zz]; omega)) only [↓SA, Vi, Vj, Vk, Vl, Vm, Ya, Yb, Vn, Vo, Vp, Vq, Vr, Vs, Vt, Vu, Vv, Vw, Vx, Vy, Yc, Vz, VA, VB, VC, VD, VE, VF, VG, VH, VI, VJ, VK, VL, VM, VN, VO, VP, VQ, VR, VS, VT, VU, VV, VW, VX, VY, VZ, V0, V1, V2, V3, V4, V5, V9, Ga, Gp, Gq, GF, GG, GH, GI, GJ, GK, GL, GM, GN, GO, Yd, Ye, Yf, Yg, GP, GQ, GR, GS, GT, GU, GV, GW, GX, GY, GZ, G0, G1, G2, G3, G4, G5, G6, G7, G8, G9, Za, Zb, Zc, Zd, Ze, Zf, Zg, Zh, Zi, Zj, Zk, Zl, Zm, Zn, Zo, Yh, Yi, Yj, Yk, Yl, Ym, Yn, Yo, Yp, Yq, Yr, ↓reduceIte, Ys, Yu, Yv, Yw, Yx, Yy, Yz, YA, Nat.reduceAdd, Nat.reduceEqDiff, Nat.reduceMul, YB, YC, reduceCtorEq, YD, YE, YF, YG, YH, YI, YJ, YK, YL, Nat.reduceLeDiff, Nat.reduceSub, Zr, Zs, YM, YN, YO, YP, Int.reduceLE, Int.reduceLT, Int.reduceEq, Int.reduceAdd, Int.reduceSub, Int.reduceMul, Int.reduceToNat, Int.reduceNeg, YQ, Nat.reduceLT, YR, YS, Zt, Zu, hil, hsi, res30]
  refine AllN_intro (fun n5 h5 => ?_)
  simp (disch := first | omega | (simp only [Zv, Zw, Zx, Zy, Zz]; omega)) only [↓SA, Vi, Vj, Vk, Vl, Vm, Ya, Yb, Vn, Vo, Vp, Vq, Vr, Vs, Vt, Vu, Vv, Vw, Vx, Vy, Yc, Vz, VA, VB, VC, VD, VE, VF, VG, VH, VI, VJ, VK, VL, VM, VN, VO, VP, VQ, VR, VS, VT, VU, VV, VW, VX, VY, VZ, V0, V1, V2, V3, V4, V5, V9, Ga, Gp, Gq, GF, GG, GH, GI, GJ, GK, GL, GM, GN, GO, Yd, Ye, Yf, Yg, GP, GQ, GR, GS, GT, GU, GV, GW, GX, GY, GZ, G0, G1, G2, G3, G4, G5, G6, G7, G8, G9, Za, Zb, Zc, Zd, Ze, Zf, Zg, Zh, Zi, Zj, Zk, Zl, Zm, Zn, Zo, Yh, Yi, Yj, Yk, Yl, Ym, Yn, Yo, Yp, Yq, Yr, ↓reduceIte, Ys, Yu, Yv, Yw, Yx, Yy, Yz, YA, Nat.reduceAdd, Nat.reduceEqDiff, Nat.reduceMul, YB, YC, reduceCtorEq, YD, YE, YF, YG, YH, YI, YJ, YK, YL, Nat.reduceLeDiff, Nat.reduceSub, Zr, Zs, YM, YN, YO, YP, Int.reduceLE, Int.reduceLT, Int.reduceEq, Int.reduceAdd, Int.reduceSub, Int.reduceMul, Int.reduceToNat, Int.reduceNeg, YQ, Nat.reduceLT, YR, YS, Zt, Zu, hil, hsi, res30]
  refine AllN_intro (fun n6 h6 => ?_)
  simp only [Zv] at h5 h6
  have hLe : Le X (((X.new n4 ⟨[.int .i64 ho, .int .u8 su, .int .u16 tr, .int .i64 po, .int .i64 he], 5, 30, true⟩).new n5 ⟨ints mk, 4, 31, true⟩).new n6 ⟨[.int .i64 0, .int .u8 0, .int .u16 0, .int .i64 0, .int .i64 0], 5, 30, true⟩) := Le.new_of (Le.new_of (Le.new_of (Le.refl _) h4) (by omega)) (by omega)
  simp (disch := first | omega | (simp only [Zv, Zw, Zx, Zy, Zz]; omega)) only [↓SA, Vi, Vj, Vk, Vl, Vm, Ya, Yb, Vn, Vo, Vp, Vq, Vr, Vs, Vt, Vu, Vv, Vw, Vx, Vy, Yc, Vz, VA, VB, VC, VD, VE, VF, VG, VH, VI, VJ, VK, VL, VM, VN, VO, VP, VQ, VR, VS, VT, VU, VV, VW, VX, VY, VZ, V0, V1, V2, V3, V4, V5, V9, Ga, Gp, Gq, GF, GG, GH, GI, GJ, GK, GL, GM, GN, GO, Yd, Ye, Yf, Yg, GP, GQ, GR, GS, GT, GU, GV, GW, GX, GY, GZ, G0, G1, G2, G3, G4, G5, G6, G7, G8, G9, Za, Zb, Zc, Zd, Ze, Zf, Zg, Zh, Zi, Zj, Zk, Zl, Zm, Zn, Zo, Yh, Yi, Yj, Yk, Yl, Ym, Yn, Yo, Yp, Yq, Yr, ↓reduceIte, Ys, Yu, Yv, Yw, Yx, Yy, Yz, YA, Nat.reduceAdd, Nat.reduceEqDiff, Nat.reduceMul, YB, YC, reduceCtorEq, YD, YE, YF, YG, YH, YI, YJ, YK, YL, Nat.reduceLeDiff, Nat.reduceSub, Zr, Zs, YM, YN, YO, YP, Int.reduceLE, Int.reduceLT, Int.reduceEq, Int.reduceAdd, Int.reduceSub, Int.reduceMul, Int.reduceToNat, Int.reduceNeg, YQ, Nat.reduceLT, YR, YS, Zt, Zu, hil, hsi, res30]
  refine DoesK.by (d_find (hB.le hLe).t.bk _) ?_
  rintro _ X2 ⟨rfl, hX2⟩; subst X2
  by_cases hf : s = true ∧ 0 ≤ pos ⟨#[]⟩ cs
  all_goals first | rw [if_pos hf] | rw [if_neg hf]
  all_goals
    simp (disch := first | omega | (simp only [Zv, Zw, Zx, Zy, Zz]; omega)) only [↓SA, Vi, Vj, Vk, Vl, Vm, Ya, Yb, Vn, Vo, Vp, Vq, Vr, Vs, Vt, Vu, Vv, Vw, Vx, Vy, Yc, Vz, VA, VB, VC, VD, VE, VF, VG, VH, VI, VJ, VK, VL, VM, VN, VO, VP, VQ, VR, VS, VT, VU, VV, VW, VX, VY, VZ, V0, V1, V2, V3, V4, V5, V9, Ga, Gp, Gq, GF, GG, GH, GI, GJ, GK, GL, GM, GN, GO, Yd, Ye, Yf, Yg, GP, GQ, GR, GS, GT, GU, GV, GW, GX, GY, GZ, G0, G1, G2, G3, G4, G5, G6, G7, G8, G9, Za, Zb, Zc, Zd, Ze, Zf, Zg, Zh, Zi, Zj, Zk, Zl, Zm, Zn, Zo, Yh, Yi, Yj, Yk, Yl, Ym, Yn, Yo, Yp, Yq, Yr, ↓reduceIte, Ys, Yu, Yv, Yw, Yx, Yy, Yz, YA, Nat.reduceAdd, Nat.reduceEqDiff, Nat.reduceMul, YB, YC, reduceCtorEq, YD, YE, YF, YG, YH, YI, YJ, YK, YL, Nat.reduceLeDiff, Nat.reduceSub, Zr, Zs, YM, YN, YO, YP, Int.reduceLE, Int.reduceLT, Int.reduceEq, Int.reduceAdd, Int.reduceSub, Int.reduceMul, Int.reduceToNat, Int.reduceNeg, YQ, Nat.reduceLT, YR, YS, Zt, Zu, hil, hsi, htk, res30]
    generalize hZ : ((X.new n4 ⟨[.int .i64 ho, .int .u8 su, .int .u16 tr, .int .i64 po, .int .i64 he], 5, 30, true⟩).new n5 ⟨ints mk, 4, 31, true⟩).new n6 ⟨[.int .i64 0, .int .u8 0, .int .u16 0, .int .i64 0, .int .i64 0], 5, 30, true⟩ = Z at *
    have hn54 : n4 < n5 := by omega
    have hn65 : n5 < n6 := by omega
    have hn6Z : Z.get n6 = some ⟨[.int .i64 0, .int .u8 0, .int .u16 0, .int .i64 0, .int .i64 0], 5, 30, true⟩ := by rw [← hZ]; exact VG
    have hn5Z : Z.get n5 = some ⟨ints mk, 4, 31, true⟩ := by rw [← hZ, VH (by omega)]; exact VG
    have hn4Z : Z.get n4 = some ⟨[.int .i64 ho, .int .u8 su, .int .u16 tr, .int .i64 po, .int .i64 he], 5, 30, true⟩ := by rw [← hZ, VH (by omega), VH (by omega)]; exact VG
    clear hZ hf
    have hn6l := St.lt hn6Z
    refine wpC_loop (fun k : Nat => ⟨73, [(0, .pointer (some ⟨b, 0, none⟩)), (4, .pointer (some ⟨n4, 0, none⟩)), (5, .pointer (some ⟨n5, 0, none⟩)), (6, .pointer (some ⟨n6, 0, none⟩)), (25, .agg ⟨ints mk⟩), (26, .int .i64 k)]⟩) (fun _ => Z) (fun k => k ≤ 4 ∧ ∀ (j : Nat) (n : Int), j < k → mk[j]? = some n → 0 ≤ n ∧ n ≤ 99) (fun k => 4 - k) 0 rfl (Le.refl _) ⟨Nat.zero_le _, fun j n hj => absurd hj (Nat.not_lt_zero _)⟩ ?_
    rintro k ⟨hk, hi⟩
    by_cases hkl : k < 4
    · obtain ⟨m, hm⟩ : ∃ m, mk[k]? = some m := ⟨_, List.getElem?_eq_getElem (by omega)⟩
      have hmi := ints_at hm
      have d1 : decide ((k : Int) < 4) = true := decide_eq_true (by omega)
      have hk4 : ((0 : Int) ≤ k ∧ (k : Int) < 4) = True := eq_true ⟨by omega, by omega⟩
      by_cases hb1 : m < 0 ∨ 99 < m
      · have hno := mkOk_no hm hb1
        by_cases hb2 : m < 0
        · have d2 : decide (m < 0) = true := decide_eq_true hb2
          simp (disch := first | omega | (simp only [Zv, Zw, Zx, Zy, Zz]; omega)) only [↓SA, Vi, Vj, Vk, Vl, Vm, Ya, Yb, Vn, Vo, Vp, Vq, Vr, Vs, Vt, Vu, Vv, Vw, Vx, Vy, Yc, Vz, VA, VB, VC, VD, VE, VF, VG, VH, VI, VJ, VK, VL, VM, VN, VO, VP, VQ, VR, VS, VT, VU, VV, VW, VX, VY, VZ, V0, V1, V2, V3, V4, V5, V9, Ga, Gp, Gq, GF, GG, GH, GI, GJ, GK, GL, GM, GN, GO, Yd, Ye, Yf, Yg, GP, GQ, GR, GS, GT, GU, GV, GW, GX, GY, GZ, G0, G1, G2, G3, G4, G5, G6, G7, G8, G9, Za, Zb, Zc, Zd, Ze, Zf, Zg, Zh, Zi, Zj, Zk, Zl, Zm, Zn, Zo, Yh, Yi, Yj, Yk, Yl, Ym, Yn, Yo, Yp, Yq, Yr, ↓reduceIte, Ys, Yu, Yv, Yw, Yx, Yy, Yz, YA, Nat.reduceAdd, Nat.reduceEqDiff, Nat.reduceMul, YB, YC, reduceCtorEq, YD, YE, YF, YG, YH, YI, YJ, YK, YL, Nat.reduceLeDiff, Nat.reduceSub, Zr, Zs, YM, YN, YO, YP, Int.reduceLE, Int.reduceLT, Int.reduceEq, Int.reduceAdd, Int.reduceSub, Int.reduceMul, Int.reduceToNat, Int.reduceNeg, YQ, Nat.reduceLT, YR, YS, Zt, Zu, d1, hk4, hmi, d2, hn6Z, hn6l, res30, YQ]
          exact ⟨X, Le.set_of hLe (by omega), by unfold markedF; rw [hno]; rfl, rfl⟩
        · have d2 : decide (m < 0) = false := decide_eq_false (by omega)
          have d3 : decide (m > 99) = true := decide_eq_true (by omega)
          simp (disch := first | omega | (simp only [Zv, Zw, Zx, Zy, Zz]; omega)) only [↓SA, Vi, Vj, Vk, Vl, Vm, Ya, Yb, Vn, Vo, Vp, Vq, Vr, Vs, Vt, Vu, Vv, Vw, Vx, Vy, Yc, Vz, VA, VB, VC, VD, VE, VF, VG, VH, VI, VJ, VK, VL, VM, VN, VO, VP, VQ, VR, VS, VT, VU, VV, VW, VX, VY, VZ, V0, V1, V2, V3, V4, V5, V9, Ga, Gp, Gq, GF, GG, GH, GI, GJ, GK, GL, GM, GN, GO, Yd, Ye, Yf, Yg, GP, GQ, GR, GS, GT, GU, GV, GW, GX, GY, GZ, G0, G1, G2, G3, G4, G5, G6, G7, G8, G9, Za, Zb, Zc, Zd, Ze, Zf, Zg, Zh, Zi, Zj, Zk, Zl, Zm, Zn, Zo, Yh, Yi, Yj, Yk, Yl, Ym, Yn, Yo, Yp, Yq, Yr, ↓reduceIte, Ys, Yu, Yv, Yw, Yx, Yy, Yz, YA, Nat.reduceAdd, Nat.reduceEqDiff, Nat.reduceMul, YB, YC, reduceCtorEq, YD, YE, YF, YG, YH, YI, YJ, YK, YL, Nat.reduceLeDiff, Nat.reduceSub, Zr, Zs, YM, YN, YO, YP, Int.reduceLE, Int.reduceLT, Int.reduceEq, Int.reduceAdd, Int.reduceSub, Int.reduceMul, Int.reduceToNat, Int.reduceNeg, YQ, Nat.reduceLT, YR, YS, Zt, Zu, d1, hk4, hmi, d2, d3, hn6Z, hn6l, res30, YQ]
          exact ⟨X, Le.set_of hLe (by omega), by unfold markedF; rw [hno]; rfl, rfl⟩
      · have d2 : decide (m < 0) = false := decide_eq_false (by omega)
        have d3 : decide (m > 99) = false := decide_eq_false (by omega)
        simp (disch := first | omega | (simp only [Zv, Zw, Zx, Zy, Zz]; omega)) only [↓SA, Vi, Vj, Vk, Vl, Vm, Ya, Yb, Vn, Vo, Vp, Vq, Vr, Vs, Vt, Vu, Vv, Vw, Vx, Vy, Yc, Vz, VA, VB, VC, VD, VE, VF, VG, VH, VI, VJ, VK, VL, VM, VN, VO, VP, VQ, VR, VS, VT, VU, VV, VW, VX, VY, VZ, V0, V1, V2, V3, V4, V5, V9, Ga, Gp, Gq, GF, GG, GH, GI, GJ, GK, GL, GM, GN, GO, Yd, Ye, Yf, Yg, GP, GQ, GR, GS, GT, GU, GV, GW, GX, GY, GZ, G0, G1, G2, G3, G4, G5, G6, G7, G8, G9, Za, Zb, Zc, Zd, Ze, Zf, Zg, Zh, Zi, Zj, Zk, Zl, Zm, Zn, Zo, Yh, Yi, Yj, Yk, Yl, Ym, Yn, Yo, Yp, Yq, Yr, ↓reduceIte, Ys, Yu, Yv, Yw, Yx, Yy, Yz, YA, Nat.reduceAdd, Nat.reduceEqDiff, Nat.reduceMul, YB, YC, reduceCtorEq, YD, YE, YF, YG, YH, YI, YJ, YK, YL, Nat.reduceLeDiff, Nat.reduceSub, Zr, Zs, YM, YN, YO, YP, Int.reduceLE, Int.reduceLT, Int.reduceEq, Int.reduceAdd, Int.reduceSub, Int.reduceMul, Int.reduceToNat, Int.reduceNeg, YQ, Nat.reduceLT, YR, YS, Zt, Zu, d1, hk4, hmi, d2, d3, YQ]
        exact ⟨k + 1, rfl, Le.refl _, ⟨by omega, fun j n hj hn => by
          by_cases hjk : j = k
          · subst hjk; rw [hm] at hn; cases hn; omega
          · exact hi j n (by omega) hn⟩, by omega⟩
    · have d1 : decide ((k : Int) < 4) = false := decide_eq_false (by omega)
      have hk4 : k = 4 := by omega
      subst hk4
      have hyes := mkOk_yes hi hmk
      simp (disch := first | omega | (simp only [Zv, Zw, Zx, Zy, Zz]; omega)) only [↓SA, Vi, Vj, Vk, Vl, Vm, Ya, Yb, Vn, Vo, Vp, Vq, Vr, Vs, Vt, Vu, Vv, Vw, Vx, Vy, Yc, Vz, VA, VB, VC, VD, VE, VF, VG, VH, VI, VJ, VK, VL, VM, VN, VO, VP, VQ, VR, VS, VT, VU, VV, VW, VX, VY, VZ, V0, V1, V2, V3, V4, V5, V9, Ga, Gp, Gq, GF, GG, GH, GI, GJ, GK, GL, GM, GN, GO, Yd, Ye, Yf, Yg, GP, GQ, GR, GS, GT, GU, GV, GW, GX, GY, GZ, G0, G1, G2, G3, G4, G5, G6, G7, G8, G9, Za, Zb, Zc, Zd, Ze, Zf, Zg, Zh, Zi, Zj, Zk, Zl, Zm, Zn, Zo, Yh, Yi, Yj, Yk, Yl, Ym, Yn, Yo, Yp, Yq, Yr, ↓reduceIte, Ys, Yu, Yv, Yw, Yx, Yy, Yz, YA, Nat.reduceAdd, Nat.reduceEqDiff, Nat.reduceMul, YB, YC, reduceCtorEq, YD, YE, YF, YG, YH, YI, YJ, YK, YL, Nat.reduceLeDiff, Nat.reduceSub, Zr, Zs, YM, YN, YO, YP, Int.reduceLE, Int.reduceLT, Int.reduceEq, Int.reduceAdd, Int.reduceSub, Int.reduceMul, Int.reduceToNat, Int.reduceNeg, YQ, Nat.reduceLT, YR, YS, Zt, Zu, d1, hn5Z, hil, htk]
      clear d1 hkl hi hk
      have hBZ := hB.le hLe
      refine wpC_loop (fun k : Nat => ⟨73, [(0, .pointer (some ⟨b, 0, none⟩)), (4, .pointer (some ⟨n4, 0, none⟩)), (6, .pointer (some ⟨n6, 0, none⟩)), (37, .agg ⟨ints mk⟩), (38, .int .i64 k)]⟩)
        (fun k => Z.set n4 ⟨[.int .i64 ho, .int .u8 su, .int .u16 tr, .int .i64 (mfold ms mk (po, he) k).1, .int .i64 (mfold ms mk (po, he) k).2], 5, 30, true⟩) (fun k => k ≤ 4) (fun k => 4 - k) 0 rfl (Le.set_self hn4Z) (Nat.zero_le _) ?_
      intro k hk
      have hn4l := St.lt hn4Z
      have hn4b : n4 ≠ b := by omega
      by_cases hkl : k < 4
      · obtain ⟨m, hm⟩ : ∃ m, mk[k]? = some m := ⟨_, List.getElem?_eq_getElem (by omega)⟩
        obtain ⟨⟨ma, nm, mpo, mhe⟩, hy⟩ : ∃ y, ms[k + 1]? = some y := ⟨_, List.getElem?_eq_getElem (by omega)⟩
        have hmi := ints_at hm
        have d1 : decide ((k : Int) < 4) = true := decide_eq_true (by omega)
        have hk4 : ((0 : Int) ≤ k ∧ (k : Int) < 4) = True := eq_true ⟨by omega, by omega⟩
        have hst : mfold ms mk (po, he) (k + 1) = mstep ms m k (mfold ms mk (po, he) k) := by
          show mstep ms (mk.getD k 0) k _ = _
          rw [List.getD_eq_getElem?_getD, hm]; rfl
        have hBk := hBZ.set (D := ⟨[.int .i64 ho, .int .u8 su, .int .u16 tr, .int .i64 (mfold ms mk (po, he) k).1, .int .i64 (mfold ms mk (po, he) k).2], 5, 30, true⟩) hn4Z (show 30 ≠ TP by decide) hn4b
        have hw8 : IntKind.u8.wrap ((k : Int) + 1) = (k : Int) + 1 := by rw [Zu (by omega) (by omega)]
        have hst : mfold ms mk (po, he) (k + 1) = if ma = 0 then mfold ms mk (po, he) k else (IntKind.i64.wrap ((mfold ms mk (po, he) k).1 + IntKind.i64.wrap (m * mpo)), IntKind.i64.wrap ((mfold ms mk (po, he) k).2 + IntKind.i64.wrap (m * mhe))) := by
          rw [hst]; unfold mstep; rw [hy]
        have e1 : (if ((k : Int) + 1) < 1 ∨ 4 < (k : Int) + 1 then noMark else ((ms[((k : Int) + 1).toNat]?).map MK.cells).getD noMark) = [.int .u8 ma, .string nm, .int .i64 mpo, .int .i64 mhe] := by
          rw [if_neg (by omega), show ((k : Int) + 1).toNat = k + 1 by omega, hy]; rfl
        have e2 : (!(decide ((k : Int) + 1 < 1) || decide (4 < (k : Int) + 1)) && (ms[((k : Int) + 1).toNat]?).any (fun y => !decide (y.ma = 0))) = !decide (ma = 0) := by
          rw [decide_eq_false (show ¬ ((k : Int) + 1 < 1) by omega), decide_eq_false (show ¬ (4 < (k : Int) + 1) by omega), show ((k : Int) + 1).toNat = k + 1 by omega, hy]; rfl
        simp (disch := first | omega | (simp only [Zv, Zw, Zx, Zy, Zz]; omega)) only [↓SA, Vi, Vj, Vk, Vl, Vm, Ya, Yb, Vn, Vo, Vp, Vq, Vr, Vs, Vt, Vu, Vv, Vw, Vx, Vy, Yc, Vz, VA, VB, VC, VD, VE, VF, VG, VH, VI, VJ, VK, VL, VM, VN, VO, VP, VQ, VR, VS, VT, VU, VV, VW, VX, VY, VZ, V0, V1, V2, V3, V4, V5, V9, Ga, Gp, Gq, GF, GG, GH, GI, GJ, GK, GL, GM, GN, GO, Yd, Ye, Yf, Yg, GP, GQ, GR, GS, GT, GU, GV, GW, GX, GY, GZ, G0, G1, G2, G3, G4, G5, G6, G7, G8, G9, Za, Zb, Zc, Zd, Ze, Zf, Zg, Zh, Zi, Zj, Zk, Zl, Zm, Zn, Zo, Yh, Yi, Yj, Yk, Yl, Ym, Yn, Yo, Yp, Yq, Yr, ↓reduceIte, Ys, Yu, Yv, Yw, Yx, Yy, Yz, YA, Nat.reduceAdd, Nat.reduceEqDiff, Nat.reduceMul, YB, YC, reduceCtorEq, YD, YE, YF, YG, YH, YI, YJ, YK, YL, Nat.reduceLeDiff, Nat.reduceSub, Zr, Zs, YM, YN, YO, YP, Int.reduceLE, Int.reduceLT, Int.reduceEq, Int.reduceAdd, Int.reduceSub, Int.reduceMul, Int.reduceToNat, Int.reduceNeg, YQ, Nat.reduceLT, YR, YS, Zt, Zu, d1, hk4, hmi, hw8, YQ]
        refine DoesK.by (d_markOf hBk.t ((k : Int) + 1)) ?_
        rintro _ X2 ⟨rfl, hX2⟩; subst X2
        rw [e1, e2]
        clear e1 e2 hy hBk
        generalize hP : (⟨[.int .i64 ho, .int .u8 su, .int .u16 tr, .int .i64 (mfold ms mk (po, he) k).1, .int .i64 (mfold ms mk (po, he) k).2], 5, 30, true⟩ : Blk) = P at *
        have hZ4 : (Z.set n4 P).get n4 = some ⟨[.int .i64 ho, .int .u8 su, .int .u16 tr, .int .i64 (mfold ms mk (po, he) k).1, .int .i64 (mfold ms mk (po, he) k).2], 5, 30, true⟩ := by rw [hP]; exact VI hn4l
        have hkV : Keep n4 Z (Z.set n4 P) := Keep.set
        have hV4 := St.lt hZ4
        generalize hV : Z.set n4 P = V at *
        by_cases hma : ma = 0
        · have d2 : (!decide (ma = 0)) = false := by rw [decide_eq_true hma]; rfl
          rw [d2]
          simp (disch := first | omega | (simp only [Zv, Zw, Zx, Zy, Zz]; omega)) only [↓SA, Vi, Vj, Vk, Vl, Vm, Ya, Yb, Vn, Vo, Vp, Vq, Vr, Vs, Vt, Vu, Vv, Vw, Vx, Vy, Yc, Vz, VA, VB, VC, VD, VE, VF, VG, VH, VI, VJ, VK, VL, VM, VN, VO, VP, VQ, VR, VS, VT, VU, VV, VW, VX, VY, VZ, V0, V1, V2, V3, V4, V5, V9, Ga, Gp, Gq, GF, GG, GH, GI, GJ, GK, GL, GM, GN, GO, Yd, Ye, Yf, Yg, GP, GQ, GR, GS, GT, GU, GV, GW, GX, GY, GZ, G0, G1, G2, G3, G4, G5, G6, G7, G8, G9, Za, Zb, Zc, Zd, Ze, Zf, Zg, Zh, Zi, Zj, Zk, Zl, Zm, Zn, Zo, Yh, Yi, Yj, Yk, Yl, Ym, Yn, Yo, Yp, Yq, Yr, ↓reduceIte, Ys, Yu, Yv, Yw, Yx, Yy, Yz, YA, Nat.reduceAdd, Nat.reduceEqDiff, Nat.reduceMul, YB, YC, reduceCtorEq, YD, YE, YF, YG, YH, YI, YJ, YK, YL, Nat.reduceLeDiff, Nat.reduceSub, Zr, Zs, YM, YN, YO, YP, Int.reduceLE, Int.reduceLT, Int.reduceEq, Int.reduceAdd, Int.reduceSub, Int.reduceMul, Int.reduceToNat, Int.reduceNeg, YQ, Nat.reduceLT, YR, YS, Zt, Zu, d1, hk4, hmi, YQ]
          refine AllN_intro (fun n14 h14 => ?_)
          simp (disch := first | omega | (simp only [Zv, Zw, Zx, Zy, Zz]; omega)) only [↓SA, Vi, Vj, Vk, Vl, Vm, Ya, Yb, Vn, Vo, Vp, Vq, Vr, Vs, Vt, Vu, Vv, Vw, Vx, Vy, Yc, Vz, VA, VB, VC, VD, VE, VF, VG, VH, VI, VJ, VK, VL, VM, VN, VO, VP, VQ, VR, VS, VT, VU, VV, VW, VX, VY, VZ, V0, V1, V2, V3, V4, V5, V9, Ga, Gp, Gq, GF, GG, GH, GI, GJ, GK, GL, GM, GN, GO, Yd, Ye, Yf, Yg, GP, GQ, GR, GS, GT, GU, GV, GW, GX, GY, GZ, G0, G1, G2, G3, G4, G5, G6, G7, G8, G9, Za, Zb, Zc, Zd, Ze, Zf, Zg, Zh, Zi, Zj, Zk, Zl, Zm, Zn, Zo, Yh, Yi, Yj, Yk, Yl, Ym, Yn, Yo, Yp, Yq, Yr, ↓reduceIte, Ys, Yu, Yv, Yw, Yx, Yy, Yz, YA, Nat.reduceAdd, Nat.reduceEqDiff, Nat.reduceMul, YB, YC, reduceCtorEq, YD, YE, YF, YG, YH, YI, YJ, YK, YL, Nat.reduceLeDiff, Nat.reduceSub, Zr, Zs, YM, YN, YO, YP, Int.reduceLE, Int.reduceLT, Int.reduceEq, Int.reduceAdd, Int.reduceSub, Int.reduceMul, Int.reduceToNat, Int.reduceNeg, YQ, Nat.reduceLT, YR, YS, Zt, Zu, d1, hk4, hmi, YQ]
          refine ⟨k + 1, rfl, ?_, by omega, by omega⟩
          simp only [hst, if_pos hma]
          rw [hP, hV]
          exact Le.new (Le.refl _) h14
        · have d2 : (!decide (ma = 0)) = true := by rw [decide_eq_false hma]; rfl
          rw [d2]
          simp (disch := first | omega | (simp only [Zv, Zw, Zx, Zy, Zz]; omega)) only [↓SA, Vi, Vj, Vk, Vl, Vm, Ya, Yb, Vn, Vo, Vp, Vq, Vr, Vs, Vt, Vu, Vv, Vw, Vx, Vy, Yc, Vz, VA, VB, VC, VD, VE, VF, VG, VH, VI, VJ, VK, VL, VM, VN, VO, VP, VQ, VR, VS, VT, VU, VV, VW, VX, VY, VZ, V0, V1, V2, V3, V4, V5, V9, Ga, Gp, Gq, GF, GG, GH, GI, GJ, GK, GL, GM, GN, GO, Yd, Ye, Yf, Yg, GP, GQ, GR, GS, GT, GU, GV, GW, GX, GY, GZ, G0, G1, G2, G3, G4, G5, G6, G7, G8, G9, Za, Zb, Zc, Zd, Ze, Zf, Zg, Zh, Zi, Zj, Zk, Zl, Zm, Zn, Zo, Yh, Yi, Yj, Yk, Yl, Ym, Yn, Yo, Yp, Yq, Yr, ↓reduceIte, Ys, Yu, Yv, Yw, Yx, Yy, Yz, YA, Nat.reduceAdd, Nat.reduceEqDiff, Nat.reduceMul, YB, YC, reduceCtorEq, YD, YE, YF, YG, YH, YI, YJ, YK, YL, Nat.reduceLeDiff, Nat.reduceSub, Zr, Zs, YM, YN, YO, YP, Int.reduceLE, Int.reduceLT, Int.reduceEq, Int.reduceAdd, Int.reduceSub, Int.reduceMul, Int.reduceToNat, Int.reduceNeg, YQ, Nat.reduceLT, YR, YS, Zt, Zu, d1, hk4, hmi, YQ]
          refine AllN_intro (fun n14 h14 => ?_)
          simp (disch := first | omega | (simp only [Zv, Zw, Zx, Zy, Zz]; omega)) only [↓SA, Vi, Vj, Vk, Vl, Vm, Ya, Yb, Vn, Vo, Vp, Vq, Vr, Vs, Vt, Vu, Vv, Vw, Vx, Vy, Yc, Vz, VA, VB, VC, VD, VE, VF, VG, VH, VI, VJ, VK, VL, VM, VN, VO, VP, VQ, VR, VS, VT, VU, VV, VW, VX, VY, VZ, V0, V1, V2, V3, V4, V5, V9, Ga, Gp, Gq, GF, GG, GH, GI, GJ, GK, GL, GM, GN, GO, Yd, Ye, Yf, Yg, GP, GQ, GR, GS, GT, GU, GV, GW, GX, GY, GZ, G0, G1, G2, G3, G4, G5, G6, G7, G8, G9, Za, Zb, Zc, Zd, Ze, Zf, Zg, Zh, Zi, Zj, Zk, Zl, Zm, Zn, Zo, Yh, Yi, Yj, Yk, Yl, Ym, Yn, Yo, Yp, Yq, Yr, ↓reduceIte, Ys, Yu, Yv, Yw, Yx, Yy, Yz, YA, Nat.reduceAdd, Nat.reduceEqDiff, Nat.reduceMul, YB, YC, reduceCtorEq, YD, YE, YF, YG, YH, YI, YJ, YK, YL, Nat.reduceLeDiff, Nat.reduceSub, Zr, Zs, YM, YN, YO, YP, Int.reduceLE, Int.reduceLT, Int.reduceEq, Int.reduceAdd, Int.reduceSub, Int.reduceMul, Int.reduceToNat, Int.reduceNeg, YQ, Nat.reduceLT, YR, YS, Zt, Zu, d1, hk4, hmi, hZ4, YQ]
          refine ⟨k + 1, rfl, ?_, by omega, by omega⟩
          simp only [hst, if_neg hma]
          rw [← hV, VE]
          exact Le.new (Le.refl _) (by have := hkV.next; rw [Zw]; omega)
      · have d1 : decide ((k : Int) < 4) = false := decide_eq_false (by omega)
        have hk4 : k = 4 := by omega
        subst hk4
        have hmF : markedF ms mk ⟨ho, su, tr, po, he⟩ = [.agg ⟨[.int .i64 ho, .int .u8 su, .int .u16 tr, .int .i64 (max (mfold ms mk (po, he) 4).1 0), .int .i64 (mfold ms mk (po, he) 4).2]⟩, .int .i64 0] := by unfold markedF; rw [hyes]; rfl
        rw [hmF]
        generalize mfold ms mk (po, he) 4 = p at *
        have hZ4 : (Z.set n4 ⟨[.int .i64 ho, .int .u8 su, .int .u16 tr, .int .i64 p.1, .int .i64 p.2], 5, 30, true⟩).get n4 = some ⟨[.int .i64 ho, .int .u8 su, .int .u16 tr, .int .i64 p.1, .int .i64 p.2], 5, 30, true⟩ := VI hn4l
        simp (disch := first | omega | (simp only [Zv, Zw, Zx, Zy, Zz]; omega)) only [↓SA, Vi, Vj, Vk, Vl, Vm, Ya, Yb, Vn, Vo, Vp, Vq, Vr, Vs, Vt, Vu, Vv, Vw, Vx, Vy, Yc, Vz, VA, VB, VC, VD, VE, VF, VG, VH, VI, VJ, VK, VL, VM, VN, VO, VP, VQ, VR, VS, VT, VU, VV, VW, VX, VY, VZ, V0, V1, V2, V3, V4, V5, V9, Ga, Gp, Gq, GF, GG, GH, GI, GJ, GK, GL, GM, GN, GO, Yd, Ye, Yf, Yg, GP, GQ, GR, GS, GT, GU, GV, GW, GX, GY, GZ, G0, G1, G2, G3, G4, G5, G6, G7, G8, G9, Za, Zb, Zc, Zd, Ze, Zf, Zg, Zh, Zi, Zj, Zk, Zl, Zm, Zn, Zo, Yh, Yi, Yj, Yk, Yl, Ym, Yn, Yo, Yp, Yq, Yr, ↓reduceIte, Ys, Yu, Yv, Yw, Yx, Yy, Yz, YA, Nat.reduceAdd, Nat.reduceEqDiff, Nat.reduceMul, YB, YC, reduceCtorEq, YD, YE, YF, YG, YH, YI, YJ, YK, YL, Nat.reduceLeDiff, Nat.reduceSub, Zr, Zs, YM, YN, YO, YP, Int.reduceLE, Int.reduceLT, Int.reduceEq, Int.reduceAdd, Int.reduceSub, Int.reduceMul, Int.reduceToNat, Int.reduceNeg, YQ, Nat.reduceLT, YR, YS, Zt, Zu, d1, hn4l, hn6l, hn6Z, res30]
        exact ⟨X, Le.set_of (Le.set_of hLe (by omega)) (by omega), rfl⟩
end Go.Proofs.YtdgbnaignpploaaDoor.bk
