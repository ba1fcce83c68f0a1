/- Copies of cards of any size: gambitkit.CopyParts, CopyCard. -/
import Derived.Test.YtdgbnaignpploaaDoorG0
import Derived.Test.YtdgbnaignpploaaDoorSy
import Derived.Test.YtdgbnaignpploaaDoorR7
import Derived.Test.YtdgbnaignpploaaDoorKt
namespace Go.Proofs.YtdgbnaignpploaaDoor.bk
open Go.Sym
set_option linter.unusedVariables false
set_option linter.unusedSimpArgs false
set_option maxRecDepth 100000
variable {Bar : Nat} {X : St}
/-- an append to nothing, of as many as an address space holds -/
theorem apnd_big {P : Program} {str : Bool} {size bytes : Nat} {elem : TypeId} {x : Value} {n : Nat} {new : List Value} {K : Value → St → Prop} (hs : SrcOf X str size x n new) (hn : n ≠ 0) (hf1 : n ≤ 9223372036854775807) (hfit : n * bytes ≤ 140737488355328)
    (hK : ∀ b cap, X.next ≤ b → n ≤ cap → K (.slice (some ⟨b, 0, none⟩) n cap) (X.new b ⟨new, cap * size, elem, true⟩)) : Apnd P Bar str size bytes elem (.slice none 0 0) x X K := by
  intro st xt ty it ht hi h1 h2 hz h0 hk w hX
  subst h1 h2
  obtain ⟨z, hz⟩ := hz
  obtain ⟨it', zv, hi', hz2, hz3, hz4⟩ := zeroOf_spec hz
  rw [hi] at hi'; cases hi'
  have hzs : zv.cells.size = it.size := by rw [← Array.length_toList, ← hz3]; exact hz4
  have hsrc := hs.src hk hX
  have hrun := run_append_grow_src (P := P) w st xt ty elem it zv ht hi hz2 none 0 0 [] (run_firstCells_none _ _ _ _ _) x n new hsrc (by omega) (by omega) (growslice_fits (by omega) (by simpa using hfit))
  have hge := grownCap_ge w (0 + n) 0 elem
  have hsize : (([] ++ new : List Value).toArray ++ Builtin.zeroCells zv.cells (grownCap w (0 + n) 0 elem - (0 + n))).size = grownCap w (0 + n) 0 elem * it.size := by
    rw [Array.size_append, size_zeroCells, hzs, List.size_toArray, List.length_append, hsrc.newsLen, List.length_nil, Nat.zero_add, ← Nat.add_mul]
    congr 1; omega
  have hd : w.drew.heap.size = w.heap.size := rfl
  have hal := hX.drew.alloc (B := ⟨[] ++ new, grownCap w (0 + n) 0 elem * it.size, elem, true⟩) (arr := ([] ++ new : List Value).toArray ++ Builtin.zeroCells zv.cells (grownCap w (0 + n) 0 elem - (0 + n)))
    (fun i v hv => by
      have hlt := (List.getElem?_eq_some_iff.1 hv).1
      rw [Array.getElem?_append_left (by simpa using hlt)]
      simpa using hv) hsize
  rw [hd] at hal
  rw [Nat.zero_add] at hrun hge
  exact ⟨_, _, _, hrun, hK w.heap.size _ hX.next hge, by simpa using hal, (RowKit.Below.refl _ _).drew.alloc hX.room _⟩
def Small (c : KC) : Prop := c.ps.length * 40 ≤ 140737488355328
theorem d_copyParts (po : Option Addr) (ps : List Part) (pc : Nat) (hp : PartsK X po ps) (hl : ps.length * 40 ≤ 140737488355328) : Does Go.Proofs.Tryd.prog Bar 77 [.slice po ps.length pc] X (fun r X' => ∃ po' pc', r = .slice po' ps.length pc' ∧ PartsE X' po' ps ∧ Le X X' ∧ ∀ b o, po' = some ⟨b, o, none⟩ → X.next ≤ b) := by
  refine Does.body numOK mixed k.f77 rfl k.o77 (Nat.le_of_ble_eq_true rfl) ?_
  simp (disch := first | omega | (simp only [Zv, Zw, Zx, Zy, Zz]; omega)) only [↓SA, Vi, Vj, Vk, Vl, Vm, Ya, Yb, Vn, Vo, Vp, Vq, Vr, Vs, Vt, Vu, Vv, Vw, Vx, Vy, Yc, Vz, VA, VB, VC, VD, VE, VF, VG, VH, VI, VJ, VK, VL, VM, VN, VO, VP, VQ, VR, VS, VT, VU, VV, VW, VX, VY, VZ, V0, V1, V2, V3, V4, V5, V9, Ga, Gp, Gq, GF, GG, GH, GI, GJ, GK, GL, GM, GN, GO, Yd, Ye, Yf, Yg, GP, GQ, GR, GS, GT, GU, GV, GW, GX, GY, GZ, G0, G1, G2, G3, G4, G5, G6, G7, G8, G9, Za, Zb, Zc, Zd, Ze, Zf, Zg, Zh, Zi, Zj, Zk, Zl, Zm, Zn, Zo, Yh, Yi, Yj, Yk, Yl, Ym, Yn, Yo, Yp, Yq, Yr, ↓reduceIte, Ys, Yu, Yv, Yw, Yx, Yy, Yz, YA, Nat.reduceAdd, Nat.reduceEqDiff, Nat.reduceMul, YB, YC, reduceCtorEq, YD, YE, YF, YG, YH, YI, YJ, YK, YL, Nat.reduceLeDiff, Nat.reduceSub, Zr, Zs, YM, YN, YO, YP, Int.reduceLE, Int.reduceLT, Int.reduceEq, Int.reduceAdd, Int.reduceSub, Int.reduceMul, Int.reduceToNat, Int.reduceNeg, YQ, Nat.reduceLT, YR, YS, Zt, Zu]
  by_cases h0 : ps = []
  · subst h0
    refine ApndK.by (Apnd.empty (Nat.le_refl _) ?_)
    simp (disch := first | omega | (simp only [Zv, Zw, Zx, Zy, Zz]; omega)) only [↓SA, Vi, Vj, Vk, Vl, Vm, Ya, Yb, Vn, Vo, Vp, Vq, Vr, Vs, Vt, Vu, Vv, Vw, Vx, Vy, Yc, Vz, VA, VB, VC, VD, VE, VF, VG, VH, VI, VJ, VK, VL, VM, VN, VO, VP, VQ, VR, VS, VT, VU, VV, VW, VX, VY, VZ, V0, V1, V2, V3, V4, V5, V9, Ga, Gp, Gq, GF, GG, GH, GI, GJ, GK, GL, GM, GN, GO, Yd, Ye, Yf, Yg, GP, GQ, GR, GS, GT, GU, GV, GW, GX, GY, GZ, G0, G1, G2, G3, G4, G5, G6, G7, G8, G9, Za, Zb, Zc, Zd, Ze, Zf, Zg, Zh, Zi, Zj, Zk, Zl, Zm, Zn, Zo, Yh, Yi, Yj, Yk, Yl, Ym, Yn, Yo, Yp, Yq, Yr, ↓reduceIte, Ys, Yu, Yv, Yw, Yx, Yy, Yz, YA, Nat.reduceAdd, Nat.reduceEqDiff, Nat.reduceMul, YB, YC, reduceCtorEq, YD, YE, YF, YG, YH, YI, YJ, YK, YL, Nat.reduceLeDiff, Nat.reduceSub, Zr, Zs, YM, YN, YO, YP, Int.reduceLE, Int.reduceLT, Int.reduceEq, Int.reduceAdd, Int.reduceSub, Int.reduceMul, Int.reduceToNat, Int.reduceNeg, YQ, Nat.reduceLT, YR, YS, Zt, Zu]
    exact ⟨X, (by repeat' (first | exact Le.refl _ | (refine Le.new_of ?_ (by first | omega | (simp only [Zv, Zw, Zx, Zy, Zz] at *; omega))) | (refine Le.set_of ?_ (by first | omega | (simp only [Zv, Zw, Zx, Zy, Zz] at *; omega))))), none, 0, rfl, .inl rfl, Le.refl _, fun b o hb => by cases hb⟩
  · rcases hp with hp | ⟨b, o, rfl, hp⟩
    · exact absurd hp h0
    have hlt := cellsOf_lt hp
    have hpos : ps.length ≠ 0 := by simpa using h0
    refine ApndK.by (apnd_big (srcOf_parts (cellsOf_le hp (by repeat' (first | exact Le.refl _ | (refine Le.new_of ?_ (by first | omega | (simp only [Zv, Zw, Zx, Zy, Zz] at *; omega))) | (refine Le.set_of ?_ (by first | omega | (simp only [Zv, Zw, Zx, Zy, Zz] at *; omega))))))) hpos (by omega) hl (fun q cap hq hcap => ?_))
    simp (disch := first | omega | (simp only [Zv, Zw, Zx, Zy, Zz]; omega)) only [↓SA, Vi, Vj, Vk, Vl, Vm, Ya, Yb, Vn, Vo, Vp, Vq, Vr, Vs, Vt, Vu, Vv, Vw, Vx, Vy, Yc, Vz, VA, VB, VC, VD, VE, VF, VG, VH, VI, VJ, VK, VL, VM, VN, VO, VP, VQ, VR, VS, VT, VU, VV, VW, VX, VY, VZ, V0, V1, V2, V3, V4, V5, V9, Ga, Gp, Gq, GF, GG, GH, GI, GJ, GK, GL, GM, GN, GO, Yd, Ye, Yf, Yg, GP, GQ, GR, GS, GT, GU, GV, GW, GX, GY, GZ, G0, G1, G2, G3, G4, G5, G6, G7, G8, G9, Za, Zb, Zc, Zd, Ze, Zf, Zg, Zh, Zi, Zj, Zk, Zl, Zm, Zn, Zo, Yh, Yi, Yj, Yk, Yl, Ym, Yn, Yo, Yp, Yq, Yr, ↓reduceIte, Ys, Yu, Yv, Yw, Yx, Yy, Yz, YA, Nat.reduceAdd, Nat.reduceEqDiff, Nat.reduceMul, YB, YC, reduceCtorEq, YD, YE, YF, YG, YH, YI, YJ, YK, YL, Nat.reduceLeDiff, Nat.reduceSub, Zr, Zs, YM, YN, YO, YP, Int.reduceLE, Int.reduceLT, Int.reduceEq, Int.reduceAdd, Int.reduceSub, Int.reduceMul, Int.reduceToNat, Int.reduceNeg, YQ, Nat.reduceLT, YR, YS, Zt, Zu]
    refine ⟨_, Le.refl _, _, _, rfl, .inr ⟨q, 0, _, rfl, VG, rfl, ?_⟩, Le.new (Le.refl _) (by omega), fun b o hb => by cases hb; omega⟩
    rw [cellsOf_some (by show 0 + _ ≤ (ps.flatMap Part.cells).length; rw [pflat_len]; omega)]
    show some (((ps.flatMap Part.cells).drop 0).take _) = _
    rw [List.drop_zero, List.take_of_length_le (by rw [pflat_len]; omega)]
theorem d_copyCard (c : KC) (hp : PartsK X c.po c.ps) (hl : Small c) : Does Go.Proofs.Tryd.prog Bar 43 [.agg ⟨c.cells⟩] X (fun r X' => ∃ po' pc', r = .agg ⟨(KC.mk c.h po' pc' c.ps).cells⟩ ∧ PartsE X' po' c.ps ∧ Le X X' ∧ ∀ b o, po' = some ⟨b, o, none⟩ → X.next ≤ b) := by
  obtain ⟨⟨a1, a2, a3, a4, a5, a6, a7, a8⟩, po, pc, ps⟩ := c
  simp only [KC.cells] at *
  refine Does.body numOK mixed k.f43 rfl k.o43 (Nat.le_of_ble_eq_true rfl) ?_
  simp (disch := first | omega | (simp only [Zv, Zw, Zx, Zy, Zz]; omega)) only [↓SA, Vi, Vj, Vk, Vl, Vm, Ya, Yb, Vn, Vo, Vp, Vq, Vr, Vs, Vt, Vu, Vv, Vw, Vx, Vy, Yc, Vz, VA, VB, VC, VD, VE, VF, VG, VH, VI, VJ, VK, VL, VM, VN, VO, VP, VQ, VR, VS, VT, VU, VV, VW, VX, VY, VZ, V0, V1, V2, V3, V4, V5, V9, Ga, Gp, Gq, GF, GG, GH, GI, GJ, GK, GL, GM, GN, GO, Yd, Ye, Yf, Yg, GP, GQ, GR, GS, GT, GU, GV, GW, GX, GY, GZ, G0, G1, G2, G3, G4, G5, G6, G7, G8, G9, Za, Zb, Zc, Zd, Ze, Zf, Zg, Zh, Zi, Zj, Zk, Zl, Zm, Zn, Zo, Yh, Yi, Yj, Yk, Yl, Ym, Yn, Yo, Yp, Yq, Yr, ↓reduceIte, Ys, Yu, Yv, Yw, Yx, Yy, Yz, YA, Nat.reduceAdd, Nat.reduceEqDiff, Nat.reduceMul, YB, YC, reduceCtorEq, YD, YE, YF, YG, YH, YI, YJ, YK, YL, Nat.reduceLeDiff, Nat.reduceSub, Zr, Zs, YM, YN, YO, YP, Int.reduceLE, Int.reduceLT, Int.reduceEq, Int.reduceAdd, Int.reduceSub, Int.reduceMul, Int.reduceToNat, Int.reduceNeg, YQ, Nat.reduceLT, YR, YS, Zt, Zu]
  refine AllN_intro (fun n hn => ?_)
  simp (disch := first | omega | (simp only [Zv, Zw, Zx, Zy, Zz]; omega)) only [↓SA, Vi, Vj, Vk, Vl, Vm, Ya, Yb, Vn, Vo, Vp, Vq, Vr, Vs, Vt, Vu, Vv, Vw, Vx, Vy, Yc, Vz, VA, VB, VC, VD, VE, VF, VG, VH, VI, VJ, VK, VL, VM, VN, VO, VP, VQ, VR, VS, VT, VU, VV, VW, VX, VY, VZ, V0, V1, V2, V3, V4, V5, V9, Ga, Gp, Gq, GF, GG, GH, GI, GJ, GK, GL, GM, GN, GO, Yd, Ye, Yf, Yg, GP, GQ, GR, GS, GT, GU, GV, GW, GX, GY, GZ, G0, G1, G2, G3, G4, G5, G6, G7, G8, G9, Za, Zb, Zc, Zd, Ze, Zf, Zg, Zh, Zi, Zj, Zk, Zl, Zm, Zn, Zo, Yh, Yi, Yj, Yk, Yl, Ym, Yn, Yo, Yp, Yq, Yr, ↓reduceIte, Ys, Yu, Yv, Yw, Yx, Yy, Yz, YA, Nat.reduceAdd, Nat.reduceEqDiff, Nat.reduceMul, YB, YC, reduceCtorEq, YD, YE, YF, YG, YH, YI, YJ, YK, YL, Nat.reduceLeDiff, Nat.reduceSub, Zr, Zs, YM, YN, YO, YP, Int.reduceLE, Int.reduceLT, Int.reduceEq, Int.reduceAdd, Int.reduceSub, Int.reduceMul, Int.reduceToNat, Int.reduceNeg, YQ, Nat.reduceLT, YR, YS, Zt, Zu]
  refine AllN_intro (fun n2 hn2 => ?_)
  have hn2' : n < n2 := by simp only [Zv] at hn2; omega
  simp (disch := first | omega | (simp only [Zv, Zw, Zx, Zy, Zz]; omega)) only [↓SA, Vi, Vj, Vk, Vl, Vm, Ya, Yb, Vn, Vo, Vp, Vq, Vr, Vs, Vt, Vu, Vv, Vw, Vx, Vy, Yc, Vz, VA, VB, VC, VD, VE, VF, VG, VH, VI, VJ, VK, VL, VM, VN, VO, VP, VQ, VR, VS, VT, VU, VV, VW, VX, VY, VZ, V0, V1, V2, V3, V4, V5, V9, Ga, Gp, Gq, GF, GG, GH, GI, GJ, GK, GL, GM, GN, GO, Yd, Ye, Yf, Yg, GP, GQ, GR, GS, GT, GU, GV, GW, GX, GY, GZ, G0, G1, G2, G3, G4, G5, G6, G7, G8, G9, Za, Zb, Zc, Zd, Ze, Zf, Zg, Zh, Zi, Zj, Zk, Zl, Zm, Zn, Zo, Yh, Yi, Yj, Yk, Yl, Ym, Yn, Yo, Yp, Yq, Yr, ↓reduceIte, Ys, Yu, Yv, Yw, Yx, Yy, Yz, YA, Nat.reduceAdd, Nat.reduceEqDiff, Nat.reduceMul, YB, YC, reduceCtorEq, YD, YE, YF, YG, YH, YI, YJ, YK, YL, Nat.reduceLeDiff, Nat.reduceSub, Zr, Zs, YM, YN, YO, YP, Int.reduceLE, Int.reduceLT, Int.reduceEq, Int.reduceAdd, Int.reduceSub, Int.reduceMul, Int.reduceToNat, Int.reduceNeg, YQ, Nat.reduceLT, YR, YS, Zt, Zu]
  refine DoesK.by (d_copyParts po ps pc (hp.le (Le.new (Le.new (Le.refl _) hn) hn2)) hl) ?_
  rintro _ Y ⟨po', pc', rfl, hpe, hYle, hfr⟩
  have hnY : Y.get n = some ⟨[.string a1, .int .u8 a2, .int .u8 a3, .int .i64 a4, .int .i64 a5, .int .i64 a6, .int .u16 a7, .bool a8, .slice po ps.length pc], 9, 51, true⟩ := hYle.blk n _ (by rw [VH (by omega), VG])
  have hn2Y := hYle.blk n2 _ VG
  have hnYl := St.lt hnY
  have hn2l := St.lt hn2Y
  simp (disch := first | omega | (simp only [Zv, Zw, Zx, Zy, Zz]; omega)) only [↓SA, Vi, Vj, Vk, Vl, Vm, Ya, Yb, Vn, Vo, Vp, Vq, Vr, Vs, Vt, Vu, Vv, Vw, Vx, Vy, Yc, Vz, VA, VB, VC, VD, VE, VF, VG, VH, VI, VJ, VK, VL, VM, VN, VO, VP, VQ, VR, VS, VT, VU, VV, VW, VX, VY, VZ, V0, V1, V2, V3, V4, V5, V9, Ga, Gp, Gq, GF, GG, GH, GI, GJ, GK, GL, GM, GN, GO, Yd, Ye, Yf, Yg, GP, GQ, GR, GS, GT, GU, GV, GW, GX, GY, GZ, G0, G1, G2, G3, G4, G5, G6, G7, G8, G9, Za, Zb, Zc, Zd, Ze, Zf, Zg, Zh, Zi, Zj, Zk, Zl, Zm, Zn, Zo, Yh, Yi, Yj, Yk, Yl, Ym, Yn, Yo, Yp, Yq, Yr, ↓reduceIte, Ys, Yu, Yv, Yw, Yx, Yy, Yz, YA, Nat.reduceAdd, Nat.reduceEqDiff, Nat.reduceMul, YB, YC, reduceCtorEq, YD, YE, YF, YG, YH, YI, YJ, YK, YL, Nat.reduceLeDiff, Nat.reduceSub, Zr, Zs, YM, YN, YO, YP, Int.reduceLE, Int.reduceLT, Int.reduceEq, Int.reduceAdd, Int.reduceSub, Int.reduceMul, Int.reduceToNat, Int.reduceNeg, YQ, Nat.reduceLT, YR, YS, Zt, Zu, hnY, hn2Y, res51]
  have hXY : Le X Y := (Le.new (Le.new (Le.refl _) hn) hn2).trans hYle
  have hn3 : X.next ≤ n2 := by omega
  refine ⟨_, Le.refl _, po', pc', rfl, (hpe.keep hnY (show TC ≠ TP by decide) Keep.set).keep (b := n2) (by rw [VJ (by omega)]; exact hn2Y) (show TC ≠ TP by decide) Keep.set, Le.set_of (Le.set_of hXY hn) hn3, fun b o hb => ?_⟩
  have := hfr b o hb
  simp only [Zv] at this
  omega
end Go.Proofs.YtdgbnaignpploaaDoor.bk
