/- The document's answer 07: Mark, MarkOf. -/
import Derived.Test.YtdgbnaignpploaaDoorG0
import Derived.Test.YtdgbnaignpploaaDoorSy
import Derived.Test.YtdgbnaignpploaaDoorR4
namespace Go.Proofs.YtdgbnaignpploaaDoor.bk
open Go.Sym
set_option linter.unusedVariables false
set_option linter.unusedSimpArgs false
set_option maxRecDepth 100000
variable {Bar : Nat} {X : St}
theorem rk_split2 (s : Bool) (lo : Option Addr) (n cap : Nat) {ns : List ByteArray} (hn : ns.length = 9) (ms : List MK) : rkL s lo n cap ns ms = (.bool true :: .bool s :: .slice lo n cap :: ns.map .string) ++ ms.flatMap MK.cells ∧ (Value.bool true :: .bool s :: .slice lo n cap :: ns.map .string).length = 12 := by
  refine ⟨by simp [rkL, tlL], ?_⟩
  simp only [List.length_cons, List.length_map]; omega
theorem rk_mark (s : Bool) (lo : Option Addr) (n cap : Nat) {ns : List ByteArray} {ms : List MK} (hn : ns.length = 9) {k : Nat} {m : MK} (h : ms[k]? = some m) (d : Nat) (e : TypeId) (wr : Bool) : cellsOf (some ⟨rkL s lo n cap ns ms, d, e, wr⟩) (12 + k * 4) 4 = some m.cells := by
  obtain ⟨h4, h5⟩ := rk_split2 s lo n cap hn ms
  have hk := (List.getElem?_eq_some_iff.1 h).1
  rw [cellsOf_some (by show 12 + k * 4 + 4 ≤ (rkL s lo n cap ns ms).length; rw [h4, List.length_append, h5, mflat_len]; omega)]
  show some (((rkL s lo n cap ns ms).drop (12 + k * 4)).take 4) = _
  rw [h4, ← h5, ← List.drop_drop, List.drop_left, mflat_at h]
theorem rk_mark0 (s : Bool) (lo : Option Addr) (n cap : Nat) {ns : List ByteArray} {ms : List MK} (hn : ns.length = 9) {k : Nat} {m : MK} (h : ms[k]? = some m) : (rkL s lo n cap ns ms)[12 + k * 4]? = some (.int .u8 m.ma) := by
  obtain ⟨h4, h5⟩ := rk_split2 s lo n cap hn ms
  obtain ⟨h6, h7⟩ := mflat_split h
  rw [h4, List.getElem?_append_right (by omega), h5, Nat.add_sub_cancel_left, h6, List.getElem?_append_right (by omega), h7, Nat.sub_self]
  rfl
theorem rk_mark1 (s : Bool) (lo : Option Addr) (n cap : Nat) {ns : List ByteArray} {ms : List MK} (hn : ns.length = 9) {k : Nat} {m : MK} (h : ms[k]? = some m) : (rkL s lo n cap ns ms)[12 + k * 4 + 1]? = some (.string m.nm) := by
  obtain ⟨h4, h5⟩ := rk_split2 s lo n cap hn ms
  obtain ⟨h6, h7⟩ := mflat_split h
  rw [h4, List.getElem?_append_right (by omega), h5, show 12 + k * 4 + 1 - 12 = k * 4 + 1 by omega, h6, List.getElem?_append_right (by omega), h7, Nat.add_sub_cancel_left]
  rfl
theorem splice_rmark (s : Bool) (lo : Option Addr) (n cap : Nat) {ns : List ByteArray} {ms : List MK} (h1 : ns.length = 9) {k : Nat} (hk : k < ms.length) (m : MK) : Sym.splice (rkL s lo n cap ns ms) (12 + k * 4) m.cells = rkL s lo n cap ns (ms.set k m) := by
  obtain ⟨h4, h5⟩ := rk_split2 s lo n cap h1 ms
  obtain ⟨h6, h7⟩ := rk_split2 s lo n cap h1 (ms.set k m)
  obtain ⟨h8, h9⟩ := mflat_split (List.getElem?_eq_getElem hk)
  obtain ⟨ha, hb⟩ := mflat_split (m := m) (show (ms.set k m)[k]? = some m by rw [List.getElem?_set]; simp [hk])
  rw [h4, ← h5, splice_app _ _ _ _ (by rw [mflat_len]; show k * 4 + 4 ≤ _; omega), h6]
  congr 1
  rw [h8, ← h9, splice_mid _ _ _ _ (show ms[k].cells.length = m.cells.length from rfl), ha]
  congr 2
  · rw [List.take_set_of_le (Nat.le_refl k)]
  · rw [List.drop_set_of_lt (by omega)]
theorem noMK_nm {nm : ByteArray} (h : nmOk nm = true) : beqB noMK.nm nm = false := by
  cases e : beqB noMK.nm nm with
  | false => rfl
  | true =>
    have := beqB_iff.1 e
    rw [← this] at h
    exact absurd h (by decide)
theorem markRes_none {ms : List MK} {m : MK} (h0 : ms[0]? = some noMK) (hml : ms.length = 5) (hg : markRes false ms m = if (ms[m.ma.toNat]?).any (fun y => !decide (y.ma = 0)) then 5 else if ms.any (fun y => beqB y.nm m.nm) then 5 else 0) (hn : nmOk m.nm = true) (h1 : 1 ≤ m.ma) (h4 : m.ma ≤ 4)
    (hi : ∀ (j : Nat) (z : MK), 1 ≤ j → j < 5 → ms[j]? = some z → beqB z.nm m.nm = false ∧ ((j : Int) = m.ma → z.ma = 0)) : markRes false ms m = 0 := by
  rw [hg]
  obtain ⟨y, hy⟩ : ∃ y, ms[m.ma.toNat]? = some y := ⟨_, List.getElem?_eq_getElem (by omega)⟩
  have hy0 := (hi m.ma.toNat y (by omega) (by omega) hy).2 (by omega)
  have h5 : ms.any (fun y => beqB y.nm m.nm) = false := by
    rw [List.any_eq_false]
    intro z hz
    obtain ⟨j, hj⟩ := List.getElem?_of_mem hz
    have hjl := (List.getElem?_eq_some_iff.1 hj).1
    by_cases hj0 : j = 0
    · subst hj0; rw [h0] at hj; cases hj; rw [noMK_nm hn]; simp
    · rw [(hi j z (by omega) (by omega) hj).1]; simp
  rw [hy, h5]; simp [hy0]
set_option maxHeartbeats 4000000 in
theorem r_mark {b : Nat} {s : Bool} {cs : List KC} {ns : List ByteArray} {ms : List MK} (hR : Rk X b s cs ns ms) (m : MK) (hU : U8 m.ma) :
    Does Go.Proofs.Tryd.prog Bar 45 [.pointer (some ⟨b, 0, none⟩), .agg ⟨m.cells⟩] X (fun r X' => r = .int .i64 (markRes s ms m) ∧ (markRes s ms m ≠ 0 → X' = X) ∧
      (markRes s ms m = 0 → Rk X' b s cs ns (ms.set m.ma.toNat m) ∧ Keep b X X')) := by
  obtain ⟨lo, cap, hb, hlst⟩ := hR.lst
  have hblt := St.lt hb
  have hml := hR.ml
  have hnl := hR.nl
  have hm0 := hR.m0
  cases s
  · have hrl := rkL_len hR.nl hR.ml false lo cs.length cap
    have key : ∀ Z, Le X Z → ∀ v : Int, markRes false ms m = v → v ≠ 0 → ∃ Y, Le Y Z ∧ Value.int IntKind.i64 v = .int .i64 (markRes false ms m) ∧ (markRes false ms m ≠ 0 → Y = X) ∧ (markRes false ms m = 0 → Rk Y b false cs ns (ms.set m.ma.toNat m) ∧ Keep b X Y) :=
      fun Z hz v h1 h2 => ⟨X, hz, by rw [h1], fun _ => rfl, fun h0 => absurd (h1.symm.trans h0) h2⟩
    have hU1 := hU.1
    have hU2 := hU.2
    clear hU
    obtain ⟨ma, nm, po, he⟩ := m
    simp only [MK.cells]
    simp only at hU1 hU2 key
    refine Does.body numOK mixed k.f45 rfl k.o45 (Nat.le_of_ble_eq_true rfl) ?_
    simp (disch := first | omega | (simp only [Zv, Zw, Zx, Zy, Zz]; omega)) only [↓SA, Vi, Vj, Vk, Vl, Vm, Ya, Yb, Vn, Vo, Vp, Vq, Vr, Vs, Vt, Vu, Vv, Vw, Vx, Vy, Yc, Vz, VA, VB, VC, VD, VE, VF, VG, VH, VI, VJ, VK, VL, VM, VN, VO, VP, VQ, VR, VS, VT, VU, VV, VW, VX, VY, VZ, V0, V1, V2, V3, V4, V5, V9, Ga, Gp, Gq, GF, GG, GH, GI, GJ, GK, GL, GM, GN, GO, Yd, Ye, Yf, Yg, GP, GQ, GR, GS, GT, GU, GV, GW, GX, GY, GZ, G0, G1, G2, G3, G4, G5, G6, G7, G8, G9, Za, Zb, Zc, Zd, Ze, Zf, Zg, Zh, Zi, Zj, Zk, Zl, Zm, Zn, Zo, Yh, Yi, Yj, Yk, Yl, Ym, Yn, Yo, Yp, Yq, Yr, ↓reduceIte, Ys, Yu, Yv, Yw, Yx, Yy, Yz, YA, Nat.reduceAdd, Nat.reduceEqDiff, Nat.reduceMul, YB, YC, reduceCtorEq, YD, YE, YF, YG, YH, YI, YJ, YK, YL, Nat.reduceLeDiff, Nat.reduceSub, Zr, Zs, YM, YN, YO, YP, Int.reduceLE, Int.reduceLT, Int.reduceEq, Int.reduceAdd, Int.reduceSub, Int.reduceMul, Int.reduceToNat, Int.reduceNeg, YQ, Nat.reduceLT, YR, YS, Zt, Zu, hb, rkL_0, rkL_1]
    repeat' (first | (refine cnd_intro (fun h => ?_) (fun h => ?_) <;> (try simp only [decide_eq_true_eq, decide_eq_false_iff_not, Bool.not_eq_true', Bool.not_eq_false'] at h)) | (refine AllN_intro (fun n hn => ?_) <;> (try simp only [Zv, Zw, Zx, Zy, Zz] at hn)) | (refine DoesK.by (r_none (hR.mono (Le.new (Le.refl _) hn))) ?_; rintro _ X2 ⟨rfl, hX2⟩; subst X2) | (refine DoesK.by (r_name7 _) ?_; rintro _ X2 ⟨rfl, hX2⟩; subst X2) | (simp (disch := first | omega | (simp only [Zv, Zw, Zx, Zy, Zz]; omega)) only [↓SA, Vi, Vj, Vk, Vl, Vm, Ya, Yb, Vn, Vo, Vp, Vq, Vr, Vs, Vt, Vu, Vv, Vw, Vx, Vy, Yc, Vz, VA, VB, VC, VD, VE, VF, VG, VH, VI, VJ, VK, VL, VM, VN, VO, VP, VQ, VR, VS, VT, VU, VV, VW, VX, VY, VZ, V0, V1, V2, V3, V4, V5, V9, Ga, Gp, Gq, GF, GG, GH, GI, GJ, GK, GL, GM, GN, GO, Yd, Ye, Yf, Yg, GP, GQ, GR, GS, GT, GU, GV, GW, GX, GY, GZ, G0, G1, G2, G3, G4, G5, G6, G7, G8, G9, Za, Zb, Zc, Zd, Ze, Zf, Zg, Zh, Zi, Zj, Zk, Zl, Zm, Zn, Zo, Yh, Yi, Yj, Yk, Yl, Ym, Yn, Yo, Yp, Yq, Yr, ↓reduceIte, Ys, Yu, Yv, Yw, Yx, Yy, Yz, YA, Nat.reduceAdd, Nat.reduceEqDiff, Nat.reduceMul, YB, YC, reduceCtorEq, YD, YE, YF, YG, YH, YI, YJ, YK, YL, Nat.reduceLeDiff, Nat.reduceSub, Zr, Zs, YM, YN, YO, YP, Int.reduceLE, Int.reduceLT, Int.reduceEq, Int.reduceAdd, Int.reduceSub, Int.reduceMul, Int.reduceToNat, Int.reduceNeg, YQ, Nat.reduceLT, YR, YS, Zt, Zu, hb, rkL_0, rkL_1, *]))
    all_goals try exact key _ (by repeat' (first | exact Le.refl _ | (refine Le.new_of ?_ (by first | omega | (simp only [Zv, Zw, Zx, Zy, Zz] at *; omega))) | (refine Le.set_of ?_ (by first | omega | (simp only [Zv, Zw, Zx, Zy, Zz] at *; omega))))) _ (by first | (simp_all [markRes]; done) | (simp_all [markRes] <;> omega)) (by omega)
    rename_i g1 g2 g3 g4 g5 g6
    have hnmT : nmOk nm = true := by assumption
    have hres : markRes false ms ⟨ma, nm, po, he⟩ = if (ms[ma.toNat]?).any (fun y => !decide (y.ma = 0)) then 5 else if ms.any (fun y => beqB y.nm nm) then 5 else 0 := by
      unfold markRes
      have : ¬ ((ma < 1 ∨ 4 < ma) ∨ (!(decide (-9 ≤ po) && decide (po ≤ 9))) = true ∨ (!(decide (-9 ≤ he) && decide (he ≤ 9))) = true) := by simp; omega
      rw [if_neg (by decide), if_neg this, hnmT]
      simp
    refine wpC_loop (fun k : Nat => ⟨82, [(0, .pointer (some ⟨b, 0, none⟩)), (3, .pointer (some ⟨n, 0, none⟩)), (5, .int .i64 k)]⟩) (fun _ => X.new n ⟨[.int .u8 ma, .string nm, .int .i64 po, .int .i64 he], 4, 63, true⟩) (fun k => 1 ≤ k ∧ k ≤ 5 ∧ ∀ (j : Nat) (z : MK), 1 ≤ j → j < k → ms[j]? = some z → beqB z.nm nm = false ∧ ((j : Int) = ma → z.ma = 0)) (fun k => 5 - k) 1 rfl (Le.refl _) ⟨by omega, by omega, fun j z h1 h2 => by omega⟩ ?_
    rintro k ⟨hk1, hk, hi⟩
    by_cases hkl : k ≤ 4
    · obtain ⟨⟨z1, z2, z3, z4⟩, hz⟩ : ∃ z, ms[k]? = some z := ⟨_, List.getElem?_eq_getElem (by omega)⟩
      have hkl' : decide ((k : Int) ≤ 4) = true := decide_eq_true (by omega)
      have hz0 := rk_mark0 false lo cs.length cap hnl hz
      have hz1 := rk_mark1 false lo cs.length cap hnl hz
      clear g1 g2 g3 g4 g5 g6
      have h5a : Hid ((k : Int) = ma → ¬ z1 = 0 → markRes false ms ⟨ma, nm, po, he⟩ = 5) := ⟨fun e1 e2 => by
        rw [hres, show ma.toNat = k by omega, hz]; simp [e2]⟩
      have h5b : Hid (beqB z2 nm = true → markRes false ms ⟨ma, nm, po, he⟩ = 5) := ⟨fun e1 => by
        have : ms.any (fun y => beqB y.nm nm) = true := by rw [List.any_eq_true]; exact ⟨_, List.mem_of_getElem? hz, e1⟩
        rw [hres, this]; simp⟩
      have hgo : Hid (((k : Int) = ma → z1 = 0) → beqB z2 nm = false → ∀ (j : Nat) (z : MK), 1 ≤ j → j < k + 1 → ms[j]? = some z → beqB z.nm nm = false ∧ ((j : Int) = ma → z.ma = 0)) := ⟨fun e1 e2 j z hj1 hj hjz => by
        by_cases hjk : j = k
        · subst hjk; rw [hz] at hjz; cases hjz; exact ⟨e2, e1⟩
        · exact hi j z hj1 (by omega) hjz⟩
      clear hres hi hz
      by_cases hkm : (k : Int) = ma
      · subst hkm
        simp (disch := first | omega | (simp only [Zv, Zw, Zx, Zy, Zz]; omega)) only [↓SA, Vi, Vj, Vk, Vl, Vm, Ya, Yb, Vn, Vo, Vp, Vq, Vr, Vs, Vt, Vu, Vv, Vw, Vx, Vy, Yc, Vz, VA, VB, VC, VD, VE, VF, VG, VH, VI, VJ, VK, VL, VM, VN, VO, VP, VQ, VR, VS, VT, VU, VV, VW, VX, VY, VZ, V0, V1, V2, V3, V4, V5, V9, Ga, Gp, Gq, GF, GG, GH, GI, GJ, GK, GL, GM, GN, GO, Yd, Ye, Yf, Yg, GP, GQ, GR, GS, GT, GU, GV, GW, GX, GY, GZ, G0, G1, G2, G3, G4, G5, G6, G7, G8, G9, Za, Zb, Zc, Zd, Ze, Zf, Zg, Zh, Zi, Zj, Zk, Zl, Zm, Zn, Zo, Yh, Yi, Yj, Yk, Yl, Ym, Yn, Yo, Yp, Yq, Yr, ↓reduceIte, Ys, Yu, Yv, Yw, Yx, Yy, Yz, YA, Nat.reduceAdd, Nat.reduceEqDiff, Nat.reduceMul, YB, YC, reduceCtorEq, YD, YE, YF, YG, YH, YI, YJ, YK, YL, Nat.reduceLeDiff, Nat.reduceSub, Zr, Zs, YM, YN, YO, YP, Int.reduceLE, Int.reduceLT, Int.reduceEq, Int.reduceAdd, Int.reduceSub, Int.reduceMul, Int.reduceToNat, Int.reduceNeg, YQ, Nat.reduceLT, YR, YS, Zt, Zu, hkl']
        repeat' (first | (refine cnd_intro (fun h => ?_) (fun h => ?_) <;> (try simp only [decide_eq_true_eq, decide_eq_false_iff_not, Bool.not_eq_true', Bool.not_eq_false'] at h)) | (refine AllN_intro (fun n hn => ?_) <;> (try simp only [Zv, Zw, Zx, Zy, Zz] at hn)) | (simp (disch := first | omega | (simp only [Zv, Zw, Zx, Zy, Zz]; omega)) only [↓SA, Vi, Vj, Vk, Vl, Vm, Ya, Yb, Vn, Vo, Vp, Vq, Vr, Vs, Vt, Vu, Vv, Vw, Vx, Vy, Yc, Vz, VA, VB, VC, VD, VE, VF, VG, VH, VI, VJ, VK, VL, VM, VN, VO, VP, VQ, VR, VS, VT, VU, VV, VW, VX, VY, VZ, V0, V1, V2, V3, V4, V5, V9, Ga, Gp, Gq, GF, GG, GH, GI, GJ, GK, GL, GM, GN, GO, Yd, Ye, Yf, Yg, GP, GQ, GR, GS, GT, GU, GV, GW, GX, GY, GZ, G0, G1, G2, G3, G4, G5, G6, G7, G8, G9, Za, Zb, Zc, Zd, Ze, Zf, Zg, Zh, Zi, Zj, Zk, Zl, Zm, Zn, Zo, Yh, Yi, Yj, Yk, Yl, Ym, Yn, Yo, Yp, Yq, Yr, ↓reduceIte, Ys, Yu, Yv, Yw, Yx, Yy, Yz, YA, Nat.reduceAdd, Nat.reduceEqDiff, Nat.reduceMul, YB, YC, reduceCtorEq, YD, YE, YF, YG, YH, YI, YJ, YK, YL, Nat.reduceLeDiff, Nat.reduceSub, Zr, Zs, YM, YN, YO, YP, Int.reduceLE, Int.reduceLT, Int.reduceEq, Int.reduceAdd, Int.reduceSub, Int.reduceMul, Int.reduceToNat, Int.reduceNeg, YQ, Nat.reduceLT, YR, YS, Zt, Zu, hb, hz0, hz1, YQ, *]))
        all_goals first
          | (refine key _ (by repeat' (first | exact Le.refl _ | (refine Le.new_of ?_ (by first | omega | (simp only [Zv, Zw, Zx, Zy, Zz] at *; omega))) | (refine Le.set_of ?_ (by first | omega | (simp only [Zv, Zw, Zx, Zy, Zz] at *; omega))))) 5 (h5a.h rfl ?_) (by omega); first | assumption | omega)
          | exact key _ (by repeat' (first | exact Le.refl _ | (refine Le.new_of ?_ (by first | omega | (simp only [Zv, Zw, Zx, Zy, Zz] at *; omega))) | (refine Le.set_of ?_ (by first | omega | (simp only [Zv, Zw, Zx, Zy, Zz] at *; omega))))) 5 (h5b.h (by assumption)) (by omega)
          | exact ⟨k + 1, rfl, (by repeat' (first | exact Le.refl _ | (refine Le.new_of ?_ (by first | omega | (simp only [Zv, Zw, Zx, Zy, Zz] at *; omega))) | (refine Le.set_of ?_ (by first | omega | (simp only [Zv, Zw, Zx, Zy, Zz] at *; omega))))), ⟨by omega, by omega, hgo.h (fun e => by first | assumption | (exfalso; omega)) (by assumption)⟩, by omega⟩
      · have dkm : decide ((k : Int) = ma) = false := decide_eq_false hkm
        simp (disch := first | omega | (simp only [Zv, Zw, Zx, Zy, Zz]; omega)) only [↓SA, Vi, Vj, Vk, Vl, Vm, Ya, Yb, Vn, Vo, Vp, Vq, Vr, Vs, Vt, Vu, Vv, Vw, Vx, Vy, Yc, Vz, VA, VB, VC, VD, VE, VF, VG, VH, VI, VJ, VK, VL, VM, VN, VO, VP, VQ, VR, VS, VT, VU, VV, VW, VX, VY, VZ, V0, V1, V2, V3, V4, V5, V9, Ga, Gp, Gq, GF, GG, GH, GI, GJ, GK, GL, GM, GN, GO, Yd, Ye, Yf, Yg, GP, GQ, GR, GS, GT, GU, GV, GW, GX, GY, GZ, G0, G1, G2, G3, G4, G5, G6, G7, G8, G9, Za, Zb, Zc, Zd, Ze, Zf, Zg, Zh, Zi, Zj, Zk, Zl, Zm, Zn, Zo, Yh, Yi, Yj, Yk, Yl, Ym, Yn, Yo, Yp, Yq, Yr, ↓reduceIte, Ys, Yu, Yv, Yw, Yx, Yy, Yz, YA, Nat.reduceAdd, Nat.reduceEqDiff, Nat.reduceMul, YB, YC, reduceCtorEq, YD, YE, YF, YG, YH, YI, YJ, YK, YL, Nat.reduceLeDiff, Nat.reduceSub, Zr, Zs, YM, YN, YO, YP, Int.reduceLE, Int.reduceLT, Int.reduceEq, Int.reduceAdd, Int.reduceSub, Int.reduceMul, Int.reduceToNat, Int.reduceNeg, YQ, Nat.reduceLT, YR, YS, Zt, Zu, hkl', dkm, YQ]
        repeat' (first | (refine cnd_intro (fun h => ?_) (fun h => ?_) <;> (try simp only [decide_eq_true_eq, decide_eq_false_iff_not, Bool.not_eq_true', Bool.not_eq_false'] at h)) | (refine AllN_intro (fun n hn => ?_) <;> (try simp only [Zv, Zw, Zx, Zy, Zz] at hn)) | (simp (disch := first | omega | (simp only [Zv, Zw, Zx, Zy, Zz]; omega)) only [↓SA, Vi, Vj, Vk, Vl, Vm, Ya, Yb, Vn, Vo, Vp, Vq, Vr, Vs, Vt, Vu, Vv, Vw, Vx, Vy, Yc, Vz, VA, VB, VC, VD, VE, VF, VG, VH, VI, VJ, VK, VL, VM, VN, VO, VP, VQ, VR, VS, VT, VU, VV, VW, VX, VY, VZ, V0, V1, V2, V3, V4, V5, V9, Ga, Gp, Gq, GF, GG, GH, GI, GJ, GK, GL, GM, GN, GO, Yd, Ye, Yf, Yg, GP, GQ, GR, GS, GT, GU, GV, GW, GX, GY, GZ, G0, G1, G2, G3, G4, G5, G6, G7, G8, G9, Za, Zb, Zc, Zd, Ze, Zf, Zg, Zh, Zi, Zj, Zk, Zl, Zm, Zn, Zo, Yh, Yi, Yj, Yk, Yl, Ym, Yn, Yo, Yp, Yq, Yr, ↓reduceIte, Ys, Yu, Yv, Yw, Yx, Yy, Yz, YA, Nat.reduceAdd, Nat.reduceEqDiff, Nat.reduceMul, YB, YC, reduceCtorEq, YD, YE, YF, YG, YH, YI, YJ, YK, YL, Nat.reduceLeDiff, Nat.reduceSub, Zr, Zs, YM, YN, YO, YP, Int.reduceLE, Int.reduceLT, Int.reduceEq, Int.reduceAdd, Int.reduceSub, Int.reduceMul, Int.reduceToNat, Int.reduceNeg, YQ, Nat.reduceLT, YR, YS, Zt, Zu, hb, dkm, hz0, hz1, YQ, *]))
        all_goals first
          | exact key _ (by repeat' (first | exact Le.refl _ | (refine Le.new_of ?_ (by first | omega | (simp only [Zv, Zw, Zx, Zy, Zz] at *; omega))) | (refine Le.set_of ?_ (by first | omega | (simp only [Zv, Zw, Zx, Zy, Zz] at *; omega))))) 5 (h5b.h (by assumption)) (by omega)
          | exact ⟨k + 1, rfl, (by repeat' (first | exact Le.refl _ | (refine Le.new_of ?_ (by first | omega | (simp only [Zv, Zw, Zx, Zy, Zz] at *; omega))) | (refine Le.set_of ?_ (by first | omega | (simp only [Zv, Zw, Zx, Zy, Zz] at *; omega))))), ⟨by omega, by omega, hgo.h (fun e => absurd e hkm) (by assumption)⟩, by omega⟩
    · have hkl' : decide ((k : Int) ≤ 4) = false := decide_eq_false (by omega)
      have hk5 : k = 5 := by omega
      subst hk5
      have e := markRes_none (m := ⟨ma, nm, po, he⟩) hm0 hml hres hnmT (show 1 ≤ ma by omega) (show ma ≤ 4 by omega) hi
      have hspl := splice_rmark false lo cs.length cap (ms := ms) hnl (k := ma.toNat) (by omega) ⟨ma, nm, po, he⟩
      simp only [MK.cells] at hspl
      have hma1 : 1 ≤ ma := by omega
      have hm5 : (0 ≤ ma ∧ ma < 5) = True := eq_true ⟨by omega, by omega⟩
      have h15 : 12 + ma.toNat * 4 + 4 ≤ 32 := by omega
      clear g1 g2 g3 g4 g5 g6
      simp (disch := first | omega | (simp only [Zv, Zw, Zx, Zy, Zz]; omega)) only [↓SA, Vi, Vj, Vk, Vl, Vm, Ya, Yb, Vn, Vo, Vp, Vq, Vr, Vs, Vt, Vu, Vv, Vw, Vx, Vy, Yc, Vz, VA, VB, VC, VD, VE, VF, VG, VH, VI, VJ, VK, VL, VM, VN, VO, VP, VQ, VR, VS, VT, VU, VV, VW, VX, VY, VZ, V0, V1, V2, V3, V4, V5, V9, Ga, Gp, Gq, GF, GG, GH, GI, GJ, GK, GL, GM, GN, GO, Yd, Ye, Yf, Yg, GP, GQ, GR, GS, GT, GU, GV, GW, GX, GY, GZ, G0, G1, G2, G3, G4, G5, G6, G7, G8, G9, Za, Zb, Zc, Zd, Ze, Zf, Zg, Zh, Zi, Zj, Zk, Zl, Zm, Zn, Zo, Yh, Yi, Yj, Yk, Yl, Ym, Yn, Yo, Yp, Yq, Yr, ↓reduceIte, Ys, Yu, Yv, Yw, Yx, Yy, Yz, YA, Nat.reduceAdd, Nat.reduceEqDiff, Nat.reduceMul, YB, YC, reduceCtorEq, YD, YE, YF, YG, YH, YI, YJ, YK, YL, Nat.reduceLeDiff, Nat.reduceSub, Zr, Zs, YM, YN, YO, YP, Int.reduceLE, Int.reduceLT, Int.reduceEq, Int.reduceAdd, Int.reduceSub, Int.reduceMul, Int.reduceToNat, Int.reduceNeg, YQ, Nat.reduceLT, YR, YS, Zt, Zu, hkl', hm5]
      try refine wpC_plan _ _ _ _ (Le.refl _) ?_
      try simp (disch := first | omega | (simp only [Zv, Zw, Zx, Zy, Zz]; omega)) only [↓SA, Vi, Vj, Vk, Vl, Vm, Ya, Yb, Vn, Vo, Vp, Vq, Vr, Vs, Vt, Vu, Vv, Vw, Vx, Vy, Yc, Vz, VA, VB, VC, VD, VE, VF, VG, VH, VI, VJ, VK, VL, VM, VN, VO, VP, VQ, VR, VS, VT, VU, VV, VW, VX, VY, VZ, V0, V1, V2, V3, V4, V5, V9, Ga, Gp, Gq, GF, GG, GH, GI, GJ, GK, GL, GM, GN, GO, Yd, Ye, Yf, Yg, GP, GQ, GR, GS, GT, GU, GV, GW, GX, GY, GZ, G0, G1, G2, G3, G4, G5, G6, G7, G8, G9, Za, Zb, Zc, Zd, Ze, Zf, Zg, Zh, Zi, Zj, Zk, Zl, Zm, Zn, Zo, Yh, Yi, Yj, Yk, Yl, Ym, Yn, Yo, Yp, Yq, Yr, ↓reduceIte, Ys, Yu, Yv, Yw, Yx, Yy, Yz, YA, Nat.reduceAdd, Nat.reduceEqDiff, Nat.reduceMul, YB, YC, reduceCtorEq, YD, YE, YF, YG, YH, YI, YJ, YK, YL, Nat.reduceLeDiff, Nat.reduceSub, Zr, Zs, YM, YN, YO, YP, Int.reduceLE, Int.reduceLT, Int.reduceEq, Int.reduceAdd, Int.reduceSub, Int.reduceMul, Int.reduceToNat, Int.reduceNeg, YQ, Nat.reduceLT, YR, YS, Zt, Zu, hb, hspl, hrl, hm5, h15]
      refine ⟨_, Le.new (Le.refl _) hn, by rw [e], fun h0 => absurd e h0, fun _ => ⟨⟨⟨lo, cap, VI hblt, ?_⟩, hnl, by rw [List.length_set]; exact hml, ?_, fun c hc => ⟨(hR.p c hc).1.keep hb (show TR ≠ TP by decide) Keep.set, (hR.p c hc).2⟩, hR.u, hR.le⟩, Keep.set⟩⟩
      · rcases hlst with h | ⟨lb, full, hlo, h⟩
        · exact .inl h
        · refine .inr ⟨lb, full, hlo, ?_⟩
          rw [VJ (fun e => ?_)]
          · exact h
          · subst e
            rw [hb] at h
            have h9 : (some TR : Option Nat) = some TC := congrArg (fun o => o.map Blk.elem) h
            exact absurd (Option.some.inj h9) (by decide)
      · rw [List.getElem?_set, if_neg (by show ma.toNat ≠ 0; omega)]; exact hm0
  · refine Does.body numOK mixed k.f45 rfl k.o45 (Nat.le_of_ble_eq_true rfl) ?_
    simp (disch := first | omega | (simp only [Zv, Zw, Zx, Zy, Zz]; omega)) only [↓SA, Vi, Vj, Vk, Vl, Vm, Ya, Yb, Vn, Vo, Vp, Vq, Vr, Vs, Vt, Vu, Vv, Vw, Vx, Vy, Yc, Vz, VA, VB, VC, VD, VE, VF, VG, VH, VI, VJ, VK, VL, VM, VN, VO, VP, VQ, VR, VS, VT, VU, VV, VW, VX, VY, VZ, V0, V1, V2, V3, V4, V5, V9, Ga, Gp, Gq, GF, GG, GH, GI, GJ, GK, GL, GM, GN, GO, Yd, Ye, Yf, Yg, GP, GQ, GR, GS, GT, GU, GV, GW, GX, GY, GZ, G0, G1, G2, G3, G4, G5, G6, G7, G8, G9, Za, Zb, Zc, Zd, Ze, Zf, Zg, Zh, Zi, Zj, Zk, Zl, Zm, Zn, Zo, Yh, Yi, Yj, Yk, Yl, Ym, Yn, Yo, Yp, Yq, Yr, ↓reduceIte, Ys, Yu, Yv, Yw, Yx, Yy, Yz, YA, Nat.reduceAdd, Nat.reduceEqDiff, Nat.reduceMul, YB, YC, reduceCtorEq, YD, YE, YF, YG, YH, YI, YJ, YK, YL, Nat.reduceLeDiff, Nat.reduceSub, Zr, Zs, YM, YN, YO, YP, Int.reduceLE, Int.reduceLT, Int.reduceEq, Int.reduceAdd, Int.reduceSub, Int.reduceMul, Int.reduceToNat, Int.reduceNeg, YQ, Nat.reduceLT, YR, YS, Zt, Zu, hb, rkL_0, rkL_1]
    repeat' (first | (refine cnd_intro (fun h => ?_) (fun h => ?_) <;> (try simp only [decide_eq_true_eq, decide_eq_false_iff_not, Bool.not_eq_true', Bool.not_eq_false'] at h)) | (refine AllN_intro (fun n hn => ?_) <;> (try simp only [Zv, Zw, Zx, Zy, Zz] at hn)) | (refine DoesK.by (r_none (hR.mono (Le.new (Le.refl _) hn))) ?_; rintro _ X2 ⟨rfl, hX2⟩; subst X2) | (simp (disch := first | omega | (simp only [Zv, Zw, Zx, Zy, Zz]; omega)) only [↓SA, Vi, Vj, Vk, Vl, Vm, Ya, Yb, Vn, Vo, Vp, Vq, Vr, Vs, Vt, Vu, Vv, Vw, Vx, Vy, Yc, Vz, VA, VB, VC, VD, VE, VF, VG, VH, VI, VJ, VK, VL, VM, VN, VO, VP, VQ, VR, VS, VT, VU, VV, VW, VX, VY, VZ, V0, V1, V2, V3, V4, V5, V9, Ga, Gp, Gq, GF, GG, GH, GI, GJ, GK, GL, GM, GN, GO, Yd, Ye, Yf, Yg, GP, GQ, GR, GS, GT, GU, GV, GW, GX, GY, GZ, G0, G1, G2, G3, G4, G5, G6, G7, G8, G9, Za, Zb, Zc, Zd, Ze, Zf, Zg, Zh, Zi, Zj, Zk, Zl, Zm, Zn, Zo, Yh, Yi, Yj, Yk, Yl, Ym, Yn, Yo, Yp, Yq, Yr, ↓reduceIte, Ys, Yu, Yv, Yw, Yx, Yy, Yz, YA, Nat.reduceAdd, Nat.reduceEqDiff, Nat.reduceMul, YB, YC, reduceCtorEq, YD, YE, YF, YG, YH, YI, YJ, YK, YL, Nat.reduceLeDiff, Nat.reduceSub, Zr, Zs, YM, YN, YO, YP, Int.reduceLE, Int.reduceLT, Int.reduceEq, Int.reduceAdd, Int.reduceSub, Int.reduceMul, Int.reduceToNat, Int.reduceNeg, YQ, Nat.reduceLT, YR, YS, Zt, Zu, hb, rkL_0, rkL_1, *]))
    all_goals exact ⟨X, (by repeat' (first | exact Le.refl _ | (refine Le.new_of ?_ (by first | omega | (simp only [Zv, Zw, Zx, Zy, Zz] at *; omega))) | (refine Le.set_of ?_ (by first | omega | (simp only [Zv, Zw, Zx, Zy, Zz] at *; omega))))), rfl, fun _ => rfl, fun h0 => absurd h0 (show ¬ ((7 : Int) = 0) by decide)⟩
end Go.Proofs.YtdgbnaignpploaaDoor.bk
