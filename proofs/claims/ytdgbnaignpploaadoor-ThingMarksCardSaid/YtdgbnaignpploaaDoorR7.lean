/- The document's answers 06, 07: Copy, Card. -/
import Derived.Test.YtdgbnaignpploaaDoorG0
import Derived.Test.YtdgbnaignpploaaDoorSy
import Derived.Test.YtdgbnaignpploaaDoorR6
namespace Go.Proofs.YtdgbnaignpploaaDoor.bk
open Go.Sym
set_option linter.unusedVariables false
set_option linter.unusedSimpArgs false
set_option maxRecDepth 100000
variable {Bar : Nat} {X : St}
theorem r_copy (c : KC) (hp : PartsK X c.po c.ps) (hl : c.ps.length ≤ 4) : Does Go.Proofs.Tryd.prog Bar 81 [.agg ⟨c.cells⟩] X (fun r X' => ∃ po' pc', r = .agg ⟨(KC.mk c.h po' pc' c.ps).cells⟩ ∧ PartsE X' po' c.ps ∧ Le X X' ∧ ∀ b o, po' = some ⟨b, o, none⟩ → X.next ≤ b) := by
  obtain ⟨⟨a1, a2, a3, a4, a5, a6, a7, a8⟩, po, pc, ps⟩ := c
  simp only [KC.cells] at *
  refine Does.body numOK mixed k.f81 rfl k.o81 (Nat.le_of_ble_eq_true rfl) ?_
  simp (disch := first | omega | (simp only [Zv, Zw, Zx, Zy, Zz]; omega)) only [↓SA, Vi, Vj, Vk, Vl, Vm, Ya, Yb, Vn, Vo, Vp, Vq, Vr, Vs, Vt, Vu, Vv, Vw, Vx, Vy, Yc, Vz, VA, VB, VC, VD, VE, VF, VG, VH, VI, VJ, VK, VL, VM, VN, VO, VP, VQ, VR, VS, VT, VU, VV, VW, VX, VY, VZ, V0, V1, V2, V3, V4, V5, V9, Ga, Gp, Gq, GF, GG, GH, GI, GJ, GK, GL, GM, GN, GO, Yd, Ye, Yf, Yg, GP, GQ, GR, GS, GT, GU, GV, GW, GX, GY, GZ, G0, G1, G2, G3, G4, G5, G6, G7, G8, G9, Za, Zb, Zc, Zd, Ze, Zf, Zg, Zh, Zi, Zj, Zk, Zl, Zm, Zn, Zo, Yh, Yi, Yj, Yk, Yl, Ym, Yn, Yo, Yp, Yq, Yr, ↓reduceIte, Ys, Yu, Yv, Yw, Yx, Yy, Yz, YA, Nat.reduceAdd, Nat.reduceEqDiff, Nat.reduceMul, YB, YC, reduceCtorEq, YD, YE, YF, YG, YH, YI, YJ, YK, YL, Nat.reduceLeDiff, Nat.reduceSub, Zr, Zs, YM, YN, YO, YP, Int.reduceLE, Int.reduceLT, Int.reduceEq, Int.reduceAdd, Int.reduceSub, Int.reduceMul, Int.reduceToNat, Int.reduceNeg, YQ, Nat.reduceLT, YR, YS, Zt, Zu, res51]
  repeat' (first | (refine cnd_intro (fun h => ?_) (fun h => ?_) <;> (try simp only [decide_eq_true_eq, decide_eq_false_iff_not, Bool.not_eq_true', Bool.not_eq_false'] at h)) | (refine AllN_intro (fun n hn => ?_) <;> (try simp only [Zv, Zw, Zx, Zy, Zz] at hn)) | (simp (disch := first | omega | (simp only [Zv, Zw, Zx, Zy, Zz]; omega)) only [↓SA, Vi, Vj, Vk, Vl, Vm, Ya, Yb, Vn, Vo, Vp, Vq, Vr, Vs, Vt, Vu, Vv, Vw, Vx, Vy, Yc, Vz, VA, VB, VC, VD, VE, VF, VG, VH, VI, VJ, VK, VL, VM, VN, VO, VP, VQ, VR, VS, VT, VU, VV, VW, VX, VY, VZ, V0, V1, V2, V3, V4, V5, V9, Ga, Gp, Gq, GF, GG, GH, GI, GJ, GK, GL, GM, GN, GO, Yd, Ye, Yf, Yg, GP, GQ, GR, GS, GT, GU, GV, GW, GX, GY, GZ, G0, G1, G2, G3, G4, G5, G6, G7, G8, G9, Za, Zb, Zc, Zd, Ze, Zf, Zg, Zh, Zi, Zj, Zk, Zl, Zm, Zn, Zo, Yh, Yi, Yj, Yk, Yl, Ym, Yn, Yo, Yp, Yq, Yr, ↓reduceIte, Ys, Yu, Yv, Yw, Yx, Yy, Yz, YA, Nat.reduceAdd, Nat.reduceEqDiff, Nat.reduceMul, YB, YC, reduceCtorEq, YD, YE, YF, YG, YH, YI, YJ, YK, YL, Nat.reduceLeDiff, Nat.reduceSub, Zr, Zs, YM, YN, YO, YP, Int.reduceLE, Int.reduceLT, Int.reduceEq, Int.reduceAdd, Int.reduceSub, Int.reduceMul, Int.reduceToNat, Int.reduceNeg, YQ, Nat.reduceLT, YR, YS, Zt, Zu, res51, *]))
  by_cases h0 : ps = []
  · subst h0
    refine ApndK.by (Apnd.empty (Nat.le_refl _) ?_)
    simp (disch := first | omega | (simp only [Zv, Zw, Zx, Zy, Zz]; omega)) only [↓SA, Vi, Vj, Vk, Vl, Vm, Ya, Yb, Vn, Vo, Vp, Vq, Vr, Vs, Vt, Vu, Vv, Vw, Vx, Vy, Yc, Vz, VA, VB, VC, VD, VE, VF, VG, VH, VI, VJ, VK, VL, VM, VN, VO, VP, VQ, VR, VS, VT, VU, VV, VW, VX, VY, VZ, V0, V1, V2, V3, V4, V5, V9, Ga, Gp, Gq, GF, GG, GH, GI, GJ, GK, GL, GM, GN, GO, Yd, Ye, Yf, Yg, GP, GQ, GR, GS, GT, GU, GV, GW, GX, GY, GZ, G0, G1, G2, G3, G4, G5, G6, G7, G8, G9, Za, Zb, Zc, Zd, Ze, Zf, Zg, Zh, Zi, Zj, Zk, Zl, Zm, Zn, Zo, Yh, Yi, Yj, Yk, Yl, Ym, Yn, Yo, Yp, Yq, Yr, ↓reduceIte, Ys, Yu, Yv, Yw, Yx, Yy, Yz, YA, Nat.reduceAdd, Nat.reduceEqDiff, Nat.reduceMul, YB, YC, reduceCtorEq, YD, YE, YF, YG, YH, YI, YJ, YK, YL, Nat.reduceLeDiff, Nat.reduceSub, Zr, Zs, YM, YN, YO, YP, Int.reduceLE, Int.reduceLT, Int.reduceEq, Int.reduceAdd, Int.reduceSub, Int.reduceMul, Int.reduceToNat, Int.reduceNeg, YQ, Nat.reduceLT, YR, YS, Zt, Zu, res51]
    exact ⟨X, (by repeat' (first | exact Le.refl _ | (refine Le.new_of ?_ (by first | omega | (simp only [Zv, Zw, Zx, Zy, Zz] at *; omega))) | (refine Le.set_of ?_ (by first | omega | (simp only [Zv, Zw, Zx, Zy, Zz] at *; omega))))), none, 0, rfl, .inl rfl, Le.refl _, fun b o hb => by cases hb⟩
  · rcases hp with hp | ⟨b, o, rfl, hp⟩
    · exact absurd hp h0
    have hlt := cellsOf_lt hp
    have hpos : ps.length ≠ 0 := by simpa using h0
    refine ApndK.by (Apnd.nil (srcOf_parts (cellsOf_le hp (by repeat' (first | exact Le.refl _ | (refine Le.new_of ?_ (by first | omega | (simp only [Zv, Zw, Zx, Zy, Zz] at *; omega))) | (refine Le.set_of ?_ (by first | omega | (simp only [Zv, Zw, Zx, Zy, Zz] at *; omega))))))) hpos (by omega) (fun q cap hq hcap => ?_))
    simp only [Zv, Zw, Zx, Zy, Zz] at hq
    simp (disch := first | omega | (simp only [Zv, Zw, Zx, Zy, Zz]; omega)) only [↓SA, Vi, Vj, Vk, Vl, Vm, Ya, Yb, Vn, Vo, Vp, Vq, Vr, Vs, Vt, Vu, Vv, Vw, Vx, Vy, Yc, Vz, VA, VB, VC, VD, VE, VF, VG, VH, VI, VJ, VK, VL, VM, VN, VO, VP, VQ, VR, VS, VT, VU, VV, VW, VX, VY, VZ, V0, V1, V2, V3, V4, V5, V9, Ga, Gp, Gq, GF, GG, GH, GI, GJ, GK, GL, GM, GN, GO, Yd, Ye, Yf, Yg, GP, GQ, GR, GS, GT, GU, GV, GW, GX, GY, GZ, G0, G1, G2, G3, G4, G5, G6, G7, G8, G9, Za, Zb, Zc, Zd, Ze, Zf, Zg, Zh, Zi, Zj, Zk, Zl, Zm, Zn, Zo, Yh, Yi, Yj, Yk, Yl, Ym, Yn, Yo, Yp, Yq, Yr, ↓reduceIte, Ys, Yu, Yv, Yw, Yx, Yy, Yz, YA, Nat.reduceAdd, Nat.reduceEqDiff, Nat.reduceMul, YB, YC, reduceCtorEq, YD, YE, YF, YG, YH, YI, YJ, YK, YL, Nat.reduceLeDiff, Nat.reduceSub, Zr, Zs, YM, YN, YO, YP, Int.reduceLE, Int.reduceLT, Int.reduceEq, Int.reduceAdd, Int.reduceSub, Int.reduceMul, Int.reduceToNat, Int.reduceNeg, YQ, Nat.reduceLT, YR, YS, Zt, Zu, res51]
    refine ⟨_, Le.new2 (X := X) (by repeat' (first | exact Le.refl _ | (refine Le.new_of ?_ (by first | omega | (simp only [Zv, Zw, Zx, Zy, Zz] at *; omega))) | (refine Le.set_of ?_ (by first | omega | (simp only [Zv, Zw, Zx, Zy, Zz] at *; omega))))), _, _, rfl, .inr ⟨q, 0, _, rfl, VG, rfl, ?_⟩, Le.new (Le.refl _) (by omega), fun b o hb => by cases hb; omega⟩
    rw [cellsOf_some (by show 0 + _ ≤ (ps.flatMap Part.cells).length; rw [pflat_len]; omega)]
    show some (((ps.flatMap Part.cells).drop 0).take _) = _
    rw [List.drop_zero, List.take_of_length_le (by rw [pflat_len]; omega)]
/-- one more card behind a list of one's own -/
theorem LBuilt.apnd {Y : St} {v : Value} {ks : List KC} {d : KC} {n2 : Nat} {K : Value → St → Prop} (h : LBuilt X Y v ks) (hd : PartsE Y d.po d.ps) (hn2 : Y.next ≤ n2) (hl : ks.length < 1000)
    (hK : ∀ v' Y', LBuilt X Y' v' (ks ++ [d]) → K v' Y') : Apnd Go.Proofs.Tryd.prog Bar false 9 80 TC v (.slice (some ⟨n2, 0, none⟩) 1 1) (Y.new n2 ⟨d.cells, 9, TC, true⟩) K := by
  have hZ : (Y.new n2 ⟨d.cells, 9, TC, true⟩).get n2 = some ⟨d.cells, 9, TC, true⟩ := VG
  have hXY := h.le.next
  have hflat : (ks ++ [d]).flatMap KC.cells = ks.flatMap KC.cells ++ d.cells := by simp
  have hlen1 : (ks ++ [d]).length = ks.length + 1 := by simp
  have hpsZ : ∀ e ∈ ks ++ [d], PartsE Y e.po e.ps := by
    intro e he
    rcases List.mem_append.1 he with he | he
    · exact h.ps e he
    · rw [List.mem_singleton] at he; subst he; exact hd
  rcases h.v with ⟨hk0, hv⟩ | ⟨g, cap, hv, hcap, hg, hgX⟩
  · subst hk0 hv
    refine Apnd.nil (src_card _ hZ) (by omega) (by omega) (fun q cap' hq hcap => hK _ _ ⟨?_, .inr ⟨q, cap', rfl, hcap, ?_, ?_⟩, ?_⟩)
    all_goals simp only [Zv] at hq
    · exact Le.new_of (Le.new_of h.le (by omega)) (by omega)
    · rw [VG]; simp
    · omega
    · intro e he
      exact ((hpsZ e he).le (Le.new (Le.refl _) hn2)).le (Le.new (Le.refl _) (by rw [Zv]; omega))
  · subst hv
    have hglt := St.lt hg
    have hgZ : (Y.new n2 ⟨d.cells, 9, TC, true⟩).get g = some ⟨ks.flatMap KC.cells, cap * 9, TC, true⟩ := by
      rw [VH (by omega)]; exact hg
    refine Apnd.own (src_card _ hZ) hgZ rfl rfl rfl (by show ks.length * 9 ≤ (ks.flatMap KC.cells).length; rw [flat_len]; omega) (by omega) (fun q cap' hq hcap => ?_)
    simp only [Zv] at hq
    rw [← hlen1, VF (show g ≠ n2 by omega) hglt]
    refine hK _ _ ⟨?_, .inr ⟨q, cap', rfl, by rw [hlen1]; exact hcap, ?_, by omega⟩, ?_⟩
    · exact Le.new_of (Le.new_of (Le.set_of h.le hgX) (by omega)) (by omega)
    · rw [VG, hflat, List.take_of_length_le (by rw [flat_len]; omega)]
    · intro e he
      exact (hpsZ e he).keep hg (show TC ≠ TP by decide) (Keep.own2 hn2 (by omega))
/-- where the document puts a card -/
def rpos (h : Head) : List KC → Nat
  | [] => 0
  | d :: r => if less h d.h then 0 else rpos h r + 1
theorem rpos_le (h : Head) : ∀ cs : List KC, rpos h cs ≤ cs.length
  | [] => Nat.le_refl _
  | d :: r => by
    unfold rpos
    split
    · exact Nat.zero_le _
    · have := rpos_le h r; simp only [List.length_cons]; omega
theorem rpos_below (h : Head) : ∀ {cs : List KC} {j : Nat} {d : KC}, j < rpos h cs → cs[j]? = some d → less h d.h = false
  | [], _, _, hj, _ => absurd hj (Nat.not_lt_zero _)
  | e :: r, 0, d, hj, hd => by
    unfold rpos at hj
    cases hd
    split at hj
    · omega
    · rename_i hl; simpa using hl
  | e :: r, j + 1, d, hj, hd => by
    unfold rpos at hj
    split at hj
    · omega
    · exact rpos_below h (Nat.lt_of_succ_lt_succ hj) hd
theorem rpos_at (h : Head) : ∀ {cs : List KC} {d : KC}, cs[rpos h cs]? = some d → less h d.h = true
  | [], _, hd => by simp at hd
  | e :: r, d, hd => by
    unfold rpos at hd
    split at hd
    · rename_i hl; cases hd; exact hl
    · exact rpos_at h hd
def rins (c : KC) (cs : List KC) : List KC := cs.take (rpos c.h cs) ++ c :: cs.drop (rpos c.h cs)
/-- the new list, as far as it is -/
def rsofar (c : KC) (cs : List KC) (i : Nat) : List KC := cs.take (rpos c.h cs) ++ c :: (cs.take i).drop (rpos c.h cs)
theorem rins_len (c : KC) (cs : List KC) : (rins c cs).length = cs.length + 1 := by
  have := rpos_le c.h cs
  unfold rins
  rw [List.length_append, List.length_cons, List.length_take, List.length_drop]; omega
theorem rins_mem {c d : KC} {cs : List KC} (h : d ∈ rins c cs) : d = c ∨ d ∈ cs := by
  unfold rins at h
  rcases List.mem_append.1 h with h | h
  · exact .inr (List.mem_of_mem_take h)
  · rcases List.mem_cons.1 h with h | h
    · exact .inl h
    · exact .inr (List.mem_of_mem_drop h)
theorem rsofar_end (c : KC) (cs : List KC) : rsofar c cs cs.length = rins c cs := by
  unfold rsofar rins; rw [List.take_length]
theorem rins_end {c : KC} {cs : List KC} (h : cs.length ≤ rpos c.h cs) : cs ++ [c] = rins c cs := by
  unfold rins
  rw [List.take_of_length_le h, List.drop_of_length_le h]
theorem rsofar_put {c d : KC} {cs : List KC} {i : Nat} (hd : cs[i]? = some d) (h : rpos c.h cs = i) : (cs.take i ++ [c]) ++ [d] = rsofar c cs (i + 1) := by
  have hi := (List.getElem?_eq_some_iff.1 hd).1
  unfold rsofar
  have hl : (cs.take i).length = i := by rw [List.length_take]; omega
  have : (cs.take (i + 1)).drop i = [d] := by
    rw [List.take_add_one, hd, List.drop_append_of_le_length (by omega), List.drop_of_length_le (by omega)]; rfl
  rw [h, this]; simp
theorem rsofar_go {c d : KC} {cs : List KC} {i : Nat} (hd : cs[i]? = some d) (h : rpos c.h cs ≤ i) : rsofar c cs i ++ [d] = rsofar c cs (i + 1) := by
  have hi := (List.getElem?_eq_some_iff.1 hd).1
  unfold rsofar
  have hl : (cs.take i).length = i := by rw [List.length_take]; omega
  rw [List.take_add_one, hd, List.drop_append_of_le_length (by omega)]
  simp
theorem rsofar_len {c : KC} {cs : List KC} {i : Nat} (hi : i ≤ cs.length) : (rsofar c cs i).length ≤ cs.length + 1 := by
  have := rpos_le c.h cs
  unfold rsofar
  rw [List.length_append, List.length_cons, List.length_take, List.length_drop, List.length_take]; omega
theorem r_fin {Y : St} {b n g cap' : Nat} {s : Bool} {cs : List KC} {ns : List ByteArray} {ms : List MK} {B : Blk} (hR : Rk X b s cs ns ms) {c : KC} (hU : c.U) (h4 : c.ps.length ≤ 4) (hl : cs.length < 64) (hn : X.next ≤ n)
    (hY : Le (X.new n B) Y) (hg : Y.get g = some ⟨(rins c cs).flatMap KC.cells, cap' * 9, TC, true⟩) (hgX : X.next ≤ g) (hps : ∀ d ∈ rins c cs, PartsE Y d.po d.ps) :
    Rk (Y.set b ⟨rkL s (some ⟨g, 0, none⟩) (rins c cs).length cap' ns ms, 32, TR, true⟩) b s (rins c cs) ns ms ∧ Keep b X (Y.set b ⟨rkL s (some ⟨g, 0, none⟩) (rins c cs).length cap' ns ms, 32, TR, true⟩) := by
  obtain ⟨lo, cap, hb, -⟩ := hR.lst
  have hblt := St.lt hb
  have hbY : Y.get b = some ⟨rkL s lo cs.length cap ns ms, 32, TR, true⟩ := hY.blk b _ (by rw [VH (by omega)]; exact hb)
  have hbYlt := St.lt hbY
  refine ⟨⟨⟨some ⟨g, 0, none⟩, cap', VI hbYlt, .inr ⟨g, cap' * 9, rfl, by rw [VJ (by omega)]; exact hg⟩⟩, hR.nl, hR.ml, hR.m0, fun d hd => ⟨(hps d hd).keep hbY (show TR ≠ TP by decide) Keep.set, ?_⟩, fun d hd => ?_, by rw [rins_len]; omega⟩, ?_⟩
  · rcases rins_mem hd with rfl | hd
    · exact h4
    · exact (hR.p d hd).2
  · rcases rins_mem hd with rfl | hd
    · exact hU
    · exact hR.u d hd
  · exact ((Keep.of_le (Le.new (Le.refl _) hn)).trans (Keep.of_le hY)).trans Keep.set
set_option maxHeartbeats 8000000 in
theorem r_card {b : Nat} {s : Bool} {cs : List KC} {ns : List ByteArray} {ms : List MK} (hR : Rk X b s cs ns ms) (c : KC) (hU : c.U) (hp : PartsK X c.po c.ps) :
    Does Go.Proofs.Tryd.prog Bar 44 [.pointer (some ⟨b, 0, none⟩), .agg ⟨c.cells⟩] X (fun r X' => r = .int .i64 (cardRes s cs c) ∧ (cardRes s cs c ≠ 0 → X' = X) ∧
      (cardRes s cs c = 0 → ∃ po' pc', Rk X' b s (rins ⟨c.h, po', pc', c.ps⟩ cs) ns ms ∧ Keep b X X')) := by
  obtain ⟨lo, cap, hb, hlst⟩ := hR.lst
  have hblt := St.lt hb
  have hle := hR.le
  have hds : (∀ v ∈ c.cells, single v = true) = True := eq_true (KC.single _)
  cases s
  · have hrl := rkL_len hR.nl hR.ml false lo cs.length cap
    refine Does.body numOK mixed k.f44 rfl k.o44 (Nat.le_of_ble_eq_true rfl) ?_
    simp (disch := first | omega | (simp only [Zv, Zw, Zx, Zy, Zz]; omega)) only [↓SA, Vi, Vj, Vk, Vl, Vm, Ya, Yb, Vn, Vo, Vp, Vq, Vr, Vs, Vt, Vu, Vv, Vw, Vx, Vy, Yc, Vz, VA, VB, VC, VD, VE, VF, VG, VH, VI, VJ, VK, VL, VM, VN, VO, VP, VQ, VR, VS, VT, VU, VV, VW, VX, VY, VZ, V0, V1, V2, V3, V4, V5, V9, Ga, Gp, Gq, GF, GG, GH, GI, GJ, GK, GL, GM, GN, GO, Yd, Ye, Yf, Yg, GP, GQ, GR, GS, GT, GU, GV, GW, GX, GY, GZ, G0, G1, G2, G3, G4, G5, G6, G7, G8, G9, Za, Zb, Zc, Zd, Ze, Zf, Zg, Zh, Zi, Zj, Zk, Zl, Zm, Zn, Zo, Yh, Yi, Yj, Yk, Yl, Ym, Yn, Yo, Yp, Yq, Yr, ↓reduceIte, Ys, Yu, Yv, Yw, Yx, Yy, Yz, YA, Nat.reduceAdd, Nat.reduceEqDiff, Nat.reduceMul, YB, YC, reduceCtorEq, YD, YE, YF, YG, YH, YI, YJ, YK, YL, Nat.reduceLeDiff, Nat.reduceSub, Zr, Zs, YM, YN, YO, YP, Int.reduceLE, Int.reduceLT, Int.reduceEq, Int.reduceAdd, Int.reduceSub, Int.reduceMul, Int.reduceToNat, Int.reduceNeg, YQ, Nat.reduceLT, YR, YS, Zt, Zu, hb, rkL_0, rkL_1, KC.cells_len]
    repeat' (first | (refine cnd_intro (fun h => ?_) (fun h => ?_) <;> (try simp only [decide_eq_true_eq, decide_eq_false_iff_not, Bool.not_eq_true', Bool.not_eq_false'] at h)) | (refine AllN_intro (fun n hn => ?_) <;> (try simp only [Zv, Zw, Zx, Zy, Zz] at hn)) | (refine DoesK.by (r_none (hR.mono (Le.new (Le.refl _) hn))) ?_; rintro _ X2 ⟨rfl, hX2⟩; subst X2) | (refine DoesK.by (r_check6 c hU (hp.le (Le.new (Le.refl _) hn))) ?_; rintro _ X2 ⟨rfl, hX2⟩; subst X2) | (refine DoesK.by (r_place (hR.mono (Le.new (Le.refl _) hn)) _) ?_; rintro _ X2 ⟨rfl, hX2⟩; subst X2) | (simp (disch := first | omega | (simp only [Zv, Zw, Zx, Zy, Zz]; omega)) only [↓SA, Vi, Vj, Vk, Vl, Vm, Ya, Yb, Vn, Vo, Vp, Vq, Vr, Vs, Vt, Vu, Vv, Vw, Vx, Vy, Yc, Vz, VA, VB, VC, VD, VE, VF, VG, VH, VI, VJ, VK, VL, VM, VN, VO, VP, VQ, VR, VS, VT, VU, VV, VW, VX, VY, VZ, V0, V1, V2, V3, V4, V5, V9, Ga, Gp, Gq, GF, GG, GH, GI, GJ, GK, GL, GM, GN, GO, Yd, Ye, Yf, Yg, GP, GQ, GR, GS, GT, GU, GV, GW, GX, GY, GZ, G0, G1, G2, G3, G4, G5, G6, G7, G8, G9, Za, Zb, Zc, Zd, Ze, Zf, Zg, Zh, Zi, Zj, Zk, Zl, Zm, Zn, Zo, Yh, Yi, Yj, Yk, Yl, Ym, Yn, Yo, Yp, Yq, Yr, ↓reduceIte, Ys, Yu, Yv, Yw, Yx, Yy, Yz, YA, Nat.reduceAdd, Nat.reduceEqDiff, Nat.reduceMul, YB, YC, reduceCtorEq, YD, YE, YF, YG, YH, YI, YJ, YK, YL, Nat.reduceLeDiff, Nat.reduceSub, Zr, Zs, YM, YN, YO, YP, Int.reduceLE, Int.reduceLT, Int.reduceEq, Int.reduceAdd, Int.reduceSub, Int.reduceMul, Int.reduceToNat, Int.reduceNeg, YQ, Nat.reduceLT, YR, YS, Zt, Zu, hb, rkL_0, rkL_1, rkL_2, KC.cells_len, KC.take9, KC.cell_0, hds, *]))
    · have e : cardRes false cs c = cardCheck c.h c.ps := by simp_all [cardRes]
      exact ⟨X, (by repeat' (first | exact Le.refl _ | (refine Le.new_of ?_ (by first | omega | (simp only [Zv, Zw, Zx, Zy, Zz] at *; omega))) | (refine Le.set_of ?_ (by first | omega | (simp only [Zv, Zw, Zx, Zy, Zz] at *; omega))))), by rw [e], fun _ => rfl, fun h0 => by omega⟩
    · have e : cardRes false cs c = 5 := by simp_all [cardRes]
      exact ⟨X, (by repeat' (first | exact Le.refl _ | (refine Le.new_of ?_ (by first | omega | (simp only [Zv, Zw, Zx, Zy, Zz] at *; omega))) | (refine Le.set_of ?_ (by first | omega | (simp only [Zv, Zw, Zx, Zy, Zz] at *; omega))))), by rw [e], fun _ => rfl, fun h0 => by omega⟩
    · have e : cardRes false cs c = 14 := by
        have : 64 ≤ cs.length := by omega
        simp_all [cardRes]
      exact ⟨X, (by repeat' (first | exact Le.refl _ | (refine Le.new_of ?_ (by first | omega | (simp only [Zv, Zw, Zx, Zy, Zz] at *; omega))) | (refine Le.set_of ?_ (by first | omega | (simp only [Zv, Zw, Zx, Zy, Zz] at *; omega))))), by rw [e], fun _ => rfl, fun h0 => by omega⟩
    have h64 : cs.length < 64 := by omega
    have hps4 : c.ps.length ≤ 4 := parts4 (h := c.h) (by assumption)
    have e : cardRes false cs c = 0 := by
      have h1 : ¬ 64 ≤ cs.length := by omega
      have h2 : ¬ 0 ≤ pos c.h.nm cs := by assumption
      have h3 : cardCheck c.h c.ps = 0 := by assumption
      unfold cardRes
      rw [h3, if_neg h2, if_neg h1]; rfl
    refine wpC_loop (α := Nat × St × Value × List KC × Bool) (fun t => ⟨79, [(0, .pointer (some ⟨b, 0, none⟩)), (3, .pointer (some ⟨n, 0, none⟩)), (6, t.2.2.1), (7, .bool t.2.2.2.2), (8, .int .i64 t.1)]⟩) (fun t => t.2.1)
      (fun t => t.1 ≤ cs.length ∧ LBuilt (X.new n ⟨c.cells, 9, 51, true⟩) t.2.1 t.2.2.1 t.2.2.2.1 ∧ (t.2.2.2.2 = false ∧ t.2.2.2.1 = cs.take t.1 ∧ t.1 ≤ rpos c.h cs ∨ t.2.2.2.2 = true ∧ rpos c.h cs < t.1 ∧ ∃ po' pc', t.2.2.2.1 = rsofar ⟨c.h, po', pc', c.ps⟩ cs t.1))
      (fun t => cs.length - t.1) (0, X.new n ⟨c.cells, 9, 51, true⟩, .slice none 0 0, [], false) rfl (Le.refl _) ⟨Nat.zero_le _, ⟨Le.refl _, .inl ⟨rfl, rfl⟩, fun c hc => by cases hc⟩, .inl ⟨rfl, rfl, Nat.zero_le _⟩⟩ ?_
    rintro ⟨i, Y, v, ks, put⟩ hinv
    obtain ⟨hi, hY, hput⟩ : i ≤ cs.length ∧ LBuilt (X.new n ⟨c.cells, 9, 51, true⟩) Y v ks ∧ (put = false ∧ ks = cs.take i ∧ i ≤ rpos c.h cs ∨ put = true ∧ rpos c.h cs < i ∧ ∃ po' pc', ks = rsofar ⟨c.h, po', pc', c.ps⟩ cs i) := hinv
    have hXY : Le X Y := (Le.new (Le.refl _) hn).trans hY.le
    have hbY := hXY.blk b _ hb
    have hnY : Y.get n = some ⟨c.cells, 9, 51, true⟩ := hY.le.blk n _ VG
    have hsr : ∀ d : KC, setRange [.string ⟨#[]⟩, .int .u8 0, .int .u8 0, .int .i64 0, .int .i64 0, .int .i64 0, .int .u16 0, .bool false, .slice none 0 0] 0 d.cells = d.cells := fun d => rfl
    have hsrn : ∀ po' pc', setRange [.string ⟨#[]⟩, .int .u8 0, .int .u8 0, .int .i64 0, .int .i64 0, .int .i64 0, .int .u16 0, .bool false, .slice none 0 0] 0 (KC.mk c.h po' pc' c.ps).cells = (KC.mk c.h po' pc' c.ps).cells := fun _ _ => rfl
    by_cases hil : i < cs.length
    · obtain ⟨d, hd⟩ : ∃ d, cs[i]? = some d := ⟨_, List.getElem?_eq_getElem hil⟩
      have hdp := (hR.p d (List.mem_of_getElem? hd)).1
      have hil' : decide ((i : Int) < cs.length) = true := decide_eq_true (by omega)
      have hdc := fun f e wr => flat_card hd f e wr
      rcases hlst with rfl | ⟨lb, full, rfl, hlb⟩
      · cases hil
      have hlbY := hXY.blk lb _ hlb
      rcases hput with ⟨rfl, hks, hrp⟩ | ⟨rfl, hrp, po', pc', hks⟩
      · cases hls : less c.h d.h
        · have hrp1 : i < rpos c.h cs := by
            refine Nat.lt_of_le_of_ne hrp (fun e9 => ?_)
            rw [e9] at hd
            rw [rpos_at c.h hd] at hls; cases hls
          simp (disch := first | omega | (simp only [Zv, Zw, Zx, Zy, Zz]; omega)) only [↓SA, Vi, Vj, Vk, Vl, Vm, Ya, Yb, Vn, Vo, Vp, Vq, Vr, Vs, Vt, Vu, Vv, Vw, Vx, Vy, Yc, Vz, VA, VB, VC, VD, VE, VF, VG, VH, VI, VJ, VK, VL, VM, VN, VO, VP, VQ, VR, VS, VT, VU, VV, VW, VX, VY, VZ, V0, V1, V2, V3, V4, V5, V9, Ga, Gp, Gq, GF, GG, GH, GI, GJ, GK, GL, GM, GN, GO, Yd, Ye, Yf, Yg, GP, GQ, GR, GS, GT, GU, GV, GW, GX, GY, GZ, G0, G1, G2, G3, G4, G5, G6, G7, G8, G9, Za, Zb, Zc, Zd, Ze, Zf, Zg, Zh, Zi, Zj, Zk, Zl, Zm, Zn, Zo, Yh, Yi, Yj, Yk, Yl, Ym, Yn, Yo, Yp, Yq, Yr, ↓reduceIte, Ys, Yu, Yv, Yw, Yx, Yy, Yz, YA, Nat.reduceAdd, Nat.reduceEqDiff, Nat.reduceMul, YB, YC, reduceCtorEq, YD, YE, YF, YG, YH, YI, YJ, YK, YL, Nat.reduceLeDiff, Nat.reduceSub, Zr, Zs, YM, YN, YO, YP, Int.reduceLE, Int.reduceLT, Int.reduceEq, Int.reduceAdd, Int.reduceSub, Int.reduceMul, Int.reduceToNat, Int.reduceNeg, YQ, Nat.reduceLT, YR, YS, Zt, Zu, hil', hbY, rkL_2]
          refine wpC_plan _ _ _ _ (Le.refl _) ?_
          simp (disch := first | omega | (simp only [Zv, Zw, Zx, Zy, Zz]; omega)) only [↓SA, Vi, Vj, Vk, Vl, Vm, Ya, Yb, Vn, Vo, Vp, Vq, Vr, Vs, Vt, Vu, Vv, Vw, Vx, Vy, Yc, Vz, VA, VB, VC, VD, VE, VF, VG, VH, VI, VJ, VK, VL, VM, VN, VO, VP, VQ, VR, VS, VT, VU, VV, VW, VX, VY, VZ, V0, V1, V2, V3, V4, V5, V9, Ga, Gp, Gq, GF, GG, GH, GI, GJ, GK, GL, GM, GN, GO, Yd, Ye, Yf, Yg, GP, GQ, GR, GS, GT, GU, GV, GW, GX, GY, GZ, G0, G1, G2, G3, G4, G5, G6, G7, G8, G9, Za, Zb, Zc, Zd, Ze, Zf, Zg, Zh, Zi, Zj, Zk, Zl, Zm, Zn, Zo, Yh, Yi, Yj, Yk, Yl, Ym, Yn, Yo, Yp, Yq, Yr, ↓reduceIte, Ys, Yu, Yv, Yw, Yx, Yy, Yz, YA, Nat.reduceAdd, Nat.reduceEqDiff, Nat.reduceMul, YB, YC, reduceCtorEq, YD, YE, YF, YG, YH, YI, YJ, YK, YL, Nat.reduceLeDiff, Nat.reduceSub, Zr, Zs, YM, YN, YO, YP, Int.reduceLE, Int.reduceLT, Int.reduceEq, Int.reduceAdd, Int.reduceSub, Int.reduceMul, Int.reduceToNat, Int.reduceNeg, YQ, Nat.reduceLT, YR, YS, Zt, Zu, hbY, rkL_2, hnY, hlbY, hdc, KC.cells_len, KC.take9, YQ]
          refine DoesK.by (r_ahead c d) ?_
          rw [hls]
          rintro _ X2 ⟨rfl, hX2⟩; subst X2
          simp (disch := first | omega | (simp only [Zv, Zw, Zx, Zy, Zz]; omega)) only [↓SA, Vi, Vj, Vk, Vl, Vm, Ya, Yb, Vn, Vo, Vp, Vq, Vr, Vs, Vt, Vu, Vv, Vw, Vx, Vy, Yc, Vz, VA, VB, VC, VD, VE, VF, VG, VH, VI, VJ, VK, VL, VM, VN, VO, VP, VQ, VR, VS, VT, VU, VV, VW, VX, VY, VZ, V0, V1, V2, V3, V4, V5, V9, Ga, Gp, Gq, GF, GG, GH, GI, GJ, GK, GL, GM, GN, GO, Yd, Ye, Yf, Yg, GP, GQ, GR, GS, GT, GU, GV, GW, GX, GY, GZ, G0, G1, G2, G3, G4, G5, G6, G7, G8, G9, Za, Zb, Zc, Zd, Ze, Zf, Zg, Zh, Zi, Zj, Zk, Zl, Zm, Zn, Zo, Yh, Yi, Yj, Yk, Yl, Ym, Yn, Yo, Yp, Yq, Yr, ↓reduceIte, Ys, Yu, Yv, Yw, Yx, Yy, Yz, YA, Nat.reduceAdd, Nat.reduceEqDiff, Nat.reduceMul, YB, YC, reduceCtorEq, YD, YE, YF, YG, YH, YI, YJ, YK, YL, Nat.reduceLeDiff, Nat.reduceSub, Zr, Zs, YM, YN, YO, YP, Int.reduceLE, Int.reduceLT, Int.reduceEq, Int.reduceAdd, Int.reduceSub, Int.reduceMul, Int.reduceToNat, Int.reduceNeg, YQ, Nat.reduceLT, YR, YS, Zt, Zu, hbY, rkL_2, hlbY, hdc, KC.cells_len, KC.take9, rep1, hsr, YQ]
          refine AllN_intro (fun n2 hn2 => ?_)
          simp (disch := first | omega | (simp only [Zv, Zw, Zx, Zy, Zz]; omega)) only [↓SA, Vi, Vj, Vk, Vl, Vm, Ya, Yb, Vn, Vo, Vp, Vq, Vr, Vs, Vt, Vu, Vv, Vw, Vx, Vy, Yc, Vz, VA, VB, VC, VD, VE, VF, VG, VH, VI, VJ, VK, VL, VM, VN, VO, VP, VQ, VR, VS, VT, VU, VV, VW, VX, VY, VZ, V0, V1, V2, V3, V4, V5, V9, Ga, Gp, Gq, GF, GG, GH, GI, GJ, GK, GL, GM, GN, GO, Yd, Ye, Yf, Yg, GP, GQ, GR, GS, GT, GU, GV, GW, GX, GY, GZ, G0, G1, G2, G3, G4, G5, G6, G7, G8, G9, Za, Zb, Zc, Zd, Ze, Zf, Zg, Zh, Zi, Zj, Zk, Zl, Zm, Zn, Zo, Yh, Yi, Yj, Yk, Yl, Ym, Yn, Yo, Yp, Yq, Yr, ↓reduceIte, Ys, Yu, Yv, Yw, Yx, Yy, Yz, YA, Nat.reduceAdd, Nat.reduceEqDiff, Nat.reduceMul, YB, YC, reduceCtorEq, YD, YE, YF, YG, YH, YI, YJ, YK, YL, Nat.reduceLeDiff, Nat.reduceSub, Zr, Zs, YM, YN, YO, YP, Int.reduceLE, Int.reduceLT, Int.reduceEq, Int.reduceAdd, Int.reduceSub, Int.reduceMul, Int.reduceToNat, Int.reduceNeg, YQ, Nat.reduceLT, YR, YS, Zt, Zu]
          refine ApndK.by (hY.apnd (d := d) (hdp.le hXY) hn2 (by rw [hks, List.length_take]; omega) (fun v' Y' hY' => ?_))
          simp (disch := first | omega | (simp only [Zv, Zw, Zx, Zy, Zz]; omega)) only [↓SA, Vi, Vj, Vk, Vl, Vm, Ya, Yb, Vn, Vo, Vp, Vq, Vr, Vs, Vt, Vu, Vv, Vw, Vx, Vy, Yc, Vz, VA, VB, VC, VD, VE, VF, VG, VH, VI, VJ, VK, VL, VM, VN, VO, VP, VQ, VR, VS, VT, VU, VV, VW, VX, VY, VZ, V0, V1, V2, V3, V4, V5, V9, Ga, Gp, Gq, GF, GG, GH, GI, GJ, GK, GL, GM, GN, GO, Yd, Ye, Yf, Yg, GP, GQ, GR, GS, GT, GU, GV, GW, GX, GY, GZ, G0, G1, G2, G3, G4, G5, G6, G7, G8, G9, Za, Zb, Zc, Zd, Ze, Zf, Zg, Zh, Zi, Zj, Zk, Zl, Zm, Zn, Zo, Yh, Yi, Yj, Yk, Yl, Ym, Yn, Yo, Yp, Yq, Yr, ↓reduceIte, Ys, Yu, Yv, Yw, Yx, Yy, Yz, YA, Nat.reduceAdd, Nat.reduceEqDiff, Nat.reduceMul, YB, YC, reduceCtorEq, YD, YE, YF, YG, YH, YI, YJ, YK, YL, Nat.reduceLeDiff, Nat.reduceSub, Zr, Zs, YM, YN, YO, YP, Int.reduceLE, Int.reduceLT, Int.reduceEq, Int.reduceAdd, Int.reduceSub, Int.reduceMul, Int.reduceToNat, Int.reduceNeg, YQ, Nat.reduceLT, YR, YS, Zt, Zu]
          exact ⟨(i + 1, Y', v', _, false), rfl, Le.refl _, ⟨by show i + 1 ≤ _; omega, hY', .inl ⟨rfl, by rw [hks]; show _ = cs.take (i + 1); rw [List.take_add_one, hd]; rfl, hrp1⟩⟩, by show cs.length - (i + 1) < cs.length - i; omega⟩
        · have hrp1 : rpos c.h cs = i := by
            refine Nat.le_antisymm (Nat.le_of_not_lt fun e9 => ?_) hrp
            rw [rpos_below c.h e9 hd] at hls; cases hls
          simp (disch := first | omega | (simp only [Zv, Zw, Zx, Zy, Zz]; omega)) only [↓SA, Vi, Vj, Vk, Vl, Vm, Ya, Yb, Vn, Vo, Vp, Vq, Vr, Vs, Vt, Vu, Vv, Vw, Vx, Vy, Yc, Vz, VA, VB, VC, VD, VE, VF, VG, VH, VI, VJ, VK, VL, VM, VN, VO, VP, VQ, VR, VS, VT, VU, VV, VW, VX, VY, VZ, V0, V1, V2, V3, V4, V5, V9, Ga, Gp, Gq, GF, GG, GH, GI, GJ, GK, GL, GM, GN, GO, Yd, Ye, Yf, Yg, GP, GQ, GR, GS, GT, GU, GV, GW, GX, GY, GZ, G0, G1, G2, G3, G4, G5, G6, G7, G8, G9, Za, Zb, Zc, Zd, Ze, Zf, Zg, Zh, Zi, Zj, Zk, Zl, Zm, Zn, Zo, Yh, Yi, Yj, Yk, Yl, Ym, Yn, Yo, Yp, Yq, Yr, ↓reduceIte, Ys, Yu, Yv, Yw, Yx, Yy, Yz, YA, Nat.reduceAdd, Nat.reduceEqDiff, Nat.reduceMul, YB, YC, reduceCtorEq, YD, YE, YF, YG, YH, YI, YJ, YK, YL, Nat.reduceLeDiff, Nat.reduceSub, Zr, Zs, YM, YN, YO, YP, Int.reduceLE, Int.reduceLT, Int.reduceEq, Int.reduceAdd, Int.reduceSub, Int.reduceMul, Int.reduceToNat, Int.reduceNeg, YQ, Nat.reduceLT, YR, YS, Zt, Zu, hil', hbY, rkL_2]
          refine wpC_plan _ _ _ _ (Le.refl _) ?_
          simp (disch := first | omega | (simp only [Zv, Zw, Zx, Zy, Zz]; omega)) only [↓SA, Vi, Vj, Vk, Vl, Vm, Ya, Yb, Vn, Vo, Vp, Vq, Vr, Vs, Vt, Vu, Vv, Vw, Vx, Vy, Yc, Vz, VA, VB, VC, VD, VE, VF, VG, VH, VI, VJ, VK, VL, VM, VN, VO, VP, VQ, VR, VS, VT, VU, VV, VW, VX, VY, VZ, V0, V1, V2, V3, V4, V5, V9, Ga, Gp, Gq, GF, GG, GH, GI, GJ, GK, GL, GM, GN, GO, Yd, Ye, Yf, Yg, GP, GQ, GR, GS, GT, GU, GV, GW, GX, GY, GZ, G0, G1, G2, G3, G4, G5, G6, G7, G8, G9, Za, Zb, Zc, Zd, Ze, Zf, Zg, Zh, Zi, Zj, Zk, Zl, Zm, Zn, Zo, Yh, Yi, Yj, Yk, Yl, Ym, Yn, Yo, Yp, Yq, Yr, ↓reduceIte, Ys, Yu, Yv, Yw, Yx, Yy, Yz, YA, Nat.reduceAdd, Nat.reduceEqDiff, Nat.reduceMul, YB, YC, reduceCtorEq, YD, YE, YF, YG, YH, YI, YJ, YK, YL, Nat.reduceLeDiff, Nat.reduceSub, Zr, Zs, YM, YN, YO, YP, Int.reduceLE, Int.reduceLT, Int.reduceEq, Int.reduceAdd, Int.reduceSub, Int.reduceMul, Int.reduceToNat, Int.reduceNeg, YQ, Nat.reduceLT, YR, YS, Zt, Zu, hbY, rkL_2, hnY, hlbY, hdc, KC.cells_len, KC.take9, YQ]
          refine DoesK.by (r_ahead c d) ?_
          rw [hls]
          rintro _ X2 ⟨rfl, hX2⟩; subst X2
          simp (disch := first | omega | (simp only [Zv, Zw, Zx, Zy, Zz]; omega)) only [↓SA, Vi, Vj, Vk, Vl, Vm, Ya, Yb, Vn, Vo, Vp, Vq, Vr, Vs, Vt, Vu, Vv, Vw, Vx, Vy, Yc, Vz, VA, VB, VC, VD, VE, VF, VG, VH, VI, VJ, VK, VL, VM, VN, VO, VP, VQ, VR, VS, VT, VU, VV, VW, VX, VY, VZ, V0, V1, V2, V3, V4, V5, V9, Ga, Gp, Gq, GF, GG, GH, GI, GJ, GK, GL, GM, GN, GO, Yd, Ye, Yf, Yg, GP, GQ, GR, GS, GT, GU, GV, GW, GX, GY, GZ, G0, G1, G2, G3, G4, G5, G6, G7, G8, G9, Za, Zb, Zc, Zd, Ze, Zf, Zg, Zh, Zi, Zj, Zk, Zl, Zm, Zn, Zo, Yh, Yi, Yj, Yk, Yl, Ym, Yn, Yo, Yp, Yq, Yr, ↓reduceIte, Ys, Yu, Yv, Yw, Yx, Yy, Yz, YA, Nat.reduceAdd, Nat.reduceEqDiff, Nat.reduceMul, YB, YC, reduceCtorEq, YD, YE, YF, YG, YH, YI, YJ, YK, YL, Nat.reduceLeDiff, Nat.reduceSub, Zr, Zs, YM, YN, YO, YP, Int.reduceLE, Int.reduceLT, Int.reduceEq, Int.reduceAdd, Int.reduceSub, Int.reduceMul, Int.reduceToNat, Int.reduceNeg, YQ, Nat.reduceLT, YR, YS, Zt, Zu, hnY, KC.cells_len, KC.take9]
          refine DoesK.by (r_copy c (hp.le hXY) hps4) ?_
          rintro _ Y2 ⟨po', pc', rfl, hpe, hYle, hfr⟩
          have hY2 : LBuilt (X.new n ⟨c.cells, 9, 51, true⟩) Y2 v ks := ⟨hY.le.trans hYle, hY.v.imp id (fun ⟨g, cap, h1, h2, h3, h4⟩ => ⟨g, cap, h1, h2, hYle.blk g _ h3, h4⟩), fun d hd => (hY.ps d hd).le hYle⟩
          simp (disch := first | omega | (simp only [Zv, Zw, Zx, Zy, Zz]; omega)) only [↓SA, Vi, Vj, Vk, Vl, Vm, Ya, Yb, Vn, Vo, Vp, Vq, Vr, Vs, Vt, Vu, Vv, Vw, Vx, Vy, Yc, Vz, VA, VB, VC, VD, VE, VF, VG, VH, VI, VJ, VK, VL, VM, VN, VO, VP, VQ, VR, VS, VT, VU, VV, VW, VX, VY, VZ, V0, V1, V2, V3, V4, V5, V9, Ga, Gp, Gq, GF, GG, GH, GI, GJ, GK, GL, GM, GN, GO, Yd, Ye, Yf, Yg, GP, GQ, GR, GS, GT, GU, GV, GW, GX, GY, GZ, G0, G1, G2, G3, G4, G5, G6, G7, G8, G9, Za, Zb, Zc, Zd, Ze, Zf, Zg, Zh, Zi, Zj, Zk, Zl, Zm, Zn, Zo, Yh, Yi, Yj, Yk, Yl, Ym, Yn, Yo, Yp, Yq, Yr, ↓reduceIte, Ys, Yu, Yv, Yw, Yx, Yy, Yz, YA, Nat.reduceAdd, Nat.reduceEqDiff, Nat.reduceMul, YB, YC, reduceCtorEq, YD, YE, YF, YG, YH, YI, YJ, YK, YL, Nat.reduceLeDiff, Nat.reduceSub, Zr, Zs, YM, YN, YO, YP, Int.reduceLE, Int.reduceLT, Int.reduceEq, Int.reduceAdd, Int.reduceSub, Int.reduceMul, Int.reduceToNat, Int.reduceNeg, YQ, Nat.reduceLT, YR, YS, Zt, Zu, hsrn, rep1, KC.cells_len]
          refine AllN_intro (fun n2 hn2 => ?_)
          simp (disch := first | omega | (simp only [Zv, Zw, Zx, Zy, Zz]; omega)) only [↓SA, Vi, Vj, Vk, Vl, Vm, Ya, Yb, Vn, Vo, Vp, Vq, Vr, Vs, Vt, Vu, Vv, Vw, Vx, Vy, Yc, Vz, VA, VB, VC, VD, VE, VF, VG, VH, VI, VJ, VK, VL, VM, VN, VO, VP, VQ, VR, VS, VT, VU, VV, VW, VX, VY, VZ, V0, V1, V2, V3, V4, V5, V9, Ga, Gp, Gq, GF, GG, GH, GI, GJ, GK, GL, GM, GN, GO, Yd, Ye, Yf, Yg, GP, GQ, GR, GS, GT, GU, GV, GW, GX, GY, GZ, G0, G1, G2, G3, G4, G5, G6, G7, G8, G9, Za, Zb, Zc, Zd, Ze, Zf, Zg, Zh, Zi, Zj, Zk, Zl, Zm, Zn, Zo, Yh, Yi, Yj, Yk, Yl, Ym, Yn, Yo, Yp, Yq, Yr, ↓reduceIte, Ys, Yu, Yv, Yw, Yx, Yy, Yz, YA, Nat.reduceAdd, Nat.reduceEqDiff, Nat.reduceMul, YB, YC, reduceCtorEq, YD, YE, YF, YG, YH, YI, YJ, YK, YL, Nat.reduceLeDiff, Nat.reduceSub, Zr, Zs, YM, YN, YO, YP, Int.reduceLE, Int.reduceLT, Int.reduceEq, Int.reduceAdd, Int.reduceSub, Int.reduceMul, Int.reduceToNat, Int.reduceNeg, YQ, Nat.reduceLT, YR, YS, Zt, Zu]
          refine ApndK.by (hY2.apnd (d := ⟨c.h, po', pc', c.ps⟩) hpe hn2 (by rw [hks, List.length_take]; omega) (fun v' Y' hY' => ?_))
          have hXY' : Le X Y' := (Le.new (Le.refl _) hn).trans hY'.le
          have hbY' := hXY'.blk b _ hb
          have hlbY' := hXY'.blk lb _ hlb
          simp (disch := first | omega | (simp only [Zv, Zw, Zx, Zy, Zz]; omega)) only [↓SA, Vi, Vj, Vk, Vl, Vm, Ya, Yb, Vn, Vo, Vp, Vq, Vr, Vs, Vt, Vu, Vv, Vw, Vx, Vy, Yc, Vz, VA, VB, VC, VD, VE, VF, VG, VH, VI, VJ, VK, VL, VM, VN, VO, VP, VQ, VR, VS, VT, VU, VV, VW, VX, VY, VZ, V0, V1, V2, V3, V4, V5, V9, Ga, Gp, Gq, GF, GG, GH, GI, GJ, GK, GL, GM, GN, GO, Yd, Ye, Yf, Yg, GP, GQ, GR, GS, GT, GU, GV, GW, GX, GY, GZ, G0, G1, G2, G3, G4, G5, G6, G7, G8, G9, Za, Zb, Zc, Zd, Ze, Zf, Zg, Zh, Zi, Zj, Zk, Zl, Zm, Zn, Zo, Yh, Yi, Yj, Yk, Yl, Ym, Yn, Yo, Yp, Yq, Yr, ↓reduceIte, Ys, Yu, Yv, Yw, Yx, Yy, Yz, YA, Nat.reduceAdd, Nat.reduceEqDiff, Nat.reduceMul, YB, YC, reduceCtorEq, YD, YE, YF, YG, YH, YI, YJ, YK, YL, Nat.reduceLeDiff, Nat.reduceSub, Zr, Zs, YM, YN, YO, YP, Int.reduceLE, Int.reduceLT, Int.reduceEq, Int.reduceAdd, Int.reduceSub, Int.reduceMul, Int.reduceToNat, Int.reduceNeg, YQ, Nat.reduceLT, YR, YS, Zt, Zu, hbY', rkL_2, hlbY', hdc, KC.cells_len, KC.take9, rep1, hsr, YQ]
          refine AllN_intro (fun n3 hn3 => ?_)
          simp (disch := first | omega | (simp only [Zv, Zw, Zx, Zy, Zz]; omega)) only [↓SA, Vi, Vj, Vk, Vl, Vm, Ya, Yb, Vn, Vo, Vp, Vq, Vr, Vs, Vt, Vu, Vv, Vw, Vx, Vy, Yc, Vz, VA, VB, VC, VD, VE, VF, VG, VH, VI, VJ, VK, VL, VM, VN, VO, VP, VQ, VR, VS, VT, VU, VV, VW, VX, VY, VZ, V0, V1, V2, V3, V4, V5, V9, Ga, Gp, Gq, GF, GG, GH, GI, GJ, GK, GL, GM, GN, GO, Yd, Ye, Yf, Yg, GP, GQ, GR, GS, GT, GU, GV, GW, GX, GY, GZ, G0, G1, G2, G3, G4, G5, G6, G7, G8, G9, Za, Zb, Zc, Zd, Ze, Zf, Zg, Zh, Zi, Zj, Zk, Zl, Zm, Zn, Zo, Yh, Yi, Yj, Yk, Yl, Ym, Yn, Yo, Yp, Yq, Yr, ↓reduceIte, Ys, Yu, Yv, Yw, Yx, Yy, Yz, YA, Nat.reduceAdd, Nat.reduceEqDiff, Nat.reduceMul, YB, YC, reduceCtorEq, YD, YE, YF, YG, YH, YI, YJ, YK, YL, Nat.reduceLeDiff, Nat.reduceSub, Zr, Zs, YM, YN, YO, YP, Int.reduceLE, Int.reduceLT, Int.reduceEq, Int.reduceAdd, Int.reduceSub, Int.reduceMul, Int.reduceToNat, Int.reduceNeg, YQ, Nat.reduceLT, YR, YS, Zt, Zu]
          refine ApndK.by (hY'.apnd (d := d) (hdp.le hXY') hn3 (by rw [hks, List.length_append, List.length_take]; simp; omega) (fun v3 Y3 hY3 => ?_))
          simp (disch := first | omega | (simp only [Zv, Zw, Zx, Zy, Zz]; omega)) only [↓SA, Vi, Vj, Vk, Vl, Vm, Ya, Yb, Vn, Vo, Vp, Vq, Vr, Vs, Vt, Vu, Vv, Vw, Vx, Vy, Yc, Vz, VA, VB, VC, VD, VE, VF, VG, VH, VI, VJ, VK, VL, VM, VN, VO, VP, VQ, VR, VS, VT, VU, VV, VW, VX, VY, VZ, V0, V1, V2, V3, V4, V5, V9, Ga, Gp, Gq, GF, GG, GH, GI, GJ, GK, GL, GM, GN, GO, Yd, Ye, Yf, Yg, GP, GQ, GR, GS, GT, GU, GV, GW, GX, GY, GZ, G0, G1, G2, G3, G4, G5, G6, G7, G8, G9, Za, Zb, Zc, Zd, Ze, Zf, Zg, Zh, Zi, Zj, Zk, Zl, Zm, Zn, Zo, Yh, Yi, Yj, Yk, Yl, Ym, Yn, Yo, Yp, Yq, Yr, ↓reduceIte, Ys, Yu, Yv, Yw, Yx, Yy, Yz, YA, Nat.reduceAdd, Nat.reduceEqDiff, Nat.reduceMul, YB, YC, reduceCtorEq, YD, YE, YF, YG, YH, YI, YJ, YK, YL, Nat.reduceLeDiff, Nat.reduceSub, Zr, Zs, YM, YN, YO, YP, Int.reduceLE, Int.reduceLT, Int.reduceEq, Int.reduceAdd, Int.reduceSub, Int.reduceMul, Int.reduceToNat, Int.reduceNeg, YQ, Nat.reduceLT, YR, YS, Zt, Zu]
          exact ⟨(i + 1, Y3, v3, _, true), rfl, Le.refl _, ⟨by show i + 1 ≤ _; omega, hY3, .inr ⟨rfl, by show _ < i + 1; omega, po', pc', by rw [hks]; exact rsofar_put hd hrp1⟩⟩, by show cs.length - (i + 1) < cs.length - i; omega⟩
      · simp (disch := first | omega | (simp only [Zv, Zw, Zx, Zy, Zz]; omega)) only [↓SA, Vi, Vj, Vk, Vl, Vm, Ya, Yb, Vn, Vo, Vp, Vq, Vr, Vs, Vt, Vu, Vv, Vw, Vx, Vy, Yc, Vz, VA, VB, VC, VD, VE, VF, VG, VH, VI, VJ, VK, VL, VM, VN, VO, VP, VQ, VR, VS, VT, VU, VV, VW, VX, VY, VZ, V0, V1, V2, V3, V4, V5, V9, Ga, Gp, Gq, GF, GG, GH, GI, GJ, GK, GL, GM, GN, GO, Yd, Ye, Yf, Yg, GP, GQ, GR, GS, GT, GU, GV, GW, GX, GY, GZ, G0, G1, G2, G3, G4, G5, G6, G7, G8, G9, Za, Zb, Zc, Zd, Ze, Zf, Zg, Zh, Zi, Zj, Zk, Zl, Zm, Zn, Zo, Yh, Yi, Yj, Yk, Yl, Ym, Yn, Yo, Yp, Yq, Yr, ↓reduceIte, Ys, Yu, Yv, Yw, Yx, Yy, Yz, YA, Nat.reduceAdd, Nat.reduceEqDiff, Nat.reduceMul, YB, YC, reduceCtorEq, YD, YE, YF, YG, YH, YI, YJ, YK, YL, Nat.reduceLeDiff, Nat.reduceSub, Zr, Zs, YM, YN, YO, YP, Int.reduceLE, Int.reduceLT, Int.reduceEq, Int.reduceAdd, Int.reduceSub, Int.reduceMul, Int.reduceToNat, Int.reduceNeg, YQ, Nat.reduceLT, YR, YS, Zt, Zu, hil', hbY, rkL_2]
        refine wpC_plan _ _ _ _ (Le.refl _) ?_
        have hkl := rsofar_len (c := ⟨c.h, po', pc', c.ps⟩) hi
        simp (disch := first | omega | (simp only [Zv, Zw, Zx, Zy, Zz]; omega)) only [↓SA, Vi, Vj, Vk, Vl, Vm, Ya, Yb, Vn, Vo, Vp, Vq, Vr, Vs, Vt, Vu, Vv, Vw, Vx, Vy, Yc, Vz, VA, VB, VC, VD, VE, VF, VG, VH, VI, VJ, VK, VL, VM, VN, VO, VP, VQ, VR, VS, VT, VU, VV, VW, VX, VY, VZ, V0, V1, V2, V3, V4, V5, V9, Ga, Gp, Gq, GF, GG, GH, GI, GJ, GK, GL, GM, GN, GO, Yd, Ye, Yf, Yg, GP, GQ, GR, GS, GT, GU, GV, GW, GX, GY, GZ, G0, G1, G2, G3, G4, G5, G6, G7, G8, G9, Za, Zb, Zc, Zd, Ze, Zf, Zg, Zh, Zi, Zj, Zk, Zl, Zm, Zn, Zo, Yh, Yi, Yj, Yk, Yl, Ym, Yn, Yo, Yp, Yq, Yr, ↓reduceIte, Ys, Yu, Yv, Yw, Yx, Yy, Yz, YA, Nat.reduceAdd, Nat.reduceEqDiff, Nat.reduceMul, YB, YC, reduceCtorEq, YD, YE, YF, YG, YH, YI, YJ, YK, YL, Nat.reduceLeDiff, Nat.reduceSub, Zr, Zs, YM, YN, YO, YP, Int.reduceLE, Int.reduceLT, Int.reduceEq, Int.reduceAdd, Int.reduceSub, Int.reduceMul, Int.reduceToNat, Int.reduceNeg, YQ, Nat.reduceLT, YR, YS, Zt, Zu, hbY, rkL_2, hlbY, hdc, KC.cells_len, KC.take9, rep1, hsr, YQ]
        refine AllN_intro (fun n2 hn2 => ?_)
        simp (disch := first | omega | (simp only [Zv, Zw, Zx, Zy, Zz]; omega)) only [↓SA, Vi, Vj, Vk, Vl, Vm, Ya, Yb, Vn, Vo, Vp, Vq, Vr, Vs, Vt, Vu, Vv, Vw, Vx, Vy, Yc, Vz, VA, VB, VC, VD, VE, VF, VG, VH, VI, VJ, VK, VL, VM, VN, VO, VP, VQ, VR, VS, VT, VU, VV, VW, VX, VY, VZ, V0, V1, V2, V3, V4, V5, V9, Ga, Gp, Gq, GF, GG, GH, GI, GJ, GK, GL, GM, GN, GO, Yd, Ye, Yf, Yg, GP, GQ, GR, GS, GT, GU, GV, GW, GX, GY, GZ, G0, G1, G2, G3, G4, G5, G6, G7, G8, G9, Za, Zb, Zc, Zd, Ze, Zf, Zg, Zh, Zi, Zj, Zk, Zl, Zm, Zn, Zo, Yh, Yi, Yj, Yk, Yl, Ym, Yn, Yo, Yp, Yq, Yr, ↓reduceIte, Ys, Yu, Yv, Yw, Yx, Yy, Yz, YA, Nat.reduceAdd, Nat.reduceEqDiff, Nat.reduceMul, YB, YC, reduceCtorEq, YD, YE, YF, YG, YH, YI, YJ, YK, YL, Nat.reduceLeDiff, Nat.reduceSub, Zr, Zs, YM, YN, YO, YP, Int.reduceLE, Int.reduceLT, Int.reduceEq, Int.reduceAdd, Int.reduceSub, Int.reduceMul, Int.reduceToNat, Int.reduceNeg, YQ, Nat.reduceLT, YR, YS, Zt, Zu]
        refine ApndK.by (hY.apnd (d := d) (hdp.le hXY) hn2 (by rw [hks]; omega) (fun v' Y' hY' => ?_))
        simp (disch := first | omega | (simp only [Zv, Zw, Zx, Zy, Zz]; omega)) only [↓SA, Vi, Vj, Vk, Vl, Vm, Ya, Yb, Vn, Vo, Vp, Vq, Vr, Vs, Vt, Vu, Vv, Vw, Vx, Vy, Yc, Vz, VA, VB, VC, VD, VE, VF, VG, VH, VI, VJ, VK, VL, VM, VN, VO, VP, VQ, VR, VS, VT, VU, VV, VW, VX, VY, VZ, V0, V1, V2, V3, V4, V5, V9, Ga, Gp, Gq, GF, GG, GH, GI, GJ, GK, GL, GM, GN, GO, Yd, Ye, Yf, Yg, GP, GQ, GR, GS, GT, GU, GV, GW, GX, GY, GZ, G0, G1, G2, G3, G4, G5, G6, G7, G8, G9, Za, Zb, Zc, Zd, Ze, Zf, Zg, Zh, Zi, Zj, Zk, Zl, Zm, Zn, Zo, Yh, Yi, Yj, Yk, Yl, Ym, Yn, Yo, Yp, Yq, Yr, ↓reduceIte, Ys, Yu, Yv, Yw, Yx, Yy, Yz, YA, Nat.reduceAdd, Nat.reduceEqDiff, Nat.reduceMul, YB, YC, reduceCtorEq, YD, YE, YF, YG, YH, YI, YJ, YK, YL, Nat.reduceLeDiff, Nat.reduceSub, Zr, Zs, YM, YN, YO, YP, Int.reduceLE, Int.reduceLT, Int.reduceEq, Int.reduceAdd, Int.reduceSub, Int.reduceMul, Int.reduceToNat, Int.reduceNeg, YQ, Nat.reduceLT, YR, YS, Zt, Zu]
        exact ⟨(i + 1, Y', v', _, true), rfl, Le.refl _, ⟨by show i + 1 ≤ _; omega, hY', .inr ⟨rfl, by show _ < i + 1; omega, po', pc', by rw [hks]; exact rsofar_go hd (by show rpos c.h cs ≤ i; omega)⟩⟩, by show cs.length - (i + 1) < cs.length - i; omega⟩
    · have hil' : decide ((i : Int) < cs.length) = false := decide_eq_false (by omega)
      have hie : i = cs.length := by omega
      subst hie
      have fin : ∀ Y v po' pc', LBuilt (X.new n ⟨c.cells, 9, 51, true⟩) Y v (rins ⟨c.h, po', pc', c.ps⟩ cs) → ∃ g cap', v = .slice (some ⟨g, 0, none⟩) (rins ⟨c.h, po', pc', c.ps⟩ cs).length cap' ∧
          Rk (Y.set b ⟨rkL false (some ⟨g, 0, none⟩) (rins ⟨c.h, po', pc', c.ps⟩ cs).length cap' ns ms, 32, TR, true⟩) b false (rins ⟨c.h, po', pc', c.ps⟩ cs) ns ms ∧ Keep b X (Y.set b ⟨rkL false (some ⟨g, 0, none⟩) (rins ⟨c.h, po', pc', c.ps⟩ cs).length cap' ns ms, 32, TR, true⟩) := by
        intro Y v po' pc' h
        rcases h.v with ⟨h0, -⟩ | ⟨g, cap', hv, hcap, hg, hgX⟩
        · have := congrArg List.length h0
          rw [rins_len] at this; cases this
        · have hgX' : X.next ≤ g := by simp only [Zv] at hgX; omega
          exact ⟨g, cap', hv, r_fin (c := ⟨c.h, po', pc', c.ps⟩) hR ⟨hU.su, hU.ki, hU.co, hU.po, hU.he, hU.tr, hU.nm, hU.ps, hU.ln⟩ hps4 h64 hn h.le hg hgX' h.ps⟩
      rcases hput with ⟨rfl, hks, hrp⟩ | ⟨rfl, hrp, po', pc', hks⟩
      · rw [List.take_length] at hks
        simp (disch := first | omega | (simp only [Zv, Zw, Zx, Zy, Zz]; omega)) only [↓SA, Vi, Vj, Vk, Vl, Vm, Ya, Yb, Vn, Vo, Vp, Vq, Vr, Vs, Vt, Vu, Vv, Vw, Vx, Vy, Yc, Vz, VA, VB, VC, VD, VE, VF, VG, VH, VI, VJ, VK, VL, VM, VN, VO, VP, VQ, VR, VS, VT, VU, VV, VW, VX, VY, VZ, V0, V1, V2, V3, V4, V5, V9, Ga, Gp, Gq, GF, GG, GH, GI, GJ, GK, GL, GM, GN, GO, Yd, Ye, Yf, Yg, GP, GQ, GR, GS, GT, GU, GV, GW, GX, GY, GZ, G0, G1, G2, G3, G4, G5, G6, G7, G8, G9, Za, Zb, Zc, Zd, Ze, Zf, Zg, Zh, Zi, Zj, Zk, Zl, Zm, Zn, Zo, Yh, Yi, Yj, Yk, Yl, Ym, Yn, Yo, Yp, Yq, Yr, ↓reduceIte, Ys, Yu, Yv, Yw, Yx, Yy, Yz, YA, Nat.reduceAdd, Nat.reduceEqDiff, Nat.reduceMul, YB, YC, reduceCtorEq, YD, YE, YF, YG, YH, YI, YJ, YK, YL, Nat.reduceLeDiff, Nat.reduceSub, Zr, Zs, YM, YN, YO, YP, Int.reduceLE, Int.reduceLT, Int.reduceEq, Int.reduceAdd, Int.reduceSub, Int.reduceMul, Int.reduceToNat, Int.reduceNeg, YQ, Nat.reduceLT, YR, YS, Zt, Zu, hil', hbY, rkL_2, hnY, KC.cells_len, KC.take9]
        refine DoesK.by (r_copy c (hp.le hXY) hps4) ?_
        rintro _ Y2 ⟨po', pc', rfl, hpe, hYle, hfr⟩
        have hY2 : LBuilt (X.new n ⟨c.cells, 9, 51, true⟩) Y2 v ks := ⟨hY.le.trans hYle, hY.v.imp id (fun ⟨g, cap, h1, h2, h3, h4⟩ => ⟨g, cap, h1, h2, hYle.blk g _ h3, h4⟩), fun d hd => (hY.ps d hd).le hYle⟩
        simp (disch := first | omega | (simp only [Zv, Zw, Zx, Zy, Zz]; omega)) only [↓SA, Vi, Vj, Vk, Vl, Vm, Ya, Yb, Vn, Vo, Vp, Vq, Vr, Vs, Vt, Vu, Vv, Vw, Vx, Vy, Yc, Vz, VA, VB, VC, VD, VE, VF, VG, VH, VI, VJ, VK, VL, VM, VN, VO, VP, VQ, VR, VS, VT, VU, VV, VW, VX, VY, VZ, V0, V1, V2, V3, V4, V5, V9, Ga, Gp, Gq, GF, GG, GH, GI, GJ, GK, GL, GM, GN, GO, Yd, Ye, Yf, Yg, GP, GQ, GR, GS, GT, GU, GV, GW, GX, GY, GZ, G0, G1, G2, G3, G4, G5, G6, G7, G8, G9, Za, Zb, Zc, Zd, Ze, Zf, Zg, Zh, Zi, Zj, Zk, Zl, Zm, Zn, Zo, Yh, Yi, Yj, Yk, Yl, Ym, Yn, Yo, Yp, Yq, Yr, ↓reduceIte, Ys, Yu, Yv, Yw, Yx, Yy, Yz, YA, Nat.reduceAdd, Nat.reduceEqDiff, Nat.reduceMul, YB, YC, reduceCtorEq, YD, YE, YF, YG, YH, YI, YJ, YK, YL, Nat.reduceLeDiff, Nat.reduceSub, Zr, Zs, YM, YN, YO, YP, Int.reduceLE, Int.reduceLT, Int.reduceEq, Int.reduceAdd, Int.reduceSub, Int.reduceMul, Int.reduceToNat, Int.reduceNeg, YQ, Nat.reduceLT, YR, YS, Zt, Zu, hsrn, rep1, KC.cells_len]
        refine AllN_intro (fun n2 hn2 => ?_)
        simp (disch := first | omega | (simp only [Zv, Zw, Zx, Zy, Zz]; omega)) only [↓SA, Vi, Vj, Vk, Vl, Vm, Ya, Yb, Vn, Vo, Vp, Vq, Vr, Vs, Vt, Vu, Vv, Vw, Vx, Vy, Yc, Vz, VA, VB, VC, VD, VE, VF, VG, VH, VI, VJ, VK, VL, VM, VN, VO, VP, VQ, VR, VS, VT, VU, VV, VW, VX, VY, VZ, V0, V1, V2, V3, V4, V5, V9, Ga, Gp, Gq, GF, GG, GH, GI, GJ, GK, GL, GM, GN, GO, Yd, Ye, Yf, Yg, GP, GQ, GR, GS, GT, GU, GV, GW, GX, GY, GZ, G0, G1, G2, G3, G4, G5, G6, G7, G8, G9, Za, Zb, Zc, Zd, Ze, Zf, Zg, Zh, Zi, Zj, Zk, Zl, Zm, Zn, Zo, Yh, Yi, Yj, Yk, Yl, Ym, Yn, Yo, Yp, Yq, Yr, ↓reduceIte, Ys, Yu, Yv, Yw, Yx, Yy, Yz, YA, Nat.reduceAdd, Nat.reduceEqDiff, Nat.reduceMul, YB, YC, reduceCtorEq, YD, YE, YF, YG, YH, YI, YJ, YK, YL, Nat.reduceLeDiff, Nat.reduceSub, Zr, Zs, YM, YN, YO, YP, Int.reduceLE, Int.reduceLT, Int.reduceEq, Int.reduceAdd, Int.reduceSub, Int.reduceMul, Int.reduceToNat, Int.reduceNeg, YQ, Nat.reduceLT, YR, YS, Zt, Zu]
        refine ApndK.by (hY2.apnd (d := ⟨c.h, po', pc', c.ps⟩) hpe hn2 (by rw [hks]; omega) (fun v' Y' hY' => ?_))
        rw [hks, rins_end (c := ⟨c.h, po', pc', c.ps⟩) hrp] at hY'
        have hXY' : Le X Y' := (Le.new (Le.refl _) hn).trans hY'.le
        have hbY' := hXY'.blk b _ hb
        obtain ⟨g, cap', rfl, hf1, hf2⟩ := fin _ _ _ _ hY'
        simp (disch := first | omega | (simp only [Zv, Zw, Zx, Zy, Zz]; omega)) only [↓SA, Vi, Vj, Vk, Vl, Vm, Ya, Yb, Vn, Vo, Vp, Vq, Vr, Vs, Vt, Vu, Vv, Vw, Vx, Vy, Yc, Vz, VA, VB, VC, VD, VE, VF, VG, VH, VI, VJ, VK, VL, VM, VN, VO, VP, VQ, VR, VS, VT, VU, VV, VW, VX, VY, VZ, V0, V1, V2, V3, V4, V5, V9, Ga, Gp, Gq, GF, GG, GH, GI, GJ, GK, GL, GM, GN, GO, Yd, Ye, Yf, Yg, GP, GQ, GR, GS, GT, GU, GV, GW, GX, GY, GZ, G0, G1, G2, G3, G4, G5, G6, G7, G8, G9, Za, Zb, Zc, Zd, Ze, Zf, Zg, Zh, Zi, Zj, Zk, Zl, Zm, Zn, Zo, Yh, Yi, Yj, Yk, Yl, Ym, Yn, Yo, Yp, Yq, Yr, ↓reduceIte, Ys, Yu, Yv, Yw, Yx, Yy, Yz, YA, Nat.reduceAdd, Nat.reduceEqDiff, Nat.reduceMul, YB, YC, reduceCtorEq, YD, YE, YF, YG, YH, YI, YJ, YK, YL, Nat.reduceLeDiff, Nat.reduceSub, Zr, Zs, YM, YN, YO, YP, Int.reduceLE, Int.reduceLT, Int.reduceEq, Int.reduceAdd, Int.reduceSub, Int.reduceMul, Int.reduceToNat, Int.reduceNeg, YQ, Nat.reduceLT, YR, YS, Zt, Zu, hbY', rkL_l, hrl]
        exact ⟨_, Le.refl _, by rw [e], fun h0 => absurd e h0, fun _ => ⟨po', pc', hf1, hf2⟩⟩
      · rw [rsofar_end] at hks
        subst hks
        obtain ⟨g, cap', rfl, hf1, hf2⟩ := fin _ _ _ _ hY
        simp (disch := first | omega | (simp only [Zv, Zw, Zx, Zy, Zz]; omega)) only [↓SA, Vi, Vj, Vk, Vl, Vm, Ya, Yb, Vn, Vo, Vp, Vq, Vr, Vs, Vt, Vu, Vv, Vw, Vx, Vy, Yc, Vz, VA, VB, VC, VD, VE, VF, VG, VH, VI, VJ, VK, VL, VM, VN, VO, VP, VQ, VR, VS, VT, VU, VV, VW, VX, VY, VZ, V0, V1, V2, V3, V4, V5, V9, Ga, Gp, Gq, GF, GG, GH, GI, GJ, GK, GL, GM, GN, GO, Yd, Ye, Yf, Yg, GP, GQ, GR, GS, GT, GU, GV, GW, GX, GY, GZ, G0, G1, G2, G3, G4, G5, G6, G7, G8, G9, Za, Zb, Zc, Zd, Ze, Zf, Zg, Zh, Zi, Zj, Zk, Zl, Zm, Zn, Zo, Yh, Yi, Yj, Yk, Yl, Ym, Yn, Yo, Yp, Yq, Yr, ↓reduceIte, Ys, Yu, Yv, Yw, Yx, Yy, Yz, YA, Nat.reduceAdd, Nat.reduceEqDiff, Nat.reduceMul, YB, YC, reduceCtorEq, YD, YE, YF, YG, YH, YI, YJ, YK, YL, Nat.reduceLeDiff, Nat.reduceSub, Zr, Zs, YM, YN, YO, YP, Int.reduceLE, Int.reduceLT, Int.reduceEq, Int.reduceAdd, Int.reduceSub, Int.reduceMul, Int.reduceToNat, Int.reduceNeg, YQ, Nat.reduceLT, YR, YS, Zt, Zu, hil', hbY, rkL_2, rkL_l, hrl]
        exact ⟨_, Le.refl _, by rw [e], fun h0 => absurd e h0, fun _ => ⟨po', pc', hf1, hf2⟩⟩
  · refine Does.body numOK mixed k.f44 rfl k.o44 (Nat.le_of_ble_eq_true rfl) ?_
    simp (disch := first | omega | (simp only [Zv, Zw, Zx, Zy, Zz]; omega)) only [↓SA, Vi, Vj, Vk, Vl, Vm, Ya, Yb, Vn, Vo, Vp, Vq, Vr, Vs, Vt, Vu, Vv, Vw, Vx, Vy, Yc, Vz, VA, VB, VC, VD, VE, VF, VG, VH, VI, VJ, VK, VL, VM, VN, VO, VP, VQ, VR, VS, VT, VU, VV, VW, VX, VY, VZ, V0, V1, V2, V3, V4, V5, V9, Ga, Gp, Gq, GF, GG, GH, GI, GJ, GK, GL, GM, GN, GO, Yd, Ye, Yf, Yg, GP, GQ, GR, GS, GT, GU, GV, GW, GX, GY, GZ, G0, G1, G2, G3, G4, G5, G6, G7, G8, G9, Za, Zb, Zc, Zd, Ze, Zf, Zg, Zh, Zi, Zj, Zk, Zl, Zm, Zn, Zo, Yh, Yi, Yj, Yk, Yl, Ym, Yn, Yo, Yp, Yq, Yr, ↓reduceIte, Ys, Yu, Yv, Yw, Yx, Yy, Yz, YA, Nat.reduceAdd, Nat.reduceEqDiff, Nat.reduceMul, YB, YC, reduceCtorEq, YD, YE, YF, YG, YH, YI, YJ, YK, YL, Nat.reduceLeDiff, Nat.reduceSub, Zr, Zs, YM, YN, YO, YP, Int.reduceLE, Int.reduceLT, Int.reduceEq, Int.reduceAdd, Int.reduceSub, Int.reduceMul, Int.reduceToNat, Int.reduceNeg, YQ, Nat.reduceLT, YR, YS, Zt, Zu, hb, rkL_0, rkL_1, KC.cells_len]
    repeat' (first | (refine cnd_intro (fun h => ?_) (fun h => ?_) <;> (try simp only [decide_eq_true_eq, decide_eq_false_iff_not, Bool.not_eq_true', Bool.not_eq_false'] at h)) | (refine AllN_intro (fun n hn => ?_) <;> (try simp only [Zv, Zw, Zx, Zy, Zz] at hn)) | (refine DoesK.by (r_none (hR.mono (Le.new (Le.refl _) hn))) ?_; rintro _ X2 ⟨rfl, hX2⟩; subst X2) | (simp (disch := first | omega | (simp only [Zv, Zw, Zx, Zy, Zz]; omega)) only [↓SA, Vi, Vj, Vk, Vl, Vm, Ya, Yb, Vn, Vo, Vp, Vq, Vr, Vs, Vt, Vu, Vv, Vw, Vx, Vy, Yc, Vz, VA, VB, VC, VD, VE, VF, VG, VH, VI, VJ, VK, VL, VM, VN, VO, VP, VQ, VR, VS, VT, VU, VV, VW, VX, VY, VZ, V0, V1, V2, V3, V4, V5, V9, Ga, Gp, Gq, GF, GG, GH, GI, GJ, GK, GL, GM, GN, GO, Yd, Ye, Yf, Yg, GP, GQ, GR, GS, GT, GU, GV, GW, GX, GY, GZ, G0, G1, G2, G3, G4, G5, G6, G7, G8, G9, Za, Zb, Zc, Zd, Ze, Zf, Zg, Zh, Zi, Zj, Zk, Zl, Zm, Zn, Zo, Yh, Yi, Yj, Yk, Yl, Ym, Yn, Yo, Yp, Yq, Yr, ↓reduceIte, Ys, Yu, Yv, Yw, Yx, Yy, Yz, YA, Nat.reduceAdd, Nat.reduceEqDiff, Nat.reduceMul, YB, YC, reduceCtorEq, YD, YE, YF, YG, YH, YI, YJ, YK, YL, Nat.reduceLeDiff, Nat.reduceSub, Zr, Zs, YM, YN, YO, YP, Int.reduceLE, Int.reduceLT, Int.reduceEq, Int.reduceAdd, Int.reduceSub, Int.reduceMul, Int.reduceToNat, Int.reduceNeg, YQ, Nat.reduceLT, YR, YS, Zt, Zu, hb, rkL_0, rkL_1, *]))
    all_goals exact ⟨X, (by repeat' (first | exact Le.refl _ | (refine Le.new_of ?_ (by first | omega | (simp only [Zv, Zw, Zx, Zy, Zz] at *; omega))) | (refine Le.set_of ?_ (by first | omega | (simp only [Zv, Zw, Zx, Zy, Zz] at *; omega))))), rfl, fun _ => rfl, fun h0 => absurd h0 (show ¬ ((7 : Int) = 0) by decide)⟩
end Go.Proofs.YtdgbnaignpploaaDoor.bk
