/- book.Book: a mark is added. -/
import Derived.Test.YtdgbnaignpploaaDoorSy
import Derived.Test.YtdgbnaignpploaaDoorB4
namespace Go.Proofs.YtdgbnaignpploaaDoor.bk
open Go.Sym
set_option linter.unusedVariables false
set_option linter.unusedSimpArgs false
set_option maxRecDepth 100000
variable {Bar : Nat} {X : St}
theorem MK.single (c : MK) : ∀ v ∈ c.cells, single v = true := by
  intro v hv
  simp only [MK.cells, List.mem_cons, List.not_mem_nil, or_false] at hv
  rcases hv with rfl | rfl | rfl | rfl <;> rfl
theorem mflat_split {ms : List MK} {k : Nat} {m : MK} (h : ms[k]? = some m) : ms.flatMap MK.cells = (ms.take k).flatMap MK.cells ++ (m.cells ++ (ms.drop (k + 1)).flatMap MK.cells) ∧ ((ms.take k).flatMap MK.cells).length = k * 4 := by
  obtain ⟨hk, rfl⟩ := List.getElem?_eq_some_iff.1 h
  refine ⟨by rw [← List.flatMap_cons, ← List.flatMap_append, List.getElem_cons_drop, List.take_append_drop], ?_⟩
  rw [mflat_len, List.length_take]; omega
theorem mflat_at {ms : List MK} {k : Nat} {m : MK} (h : ms[k]? = some m) : ((ms.flatMap MK.cells).drop (k * 4)).take 4 = m.cells := by
  obtain ⟨h1, h2⟩ := mflat_split h
  rw [h1, ← h2, List.drop_left]
  exact List.take_left' rfl
theorem bk_split2 {s : Bool} {n : Nat} {sl : List KC} {ns : List ByteArray} (hl : sl.length = 64) (hn : ns.length = 9) (ms : List MK) : bkL s n sl (tlL ns ms) = (.bool true :: .bool s :: .int .i64 n :: (sl.flatMap KC.cells ++ ns.map .string)) ++ ms.flatMap MK.cells ∧ (Value.bool true :: .bool s :: .int .i64 n :: (sl.flatMap KC.cells ++ ns.map .string)).length = 588 := by
  refine ⟨by simp [bkL, tlL], ?_⟩
  simp only [List.length_cons, List.length_append, flat_len, List.length_map]; omega
theorem bk_mark {s : Bool} {n : Nat} {sl : List KC} {ns : List ByteArray} {ms : List MK} (hl : sl.length = 64) (hn : ns.length = 9) {k : Nat} {m : MK} (h : ms[k]? = some m) (d : Nat) (e : TypeId) (wr : Bool) : cellsOf (some ⟨bkL s n sl (tlL ns ms), d, e, wr⟩) (588 + k * 4) 4 = some m.cells := by
  obtain ⟨h4, h5⟩ := bk_split2 (s := s) (n := n) hl hn ms
  have hk := (List.getElem?_eq_some_iff.1 h).1
  rw [cellsOf_some (by show 588 + k * 4 + 4 ≤ (bkL s n sl (tlL ns ms)).length; rw [h4, List.length_append, h5, mflat_len]; omega)]
  show some (((bkL s n sl (tlL ns ms)).drop (588 + k * 4)).take 4) = _
  rw [h4, ← h5, ← List.drop_drop, List.drop_left, mflat_at h]
theorem bk_mark0 {s : Bool} {n : Nat} {sl : List KC} {ns : List ByteArray} {ms : List MK} (hl : sl.length = 64) (hn : ns.length = 9) {k : Nat} {m : MK} (h : ms[k]? = some m) : (bkL s n sl (tlL ns ms))[588 + k * 4]? = some (.int .u8 m.ma) := by
  obtain ⟨h4, h5⟩ := bk_split2 (s := s) (n := n) hl hn ms
  obtain ⟨h6, h7⟩ := mflat_split h
  rw [h4, List.getElem?_append_right (by omega), h5, Nat.add_sub_cancel_left, h6, List.getElem?_append_right (by omega), h7, Nat.sub_self]
  rfl
theorem bk_marks {s : Bool} {n : Nat} {sl : List KC} {ns : List ByteArray} {ms : List MK} (hl : sl.length = 64) (h1 : ns.length = 9) (h2 : ms.length = 5) (m : Nat) (e : TypeId) (wr : Bool) : cellsOf (some ⟨bkL s n sl (tlL ns ms), m, e, wr⟩) 588 20 = some (ms.flatMap MK.cells) := by
  obtain ⟨h4, h5⟩ := bk_split2 (s := s) (n := n) hl h1 ms
  rw [cellsOf_some (by show 588 + 20 ≤ (bkL s n sl (tlL ns ms)).length; rw [h4, List.length_append, h5, mflat_len]; omega)]
  show some (((bkL s n sl (tlL ns ms)).drop 588).take 20) = _
  rw [h4, ← h5, List.drop_left, List.take_of_length_le (by rw [mflat_len]; omega)]
theorem splice_mark {s : Bool} {n : Nat} {sl : List KC} {ns : List ByteArray} {ms : List MK} (hl : sl.length = 64) (h1 : ns.length = 9) {k : Nat} (hk : k < ms.length) (m : MK) : Sym.splice (bkL s n sl (tlL ns ms)) (588 + k * 4) m.cells = bkL s n sl (tlL ns (ms.set k m)) := by
  obtain ⟨h4, h5⟩ := bk_split2 (s := s) (n := n) hl h1 ms
  obtain ⟨h6, h7⟩ := bk_split2 (s := s) (n := n) hl h1 (ms.set k m)
  obtain ⟨h8, h9⟩ := mflat_split (List.getElem?_eq_getElem hk)
  obtain ⟨ha, hb⟩ := mflat_split (m := m) (show (ms.set k m)[k]? = some m by rw [List.getElem?_set]; simp [hk])
  rw [h4, ← h5, splice_app _ _ _ _ (by rw [mflat_len]; show k * 4 + 4 ≤ _; omega), h6]
  congr 1
  rw [h8, ← h9, splice_mid _ _ _ _ (show ms[k].cells.length = m.cells.length from rfl), ha]
  congr 2
  · rw [List.take_set_of_le (Nat.le_refl k)]
  · rw [List.drop_set_of_lt (by omega)]
theorem d_bwithin (n : Int) : Does Go.Proofs.Tryd.prog Bar 61 [.int .i64 n] X (fun r X' => r = .bool (decide (-9 ≤ n) && decide (n ≤ 9)) ∧ X' = X) := by
  refine Does.body numOK mixed k.f61 rfl k.o61 (Nat.le_of_ble_eq_true rfl) ?_
  simp (disch := first | omega | (simp only [Zv, Zw, Zx, Zy, Zz]; omega)) only [↓SA, Vi, Vj, Vk, Vl, Vm, List.set_cons_zero, List.set_cons_succ, Vn, Vo, Vp, Vq, Vr, Vs, Vt, Vu, Vv, Vw, Vx, Vy, List.forall_mem_cons, Vz, VA, VB, VC, VD, VE, VF, VG, VH, VI, VJ, VK, VL, VM, VN, VO, VP, VQ, VR, VS, VT, VU, VV, VW, VX, VY, VZ, V0, V1, V2, V3, V4, V5, V9, Ga, Gp, Gq, GF, GG, GH, GI, GJ, GK, GL, GM, GN, GO, Option.isNone_some, Option.isNone_none, Option.isSome_some, Option.isSome_none, GP, GQ, GR, GS, GT, GU, GV, GW, GX, GY, GZ, G0, G1, G2, G3, G4, G5, G6, G7, G8, G9, Za, Zb, Zc, Zd, Ze, Zf, Zg, Zh, Zi, Zj, Zk, Zl, Zm, Zn, Zo, List.drop_zero, List.take_succ_cons, List.drop_succ_cons, List.take_zero, List.take_nil, List.append_nil, List.nil_append, if_true, if_false, ite_true, ite_false, ↓reduceIte, Bool.false_eq_true, Bool.true_eq_false, decide_eq_true_eq, eq_self, true_and, and_true, Option.map_some, Option.map_none, Nat.reduceAdd, Nat.reduceEqDiff, Nat.reduceMul, Nat.add_zero, Nat.zero_add, reduceCtorEq, Bool.not_true, Bool.not_false, List.getElem?_cons_zero, List.getElem?_cons_succ, and_self, exists_eq_left', exists_eq_left, List.length_cons, List.length_nil, Nat.reduceLeDiff, Nat.reduceSub, Zr, Zs, decide_true, decide_false, Int.natCast_zero, Int.cast_ofNat_Int, Int.reduceLE, Int.reduceLT, Int.reduceEq, Int.reduceAdd, Int.reduceSub, Int.reduceMul, Int.reduceToNat, Int.reduceNeg, Int.toNat_natCast, Nat.reduceLT, ge_iff_le, gt_iff_lt, Zt, Zu]
  repeat' (first | (refine cnd_intro (fun h => ?_) (fun h => ?_) <;> (try simp only [decide_eq_true_eq, decide_eq_false_iff_not, Bool.not_eq_true', Bool.not_eq_false'] at h)) | (refine AllN_intro (fun n hn => ?_) <;> (try simp only [Zv, Zw, Zx, Zy, Zz] at hn)) | (simp (disch := first | omega | (simp only [Zv, Zw, Zx, Zy, Zz]; omega)) only [↓SA, Vi, Vj, Vk, Vl, Vm, List.set_cons_zero, List.set_cons_succ, Vn, Vo, Vp, Vq, Vr, Vs, Vt, Vu, Vv, Vw, Vx, Vy, List.forall_mem_cons, Vz, VA, VB, VC, VD, VE, VF, VG, VH, VI, VJ, VK, VL, VM, VN, VO, VP, VQ, VR, VS, VT, VU, VV, VW, VX, VY, VZ, V0, V1, V2, V3, V4, V5, V9, Ga, Gp, Gq, GF, GG, GH, GI, GJ, GK, GL, GM, GN, GO, Option.isNone_some, Option.isNone_none, Option.isSome_some, Option.isSome_none, GP, GQ, GR, GS, GT, GU, GV, GW, GX, GY, GZ, G0, G1, G2, G3, G4, G5, G6, G7, G8, G9, Za, Zb, Zc, Zd, Ze, Zf, Zg, Zh, Zi, Zj, Zk, Zl, Zm, Zn, Zo, List.drop_zero, List.take_succ_cons, List.drop_succ_cons, List.take_zero, List.take_nil, List.append_nil, List.nil_append, if_true, if_false, ite_true, ite_false, ↓reduceIte, Bool.false_eq_true, Bool.true_eq_false, decide_eq_true_eq, eq_self, true_and, and_true, Option.map_some, Option.map_none, Nat.reduceAdd, Nat.reduceEqDiff, Nat.reduceMul, Nat.add_zero, Nat.zero_add, reduceCtorEq, Bool.not_true, Bool.not_false, List.getElem?_cons_zero, List.getElem?_cons_succ, and_self, exists_eq_left', exists_eq_left, List.length_cons, List.length_nil, Nat.reduceLeDiff, Nat.reduceSub, Zr, Zs, decide_true, decide_false, Int.natCast_zero, Int.cast_ofNat_Int, Int.reduceLE, Int.reduceLT, Int.reduceEq, Int.reduceAdd, Int.reduceSub, Int.reduceMul, Int.reduceToNat, Int.reduceNeg, Int.toNat_natCast, Nat.reduceLT, ge_iff_le, gt_iff_lt, Zt, Zu, *]))
  all_goals exact ⟨_, (by repeat' (first | exact Le.refl _ | (refine Le.new_of ?_ (by first | omega | (simp only [Zv, Zw, Zx, Zy, Zz] at *; omega))) | (refine Le.set_of ?_ (by first | omega | (simp only [Zv, Zw, Zx, Zy, Zz] at *; omega))))), (by first | rfl | (simp_all [wth]; done) | (simp_all [wth] <;> omega)), rfl⟩
def markRes (s : Bool) (ms : List MK) (m : MK) : Int :=
  if s then 7 else if (m.ma < 1 ∨ 4 < m.ma) ∨ !(decide (-9 ≤ m.po) && decide (m.po ≤ 9)) ∨ !(decide (-9 ≤ m.he) && decide (m.he ≤ 9)) then 2 else if nmOk m.nm = false then 4 else if (ms[m.ma.toNat]?).any (fun y => !decide (y.ma = 0)) then 5 else if ms.any (fun y => beqB y.nm m.nm) then 5 else 0
set_option maxHeartbeats 2000000 in
theorem d_mark {b : Nat} {s : Bool} {cs zs : List KC} {ns : List ByteArray} {ms : List MK} (hB : BkT X b s cs zs ns ms) (m : MK) :
    Does Go.Proofs.Tryd.prog Bar 21 [.pointer (some ⟨b, 0, none⟩), .agg ⟨m.cells⟩] X (fun r X' => r = .int .i64 (markRes s ms m) ∧ (markRes s ms m ≠ 0 → X' = X) ∧
      (markRes s ms m = 0 → BkT X' b s cs zs ns (ms.set m.ma.toNat m) ∧ Keep b X X')) := by
  have hb := hB.bk.blk
  have hl : (cs ++ zs).length = 64 := by rw [List.length_append]; exact hB.bk.len
  have hblt := St.lt hb
  have hml := hB.ml
  have hy : 1 ≤ m.ma → m.ma ≤ 4 → ∃ y, ms[m.ma.toNat]? = some y := fun h1 h2 => ⟨_, List.getElem?_eq_getElem (by omega)⟩
  have key : ∀ Z, Le X Z → ∀ v : Int, markRes s ms m = v → v ≠ 0 → ∃ Y, Le Y Z ∧ Value.int IntKind.i64 v = .int .i64 (markRes s ms m) ∧ (markRes s ms m ≠ 0 → Y = X) ∧ (markRes s ms m = 0 → BkT Y b s cs zs ns (ms.set m.ma.toNat m) ∧ Keep b X Y) :=
    fun Z hz v h1 h2 => ⟨X, hz, by rw [h1], fun _ => rfl, fun h0 => absurd (h1.symm.trans h0) h2⟩
  obtain ⟨ma, nm, po, he⟩ := m
  simp only [MK.cells]
  refine Does.body numOK mixed k.f21 rfl k.o21 (Nat.le_of_ble_eq_true rfl) ?_
  simp (disch := first | omega | (simp only [Zv, Zw, Zx, Zy, Zz]; omega)) only [↓SA, Vi, Vj, Vk, Vl, Vm, List.set_cons_zero, List.set_cons_succ, Vn, Vo, Vp, Vq, Vr, Vs, Vt, Vu, Vv, Vw, Vx, Vy, List.forall_mem_cons, Vz, VA, VB, VC, VD, VE, VF, VG, VH, VI, VJ, VK, VL, VM, VN, VO, VP, VQ, VR, VS, VT, VU, VV, VW, VX, VY, VZ, V0, V1, V2, V3, V4, V5, V9, Ga, Gp, Gq, GF, GG, GH, GI, GJ, GK, GL, GM, GN, GO, Option.isNone_some, Option.isNone_none, Option.isSome_some, Option.isSome_none, GP, GQ, GR, GS, GT, GU, GV, GW, GX, GY, GZ, G0, G1, G2, G3, G4, G5, G6, G7, G8, G9, Za, Zb, Zc, Zd, Ze, Zf, Zg, Zh, Zi, Zj, Zk, Zl, Zm, Zn, Zo, List.drop_zero, List.take_succ_cons, List.drop_succ_cons, List.take_zero, List.take_nil, List.append_nil, List.nil_append, if_true, if_false, ite_true, ite_false, ↓reduceIte, Bool.false_eq_true, Bool.true_eq_false, decide_eq_true_eq, eq_self, true_and, and_true, Option.map_some, Option.map_none, Nat.reduceAdd, Nat.reduceEqDiff, Nat.reduceMul, Nat.add_zero, Nat.zero_add, reduceCtorEq, Bool.not_true, Bool.not_false, List.getElem?_cons_zero, List.getElem?_cons_succ, and_self, exists_eq_left', exists_eq_left, List.length_cons, List.length_nil, Nat.reduceLeDiff, Nat.reduceSub, Zr, Zs, decide_true, decide_false, Int.natCast_zero, Int.cast_ofNat_Int, Int.reduceLE, Int.reduceLT, Int.reduceEq, Int.reduceAdd, Int.reduceSub, Int.reduceMul, Int.reduceToNat, Int.reduceNeg, Int.toNat_natCast, Nat.reduceLT, ge_iff_le, gt_iff_lt, Zt, Zu]
  repeat' (first | (refine cnd_intro (fun h => ?_) (fun h => ?_) <;> (try simp only [decide_eq_true_eq, decide_eq_false_iff_not, Bool.not_eq_true', Bool.not_eq_false'] at h)) | (refine AllN_intro (fun n hn => ?_) <;> (try simp only [Zv, Zw, Zx, Zy, Zz] at hn)) | (refine DoesK.by (d_shut (hB.bk.new hn)) ?_; rintro _ X2 ⟨rfl, hX2⟩; subst X2) | (refine DoesK.by (d_bname _) ?_; rintro _ X2 ⟨rfl, hX2⟩; subst X2) | (refine DoesK.by (d_bwithin _) ?_; rintro _ X2 ⟨rfl, hX2⟩; subst X2) | (simp (disch := first | omega | (simp only [Zv, Zw, Zx, Zy, Zz]; omega)) only [↓SA, Vi, Vj, Vk, Vl, Vm, List.set_cons_zero, List.set_cons_succ, Vn, Vo, Vp, Vq, Vr, Vs, Vt, Vu, Vv, Vw, Vx, Vy, List.forall_mem_cons, Vz, VA, VB, VC, VD, VE, VF, VG, VH, VI, VJ, VK, VL, VM, VN, VO, VP, VQ, VR, VS, VT, VU, VV, VW, VX, VY, VZ, V0, V1, V2, V3, V4, V5, V9, Ga, Gp, Gq, GF, GG, GH, GI, GJ, GK, GL, GM, GN, GO, Option.isNone_some, Option.isNone_none, Option.isSome_some, Option.isSome_none, GP, GQ, GR, GS, GT, GU, GV, GW, GX, GY, GZ, G0, G1, G2, G3, G4, G5, G6, G7, G8, G9, Za, Zb, Zc, Zd, Ze, Zf, Zg, Zh, Zi, Zj, Zk, Zl, Zm, Zn, Zo, List.drop_zero, List.take_succ_cons, List.drop_succ_cons, List.take_zero, List.take_nil, List.append_nil, List.nil_append, if_true, if_false, ite_true, ite_false, ↓reduceIte, Bool.false_eq_true, Bool.true_eq_false, decide_eq_true_eq, eq_self, true_and, and_true, Option.map_some, Option.map_none, Nat.reduceAdd, Nat.reduceEqDiff, Nat.reduceMul, Nat.add_zero, Nat.zero_add, reduceCtorEq, Bool.not_true, Bool.not_false, List.getElem?_cons_zero, List.getElem?_cons_succ, and_self, exists_eq_left', exists_eq_left, List.length_cons, List.length_nil, Nat.reduceLeDiff, Nat.reduceSub, Zr, Zs, decide_true, decide_false, Int.natCast_zero, Int.cast_ofNat_Int, Int.reduceLE, Int.reduceLT, Int.reduceEq, Int.reduceAdd, Int.reduceSub, Int.reduceMul, Int.reduceToNat, Int.reduceNeg, Int.toNat_natCast, Nat.reduceLT, ge_iff_le, gt_iff_lt, Zt, Zu, hb, *]))
  all_goals try exact key _ (by repeat' (first | exact Le.refl _ | (refine Le.new_of ?_ (by first | omega | (simp only [Zv, Zw, Zx, Zy, Zz] at *; omega))) | (refine Le.set_of ?_ (by first | omega | (simp only [Zv, Zw, Zx, Zy, Zz] at *; omega))))) _ (by cases s <;> simp_all [markRes] <;> omega) (by first | assumption | omega)
  rename_i g1 g2 g3 g4 g5
  have hs : s = false := by cases s <;> simp_all
  subst hs
  have hm1 : 1 ≤ ma := by omega
  have hm4 : ma ≤ 4 := by omega
  obtain ⟨⟨y1, y2, y3, y4⟩, hy⟩ := hy hm1 hm4
  have hmark := bk_mark0 (s := false) (n := cs.length) hl hB.nl hy
  have hmarks := fun d e wr => bk_marks (s := false) (n := cs.length) hl hB.nl hB.ml d e wr
  have hres : ∀ v : Int, (if (ms[ma.toNat]?).any (fun y => !decide (y.ma = 0)) then (5 : Int) else if ms.any (fun y => beqB y.nm nm) then 5 else 0) = v → markRes false ms ⟨ma, nm, po, he⟩ = v := by
    intro v hv
    rw [← hv]
    have hnm : nmOk nm = true := by assumption
    unfold markRes
    rw [hnm]
    have : ¬ ((ma < 1 ∨ 4 < ma) ∨ (!(decide (-9 ≤ po) && decide (po ≤ 9))) = true ∨ (!(decide (-9 ≤ he) && decide (he ≤ 9))) = true) := by simp_all
    rw [if_neg this]
    simp
  simp (disch := first | omega | (simp only [Zv, Zw, Zx, Zy, Zz]; omega)) only [↓SA, Vi, Vj, Vk, Vl, Vm, List.set_cons_zero, List.set_cons_succ, Vn, Vo, Vp, Vq, Vr, Vs, Vt, Vu, Vv, Vw, Vx, Vy, List.forall_mem_cons, Vz, VA, VB, VC, VD, VE, VF, VG, VH, VI, VJ, VK, VL, VM, VN, VO, VP, VQ, VR, VS, VT, VU, VV, VW, VX, VY, VZ, V0, V1, V2, V3, V4, V5, V9, Ga, Gp, Gq, GF, GG, GH, GI, GJ, GK, GL, GM, GN, GO, Option.isNone_some, Option.isNone_none, Option.isSome_some, Option.isSome_none, GP, GQ, GR, GS, GT, GU, GV, GW, GX, GY, GZ, G0, G1, G2, G3, G4, G5, G6, G7, G8, G9, Za, Zb, Zc, Zd, Ze, Zf, Zg, Zh, Zi, Zj, Zk, Zl, Zm, Zn, Zo, List.drop_zero, List.take_succ_cons, List.drop_succ_cons, List.take_zero, List.take_nil, List.append_nil, List.nil_append, if_true, if_false, ite_true, ite_false, ↓reduceIte, Bool.false_eq_true, Bool.true_eq_false, decide_eq_true_eq, eq_self, true_and, and_true, Option.map_some, Option.map_none, Nat.reduceAdd, Nat.reduceEqDiff, Nat.reduceMul, Nat.add_zero, Nat.zero_add, reduceCtorEq, Bool.not_true, Bool.not_false, List.getElem?_cons_zero, List.getElem?_cons_succ, and_self, exists_eq_left', exists_eq_left, List.length_cons, List.length_nil, Nat.reduceLeDiff, Nat.reduceSub, Zr, Zs, decide_true, decide_false, Int.natCast_zero, Int.cast_ofNat_Int, Int.reduceLE, Int.reduceLT, Int.reduceEq, Int.reduceAdd, Int.reduceSub, Int.reduceMul, Int.reduceToNat, Int.reduceNeg, Int.toNat_natCast, Nat.reduceLT, ge_iff_le, gt_iff_lt, Zt, Zu, hmark]
  repeat' (first | (refine cnd_intro (fun h => ?_) (fun h => ?_) <;> (try simp only [decide_eq_true_eq, decide_eq_false_iff_not, Bool.not_eq_true', Bool.not_eq_false'] at h)) | (refine AllN_intro (fun n hn => ?_) <;> (try simp only [Zv, Zw, Zx, Zy, Zz] at hn)) | (simp (disch := first | omega | (simp only [Zv, Zw, Zx, Zy, Zz]; omega)) only [↓SA, Vi, Vj, Vk, Vl, Vm, List.set_cons_zero, List.set_cons_succ, Vn, Vo, Vp, Vq, Vr, Vs, Vt, Vu, Vv, Vw, Vx, Vy, List.forall_mem_cons, Vz, VA, VB, VC, VD, VE, VF, VG, VH, VI, VJ, VK, VL, VM, VN, VO, VP, VQ, VR, VS, VT, VU, VV, VW, VX, VY, VZ, V0, V1, V2, V3, V4, V5, V9, Ga, Gp, Gq, GF, GG, GH, GI, GJ, GK, GL, GM, GN, GO, Option.isNone_some, Option.isNone_none, Option.isSome_some, Option.isSome_none, GP, GQ, GR, GS, GT, GU, GV, GW, GX, GY, GZ, G0, G1, G2, G3, G4, G5, G6, G7, G8, G9, Za, Zb, Zc, Zd, Ze, Zf, Zg, Zh, Zi, Zj, Zk, Zl, Zm, Zn, Zo, List.drop_zero, List.take_succ_cons, List.drop_succ_cons, List.take_zero, List.take_nil, List.append_nil, List.nil_append, if_true, if_false, ite_true, ite_false, ↓reduceIte, Bool.false_eq_true, Bool.true_eq_false, decide_eq_true_eq, eq_self, true_and, and_true, Option.map_some, Option.map_none, Nat.reduceAdd, Nat.reduceEqDiff, Nat.reduceMul, Nat.add_zero, Nat.zero_add, reduceCtorEq, Bool.not_true, Bool.not_false, List.getElem?_cons_zero, List.getElem?_cons_succ, and_self, exists_eq_left', exists_eq_left, List.length_cons, List.length_nil, Nat.reduceLeDiff, Nat.reduceSub, Zr, Zs, decide_true, decide_false, Int.natCast_zero, Int.cast_ofNat_Int, Int.reduceLE, Int.reduceLT, Int.reduceEq, Int.reduceAdd, Int.reduceSub, Int.reduceMul, Int.reduceToNat, Int.reduceNeg, Int.toNat_natCast, Nat.reduceLT, ge_iff_le, gt_iff_lt, Zt, Zu, hb, hmark, hmarks, *]))
  · exact key _ (by repeat' (first | exact Le.refl _ | (refine Le.new_of ?_ (by first | omega | (simp only [Zv, Zw, Zx, Zy, Zz] at *; omega))) | (refine Le.set_of ?_ (by first | omega | (simp only [Zv, Zw, Zx, Zy, Zz] at *; omega))))) 5 (hres _ (by rw [hy]; simp_all)) (by omega)
  · have hy0 : y1 = 0 := by simpa using h
    refine wpC_loop (fun k : Nat => ⟨69, [(0, .pointer (some ⟨b, 0, none⟩)), (3, .pointer (some ⟨n, 0, none⟩)), (52, .agg ⟨ms.flatMap MK.cells⟩), (53, .int .i64 k)]⟩) (fun _ => X.new n ⟨[.int .u8 ma, .string nm, .int .i64 po, .int .i64 he], 4, 63, true⟩) (fun k => k ≤ 5 ∧ ∀ (j : Nat) (z : MK), j < k → ms[j]? = some z → beqB z.nm nm = false) (fun k => 5 - k) 0 rfl (Le.refl _) ⟨Nat.zero_le _, fun j z hj => absurd hj (Nat.not_lt_zero _)⟩ ?_
    rintro k ⟨hk, hi⟩
    clear g1 g2 g3 g4 g5 h
    by_cases hkl : k < 5
    · obtain ⟨⟨z1, z2, z3, z4⟩, hz⟩ : ∃ z, ms[k]? = some z := ⟨_, List.getElem?_eq_getElem (by omega)⟩
      have hkl' : decide ((k : Int) < 5) = true := decide_eq_true (by omega)
      have hz' := mflat_at hz
      simp only [MK.cells] at hz'
      simp (disch := first | omega | (simp only [Zv, Zw, Zx, Zy, Zz]; omega)) only [↓SA, Vi, Vj, Vk, Vl, Vm, List.set_cons_zero, List.set_cons_succ, Vn, Vo, Vp, Vq, Vr, Vs, Vt, Vu, Vv, Vw, Vx, Vy, List.forall_mem_cons, Vz, VA, VB, VC, VD, VE, VF, VG, VH, VI, VJ, VK, VL, VM, VN, VO, VP, VQ, VR, VS, VT, VU, VV, VW, VX, VY, VZ, V0, V1, V2, V3, V4, V5, V9, Ga, Gp, Gq, GF, GG, GH, GI, GJ, GK, GL, GM, GN, GO, Option.isNone_some, Option.isNone_none, Option.isSome_some, Option.isSome_none, GP, GQ, GR, GS, GT, GU, GV, GW, GX, GY, GZ, G0, G1, G2, G3, G4, G5, G6, G7, G8, G9, Za, Zb, Zc, Zd, Ze, Zf, Zg, Zh, Zi, Zj, Zk, Zl, Zm, Zn, Zo, List.drop_zero, List.take_succ_cons, List.drop_succ_cons, List.take_zero, List.take_nil, List.append_nil, List.nil_append, if_true, if_false, ite_true, ite_false, ↓reduceIte, Bool.false_eq_true, Bool.true_eq_false, decide_eq_true_eq, eq_self, true_and, and_true, Option.map_some, Option.map_none, Nat.reduceAdd, Nat.reduceEqDiff, Nat.reduceMul, Nat.add_zero, Nat.zero_add, reduceCtorEq, Bool.not_true, Bool.not_false, List.getElem?_cons_zero, List.getElem?_cons_succ, and_self, exists_eq_left', exists_eq_left, List.length_cons, List.length_nil, Nat.reduceLeDiff, Nat.reduceSub, Zr, Zs, decide_true, decide_false, Int.natCast_zero, Int.cast_ofNat_Int, Int.reduceLE, Int.reduceLT, Int.reduceEq, Int.reduceAdd, Int.reduceSub, Int.reduceMul, Int.reduceToNat, Int.reduceNeg, Int.toNat_natCast, Nat.reduceLT, ge_iff_le, gt_iff_lt, Zt, Zu, hkl', Int.toNat_natCast, hz']
      repeat' (first | (refine cnd_intro (fun h => ?_) (fun h => ?_) <;> (try simp only [decide_eq_true_eq, decide_eq_false_iff_not, Bool.not_eq_true', Bool.not_eq_false'] at h)) | (refine AllN_intro (fun n hn => ?_) <;> (try simp only [Zv, Zw, Zx, Zy, Zz] at hn)) | (simp (disch := first | omega | (simp only [Zv, Zw, Zx, Zy, Zz]; omega)) only [↓SA, Vi, Vj, Vk, Vl, Vm, List.set_cons_zero, List.set_cons_succ, Vn, Vo, Vp, Vq, Vr, Vs, Vt, Vu, Vv, Vw, Vx, Vy, List.forall_mem_cons, Vz, VA, VB, VC, VD, VE, VF, VG, VH, VI, VJ, VK, VL, VM, VN, VO, VP, VQ, VR, VS, VT, VU, VV, VW, VX, VY, VZ, V0, V1, V2, V3, V4, V5, V9, Ga, Gp, Gq, GF, GG, GH, GI, GJ, GK, GL, GM, GN, GO, Option.isNone_some, Option.isNone_none, Option.isSome_some, Option.isSome_none, GP, GQ, GR, GS, GT, GU, GV, GW, GX, GY, GZ, G0, G1, G2, G3, G4, G5, G6, G7, G8, G9, Za, Zb, Zc, Zd, Ze, Zf, Zg, Zh, Zi, Zj, Zk, Zl, Zm, Zn, Zo, List.drop_zero, List.take_succ_cons, List.drop_succ_cons, List.take_zero, List.take_nil, List.append_nil, List.nil_append, if_true, if_false, ite_true, ite_false, ↓reduceIte, Bool.false_eq_true, Bool.true_eq_false, decide_eq_true_eq, eq_self, true_and, and_true, Option.map_some, Option.map_none, Nat.reduceAdd, Nat.reduceEqDiff, Nat.reduceMul, Nat.add_zero, Nat.zero_add, reduceCtorEq, Bool.not_true, Bool.not_false, List.getElem?_cons_zero, List.getElem?_cons_succ, and_self, exists_eq_left', exists_eq_left, List.length_cons, List.length_nil, Nat.reduceLeDiff, Nat.reduceSub, Zr, Zs, decide_true, decide_false, Int.natCast_zero, Int.cast_ofNat_Int, Int.reduceLE, Int.reduceLT, Int.reduceEq, Int.reduceAdd, Int.reduceSub, Int.reduceMul, Int.reduceToNat, Int.reduceNeg, Int.toNat_natCast, Nat.reduceLT, ge_iff_le, gt_iff_lt, Zt, Zu, hz', Int.toNat_natCast, *]))
      · refine key _ (by repeat' (first | exact Le.refl _ | (refine Le.new_of ?_ (by first | omega | (simp only [Zv, Zw, Zx, Zy, Zz] at *; omega))) | (refine Le.set_of ?_ (by first | omega | (simp only [Zv, Zw, Zx, Zy, Zz] at *; omega))))) 5 (hres _ ?_) (by omega)
        have h5 : ms.any (fun y => beqB y.nm nm) = true := by
          rw [List.any_eq_true]
          exact ⟨_, List.mem_of_getElem? hz, h⟩
        rw [hy, h5]; simp
      · refine ⟨k + 1, rfl, (by repeat' (first | exact Le.refl _ | (refine Le.new_of ?_ (by first | omega | (simp only [Zv, Zw, Zx, Zy, Zz] at *; omega))) | (refine Le.set_of ?_ (by first | omega | (simp only [Zv, Zw, Zx, Zy, Zz] at *; omega))))), ⟨by omega, fun j w hj hw => ?_⟩, by omega⟩
        by_cases hjk : j = k
        · subst hjk; rw [hz] at hw; cases hw; exact h
        · exact hi j w (by omega) hw
    · have hkl' : decide ((k : Int) < 5) = false := decide_eq_false (by omega)
      have hspl := splice_mark (s := false) (n := cs.length) (ns := ns) (ms := ms) hl hB.nl (k := ma.toNat) (by omega) ⟨ma, nm, po, he⟩
      simp only [MK.cells] at hspl
      have hbl : (bkL false cs.length (cs ++ zs) (tlL ns ms)).length = 608 := by rw [bkL_len, hl, tl_len hB.nl hB.ml]
      have e : markRes false ms ⟨ma, nm, po, he⟩ = 0 := by
        refine hres _ ?_
        have h5 : ms.any (fun y => beqB y.nm nm) = false := by
          rw [List.any_eq_false]
          intro z hz
          obtain ⟨j, hj⟩ := List.getElem?_of_mem hz
          rw [hi j z (by have := (List.getElem?_eq_some_iff.1 hj).1; omega) hj]; simp
        rw [hy, h5]; simp [hy0]
      simp (disch := first | omega | (simp only [Zv, Zw, Zx, Zy, Zz]; omega)) only [↓SA, Vi, Vj, Vk, Vl, Vm, List.set_cons_zero, List.set_cons_succ, Vn, Vo, Vp, Vq, Vr, Vs, Vt, Vu, Vv, Vw, Vx, Vy, List.forall_mem_cons, Vz, VA, VB, VC, VD, VE, VF, VG, VH, VI, VJ, VK, VL, VM, VN, VO, VP, VQ, VR, VS, VT, VU, VV, VW, VX, VY, VZ, V0, V1, V2, V3, V4, V5, V9, Ga, Gp, Gq, GF, GG, GH, GI, GJ, GK, GL, GM, GN, GO, Option.isNone_some, Option.isNone_none, Option.isSome_some, Option.isSome_none, GP, GQ, GR, GS, GT, GU, GV, GW, GX, GY, GZ, G0, G1, G2, G3, G4, G5, G6, G7, G8, G9, Za, Zb, Zc, Zd, Ze, Zf, Zg, Zh, Zi, Zj, Zk, Zl, Zm, Zn, Zo, List.drop_zero, List.take_succ_cons, List.drop_succ_cons, List.take_zero, List.take_nil, List.append_nil, List.nil_append, if_true, if_false, ite_true, ite_false, ↓reduceIte, Bool.false_eq_true, Bool.true_eq_false, decide_eq_true_eq, eq_self, true_and, and_true, Option.map_some, Option.map_none, Nat.reduceAdd, Nat.reduceEqDiff, Nat.reduceMul, Nat.add_zero, Nat.zero_add, reduceCtorEq, Bool.not_true, Bool.not_false, List.getElem?_cons_zero, List.getElem?_cons_succ, and_self, exists_eq_left', exists_eq_left, List.length_cons, List.length_nil, Nat.reduceLeDiff, Nat.reduceSub, Zr, Zs, decide_true, decide_false, Int.natCast_zero, Int.cast_ofNat_Int, Int.reduceLE, Int.reduceLT, Int.reduceEq, Int.reduceAdd, Int.reduceSub, Int.reduceMul, Int.reduceToNat, Int.reduceNeg, Int.toNat_natCast, Nat.reduceLT, ge_iff_le, gt_iff_lt, Zt, Zu, hkl', hspl, hb, hbl]
      refine ⟨_, Le.new (Le.refl _) hn, by rw [e], fun h0 => absurd e h0, fun _ => ⟨⟨⟨?_, hB.bk.len, ?_⟩, hB.nl, ?_⟩, Keep.set⟩⟩
      · rw [VI hblt]
      · exact tl_len hB.nl (by rw [List.length_set]; exact hB.ml)
      · rw [List.length_set]; exact hB.ml
end Go.Proofs.YtdgbnaignpploaaDoor.bk
