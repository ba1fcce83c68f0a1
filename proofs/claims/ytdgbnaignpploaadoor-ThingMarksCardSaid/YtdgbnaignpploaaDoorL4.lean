/- Pick; numbers that lie somewhere. -/
import Derived.Test.YtdgbnaignpploaaDoorSy
import Derived.Test.YtdgbnaignpploaaDoorBD
import Derived.Test.YtdgbnaignpploaaDoorKp
namespace Go.Proofs.YtdgbnaignpploaaDoor.bk
open Go.Sym
set_option linter.unusedVariables false
set_option linter.unusedSimpArgs false
set_option maxRecDepth 100000
variable {Bar : Nat} {X : St}
def pickF (n m : Int) : Int := if m < 1 then 0 else if n.tmod m < 0 then n.tmod m + m else n.tmod m
theorem d_pick (n m : Int) (hm : m ≤ 9223372036854775807) : Does Go.Proofs.Tryd.prog Bar 24 [.int .i64 n, .int .i64 m] X (fun r X' => r = .int .i64 (pickF n m) ∧ X' = X) := by
  refine Does.body numOK mixed k.f24 rfl k.o24 (Nat.le_of_ble_eq_true rfl) ?_
  simp (disch := first | omega | (simp only [Zv, Zw, Zx, Zy, Zz]; omega)) only [↓SA, Vi, Vj, Vk, Vl, Vm, List.set_cons_zero, List.set_cons_succ, Vn, Vo, Vp, Vq, Vr, Vs, Vt, Vu, Vv, Vw, Vx, Vy, List.forall_mem_cons, Vz, VA, VB, VC, VD, VE, VF, VG, VH, VI, VJ, VK, VL, VM, VN, VO, VP, VQ, VR, VS, VT, VU, VV, VW, VX, VY, VZ, V0, V1, V2, V3, V4, V5, V9, Ga, Gp, Gq, GF, GG, GH, GI, GJ, GK, GL, GM, GN, GO, Option.isNone_some, Option.isNone_none, Option.isSome_some, Option.isSome_none, GP, GQ, GR, GS, GT, GU, GV, GW, GX, GY, GZ, G0, G1, G2, G3, G4, G5, G6, G7, G8, G9, Za, Zb, Zc, Zd, Ze, Zf, Zg, Zh, Zi, Zj, Zk, Zl, Zm, Zn, Zo, List.drop_zero, List.take_succ_cons, List.drop_succ_cons, List.take_zero, List.take_nil, List.append_nil, List.nil_append, if_true, if_false, ite_true, ite_false, ↓reduceIte, Bool.false_eq_true, Bool.true_eq_false, decide_eq_true_eq, eq_self, true_and, and_true, Option.map_some, Option.map_none, Nat.reduceAdd, Nat.reduceEqDiff, Nat.reduceMul, Nat.add_zero, Nat.zero_add, reduceCtorEq, Bool.not_true, Bool.not_false, List.getElem?_cons_zero, List.getElem?_cons_succ, and_self, exists_eq_left', exists_eq_left, List.length_cons, List.length_nil, Nat.reduceLeDiff, Nat.reduceSub, Zr, Zs, decide_true, decide_false, Int.natCast_zero, Int.cast_ofNat_Int, Int.reduceLE, Int.reduceLT, Int.reduceEq, Int.reduceAdd, Int.reduceSub, Int.reduceMul, Int.reduceToNat, Int.reduceNeg, Int.toNat_natCast, Nat.reduceLT, ge_iff_le, gt_iff_lt, Zt, Zu]
  repeat' (first | (refine cnd_intro (fun h => ?_) (fun h => ?_) <;> (try simp only [decide_eq_true_eq, decide_eq_false_iff_not, Bool.not_eq_true', Bool.not_eq_false'] at h)) | (refine AllN_intro (fun n hn => ?_) <;> (try simp only [Zv, Zw, Zx, Zy, Zz] at hn)) | (simp (disch := first | omega | (simp only [Zv, Zw, Zx, Zy, Zz]; omega)) only [↓SA, Vi, Vj, Vk, Vl, Vm, List.set_cons_zero, List.set_cons_succ, Vn, Vo, Vp, Vq, Vr, Vs, Vt, Vu, Vv, Vw, Vx, Vy, List.forall_mem_cons, Vz, VA, VB, VC, VD, VE, VF, VG, VH, VI, VJ, VK, VL, VM, VN, VO, VP, VQ, VR, VS, VT, VU, VV, VW, VX, VY, VZ, V0, V1, V2, V3, V4, V5, V9, Ga, Gp, Gq, GF, GG, GH, GI, GJ, GK, GL, GM, GN, GO, Option.isNone_some, Option.isNone_none, Option.isSome_some, Option.isSome_none, GP, GQ, GR, GS, GT, GU, GV, GW, GX, GY, GZ, G0, G1, G2, G3, G4, G5, G6, G7, G8, G9, Za, Zb, Zc, Zd, Ze, Zf, Zg, Zh, Zi, Zj, Zk, Zl, Zm, Zn, Zo, List.drop_zero, List.take_succ_cons, List.drop_succ_cons, List.take_zero, List.take_nil, List.append_nil, List.nil_append, if_true, if_false, ite_true, ite_false, ↓reduceIte, Bool.false_eq_true, Bool.true_eq_false, decide_eq_true_eq, eq_self, true_and, and_true, Option.map_some, Option.map_none, Nat.reduceAdd, Nat.reduceEqDiff, Nat.reduceMul, Nat.add_zero, Nat.zero_add, reduceCtorEq, Bool.not_true, Bool.not_false, List.getElem?_cons_zero, List.getElem?_cons_succ, and_self, exists_eq_left', exists_eq_left, List.length_cons, List.length_nil, Nat.reduceLeDiff, Nat.reduceSub, Zr, Zs, decide_true, decide_false, Int.natCast_zero, Int.cast_ofNat_Int, Int.reduceLE, Int.reduceLT, Int.reduceEq, Int.reduceAdd, Int.reduceSub, Int.reduceMul, Int.reduceToNat, Int.reduceNeg, Int.toNat_natCast, Nat.reduceLT, ge_iff_le, gt_iff_lt, Zt, Zu, *]))
  · exact ⟨X, Le.refl _, by unfold pickF; rw [if_pos h], rfl⟩
  · have hd : divF .rem .i64 n m = some (n.tmod m) := by
      unfold divF
      simp [show m ≠ 0 by omega]
    have h1 := Int.tmod_lt_of_pos n (show 0 < m by omega)
    have h2 : -m < n.tmod m := by
      have := Int.tmod_lt_of_pos (-n) (show 0 < m by omega)
      rw [Int.neg_tmod] at this
      omega
    simp (disch := first | omega | (simp only [Zv, Zw, Zx, Zy, Zz]; omega)) only [↓SA, Vi, Vj, Vk, Vl, Vm, List.set_cons_zero, List.set_cons_succ, Vn, Vo, Vp, Vq, Vr, Vs, Vt, Vu, Vv, Vw, Vx, Vy, List.forall_mem_cons, Vz, VA, VB, VC, VD, VE, VF, VG, VH, VI, VJ, VK, VL, VM, VN, VO, VP, VQ, VR, VS, VT, VU, VV, VW, VX, VY, VZ, V0, V1, V2, V3, V4, V5, V9, Ga, Gp, Gq, GF, GG, GH, GI, GJ, GK, GL, GM, GN, GO, Option.isNone_some, Option.isNone_none, Option.isSome_some, Option.isSome_none, GP, GQ, GR, GS, GT, GU, GV, GW, GX, GY, GZ, G0, G1, G2, G3, G4, G5, G6, G7, G8, G9, Za, Zb, Zc, Zd, Ze, Zf, Zg, Zh, Zi, Zj, Zk, Zl, Zm, Zn, Zo, List.drop_zero, List.take_succ_cons, List.drop_succ_cons, List.take_zero, List.take_nil, List.append_nil, List.nil_append, if_true, if_false, ite_true, ite_false, ↓reduceIte, Bool.false_eq_true, Bool.true_eq_false, decide_eq_true_eq, eq_self, true_and, and_true, Option.map_some, Option.map_none, Nat.reduceAdd, Nat.reduceEqDiff, Nat.reduceMul, Nat.add_zero, Nat.zero_add, reduceCtorEq, Bool.not_true, Bool.not_false, List.getElem?_cons_zero, List.getElem?_cons_succ, and_self, exists_eq_left', exists_eq_left, List.length_cons, List.length_nil, Nat.reduceLeDiff, Nat.reduceSub, Zr, Zs, decide_true, decide_false, Int.natCast_zero, Int.cast_ofNat_Int, Int.reduceLE, Int.reduceLT, Int.reduceEq, Int.reduceAdd, Int.reduceSub, Int.reduceMul, Int.reduceToNat, Int.reduceNeg, Int.toNat_natCast, Nat.reduceLT, ge_iff_le, gt_iff_lt, Zt, Zu, hd]
    repeat' (first | (refine cnd_intro (fun h => ?_) (fun h => ?_) <;> (try simp only [decide_eq_true_eq, decide_eq_false_iff_not, Bool.not_eq_true', Bool.not_eq_false'] at h)) | (refine AllN_intro (fun n hn => ?_) <;> (try simp only [Zv, Zw, Zx, Zy, Zz] at hn)) | (simp (disch := first | omega | (simp only [Zv, Zw, Zx, Zy, Zz]; omega)) only [↓SA, Vi, Vj, Vk, Vl, Vm, List.set_cons_zero, List.set_cons_succ, Vn, Vo, Vp, Vq, Vr, Vs, Vt, Vu, Vv, Vw, Vx, Vy, List.forall_mem_cons, Vz, VA, VB, VC, VD, VE, VF, VG, VH, VI, VJ, VK, VL, VM, VN, VO, VP, VQ, VR, VS, VT, VU, VV, VW, VX, VY, VZ, V0, V1, V2, V3, V4, V5, V9, Ga, Gp, Gq, GF, GG, GH, GI, GJ, GK, GL, GM, GN, GO, Option.isNone_some, Option.isNone_none, Option.isSome_some, Option.isSome_none, GP, GQ, GR, GS, GT, GU, GV, GW, GX, GY, GZ, G0, G1, G2, G3, G4, G5, G6, G7, G8, G9, Za, Zb, Zc, Zd, Ze, Zf, Zg, Zh, Zi, Zj, Zk, Zl, Zm, Zn, Zo, List.drop_zero, List.take_succ_cons, List.drop_succ_cons, List.take_zero, List.take_nil, List.append_nil, List.nil_append, if_true, if_false, ite_true, ite_false, ↓reduceIte, Bool.false_eq_true, Bool.true_eq_false, decide_eq_true_eq, eq_self, true_and, and_true, Option.map_some, Option.map_none, Nat.reduceAdd, Nat.reduceEqDiff, Nat.reduceMul, Nat.add_zero, Nat.zero_add, reduceCtorEq, Bool.not_true, Bool.not_false, List.getElem?_cons_zero, List.getElem?_cons_succ, and_self, exists_eq_left', exists_eq_left, List.length_cons, List.length_nil, Nat.reduceLeDiff, Nat.reduceSub, Zr, Zs, decide_true, decide_false, Int.natCast_zero, Int.cast_ofNat_Int, Int.reduceLE, Int.reduceLT, Int.reduceEq, Int.reduceAdd, Int.reduceSub, Int.reduceMul, Int.reduceToNat, Int.reduceNeg, Int.toNat_natCast, Nat.reduceLT, ge_iff_le, gt_iff_lt, Zt, Zu, hd, *]))
    · exact ⟨X, Le.refl _, by unfold pickF; rw [if_neg (by omega), if_pos h], rfl⟩
    · exact ⟨X, Le.refl _, by unfold pickF; rw [if_neg (by omega), if_neg h], rfl⟩
theorem cellOf_of {M : Option Blk} {o : Nat} {v : Value} (h : cellsOf M o 1 = some [v]) : cellOf M o = some v := by
  unfold cellsOf at h
  unfold cellOf
  split at h
  · rename_i B
    split at h
    · rename_i hl
      have h := Option.some.inj h
      have h2 : ((B.cells.drop o).take 1)[0]? = some v := by rw [h]; rfl
      rw [List.getElem?_take, if_pos (by omega), List.getElem?_drop] at h2
      exact h2
    · cases h
  · cases h
def IntsK (X : St) (po : Option Addr) (ts : List Int) : Prop := ts = [] ∨ ∃ b o, po = some ⟨b, o, none⟩ ∧ cellsOf (X.get b) o ts.length = some (ts.map (.int .i64))
theorem IntsK.at {po : Option Addr} {ts : List Int} (h : IntsK X po ts) {k : Nat} {c : Int} (hc : ts[k]? = some c) : ∃ b o, po = some ⟨b, o, none⟩ ∧ b < X.next ∧ cellOf (X.get b) (o + k * 1) = some (.int .i64 c) := by
  rcases h with rfl | ⟨b, o, rfl, h⟩
  · simp at hc
  · have hk := (List.getElem?_eq_some_iff.1 hc).1
    refine ⟨b, o, rfl, cellsOf_lt h, cellOf_of ?_⟩
    rw [Nat.mul_one, cellsOf_sub h (i := k) (m := 1) (by omega)]
    congr 1
    have : (ts.map (Value.int .i64))[k]? = some (.int .i64 c) := by rw [List.getElem?_map, hc]; rfl
    obtain ⟨h1, h2⟩ := List.getElem?_eq_some_iff.1 this
    rw [List.drop_eq_getElem_cons h1, h2]; rfl
theorem IntsK.le {Y : St} {po : Option Addr} {ts : List Int} (h : IntsK X po ts) (k : Le X Y) : IntsK Y po ts := by
  rcases h with h | ⟨b, o, rfl, h⟩
  · exact .inl h
  · exact .inr ⟨b, o, rfl, cellsOf_le h k⟩
theorem pick_lt {n m : Int} (h : 0 < m) : 0 ≤ pickF n m ∧ pickF n m < m := by
  have h1 := Int.tmod_lt_of_pos n h
  have h2 : -m < n.tmod m := by
    have := Int.tmod_lt_of_pos (-n) h
    rw [Int.neg_tmod] at this
    omega
  unfold pickF
  rw [if_neg (by omega)]
  split <;> omega
theorem Bk.set {Y : St} {b n : Nat} {s : Bool} {cs zs : List KC} {ns : List ByteArray} {ms : List MK} (h : Bk Y b s cs zs ns ms) {C D : Blk} (hn : Y.get n = some C) (he : C.elem ≠ TP) (hnb : n ≠ b) : Bk (Y.set n D) b s cs zs ns ms :=
  ⟨⟨⟨by rw [VJ (Ne.symm hnb)]; exact h.t.bk.blk, h.t.bk.len, h.t.bk.tll⟩, h.t.nl, h.t.ml⟩, fun c hc => ⟨(h.p c hc).1.keep hn he Keep.set, (h.p c hc).2⟩⟩
end Go.Proofs.YtdgbnaignpploaaDoor.bk
