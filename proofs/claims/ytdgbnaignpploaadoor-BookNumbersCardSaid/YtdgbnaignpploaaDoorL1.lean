/- gambitlaw07: one thing is added. -/
import Derived.Test.YtdgbnaignpploaaDoorSy
import Derived.Test.YtdgbnaignpploaaDoorL0
namespace Go.Proofs.YtdgbnaignpploaaDoor.bk
open Go.Sym
set_option linter.unusedVariables false
set_option linter.unusedSimpArgs false
set_option maxRecDepth 100000
variable {Bar : Nat} {X : St}
def pickF (n m : Int) : Int := if m < 1 then 0 else if n.tmod m < 0 then n.tmod m + m else n.tmod m
theorem d_pick (n m : Int) (hm : m ≤ 9223372036854775807) : Does Go.Proofs.Tryd.prog Bar 24 [.int .i64 n, .int .i64 m] X (fun r X' => r = .int .i64 (pickF n m) ∧ X' = X) := by
  refine Does.body numOK mixed k.f24 rfl k.o24 (Nat.le_of_ble_eq_true rfl) ?_
  simp (disch := first | omega | (simp only [Zv, Zw, Zx, Zy, Zz]; omega)) only [↓SA, Vi, Vj, Vk, Vl, Vm, List.set_cons_zero, List.set_cons_succ, Vn, Vo, Vp, Vq, Vr, Vs, Vt, Vu, Vv, Vw, Vx, Vy, List.forall_mem_cons, Vz, VA, VB, VC, VD, VE, VF, VG, VH, VI, VJ, VK, VL, VM, VN, VO, VP, VQ, VR, VS, VT, VU, VV, VW, VX, VY, VZ, V0, V1, V2, V3, V4, V5, V9, Ga, Gp, Gq, GF, GG, GH, GI, GJ, GK, GL, GM, GN, GO, Option.isNone_some, Option.isNone_none, Option.isSome_some, Option.isSome_none, GP, GQ, GR, GS, GT, GU, GV, GW, GX, GY, GZ, G0, G1, G2, G3, G4, G5, G6, G7, G8, G9, Za, Zb, Zc, Zd, Ze, Zf, Zg, Zh, Zi, Zj, Zk, Zl, Zm, Zn, Zo, List.drop_zero, List.take_succ_cons, List.drop_succ_cons, List.take_zero, List.take_nil, List.append_nil, List.nil_append, if_true, if_false, ite_true, ite_false, ↓reduceIte, Bool.false_eq_true, Bool.true_eq_false, decide_eq_true_eq, eq_self, true_and, and_true, Option.map_some, Option.map_none, Nat.reduceAdd, Nat.reduceEqDiff, Nat.reduceMul, Nat.add_zero, Nat.zero_add, reduceCtorEq, Bool.not_true, Bool.not_false, List.getElem?_cons_zero, List.getElem?_cons_succ, and_self, exists_eq_left', exists_eq_left, List.length_cons, List.length_nil, Nat.reduceLeDiff, Nat.reduceSub, Zr, Zs, decide_true, decide_false, Int.natCast_zero, Int.cast_ofNat_Int, Int.reduceLE, Int.reduceLT, Int.reduceEq, Int.reduceAdd, Int.reduceSub, Int.reduceMul, Int.reduceToNat, Int.reduceNeg, Int.toNat_natCast, Nat.reduceLT, ge_iff_le, gt_iff_lt, Zt, Zu]
  repeat' (first | (refine cnd_intro (fun h => ?_) (fun h => ?_) <;> (try simp only [decide_eq_true_eq, decide_eq_false_iff_not, Bool.not_eq_true', Bool.not_eq_false'] at h) <;> (try simp (disch := first | omega | (simp only [Zv, Zw, Zx, Zy, Zz]; omega)) only [↓SA, Vi, Vj, Vk, Vl, Vm, List.set_cons_zero, List.set_cons_succ, Vn, Vo, Vp, Vq, Vr, Vs, Vt, Vu, Vv, Vw, Vx, Vy, List.forall_mem_cons, Vz, VA, VB, VC, VD, VE, VF, VG, VH, VI, VJ, VK, VL, VM, VN, VO, VP, VQ, VR, VS, VT, VU, VV, VW, VX, VY, VZ, V0, V1, V2, V3, V4, V5, V9, Ga, Gp, Gq, GF, GG, GH, GI, GJ, GK, GL, GM, GN, GO, Option.isNone_some, Option.isNone_none, Option.isSome_some, Option.isSome_none, GP, GQ, GR, GS, GT, GU, GV, GW, GX, GY, GZ, G0, G1, G2, G3, G4, G5, G6, G7, G8, G9, Za, Zb, Zc, Zd, Ze, Zf, Zg, Zh, Zi, Zj, Zk, Zl, Zm, Zn, Zo, List.drop_zero, List.take_succ_cons, List.drop_succ_cons, List.take_zero, List.take_nil, List.append_nil, List.nil_append, if_true, if_false, ite_true, ite_false, ↓reduceIte, Bool.false_eq_true, Bool.true_eq_false, decide_eq_true_eq, eq_self, true_and, and_true, Option.map_some, Option.map_none, Nat.reduceAdd, Nat.reduceEqDiff, Nat.reduceMul, Nat.add_zero, Nat.zero_add, reduceCtorEq, Bool.not_true, Bool.not_false, List.getElem?_cons_zero, List.getElem?_cons_succ, and_self, exists_eq_left', exists_eq_left, List.length_cons, List.length_nil, Nat.reduceLeDiff, Nat.reduceSub, Zr, Zs, decide_true, decide_false, Int.natCast_zero, Int.cast_ofNat_Int, Int.reduceLE, Int.reduceLT, Int.reduceEq, Int.reduceAdd, Int.reduceSub, Int.reduceMul, Int.reduceToNat, Int.reduceNeg, Int.toNat_natCast, Nat.reduceLT, ge_iff_le, gt_iff_lt, Zt, Zu, *])) | (refine AllN_intro (fun n hn => ?_) <;> (try simp only [Zv, Zw, Zx, Zy, Zz] at hn)) | (simp (disch := first | omega | (simp only [Zv, Zw, Zx, Zy, Zz]; omega)) only [↓SA, Vi, Vj, Vk, Vl, Vm, List.set_cons_zero, List.set_cons_succ, Vn, Vo, Vp, Vq, Vr, Vs, Vt, Vu, Vv, Vw, Vx, Vy, List.forall_mem_cons, Vz, VA, VB, VC, VD, VE, VF, VG, VH, VI, VJ, VK, VL, VM, VN, VO, VP, VQ, VR, VS, VT, VU, VV, VW, VX, VY, VZ, V0, V1, V2, V3, V4, V5, V9, Ga, Gp, Gq, GF, GG, GH, GI, GJ, GK, GL, GM, GN, GO, Option.isNone_some, Option.isNone_none, Option.isSome_some, Option.isSome_none, GP, GQ, GR, GS, GT, GU, GV, GW, GX, GY, GZ, G0, G1, G2, G3, G4, G5, G6, G7, G8, G9, Za, Zb, Zc, Zd, Ze, Zf, Zg, Zh, Zi, Zj, Zk, Zl, Zm, Zn, Zo, List.drop_zero, List.take_succ_cons, List.drop_succ_cons, List.take_zero, List.take_nil, List.append_nil, List.nil_append, if_true, if_false, ite_true, ite_false, ↓reduceIte, Bool.false_eq_true, Bool.true_eq_false, decide_eq_true_eq, eq_self, true_and, and_true, Option.map_some, Option.map_none, Nat.reduceAdd, Nat.reduceEqDiff, Nat.reduceMul, Nat.add_zero, Nat.zero_add, reduceCtorEq, Bool.not_true, Bool.not_false, List.getElem?_cons_zero, List.getElem?_cons_succ, and_self, exists_eq_left', exists_eq_left, List.length_cons, List.length_nil, Nat.reduceLeDiff, Nat.reduceSub, Zr, Zs, decide_true, decide_false, Int.natCast_zero, Int.cast_ofNat_Int, Int.reduceLE, Int.reduceLT, Int.reduceEq, Int.reduceAdd, Int.reduceSub, Int.reduceMul, Int.reduceToNat, Int.reduceNeg, Int.toNat_natCast, Nat.reduceLT, ge_iff_le, gt_iff_lt, Zt, Zu, *]))
  · exact ⟨X, Le.refl _, by unfold pickF; rw [if_pos h], rfl⟩
  · have hd : divF .rem .i64 n m = some (n.tmod m) := by
      unfold divF
      simp [show m ≠ 0 by omega]
    have h1 := Int.tmod_lt_of_pos n (show 0 < m by omega)
    have h2 : -m < n.tmod m := by
      have := Int.tmod_lt_of_pos (-n) (show 0 < m by omega)
      rw [Int.neg_tmod] at this
      omega
    simp (disch := first | omega | (simp only [Zv, Zw, Zx, Zy, Zz]; omega)) only [↓SA, Vi, Vj, Vk, Vl, Vm, List.set_cons_zero, List.set_cons_succ, Vn, Vo, Vp, Vq, Vr, Vs, Vt, Vu, Vv, Vw, Vx, Vy, List.forall_mem_cons, Vz, VA, VB, VC, VD, VE, VF, VG, VH, VI, VJ, VK, VL, VM, VN, VO, VP, VQ, VR, VS, VT, VU, VV, VW, VX, VY, VZ, V0, V1, V2, V3, V4, V5, V9, Ga, Gp, Gq, GF, GG, GH, GI, GJ, GK, GL, GM, GN, GO, Option.isNone_some, Option.isNone_none, Option.isSome_some, Option.isSome_none, GP, GQ, GR, GS, GT, GU, GV, GW, GX, GY, GZ, G0, G1, G2, G3, G4, G5, G6, G7, G8, G9, Za, Zb, Zc, Zd, Ze, Zf, Zg, Zh, Zi, Zj, Zk, Zl, Zm, Zn, Zo, List.drop_zero, List.take_succ_cons, List.drop_succ_cons, List.take_zero, List.take_nil, List.append_nil, List.nil_append, if_true, if_false, ite_true, ite_false, ↓reduceIte, Bool.false_eq_true, Bool.true_eq_false, decide_eq_true_eq, eq_self, true_and, and_true, Option.map_some, Option.map_none, Nat.reduceAdd, Nat.reduceEqDiff, Nat.reduceMul, Nat.add_zero, Nat.zero_add, reduceCtorEq, Bool.not_true, Bool.not_false, List.getElem?_cons_zero, List.getElem?_cons_succ, and_self, exists_eq_left', exists_eq_left, List.length_cons, List.length_nil, Nat.reduceLeDiff, Nat.reduceSub, Zr, Zs, decide_true, decide_false, Int.natCast_zero, Int.cast_ofNat_Int, Int.reduceLE, Int.reduceLT, Int.reduceEq, Int.reduceAdd, Int.reduceSub, Int.reduceMul, Int.reduceToNat, Int.reduceNeg, Int.toNat_natCast, Nat.reduceLT, ge_iff_le, gt_iff_lt, Zt, Zu, hd]
    repeat' (first | (refine cnd_intro (fun h => ?_) (fun h => ?_) <;> (try simp only [decide_eq_true_eq, decide_eq_false_iff_not, Bool.not_eq_true', Bool.not_eq_false'] at h) <;> (try simp (disch := first | omega | (simp only [Zv, Zw, Zx, Zy, Zz]; omega)) only [↓SA, Vi, Vj, Vk, Vl, Vm, List.set_cons_zero, List.set_cons_succ, Vn, Vo, Vp, Vq, Vr, Vs, Vt, Vu, Vv, Vw, Vx, Vy, List.forall_mem_cons, Vz, VA, VB, VC, VD, VE, VF, VG, VH, VI, VJ, VK, VL, VM, VN, VO, VP, VQ, VR, VS, VT, VU, VV, VW, VX, VY, VZ, V0, V1, V2, V3, V4, V5, V9, Ga, Gp, Gq, GF, GG, GH, GI, GJ, GK, GL, GM, GN, GO, Option.isNone_some, Option.isNone_none, Option.isSome_some, Option.isSome_none, GP, GQ, GR, GS, GT, GU, GV, GW, GX, GY, GZ, G0, G1, G2, G3, G4, G5, G6, G7, G8, G9, Za, Zb, Zc, Zd, Ze, Zf, Zg, Zh, Zi, Zj, Zk, Zl, Zm, Zn, Zo, List.drop_zero, List.take_succ_cons, List.drop_succ_cons, List.take_zero, List.take_nil, List.append_nil, List.nil_append, if_true, if_false, ite_true, ite_false, ↓reduceIte, Bool.false_eq_true, Bool.true_eq_false, decide_eq_true_eq, eq_self, true_and, and_true, Option.map_some, Option.map_none, Nat.reduceAdd, Nat.reduceEqDiff, Nat.reduceMul, Nat.add_zero, Nat.zero_add, reduceCtorEq, Bool.not_true, Bool.not_false, List.getElem?_cons_zero, List.getElem?_cons_succ, and_self, exists_eq_left', exists_eq_left, List.length_cons, List.length_nil, Nat.reduceLeDiff, Nat.reduceSub, Zr, Zs, decide_true, decide_false, Int.natCast_zero, Int.cast_ofNat_Int, Int.reduceLE, Int.reduceLT, Int.reduceEq, Int.reduceAdd, Int.reduceSub, Int.reduceMul, Int.reduceToNat, Int.reduceNeg, Int.toNat_natCast, Nat.reduceLT, ge_iff_le, gt_iff_lt, Zt, Zu, hd, *])) | (refine AllN_intro (fun n hn => ?_) <;> (try simp only [Zv, Zw, Zx, Zy, Zz] at hn)) | (simp (disch := first | omega | (simp only [Zv, Zw, Zx, Zy, Zz]; omega)) only [↓SA, Vi, Vj, Vk, Vl, Vm, List.set_cons_zero, List.set_cons_succ, Vn, Vo, Vp, Vq, Vr, Vs, Vt, Vu, Vv, Vw, Vx, Vy, List.forall_mem_cons, Vz, VA, VB, VC, VD, VE, VF, VG, VH, VI, VJ, VK, VL, VM, VN, VO, VP, VQ, VR, VS, VT, VU, VV, VW, VX, VY, VZ, V0, V1, V2, V3, V4, V5, V9, Ga, Gp, Gq, GF, GG, GH, GI, GJ, GK, GL, GM, GN, GO, Option.isNone_some, Option.isNone_none, Option.isSome_some, Option.isSome_none, GP, GQ, GR, GS, GT, GU, GV, GW, GX, GY, GZ, G0, G1, G2, G3, G4, G5, G6, G7, G8, G9, Za, Zb, Zc, Zd, Ze, Zf, Zg, Zh, Zi, Zj, Zk, Zl, Zm, Zn, Zo, List.drop_zero, List.take_succ_cons, List.drop_succ_cons, List.take_zero, List.take_nil, List.append_nil, List.nil_append, if_true, if_false, ite_true, ite_false, ↓reduceIte, Bool.false_eq_true, Bool.true_eq_false, decide_eq_true_eq, eq_self, true_and, and_true, Option.map_some, Option.map_none, Nat.reduceAdd, Nat.reduceEqDiff, Nat.reduceMul, Nat.add_zero, Nat.zero_add, reduceCtorEq, Bool.not_true, Bool.not_false, List.getElem?_cons_zero, List.getElem?_cons_succ, and_self, exists_eq_left', exists_eq_left, List.length_cons, List.length_nil, Nat.reduceLeDiff, Nat.reduceSub, Zr, Zs, decide_true, decide_false, Int.natCast_zero, Int.cast_ofNat_Int, Int.reduceLE, Int.reduceLT, Int.reduceEq, Int.reduceAdd, Int.reduceSub, Int.reduceMul, Int.reduceToNat, Int.reduceNeg, Int.toNat_natCast, Nat.reduceLT, ge_iff_le, gt_iff_lt, Zt, Zu, hd, *]))
    · exact ⟨X, Le.refl _, by unfold pickF; rw [if_neg (by omega), if_pos h], rfl⟩
    · exact ⟨X, Le.refl _, by unfold pickF; rw [if_neg (by omega), if_neg h], rfl⟩
/-- cards, texts and marks that lie somewhere -/
def CardsK (X : St) (po : Option Addr) (cs : List KC) : Prop := (cs = [] ∨ ∃ b o, po = some ⟨b, o, none⟩ ∧ cellsOf (X.get b) o (cs.length * 9) = some (cs.flatMap KC.cells)) ∧ ∀ c ∈ cs, PartsK X c.po c.ps
def TextsK (X : St) (po : Option Addr) (ts : List ByteArray) : Prop := ts = [] ∨ ∃ b o, po = some ⟨b, o, none⟩ ∧ cellsOf (X.get b) o ts.length = some (ts.map .string)
def MarksK (X : St) (po : Option Addr) (ms : List MK) : Prop := ms = [] ∨ ∃ b o, po = some ⟨b, o, none⟩ ∧ cellsOf (X.get b) o (ms.length * 4) = some (ms.flatMap MK.cells)
theorem CardsK.at {po : Option Addr} {cs : List KC} (h : CardsK X po cs) {k : Nat} {c : KC} (hc : cs[k]? = some c) : ∃ b o, po = some ⟨b, o, none⟩ ∧ cellsOf (X.get b) (o + k * 9) 9 = some c.cells := by
  rcases h.1 with rfl | ⟨b, o, rfl, h2⟩
  · simp at hc
  · have := (List.getElem?_eq_some_iff.1 hc).1
    exact ⟨b, o, rfl, by rw [cellsOf_sub h2 (by omega), flat_at hc]⟩
theorem MarksK.at {po : Option Addr} {ms : List MK} (h : MarksK X po ms) {k : Nat} {c : MK} (hc : ms[k]? = some c) : ∃ b o, po = some ⟨b, o, none⟩ ∧ cellsOf (X.get b) (o + k * 4) 4 = some c.cells := by
  rcases h with rfl | ⟨b, o, rfl, h⟩
  · simp at hc
  · have := (List.getElem?_eq_some_iff.1 hc).1
    exact ⟨b, o, rfl, by rw [cellsOf_sub h (by omega), mflat_at hc]⟩
theorem cellOf_of {M : Option Blk} {o : Nat} {v : Value} (h : cellsOf M o 1 = some [v]) : cellOf M o = some v := by
  unfold cellsOf at h
  unfold cellOf
  split at h
  · rename_i B
    split at h
    · rename_i hl
      have h := Option.some.inj h
      have h2 : ((B.cells.drop o).take 1)[0]? = some v := by rw [h]; rfl
      rw [List.getElem?_take, if_pos (by omega), List.getElem?_drop] at h2
      exact h2
    · cases h
  · cases h
theorem TextsK.at {po : Option Addr} {ts : List ByteArray} (h : TextsK X po ts) {k : Nat} {c : ByteArray} (hc : ts[k]? = some c) : ∃ b o, po = some ⟨b, o, none⟩ ∧ b < X.next ∧ cellOf (X.get b) (o + k * 1) = some (.string c) := by
  rcases h with rfl | ⟨b, o, rfl, h⟩
  · simp at hc
  · have hk := (List.getElem?_eq_some_iff.1 hc).1
    refine ⟨b, o, rfl, cellsOf_lt h, cellOf_of ?_⟩
    rw [Nat.mul_one, cellsOf_sub h (i := k) (m := 1) (by omega)]
    congr 1
    have : (ts.map Value.string)[k]? = some (.string c) := by rw [List.getElem?_map, hc]; rfl
    obtain ⟨h1, h2⟩ := List.getElem?_eq_some_iff.1 this
    rw [List.drop_eq_getElem_cons h1, h2]; rfl
theorem CardsK.le {Y : St} {po : Option Addr} {cs : List KC} (h : CardsK X po cs) (k : Le X Y) : CardsK Y po cs := by
  refine ⟨?_, fun c hc => (h.2 c hc).le k⟩
  rcases h.1 with h2 | ⟨b, o, rfl, h2⟩
  · exact .inl h2
  · exact .inr ⟨b, o, rfl, cellsOf_le h2 k⟩
theorem TextsK.le {Y : St} {po : Option Addr} {ts : List ByteArray} (h : TextsK X po ts) (k : Le X Y) : TextsK Y po ts := by
  rcases h with h | ⟨b, o, rfl, h⟩
  · exact .inl h
  · exact .inr ⟨b, o, rfl, cellsOf_le h k⟩
theorem MarksK.le {Y : St} {po : Option Addr} {ts : List MK} (h : MarksK X po ts) (k : Le X Y) : MarksK Y po ts := by
  rcases h with h | ⟨b, o, rfl, h⟩
  · exact .inl h
  · exact .inr ⟨b, o, rfl, cellsOf_le h k⟩
end Go.Proofs.YtdgbnaignpploaaDoor.bk
