/- book.Book: what a book tells; its list. -/
import Derived.Test.YtdgbnaignpploaaDoorSy
import Derived.Test.YtdgbnaignpploaaDoorB9
namespace Go.Proofs.YtdgbnaignpploaaDoor.bk
open Go.Sym
set_option linter.unusedVariables false
set_option linter.unusedSimpArgs false
set_option maxRecDepth 100000
variable {Bar : Nat} {X : St}
theorem nine {α : Type} {l : List α} (h : l.length = 9) : ∃ a b c d e f g i j, l = [a, b, c, d, e, f, g, i, j] := by
  match l, h with
  | [a, b, c, d, e, f, g, i, j], _ => exact ⟨a, b, c, d, e, f, g, i, j, rfl⟩
theorem five {α : Type} {l : List α} (h : l.length = 5) : ∃ a b c d e, l = [a, b, c, d, e] := by
  match l, h with
  | [a, b, c, d, e], _ => exact ⟨a, b, c, d, e, rfl⟩
theorem res108 : ∀ A X a, resV Go.Proofs.Tryd.prog A X (.cell a 108) = cellRes (A.get a) X (some 30) := res_cell (by kernel_rfl)
set_option maxHeartbeats 2000000 in
theorem d_tells {b : Nat} {s : Bool} {cs zs : List KC} {ns : List ByteArray} {ms : List MK} (hB : BkT X b s cs zs ns ms) : Does Go.Proofs.Tryd.prog Bar 64 [.pointer (some ⟨b, 0, none⟩)] X (fun r X' => r = .agg ⟨.bool s :: tlL ns ms⟩ ∧ X' = X) := by
  have hb := hB.bk.blk
  have hl : (cs ++ zs).length = 64 := by rw [List.length_append]; exact hB.bk.len
  have hblt := St.lt hb
  have hN := fun m e wr => bk_names (s := s) (n := cs.length) hl hB.nl hB.ml m e wr
  have hM := fun m e wr => bk_marks (s := s) (n := cs.length) hl hB.nl hB.ml m e wr
  obtain ⟨n0, n1, n2, n3, n4, n5, n6, n7, n8, rfl⟩ := nine hB.nl
  obtain ⟨⟨a0, b0, c0, d0⟩, ⟨a1, b1, c1, d1⟩, ⟨a2, b2, c2, d2⟩, ⟨a3, b3, c3, d3⟩, ⟨a4, b4, c4, d4⟩, rfl⟩ := five hB.ml
  simp only [List.map_cons, List.map_nil, List.flatMap_cons, List.flatMap_nil, MK.cells, List.cons_append, List.nil_append] at hN hM
  generalize hT : tlL [n0, n1, n2, n3, n4, n5, n6, n7, n8] [⟨a0, b0, c0, d0⟩, ⟨a1, b1, c1, d1⟩, ⟨a2, b2, c2, d2⟩, ⟨a3, b3, c3, d3⟩, ⟨a4, b4, c4, d4⟩] = T at *
  refine Does.body numOK mixed k.f64 rfl k.o64 (Nat.le_of_ble_eq_true rfl) ?_
  simp (disch := first | omega | (simp only [Zv, Zw, Zx, Zy, Zz]; omega)) only [↓SA, Vi, Vj, Vk, Vl, Vm, List.set_cons_zero, List.set_cons_succ, Vn, Vo, Vp, Vq, Vr, Vs, Vt, Vu, Vv, Vw, Vx, Vy, List.forall_mem_cons, Vz, VA, VB, VC, VD, VE, VF, VG, VH, VI, VJ, VK, VL, VM, VN, VO, VP, VQ, VR, VS, VT, VU, VV, VW, VX, VY, VZ, V0, V1, V2, V3, V4, V5, V9, Ga, Gp, Gq, GF, GG, GH, GI, GJ, GK, GL, GM, GN, GO, Option.isNone_some, Option.isNone_none, Option.isSome_some, Option.isSome_none, GP, GQ, GR, GS, GT, GU, GV, GW, GX, GY, GZ, G0, G1, G2, G3, G4, G5, G6, G7, G8, G9, Za, Zb, Zc, Zd, Ze, Zf, Zg, Zh, Zi, Zj, Zk, Zl, Zm, Zn, Zo, List.drop_zero, List.take_succ_cons, List.drop_succ_cons, List.take_zero, List.take_nil, List.append_nil, List.nil_append, if_true, if_false, ite_true, ite_false, ↓reduceIte, Bool.false_eq_true, Bool.true_eq_false, decide_eq_true_eq, eq_self, true_and, and_true, Option.map_some, Option.map_none, Nat.reduceAdd, Nat.reduceEqDiff, Nat.reduceMul, Nat.add_zero, Nat.zero_add, reduceCtorEq, Bool.not_true, Bool.not_false, List.getElem?_cons_zero, List.getElem?_cons_succ, and_self, exists_eq_left', exists_eq_left, List.length_cons, List.length_nil, Nat.reduceLeDiff, Nat.reduceSub, Zr, Zs, decide_true, decide_false, Int.natCast_zero, Int.cast_ofNat_Int, Int.reduceLE, Int.reduceLT, Int.reduceEq, Int.reduceAdd, Int.reduceSub, Int.reduceMul, Int.reduceToNat, Int.reduceNeg, Int.toNat_natCast, Nat.reduceLT, ge_iff_le, gt_iff_lt, Zt, Zu, hb, bkL_1]
  refine AllN_intro (fun n hn => ?_)
  simp (disch := first | omega | (simp only [Zv, Zw, Zx, Zy, Zz]; omega)) only [↓SA, Vi, Vj, Vk, Vl, Vm, List.set_cons_zero, List.set_cons_succ, Vn, Vo, Vp, Vq, Vr, Vs, Vt, Vu, Vv, Vw, Vx, Vy, List.forall_mem_cons, Vz, VA, VB, VC, VD, VE, VF, VG, VH, VI, VJ, VK, VL, VM, VN, VO, VP, VQ, VR, VS, VT, VU, VV, VW, VX, VY, VZ, V0, V1, V2, V3, V4, V5, V9, Ga, Gp, Gq, GF, GG, GH, GI, GJ, GK, GL, GM, GN, GO, Option.isNone_some, Option.isNone_none, Option.isSome_some, Option.isSome_none, GP, GQ, GR, GS, GT, GU, GV, GW, GX, GY, GZ, G0, G1, G2, G3, G4, G5, G6, G7, G8, G9, Za, Zb, Zc, Zd, Ze, Zf, Zg, Zh, Zi, Zj, Zk, Zl, Zm, Zn, Zo, List.drop_zero, List.take_succ_cons, List.drop_succ_cons, List.take_zero, List.take_nil, List.append_nil, List.nil_append, if_true, if_false, ite_true, ite_false, ↓reduceIte, Bool.false_eq_true, Bool.true_eq_false, decide_eq_true_eq, eq_self, true_and, and_true, Option.map_some, Option.map_none, Nat.reduceAdd, Nat.reduceEqDiff, Nat.reduceMul, Nat.add_zero, Nat.zero_add, reduceCtorEq, Bool.not_true, Bool.not_false, List.getElem?_cons_zero, List.getElem?_cons_succ, and_self, exists_eq_left', exists_eq_left, List.length_cons, List.length_nil, Nat.reduceLeDiff, Nat.reduceSub, Zr, Zs, decide_true, decide_false, Int.natCast_zero, Int.cast_ofNat_Int, Int.reduceLE, Int.reduceLT, Int.reduceEq, Int.reduceAdd, Int.reduceSub, Int.reduceMul, Int.reduceToNat, Int.reduceNeg, Int.toNat_natCast, Nat.reduceLT, ge_iff_le, gt_iff_lt, Zt, Zu, hb, bkL_1, hN, hM, res108]
  exact ⟨X, (by repeat' (first | exact Le.refl _ | (refine Le.new_of ?_ (by first | omega | (simp only [Zv, Zw, Zx, Zy, Zz] at *; omega))) | (refine Le.set_of ?_ (by first | omega | (simp only [Zv, Zw, Zx, Zy, Zz] at *; omega))))), by subst hT; rfl, rfl⟩
def namesEq : List ByteArray → List ByteArray → Bool
  | a :: r, b :: q => beqB a b && namesEq r q
  | _, _ => true
def mkEq (a b : MK) : Bool := decide (a.ma = b.ma) && (beqB a.nm b.nm && (decide (a.po = b.po) && (decide (a.he = b.he) && true)))
def marksEq : List MK → List MK → Bool
  | a :: r, b :: q => mkEq a b && marksEq r q
  | _, _ => true
def toldEq (s s' : Bool) (ns ns' : List ByteArray) (ms ms' : List MK) : Bool := (s == s') && (namesEq ns ns' && (marksEq ms ms' && true))
theorem eqtTold {s s' : Bool} {ns ns' : List ByteArray} {ms ms' : List MK} (h1 : ns.length = 9) (h2 : ns'.length = 9) (h3 : ms.length = 5) (h4 : ms'.length = 5) :
    EqTells Go.Proofs.Tryd.prog 108 ⟨.bool s :: tlL ns ms⟩ ⟨.bool s' :: tlL ns' ms'⟩ (toldEq s s' ns ns' ms ms') := by
  obtain ⟨n0, n1, n2, n3, n4, n5, n6, n7, n8, rfl⟩ := nine h1
  obtain ⟨m0, m1, m2, m3, m4, m5, m6, m7, m8, rfl⟩ := nine h2
  obtain ⟨⟨a0, b0, c0, d0⟩, ⟨a1, b1, c1, d1⟩, ⟨a2, b2, c2, d2⟩, ⟨a3, b3, c3, d3⟩, ⟨a4, b4, c4, d4⟩, rfl⟩ := five h3
  obtain ⟨⟨e0, f0, g0, i0⟩, ⟨e1, f1, g1, i1⟩, ⟨e2, f2, g2, i2⟩, ⟨e3, f3, g3, i3⟩, ⟨e4, f4, g4, i4⟩, rfl⟩ := five h4
  exact EqTells.of (by kernel_rfl) (by kernel_rfl)
end Go.Proofs.YtdgbnaignpploaaDoor.bk
