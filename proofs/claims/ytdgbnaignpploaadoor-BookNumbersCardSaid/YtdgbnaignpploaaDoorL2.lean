/- gambitlaw07: one thing is added to a book. -/
import Derived.Test.YtdgbnaignpploaaDoorSy
import Derived.Test.YtdgbnaignpploaaDoorL1
namespace Go.Proofs.YtdgbnaignpploaaDoor.bk
open Go.Sym
set_option linter.unusedVariables false
set_option linter.unusedSimpArgs false
set_option maxRecDepth 100000
variable {Bar : Nat} {X : St}
inductive Item where
  | card (c : KC)
  | trait (t : Int) (x : ByteArray)
  | mark (m : MK)
/-- what adding a thing does -/
def Step (s : Bool) (e : Int) (cs cs' : List KC) (ns ns' : List ByteArray) (ms ms' : List MK) : Item → Prop
  | .card c => e = cardRes s cs c ∧ ns' = ns ∧ ms' = ms ∧ ((e = 0 ∧ ∃ po' pc', cs' = ins ⟨c.h, po', pc', c.ps⟩ cs) ∨ (e ≠ 0 ∧ cs' = cs))
  | .trait t x => e = traitRes s ns t x ∧ cs' = cs ∧ ms' = ms ∧ ((e = 0 ∧ ns' = ns.set t.toNat x) ∨ (e ≠ 0 ∧ ns' = ns))
  | .mark m => e = markRes s ms m ∧ cs' = cs ∧ ns' = ns ∧ ((e = 0 ∧ ms' = ms.set m.ma.toNat m) ∨ (e ≠ 0 ∧ ms' = ms))
/-- the things of a Fill, by their numbers -/
def itemAt (cards : List KC) (texts : List ByteArray) (marks : List MK) (i : Nat) : Option Item :=
  if i < cards.length then (cards[i]?).map .card
  else if i - cards.length < texts.length then (texts[i - cards.length]?).map (.trait (1 + ((i - cards.length : Nat) : Int)))
  else (marks[i - cards.length - texts.length]?).map .mark
theorem itemAt_lt {cards : List KC} {texts : List ByteArray} {marks : List MK} {i : Nat} {it : Item} (h : itemAt cards texts marks i = some it) : i < cards.length + texts.length + marks.length := by
  unfold itemAt at h
  split at h
  · omega
  · split at h
    · omega
    · cases hm : marks[i - cards.length - texts.length]? with
      | none => rw [hm] at h; cases h
      | some m => have := (List.getElem?_eq_some_iff.1 hm).1; omega
set_option maxHeartbeats 4000000 in
theorem d_one {b : Nat} {s : Bool} {cs zs : List KC} {ns : List ByteArray} {ms : List MK} (hB : Bk X b s cs zs ns ms) {co to mo : Option Addr} {cc tc mc : Nat} {cards : List KC} {texts : List ByteArray} {marks : List MK}
    (h1 : CardsK X co cards) (h2 : TextsK X to texts) (h3 : MarksK X mo marks) (hne : ∀ c ∈ cards, c.ps ≠ [] → ∀ p, c.po = some p → p.block ≠ b) (l1 : cards.length ≤ 80) (l2 : texts.length ≤ 8) (l3 : marks.length ≤ 8) (i : Nat) {it : Item} (hi : itemAt cards texts marks i = some it) :
    Does Go.Proofs.Tryd.prog Bar 54 [.pointer (some ⟨b, 0, none⟩), .agg ⟨[.slice co cards.length cc, .slice to texts.length tc, .slice mo marks.length mc]⟩, .int .i64 i] X (fun r X' => ∃ e cs' zs' ns' ms', r = .int .i64 e ∧ Bk X' b s cs' zs' ns' ms' ∧ Step s e cs cs' ns ns' ms ms' it ∧ Keep b X X') := by
  have hblt := St.lt hB.t.bk.blk
  have hilt := itemAt_lt hi
  unfold itemAt at hi
  refine Does.body numOK mixed k.f54 rfl k.o54 (Nat.le_of_ble_eq_true rfl) ?_
  simp (disch := first | omega | (simp only [Zv, Zw, Zx, Zy, Zz]; omega)) only [↓SA, Vi, Vj, Vk, Vl, Vm, List.set_cons_zero, List.set_cons_succ, Vn, Vo, Vp, Vq, Vr, Vs, Vt, Vu, Vv, Vw, Vx, Vy, List.forall_mem_cons, Vz, VA, VB, VC, VD, VE, VF, VG, VH, VI, VJ, VK, VL, VM, VN, VO, VP, VQ, VR, VS, VT, VU, VV, VW, VX, VY, VZ, V0, V1, V2, V3, V4, V5, V9, Ga, Gp, Gq, GF, GG, GH, GI, GJ, GK, GL, GM, GN, GO, Option.isNone_some, Option.isNone_none, Option.isSome_some, Option.isSome_none, GP, GQ, GR, GS, GT, GU, GV, GW, GX, GY, GZ, G0, G1, G2, G3, G4, G5, G6, G7, G8, G9, Za, Zb, Zc, Zd, Ze, Zf, Zg, Zh, Zi, Zj, Zk, Zl, Zm, Zn, Zo, List.drop_zero, List.take_succ_cons, List.drop_succ_cons, List.take_zero, List.take_nil, List.append_nil, List.nil_append, if_true, if_false, ite_true, ite_false, ↓reduceIte, Bool.false_eq_true, Bool.true_eq_false, decide_eq_true_eq, eq_self, true_and, and_true, Option.map_some, Option.map_none, Nat.reduceAdd, Nat.reduceEqDiff, Nat.reduceMul, Nat.add_zero, Nat.zero_add, reduceCtorEq, Bool.not_true, Bool.not_false, List.getElem?_cons_zero, List.getElem?_cons_succ, and_self, exists_eq_left', exists_eq_left, List.length_cons, List.length_nil, Nat.reduceLeDiff, Nat.reduceSub, Zr, Zs, decide_true, decide_false, Int.natCast_zero, Int.cast_ofNat_Int, Int.reduceLE, Int.reduceLT, Int.reduceEq, Int.reduceAdd, Int.reduceSub, Int.reduceMul, Int.reduceToNat, Int.reduceNeg, Int.toNat_natCast, Nat.reduceLT, ge_iff_le, gt_iff_lt, Zt, Zu]
  refine AllN_intro (fun n hn => ?_)
  have hL : ∀ B, Le X (X.new n B) := fun B => Le.new (Le.refl _) hn
  by_cases hA : i < cards.length
  · rw [if_pos hA] at hi
    obtain ⟨c, hc⟩ : ∃ c, cards[i]? = some c := ⟨_, List.getElem?_eq_getElem hA⟩
    rw [hc] at hi
    cases hi
    obtain ⟨cb, o, rfl, hcc⟩ := h1.at hc
    have hcl := cellsOf_lt hcc
    have hA' : decide ((i : Int) < cards.length) = true := decide_eq_true (by omega)
    simp (disch := first | omega | (simp only [Zv, Zw, Zx, Zy, Zz]; omega)) only [↓SA, Vi, Vj, Vk, Vl, Vm, List.set_cons_zero, List.set_cons_succ, Vn, Vo, Vp, Vq, Vr, Vs, Vt, Vu, Vv, Vw, Vx, Vy, List.forall_mem_cons, Vz, VA, VB, VC, VD, VE, VF, VG, VH, VI, VJ, VK, VL, VM, VN, VO, VP, VQ, VR, VS, VT, VU, VV, VW, VX, VY, VZ, V0, V1, V2, V3, V4, V5, V9, Ga, Gp, Gq, GF, GG, GH, GI, GJ, GK, GL, GM, GN, GO, Option.isNone_some, Option.isNone_none, Option.isSome_some, Option.isSome_none, GP, GQ, GR, GS, GT, GU, GV, GW, GX, GY, GZ, G0, G1, G2, G3, G4, G5, G6, G7, G8, G9, Za, Zb, Zc, Zd, Ze, Zf, Zg, Zh, Zi, Zj, Zk, Zl, Zm, Zn, Zo, List.drop_zero, List.take_succ_cons, List.drop_succ_cons, List.take_zero, List.take_nil, List.append_nil, List.nil_append, if_true, if_false, ite_true, ite_false, ↓reduceIte, Bool.false_eq_true, Bool.true_eq_false, decide_eq_true_eq, eq_self, true_and, and_true, Option.map_some, Option.map_none, Nat.reduceAdd, Nat.reduceEqDiff, Nat.reduceMul, Nat.add_zero, Nat.zero_add, reduceCtorEq, Bool.not_true, Bool.not_false, List.getElem?_cons_zero, List.getElem?_cons_succ, and_self, exists_eq_left', exists_eq_left, List.length_cons, List.length_nil, Nat.reduceLeDiff, Nat.reduceSub, Zr, Zs, decide_true, decide_false, Int.natCast_zero, Int.cast_ofNat_Int, Int.reduceLE, Int.reduceLT, Int.reduceEq, Int.reduceAdd, Int.reduceSub, Int.reduceMul, Int.reduceToNat, Int.reduceNeg, Int.toNat_natCast, Nat.reduceLT, ge_iff_le, gt_iff_lt, Zt, Zu, hA', Int.toNat_natCast, hcc]
    refine DoesK.by (k_card (hB.le (hL _)) c ((h1.2 c (List.mem_of_getElem? hc)).le (hL _)) (hne c (List.mem_of_getElem? hc))) ?_
    rintro _ Y ⟨rfl, e1, e2, e3⟩
    simp (disch := first | omega | (simp only [Zv, Zw, Zx, Zy, Zz]; omega)) only [↓SA, Vi, Vj, Vk, Vl, Vm, List.set_cons_zero, List.set_cons_succ, Vn, Vo, Vp, Vq, Vr, Vs, Vt, Vu, Vv, Vw, Vx, Vy, List.forall_mem_cons, Vz, VA, VB, VC, VD, VE, VF, VG, VH, VI, VJ, VK, VL, VM, VN, VO, VP, VQ, VR, VS, VT, VU, VV, VW, VX, VY, VZ, V0, V1, V2, V3, V4, V5, V9, Ga, Gp, Gq, GF, GG, GH, GI, GJ, GK, GL, GM, GN, GO, Option.isNone_some, Option.isNone_none, Option.isSome_some, Option.isSome_none, GP, GQ, GR, GS, GT, GU, GV, GW, GX, GY, GZ, G0, G1, G2, G3, G4, G5, G6, G7, G8, G9, Za, Zb, Zc, Zd, Ze, Zf, Zg, Zh, Zi, Zj, Zk, Zl, Zm, Zn, Zo, List.drop_zero, List.take_succ_cons, List.drop_succ_cons, List.take_zero, List.take_nil, List.append_nil, List.nil_append, if_true, if_false, ite_true, ite_false, ↓reduceIte, Bool.false_eq_true, Bool.true_eq_false, decide_eq_true_eq, eq_self, true_and, and_true, Option.map_some, Option.map_none, Nat.reduceAdd, Nat.reduceEqDiff, Nat.reduceMul, Nat.add_zero, Nat.zero_add, reduceCtorEq, Bool.not_true, Bool.not_false, List.getElem?_cons_zero, List.getElem?_cons_succ, and_self, exists_eq_left', exists_eq_left, List.length_cons, List.length_nil, Nat.reduceLeDiff, Nat.reduceSub, Zr, Zs, decide_true, decide_false, Int.natCast_zero, Int.cast_ofNat_Int, Int.reduceLE, Int.reduceLT, Int.reduceEq, Int.reduceAdd, Int.reduceSub, Int.reduceMul, Int.reduceToNat, Int.reduceNeg, Int.toNat_natCast, Nat.reduceLT, ge_iff_le, gt_iff_lt, Zt, Zu]
    have hKX : Keep b X Y := (Keep.of_le (hL _)).trans e3
    by_cases h0 : cardRes s cs c = 0
    · obtain ⟨po', pc', zs', hB'⟩ := e2 h0
      exact ⟨Y, Le.refl _, _, _, zs', ns, ms, rfl, hB', ⟨rfl, rfl, rfl, .inl ⟨h0, po', pc', rfl⟩⟩, hKX⟩
    · rw [e1 h0] at hKX ⊢
      exact ⟨_, Le.refl _, _, cs, zs, ns, ms, rfl, hB.le (hL _), ⟨rfl, rfl, rfl, .inr ⟨h0, rfl⟩⟩, hKX⟩
  · rw [if_neg hA] at hi
    have hA' : decide ((i : Int) < cards.length) = false := decide_eq_false (by omega)
    have hsub : IntKind.i64.wrap ((i : Int) - cards.length) = ((i - cards.length : Nat) : Int) := by rw [Zt] <;> omega
    by_cases hT : i - cards.length < texts.length
    · rw [if_pos hT] at hi
      obtain ⟨x, hx⟩ : ∃ x, texts[i - cards.length]? = some x := ⟨_, List.getElem?_eq_getElem hT⟩
      rw [hx] at hi
      cases hi
      obtain ⟨tb, o, rfl, htl, hcc⟩ := h2.at hx
      have hT' : decide (((i - cards.length : Nat) : Int) < texts.length) = true := decide_eq_true (by omega)
      have hsum : IntKind.i64.wrap (1 + ((i - cards.length : Nat) : Int)) = 1 + ((i - cards.length : Nat) : Int) := by rw [Zt] <;> omega
      have hu8 : IntKind.u8.wrap (1 + ((i - cards.length : Nat) : Int)) = 1 + ((i - cards.length : Nat) : Int) := Zu (by omega) (by omega)
      simp (disch := first | omega | (simp only [Zv, Zw, Zx, Zy, Zz]; omega)) only [↓SA, Vi, Vj, Vk, Vl, Vm, List.set_cons_zero, List.set_cons_succ, Vn, Vo, Vp, Vq, Vr, Vs, Vt, Vu, Vv, Vw, Vx, Vy, List.forall_mem_cons, Vz, VA, VB, VC, VD, VE, VF, VG, VH, VI, VJ, VK, VL, VM, VN, VO, VP, VQ, VR, VS, VT, VU, VV, VW, VX, VY, VZ, V0, V1, V2, V3, V4, V5, V9, Ga, Gp, Gq, GF, GG, GH, GI, GJ, GK, GL, GM, GN, GO, Option.isNone_some, Option.isNone_none, Option.isSome_some, Option.isSome_none, GP, GQ, GR, GS, GT, GU, GV, GW, GX, GY, GZ, G0, G1, G2, G3, G4, G5, G6, G7, G8, G9, Za, Zb, Zc, Zd, Ze, Zf, Zg, Zh, Zi, Zj, Zk, Zl, Zm, Zn, Zo, List.drop_zero, List.take_succ_cons, List.drop_succ_cons, List.take_zero, List.take_nil, List.append_nil, List.nil_append, if_true, if_false, ite_true, ite_false, ↓reduceIte, Bool.false_eq_true, Bool.true_eq_false, decide_eq_true_eq, eq_self, true_and, and_true, Option.map_some, Option.map_none, Nat.reduceAdd, Nat.reduceEqDiff, Nat.reduceMul, Nat.add_zero, Nat.zero_add, reduceCtorEq, Bool.not_true, Bool.not_false, List.getElem?_cons_zero, List.getElem?_cons_succ, and_self, exists_eq_left', exists_eq_left, List.length_cons, List.length_nil, Nat.reduceLeDiff, Nat.reduceSub, Zr, Zs, decide_true, decide_false, Int.natCast_zero, Int.cast_ofNat_Int, Int.reduceLE, Int.reduceLT, Int.reduceEq, Int.reduceAdd, Int.reduceSub, Int.reduceMul, Int.reduceToNat, Int.reduceNeg, Int.toNat_natCast, Nat.reduceLT, ge_iff_le, gt_iff_lt, Zt, Zu, hA', hsub, hT', hsum, hu8, Int.toNat_natCast, hcc]
      refine DoesK.by (k_trait (hB.le (hL _)) _ x) ?_
      rintro _ Y ⟨rfl, e1, e2, e3⟩
      simp (disch := first | omega | (simp only [Zv, Zw, Zx, Zy, Zz]; omega)) only [↓SA, Vi, Vj, Vk, Vl, Vm, List.set_cons_zero, List.set_cons_succ, Vn, Vo, Vp, Vq, Vr, Vs, Vt, Vu, Vv, Vw, Vx, Vy, List.forall_mem_cons, Vz, VA, VB, VC, VD, VE, VF, VG, VH, VI, VJ, VK, VL, VM, VN, VO, VP, VQ, VR, VS, VT, VU, VV, VW, VX, VY, VZ, V0, V1, V2, V3, V4, V5, V9, Ga, Gp, Gq, GF, GG, GH, GI, GJ, GK, GL, GM, GN, GO, Option.isNone_some, Option.isNone_none, Option.isSome_some, Option.isSome_none, GP, GQ, GR, GS, GT, GU, GV, GW, GX, GY, GZ, G0, G1, G2, G3, G4, G5, G6, G7, G8, G9, Za, Zb, Zc, Zd, Ze, Zf, Zg, Zh, Zi, Zj, Zk, Zl, Zm, Zn, Zo, List.drop_zero, List.take_succ_cons, List.drop_succ_cons, List.take_zero, List.take_nil, List.append_nil, List.nil_append, if_true, if_false, ite_true, ite_false, ↓reduceIte, Bool.false_eq_true, Bool.true_eq_false, decide_eq_true_eq, eq_self, true_and, and_true, Option.map_some, Option.map_none, Nat.reduceAdd, Nat.reduceEqDiff, Nat.reduceMul, Nat.add_zero, Nat.zero_add, reduceCtorEq, Bool.not_true, Bool.not_false, List.getElem?_cons_zero, List.getElem?_cons_succ, and_self, exists_eq_left', exists_eq_left, List.length_cons, List.length_nil, Nat.reduceLeDiff, Nat.reduceSub, Zr, Zs, decide_true, decide_false, Int.natCast_zero, Int.cast_ofNat_Int, Int.reduceLE, Int.reduceLT, Int.reduceEq, Int.reduceAdd, Int.reduceSub, Int.reduceMul, Int.reduceToNat, Int.reduceNeg, Int.toNat_natCast, Nat.reduceLT, ge_iff_le, gt_iff_lt, Zt, Zu]
      have hKX : Keep b X Y := (Keep.of_le (hL _)).trans e3
      by_cases h0 : traitRes s ns (1 + ((i - cards.length : Nat) : Int)) x = 0
      · exact ⟨Y, Le.refl _, _, _, zs, _, ms, rfl, e2 h0, ⟨rfl, rfl, rfl, .inl ⟨h0, rfl⟩⟩, hKX⟩
      · rw [e1 h0] at hKX ⊢
        exact ⟨_, Le.refl _, _, cs, zs, ns, ms, rfl, hB.le (hL _), ⟨rfl, rfl, rfl, .inr ⟨h0, rfl⟩⟩, hKX⟩
    · rw [if_neg hT] at hi
      obtain ⟨m, hm⟩ : ∃ m, marks[i - cards.length - texts.length]? = some m := by
        cases hm : marks[i - cards.length - texts.length]? with
        | none => rw [hm] at hi; cases hi
        | some m => exact ⟨m, rfl⟩
      rw [hm] at hi
      cases hi
      obtain ⟨mb, o, rfl, hcc⟩ := h3.at hm
      have hml := cellsOf_lt hcc
      have hmk := (List.getElem?_eq_some_iff.1 hm).1
      have hT' : decide (((i - cards.length : Nat) : Int) < texts.length) = false := decide_eq_false (by omega)
      have hsub2 : IntKind.i64.wrap (((i - cards.length : Nat) : Int) - texts.length) = ((i - cards.length - texts.length : Nat) : Int) := by rw [Zt] <;> omega
      simp (disch := first | omega | (simp only [Zv, Zw, Zx, Zy, Zz]; omega)) only [↓SA, Vi, Vj, Vk, Vl, Vm, List.set_cons_zero, List.set_cons_succ, Vn, Vo, Vp, Vq, Vr, Vs, Vt, Vu, Vv, Vw, Vx, Vy, List.forall_mem_cons, Vz, VA, VB, VC, VD, VE, VF, VG, VH, VI, VJ, VK, VL, VM, VN, VO, VP, VQ, VR, VS, VT, VU, VV, VW, VX, VY, VZ, V0, V1, V2, V3, V4, V5, V9, Ga, Gp, Gq, GF, GG, GH, GI, GJ, GK, GL, GM, GN, GO, Option.isNone_some, Option.isNone_none, Option.isSome_some, Option.isSome_none, GP, GQ, GR, GS, GT, GU, GV, GW, GX, GY, GZ, G0, G1, G2, G3, G4, G5, G6, G7, G8, G9, Za, Zb, Zc, Zd, Ze, Zf, Zg, Zh, Zi, Zj, Zk, Zl, Zm, Zn, Zo, List.drop_zero, List.take_succ_cons, List.drop_succ_cons, List.take_zero, List.take_nil, List.append_nil, List.nil_append, if_true, if_false, ite_true, ite_false, ↓reduceIte, Bool.false_eq_true, Bool.true_eq_false, decide_eq_true_eq, eq_self, true_and, and_true, Option.map_some, Option.map_none, Nat.reduceAdd, Nat.reduceEqDiff, Nat.reduceMul, Nat.add_zero, Nat.zero_add, reduceCtorEq, Bool.not_true, Bool.not_false, List.getElem?_cons_zero, List.getElem?_cons_succ, and_self, exists_eq_left', exists_eq_left, List.length_cons, List.length_nil, Nat.reduceLeDiff, Nat.reduceSub, Zr, Zs, decide_true, decide_false, Int.natCast_zero, Int.cast_ofNat_Int, Int.reduceLE, Int.reduceLT, Int.reduceEq, Int.reduceAdd, Int.reduceSub, Int.reduceMul, Int.reduceToNat, Int.reduceNeg, Int.toNat_natCast, Nat.reduceLT, ge_iff_le, gt_iff_lt, Zt, Zu, hA', hsub, hT', hsub2, Int.toNat_natCast, hcc]
      refine DoesK.by (k_mark (hB.le (hL _)) m) ?_
      rintro _ Y ⟨rfl, e1, e2, e3⟩
      simp (disch := first | omega | (simp only [Zv, Zw, Zx, Zy, Zz]; omega)) only [↓SA, Vi, Vj, Vk, Vl, Vm, List.set_cons_zero, List.set_cons_succ, Vn, Vo, Vp, Vq, Vr, Vs, Vt, Vu, Vv, Vw, Vx, Vy, List.forall_mem_cons, Vz, VA, VB, VC, VD, VE, VF, VG, VH, VI, VJ, VK, VL, VM, VN, VO, VP, VQ, VR, VS, VT, VU, VV, VW, VX, VY, VZ, V0, V1, V2, V3, V4, V5, V9, Ga, Gp, Gq, GF, GG, GH, GI, GJ, GK, GL, GM, GN, GO, Option.isNone_some, Option.isNone_none, Option.isSome_some, Option.isSome_none, GP, GQ, GR, GS, GT, GU, GV, GW, GX, GY, GZ, G0, G1, G2, G3, G4, G5, G6, G7, G8, G9, Za, Zb, Zc, Zd, Ze, Zf, Zg, Zh, Zi, Zj, Zk, Zl, Zm, Zn, Zo, List.drop_zero, List.take_succ_cons, List.drop_succ_cons, List.take_zero, List.take_nil, List.append_nil, List.nil_append, if_true, if_false, ite_true, ite_false, ↓reduceIte, Bool.false_eq_true, Bool.true_eq_false, decide_eq_true_eq, eq_self, true_and, and_true, Option.map_some, Option.map_none, Nat.reduceAdd, Nat.reduceEqDiff, Nat.reduceMul, Nat.add_zero, Nat.zero_add, reduceCtorEq, Bool.not_true, Bool.not_false, List.getElem?_cons_zero, List.getElem?_cons_succ, and_self, exists_eq_left', exists_eq_left, List.length_cons, List.length_nil, Nat.reduceLeDiff, Nat.reduceSub, Zr, Zs, decide_true, decide_false, Int.natCast_zero, Int.cast_ofNat_Int, Int.reduceLE, Int.reduceLT, Int.reduceEq, Int.reduceAdd, Int.reduceSub, Int.reduceMul, Int.reduceToNat, Int.reduceNeg, Int.toNat_natCast, Nat.reduceLT, ge_iff_le, gt_iff_lt, Zt, Zu]
      have hKX : Keep b X Y := (Keep.of_le (hL _)).trans e3
      by_cases h0 : markRes s ms m = 0
      · exact ⟨Y, Le.refl _, _, _, zs, ns, _, rfl, e2 h0, ⟨rfl, rfl, rfl, .inl ⟨h0, rfl⟩⟩, hKX⟩
      · rw [e1 h0] at hKX ⊢
        exact ⟨_, Le.refl _, _, cs, zs, ns, ms, rfl, hB.le (hL _), ⟨rfl, rfl, rfl, .inr ⟨h0, rfl⟩⟩, hKX⟩
end Go.Proofs.YtdgbnaignpploaaDoor.bk
