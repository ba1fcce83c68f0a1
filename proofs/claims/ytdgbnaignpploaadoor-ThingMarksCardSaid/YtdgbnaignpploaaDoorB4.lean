/- book.Book: a trait is added. -/
import Derived.Test.YtdgbnaignpploaaDoorSy
import Derived.Test.YtdgbnaignpploaaDoorB2
import Derived.Test.YtdgbnaignpploaaDoorB3
namespace Go.Proofs.YtdgbnaignpploaaDoor.bk
open Go.Sym
set_option linter.unusedVariables false
set_option linter.unusedSimpArgs false
set_option maxRecDepth 100000
variable {Bar : Nat} {X : St}
/-- names of traits; marks -/
def tlL (ns : List ByteArray) (ms : List MK) : List Value := ns.map .string ++ ms.flatMap MK.cells
theorem mflat_len : ∀ ms : List MK, (ms.flatMap MK.cells).length = ms.length * 4
  | [] => rfl
  | m :: ms => by rw [List.flatMap_cons, List.length_append, mflat_len ms, List.length_cons]; show 4 + _ = _; omega
structure BkT (X : St) (b : Nat) (s : Bool) (cs zs : List KC) (ns : List ByteArray) (ms : List MK) : Prop where
  bk : BkA X b s cs zs (tlL ns ms)
  nl : ns.length = 9
  ml : ms.length = 5
theorem tl_len {ns : List ByteArray} {ms : List MK} (h1 : ns.length = 9) (h2 : ms.length = 5) : (tlL ns ms).length = 29 := by
  unfold tlL; rw [List.length_append, List.length_map, mflat_len]; omega
theorem tl_name {ns : List ByteArray} {t : Nat} {x : ByteArray} (h : ns[t]? = some x) (ms : List MK) : (tlL ns ms)[t]? = some (.string x) := by
  unfold tlL
  have := (List.getElem?_eq_some_iff.1 h).1
  rw [List.getElem?_append_left (by simpa using this), List.getElem?_map, h]; rfl
theorem bk_name {s : Bool} {n : Nat} {sl : List KC} {ns : List ByteArray} {ms : List MK} (hl : sl.length = 64) {t : Nat} {x : ByteArray} (h : ns[t]? = some x) : (bkL s n sl (tlL ns ms))[579 + t]? = some (.string x) := by
  rw [bkL_tail s n _ hl, tl_name h]
theorem bk_split {s : Bool} {n : Nat} {sl : List KC} (tl : List Value) (hl : sl.length = 64) : bkL s n sl tl = (.bool true :: .bool s :: .int .i64 n :: sl.flatMap KC.cells) ++ tl ∧ (Value.bool true :: .bool s :: .int .i64 n :: sl.flatMap KC.cells).length = 579 := by
  refine ⟨by simp [bkL], ?_⟩
  simp only [List.length_cons, flat_len]; omega
theorem bk_names {s : Bool} {n : Nat} {sl : List KC} {ns : List ByteArray} {ms : List MK} (hl : sl.length = 64) (h1 : ns.length = 9) (h2 : ms.length = 5) (m : Nat) (e : TypeId) (wr : Bool) : cellsOf (some ⟨bkL s n sl (tlL ns ms), m, e, wr⟩) 579 9 = some (ns.map .string) := by
  have h3 := tl_len h1 h2
  obtain ⟨h4, h5⟩ := bk_split (s := s) (n := n) (tlL ns ms) hl
  rw [cellsOf_some (by show 579 + 9 ≤ (bkL s n sl (tlL ns ms)).length; rw [bkL_len]; omega)]
  show some (((bkL s n sl (tlL ns ms)).drop 579).take 9) = _
  rw [h4, ← h5, List.drop_left]
  unfold tlL
  rw [List.take_left' (by simpa using h1)]
theorem splice_app (A L v : List Value) (o : Nat) (h : o + v.length ≤ L.length) : Sym.splice (A ++ L) (A.length + o) v = A ++ Sym.splice L o v := by
  unfold Sym.splice
  rw [List.take_append, Nat.add_assoc, List.drop_append, List.take_of_length_le (by omega), List.drop_of_length_le (l := A) (by omega)]
  simp [Nat.add_sub_cancel_left]
theorem splice_one (L : List Value) (o : Nat) (v : Value) : Sym.splice L o [v] = if o < L.length then L.set o v else L.take o ++ [v] := by
  unfold Sym.splice
  split
  · rename_i h
    rw [List.set_eq_take_append_cons_drop, if_pos h]; simp
  · rename_i h
    rw [List.drop_of_length_le (by simp; omega)]; simp
theorem splice_name {s : Bool} {n : Nat} {sl : List KC} {ns : List ByteArray} {ms : List MK} (hl : sl.length = 64) {t : Nat} (ht : t < ns.length) (x : ByteArray) : Sym.splice (bkL s n sl (tlL ns ms)) (579 + t) [.string x] = bkL s n sl (tlL (ns.set t x) ms) := by
  obtain ⟨h4, h5⟩ := bk_split (s := s) (n := n) (tlL ns ms) hl
  obtain ⟨h6, h7⟩ := bk_split (s := s) (n := n) (tlL (ns.set t x) ms) hl
  rw [h4, ← h5, splice_app _ _ _ _ (by unfold tlL; simp; omega), h6]
  congr 1
  rw [splice_one, if_pos (by unfold tlL; simp; omega)]
  unfold tlL
  rw [List.set_append_left _ _ (by simpa using ht), List.map_set]
def traitRes (s : Bool) (ns : List ByteArray) (t : Int) (x : ByteArray) : Int :=
  if s then 7 else if t < 1 ∨ 8 < t then 2 else if nmOk x = false then 4 else if (ns[t.toNat]?).any (fun y => !beqB y ⟨#[]⟩) then 5 else if ns.any (fun y => beqB y x) then 5 else 0
set_option maxHeartbeats 2000000 in
theorem d_trait {b : Nat} {s : Bool} {cs zs : List KC} {ns : List ByteArray} {ms : List MK} (hB : BkT X b s cs zs ns ms) (t : Int) (x : ByteArray) :
    Does Go.Proofs.Tryd.prog Bar 20 [.pointer (some ⟨b, 0, none⟩), .int .u8 t, .string x] X (fun r X' => r = .int .i64 (traitRes s ns t x) ∧ (traitRes s ns t x ≠ 0 → X' = X) ∧
      (traitRes s ns t x = 0 → BkT X' b s cs zs (ns.set t.toNat x) ms ∧ Keep b X X')) := by
  have hb := hB.bk.blk
  have hl : (cs ++ zs).length = 64 := by rw [List.length_append]; exact hB.bk.len
  have hblt := St.lt hb
  have hnl := hB.nl
  have hy : 1 ≤ t → t ≤ 8 → ∃ y, ns[t.toNat]? = some y := fun h1 h2 => ⟨_, List.getElem?_eq_getElem (by omega)⟩
  have key : ∀ v : Int, traitRes s ns t x = v → v ≠ 0 → ∃ Y, Le Y X ∧ Value.int IntKind.i64 v = .int .i64 (traitRes s ns t x) ∧ (traitRes s ns t x ≠ 0 → Y = X) ∧ (traitRes s ns t x = 0 → BkT Y b s cs zs (ns.set t.toNat x) ms ∧ Keep b X Y) :=
    fun v h1 h2 => ⟨X, Le.refl _, by rw [h1], fun _ => rfl, fun h0 => absurd (h1.symm.trans h0) h2⟩
  refine Does.body numOK mixed k.f20 rfl k.o20 (Nat.le_of_ble_eq_true rfl) ?_
  simp (disch := first | omega | (simp only [Zv, Zw, Zx, Zy, Zz]; omega)) only [↓SA, Vi, Vj, Vk, Vl, Vm, List.set_cons_zero, List.set_cons_succ, Vn, Vo, Vp, Vq, Vr, Vs, Vt, Vu, Vv, Vw, Vx, Vy, List.forall_mem_cons, Vz, VA, VB, VC, VD, VE, VF, VG, VH, VI, VJ, VK, VL, VM, VN, VO, VP, VQ, VR, VS, VT, VU, VV, VW, VX, VY, VZ, V0, V1, V2, V3, V4, V5, V9, Ga, Gp, Gq, GF, GG, GH, GI, GJ, GK, GL, GM, GN, GO, Option.isNone_some, Option.isNone_none, Option.isSome_some, Option.isSome_none, GP, GQ, GR, GS, GT, GU, GV, GW, GX, GY, GZ, G0, G1, G2, G3, G4, G5, G6, G7, G8, G9, Za, Zb, Zc, Zd, Ze, Zf, Zg, Zh, Zi, Zj, Zk, Zl, Zm, Zn, Zo, List.drop_zero, List.take_succ_cons, List.drop_succ_cons, List.take_zero, List.take_nil, List.append_nil, List.nil_append, if_true, if_false, ite_true, ite_false, ↓reduceIte, Bool.false_eq_true, Bool.true_eq_false, decide_eq_true_eq, eq_self, true_and, and_true, Option.map_some, Option.map_none, Nat.reduceAdd, Nat.reduceEqDiff, Nat.reduceMul, Nat.add_zero, Nat.zero_add, reduceCtorEq, Bool.not_true, Bool.not_false, List.getElem?_cons_zero, List.getElem?_cons_succ, and_self, exists_eq_left', exists_eq_left, List.length_cons, List.length_nil, Nat.reduceLeDiff, Nat.reduceSub, Zr, Zs, decide_true, decide_false, Int.natCast_zero, Int.cast_ofNat_Int, Int.reduceLE, Int.reduceLT, Int.reduceEq, Int.reduceAdd, Int.reduceSub, Int.reduceMul, Int.reduceToNat, Int.reduceNeg, Int.toNat_natCast, Nat.reduceLT, ge_iff_le, gt_iff_lt, Zt, Zu]
  repeat' (first | (refine cnd_intro (fun h => ?_) (fun h => ?_) <;> (try simp only [decide_eq_true_eq, decide_eq_false_iff_not, Bool.not_eq_true', Bool.not_eq_false'] at h)) | (refine AllN_intro (fun n hn => ?_) <;> (try simp only [Zv, Zw, Zx, Zy, Zz] at hn)) | (refine DoesK.by (d_shut hB.bk) ?_; rintro _ X2 ⟨rfl, hX2⟩; subst X2) | (refine DoesK.by (d_bname _) ?_; rintro _ X2 ⟨rfl, hX2⟩; subst X2) | (simp (disch := first | omega | (simp only [Zv, Zw, Zx, Zy, Zz]; omega)) only [↓SA, Vi, Vj, Vk, Vl, Vm, List.set_cons_zero, List.set_cons_succ, Vn, Vo, Vp, Vq, Vr, Vs, Vt, Vu, Vv, Vw, Vx, Vy, List.forall_mem_cons, Vz, VA, VB, VC, VD, VE, VF, VG, VH, VI, VJ, VK, VL, VM, VN, VO, VP, VQ, VR, VS, VT, VU, VV, VW, VX, VY, VZ, V0, V1, V2, V3, V4, V5, V9, Ga, Gp, Gq, GF, GG, GH, GI, GJ, GK, GL, GM, GN, GO, Option.isNone_some, Option.isNone_none, Option.isSome_some, Option.isSome_none, GP, GQ, GR, GS, GT, GU, GV, GW, GX, GY, GZ, G0, G1, G2, G3, G4, G5, G6, G7, G8, G9, Za, Zb, Zc, Zd, Ze, Zf, Zg, Zh, Zi, Zj, Zk, Zl, Zm, Zn, Zo, List.drop_zero, List.take_succ_cons, List.drop_succ_cons, List.take_zero, List.take_nil, List.append_nil, List.nil_append, if_true, if_false, ite_true, ite_false, ↓reduceIte, Bool.false_eq_true, Bool.true_eq_false, decide_eq_true_eq, eq_self, true_and, and_true, Option.map_some, Option.map_none, Nat.reduceAdd, Nat.reduceEqDiff, Nat.reduceMul, Nat.add_zero, Nat.zero_add, reduceCtorEq, Bool.not_true, Bool.not_false, List.getElem?_cons_zero, List.getElem?_cons_succ, and_self, exists_eq_left', exists_eq_left, List.length_cons, List.length_nil, Nat.reduceLeDiff, Nat.reduceSub, Zr, Zs, decide_true, decide_false, Int.natCast_zero, Int.cast_ofNat_Int, Int.reduceLE, Int.reduceLT, Int.reduceEq, Int.reduceAdd, Int.reduceSub, Int.reduceMul, Int.reduceToNat, Int.reduceNeg, Int.toNat_natCast, Nat.reduceLT, ge_iff_le, gt_iff_lt, Zt, Zu, hb, Nat.mul_one, *]))
  · exact key _ (by cases s <;> simp_all [traitRes]) (by assumption)
  · exact key _ (by cases s <;> simp_all [traitRes]) (by omega)
  · exact key _ (by cases s <;> simp_all [traitRes]) (by omega)
  · rename_i h1 h2 h3
    obtain ⟨y, hy⟩ := hy (by omega) (by omega)
    have hname := bk_name (s := s) (n := cs.length) (ms := ms) hl hy
    have hnames := fun m e wr => bk_names (s := s) (n := cs.length) hl hB.nl hB.ml m e wr
    simp (disch := first | omega | (simp only [Zv, Zw, Zx, Zy, Zz]; omega)) only [↓SA, Vi, Vj, Vk, Vl, Vm, List.set_cons_zero, List.set_cons_succ, Vn, Vo, Vp, Vq, Vr, Vs, Vt, Vu, Vv, Vw, Vx, Vy, List.forall_mem_cons, Vz, VA, VB, VC, VD, VE, VF, VG, VH, VI, VJ, VK, VL, VM, VN, VO, VP, VQ, VR, VS, VT, VU, VV, VW, VX, VY, VZ, V0, V1, V2, V3, V4, V5, V9, Ga, Gp, Gq, GF, GG, GH, GI, GJ, GK, GL, GM, GN, GO, Option.isNone_some, Option.isNone_none, Option.isSome_some, Option.isSome_none, GP, GQ, GR, GS, GT, GU, GV, GW, GX, GY, GZ, G0, G1, G2, G3, G4, G5, G6, G7, G8, G9, Za, Zb, Zc, Zd, Ze, Zf, Zg, Zh, Zi, Zj, Zk, Zl, Zm, Zn, Zo, List.drop_zero, List.take_succ_cons, List.drop_succ_cons, List.take_zero, List.take_nil, List.append_nil, List.nil_append, if_true, if_false, ite_true, ite_false, ↓reduceIte, Bool.false_eq_true, Bool.true_eq_false, decide_eq_true_eq, eq_self, true_and, and_true, Option.map_some, Option.map_none, Nat.reduceAdd, Nat.reduceEqDiff, Nat.reduceMul, Nat.add_zero, Nat.zero_add, reduceCtorEq, Bool.not_true, Bool.not_false, List.getElem?_cons_zero, List.getElem?_cons_succ, and_self, exists_eq_left', exists_eq_left, List.length_cons, List.length_nil, Nat.reduceLeDiff, Nat.reduceSub, Zr, Zs, decide_true, decide_false, Int.natCast_zero, Int.cast_ofNat_Int, Int.reduceLE, Int.reduceLT, Int.reduceEq, Int.reduceAdd, Int.reduceSub, Int.reduceMul, Int.reduceToNat, Int.reduceNeg, Int.toNat_natCast, Nat.reduceLT, ge_iff_le, gt_iff_lt, Zt, Zu, hname, Nat.mul_one]
    repeat' (first | (refine cnd_intro (fun h => ?_) (fun h => ?_) <;> (try simp only [decide_eq_true_eq, decide_eq_false_iff_not, Bool.not_eq_true', Bool.not_eq_false'] at h)) | (refine AllN_intro (fun n hn => ?_) <;> (try simp only [Zv, Zw, Zx, Zy, Zz] at hn)) | (simp (disch := first | omega | (simp only [Zv, Zw, Zx, Zy, Zz]; omega)) only [↓SA, Vi, Vj, Vk, Vl, Vm, List.set_cons_zero, List.set_cons_succ, Vn, Vo, Vp, Vq, Vr, Vs, Vt, Vu, Vv, Vw, Vx, Vy, List.forall_mem_cons, Vz, VA, VB, VC, VD, VE, VF, VG, VH, VI, VJ, VK, VL, VM, VN, VO, VP, VQ, VR, VS, VT, VU, VV, VW, VX, VY, VZ, V0, V1, V2, V3, V4, V5, V9, Ga, Gp, Gq, GF, GG, GH, GI, GJ, GK, GL, GM, GN, GO, Option.isNone_some, Option.isNone_none, Option.isSome_some, Option.isSome_none, GP, GQ, GR, GS, GT, GU, GV, GW, GX, GY, GZ, G0, G1, G2, G3, G4, G5, G6, G7, G8, G9, Za, Zb, Zc, Zd, Ze, Zf, Zg, Zh, Zi, Zj, Zk, Zl, Zm, Zn, Zo, List.drop_zero, List.take_succ_cons, List.drop_succ_cons, List.take_zero, List.take_nil, List.append_nil, List.nil_append, if_true, if_false, ite_true, ite_false, ↓reduceIte, Bool.false_eq_true, Bool.true_eq_false, decide_eq_true_eq, eq_self, true_and, and_true, Option.map_some, Option.map_none, Nat.reduceAdd, Nat.reduceEqDiff, Nat.reduceMul, Nat.add_zero, Nat.zero_add, reduceCtorEq, Bool.not_true, Bool.not_false, List.getElem?_cons_zero, List.getElem?_cons_succ, and_self, exists_eq_left', exists_eq_left, List.length_cons, List.length_nil, Nat.reduceLeDiff, Nat.reduceSub, Zr, Zs, decide_true, decide_false, Int.natCast_zero, Int.cast_ofNat_Int, Int.reduceLE, Int.reduceLT, Int.reduceEq, Int.reduceAdd, Int.reduceSub, Int.reduceMul, Int.reduceToNat, Int.reduceNeg, Int.toNat_natCast, Nat.reduceLT, ge_iff_le, gt_iff_lt, Zt, Zu, hb, hname, hnames, Nat.mul_one, *]))
    · exact key _ (by cases s <;> simp_all [traitRes]) (by omega)
    · have hyb : beqB y ⟨#[]⟩ = true := h
      refine wpC_loop (fun k : Nat => ⟨51, [(0, .pointer (some ⟨b, 0, none⟩)), (1, .int .u8 t), (2, .string x), (37, .agg ⟨ns.map .string⟩), (38, .int .i64 k)]⟩) (fun _ => X) (fun k => k ≤ 9 ∧ ∀ (j : Nat) (z : ByteArray), j < k → ns[j]? = some z → beqB z x = false) (fun k => 9 - k) 0 rfl (Le.refl _) ⟨Nat.zero_le _, fun j z hj => absurd hj (Nat.not_lt_zero _)⟩ ?_
      rintro k ⟨hk, hi⟩
      by_cases hkl : k < 9
      · obtain ⟨z, hz⟩ : ∃ z, ns[k]? = some z := ⟨_, List.getElem?_eq_getElem (by omega)⟩
        have hkl' : decide ((k : Int) < 9) = true := decide_eq_true (by omega)
        have hz' : (ns.map Value.string)[k]? = some (.string z) := by rw [List.getElem?_map, hz]; rfl
        simp (disch := first | omega | (simp only [Zv, Zw, Zx, Zy, Zz]; omega)) only [↓SA, Vi, Vj, Vk, Vl, Vm, List.set_cons_zero, List.set_cons_succ, Vn, Vo, Vp, Vq, Vr, Vs, Vt, Vu, Vv, Vw, Vx, Vy, List.forall_mem_cons, Vz, VA, VB, VC, VD, VE, VF, VG, VH, VI, VJ, VK, VL, VM, VN, VO, VP, VQ, VR, VS, VT, VU, VV, VW, VX, VY, VZ, V0, V1, V2, V3, V4, V5, V9, Ga, Gp, Gq, GF, GG, GH, GI, GJ, GK, GL, GM, GN, GO, Option.isNone_some, Option.isNone_none, Option.isSome_some, Option.isSome_none, GP, GQ, GR, GS, GT, GU, GV, GW, GX, GY, GZ, G0, G1, G2, G3, G4, G5, G6, G7, G8, G9, Za, Zb, Zc, Zd, Ze, Zf, Zg, Zh, Zi, Zj, Zk, Zl, Zm, Zn, Zo, List.drop_zero, List.take_succ_cons, List.drop_succ_cons, List.take_zero, List.take_nil, List.append_nil, List.nil_append, if_true, if_false, ite_true, ite_false, ↓reduceIte, Bool.false_eq_true, Bool.true_eq_false, decide_eq_true_eq, eq_self, true_and, and_true, Option.map_some, Option.map_none, Nat.reduceAdd, Nat.reduceEqDiff, Nat.reduceMul, Nat.add_zero, Nat.zero_add, reduceCtorEq, Bool.not_true, Bool.not_false, List.getElem?_cons_zero, List.getElem?_cons_succ, and_self, exists_eq_left', exists_eq_left, List.length_cons, List.length_nil, Nat.reduceLeDiff, Nat.reduceSub, Zr, Zs, decide_true, decide_false, Int.natCast_zero, Int.cast_ofNat_Int, Int.reduceLE, Int.reduceLT, Int.reduceEq, Int.reduceAdd, Int.reduceSub, Int.reduceMul, Int.reduceToNat, Int.reduceNeg, Int.toNat_natCast, Nat.reduceLT, ge_iff_le, gt_iff_lt, Zt, Zu, hkl', Int.toNat_natCast, hz']
        repeat' (first | (refine cnd_intro (fun h => ?_) (fun h => ?_) <;> (try simp only [decide_eq_true_eq, decide_eq_false_iff_not, Bool.not_eq_true', Bool.not_eq_false'] at h)) | (refine AllN_intro (fun n hn => ?_) <;> (try simp only [Zv, Zw, Zx, Zy, Zz] at hn)) | (simp (disch := first | omega | (simp only [Zv, Zw, Zx, Zy, Zz]; omega)) only [↓SA, Vi, Vj, Vk, Vl, Vm, List.set_cons_zero, List.set_cons_succ, Vn, Vo, Vp, Vq, Vr, Vs, Vt, Vu, Vv, Vw, Vx, Vy, List.forall_mem_cons, Vz, VA, VB, VC, VD, VE, VF, VG, VH, VI, VJ, VK, VL, VM, VN, VO, VP, VQ, VR, VS, VT, VU, VV, VW, VX, VY, VZ, V0, V1, V2, V3, V4, V5, V9, Ga, Gp, Gq, GF, GG, GH, GI, GJ, GK, GL, GM, GN, GO, Option.isNone_some, Option.isNone_none, Option.isSome_some, Option.isSome_none, GP, GQ, GR, GS, GT, GU, GV, GW, GX, GY, GZ, G0, G1, G2, G3, G4, G5, G6, G7, G8, G9, Za, Zb, Zc, Zd, Ze, Zf, Zg, Zh, Zi, Zj, Zk, Zl, Zm, Zn, Zo, List.drop_zero, List.take_succ_cons, List.drop_succ_cons, List.take_zero, List.take_nil, List.append_nil, List.nil_append, if_true, if_false, ite_true, ite_false, ↓reduceIte, Bool.false_eq_true, Bool.true_eq_false, decide_eq_true_eq, eq_self, true_and, and_true, Option.map_some, Option.map_none, Nat.reduceAdd, Nat.reduceEqDiff, Nat.reduceMul, Nat.add_zero, Nat.zero_add, reduceCtorEq, Bool.not_true, Bool.not_false, List.getElem?_cons_zero, List.getElem?_cons_succ, and_self, exists_eq_left', exists_eq_left, List.length_cons, List.length_nil, Nat.reduceLeDiff, Nat.reduceSub, Zr, Zs, decide_true, decide_false, Int.natCast_zero, Int.cast_ofNat_Int, Int.reduceLE, Int.reduceLT, Int.reduceEq, Int.reduceAdd, Int.reduceSub, Int.reduceMul, Int.reduceToNat, Int.reduceNeg, Int.toNat_natCast, Nat.reduceLT, ge_iff_le, gt_iff_lt, Zt, Zu, hz', Int.toNat_natCast, *]))
        · refine key 5 ?_ (by omega)
          have h5 : ns.any (fun y => beqB y x) = true := by
            rw [List.any_eq_true]
            exact ⟨z, List.mem_of_getElem? hz, h⟩
          cases s <;> simp_all [traitRes]
        · refine ⟨k + 1, rfl, Le.refl _, ⟨by omega, fun j w hj hw => ?_⟩, by omega⟩
          by_cases hjk : j = k
          · subst hjk; rw [hz] at hw; cases hw; exact h
          · exact hi j w (by omega) hw
      · have hkl' : decide ((k : Int) < 9) = false := decide_eq_false (by omega)
        have hspl := splice_name (s := s) (n := cs.length) (ns := ns) (ms := ms) hl (t := t.toNat) (by omega) x
        have hbl : (bkL s cs.length (cs ++ zs) (tlL ns ms)).length = 608 := by rw [bkL_len, hl, tl_len hB.nl hB.ml]
        have e : traitRes s ns t x = 0 := by
          have h5 : ns.any (fun y => beqB y x) = false := by
            rw [List.any_eq_false]
            intro z hz
            obtain ⟨j, hj⟩ := List.getElem?_of_mem hz
            rw [hi j z (by have := (List.getElem?_eq_some_iff.1 hj).1; omega) hj]; simp
          have hs : s = false := by cases s <;> simp_all
          have hnm : nmOk x = true := by assumption
          unfold traitRes
          rw [hs, hy, h5, hnm, if_neg (by omega : ¬ (t < 1 ∨ 8 < t))]
          simp [hyb]
        simp (disch := first | omega | (simp only [Zv, Zw, Zx, Zy, Zz]; omega)) only [↓SA, Vi, Vj, Vk, Vl, Vm, List.set_cons_zero, List.set_cons_succ, Vn, Vo, Vp, Vq, Vr, Vs, Vt, Vu, Vv, Vw, Vx, Vy, List.forall_mem_cons, Vz, VA, VB, VC, VD, VE, VF, VG, VH, VI, VJ, VK, VL, VM, VN, VO, VP, VQ, VR, VS, VT, VU, VV, VW, VX, VY, VZ, V0, V1, V2, V3, V4, V5, V9, Ga, Gp, Gq, GF, GG, GH, GI, GJ, GK, GL, GM, GN, GO, Option.isNone_some, Option.isNone_none, Option.isSome_some, Option.isSome_none, GP, GQ, GR, GS, GT, GU, GV, GW, GX, GY, GZ, G0, G1, G2, G3, G4, G5, G6, G7, G8, G9, Za, Zb, Zc, Zd, Ze, Zf, Zg, Zh, Zi, Zj, Zk, Zl, Zm, Zn, Zo, List.drop_zero, List.take_succ_cons, List.drop_succ_cons, List.take_zero, List.take_nil, List.append_nil, List.nil_append, if_true, if_false, ite_true, ite_false, ↓reduceIte, Bool.false_eq_true, Bool.true_eq_false, decide_eq_true_eq, eq_self, true_and, and_true, Option.map_some, Option.map_none, Nat.reduceAdd, Nat.reduceEqDiff, Nat.reduceMul, Nat.add_zero, Nat.zero_add, reduceCtorEq, Bool.not_true, Bool.not_false, List.getElem?_cons_zero, List.getElem?_cons_succ, and_self, exists_eq_left', exists_eq_left, List.length_cons, List.length_nil, Nat.reduceLeDiff, Nat.reduceSub, Zr, Zs, decide_true, decide_false, Int.natCast_zero, Int.cast_ofNat_Int, Int.reduceLE, Int.reduceLT, Int.reduceEq, Int.reduceAdd, Int.reduceSub, Int.reduceMul, Int.reduceToNat, Int.reduceNeg, Int.toNat_natCast, Nat.reduceLT, ge_iff_le, gt_iff_lt, Zt, Zu, hkl', hspl, hb, hbl, Nat.mul_one]
        refine ⟨_, Le.refl _, by rw [e], fun h0 => absurd e h0, fun _ => ⟨⟨⟨?_, hB.bk.len, ?_⟩, ?_, hB.ml⟩, Keep.set⟩⟩
        · rw [VI hblt]
        · exact tl_len (by rw [List.length_set]; exact hB.nl) hB.ml
        · rw [List.length_set]; exact hB.nl
  · exact key _ (by cases s <;> simp_all [traitRes]) (by omega)
end Go.Proofs.YtdgbnaignpploaaDoor.bk
