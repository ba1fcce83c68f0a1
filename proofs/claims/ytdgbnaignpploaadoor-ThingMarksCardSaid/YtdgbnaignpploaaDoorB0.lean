/- book.Book: its block; none, shut, place. -/
import Derived.Test.YtdgbnaignpploaaDoorSy
import Derived.Test.YtdgbnaignpploaaDoorE4
import Derived.Test.YtdgbnaignpploaaDoorKb
namespace Go.Proofs.YtdgbnaignpploaaDoor.bk
open Go.Sym
set_option linter.unusedVariables false
set_option linter.unusedSimpArgs false
set_option maxRecDepth 100000
variable {Bar : Nat} {X : St}
/-- a card, as it lies: its head, where its parts lie, what they are -/
structure KC where
  h : Head
  po : Option Addr
  pc : Nat
  ps : List Part
def KC.cells (c : KC) : List Value := [.string c.h.nm, .int .u8 c.h.su, .int .u8 c.h.ki, .int .i64 c.h.co, .int .i64 c.h.po, .int .i64 c.h.he, .int .u16 c.h.tr, .bool c.h.tk, .slice c.po c.ps.length c.pc]
theorem KC.cells_len (c : KC) : c.cells.length = 9 := rfl
/-- a mark -/
structure MK where
  ma : Int
  nm : ByteArray
  po : Int
  he : Int
def MK.cells (m : MK) : List Value := [.int .u8 m.ma, .string m.nm, .int .i64 m.po, .int .i64 m.he]
/-- the block of a book -/
def bkL (s : Bool) (n : Nat) (sl : List KC) (tl : List Value) : List Value := .bool true :: .bool s :: .int .i64 n :: (sl.flatMap KC.cells ++ tl)
theorem flat_len : ∀ sl : List KC, (sl.flatMap KC.cells).length = 9 * sl.length
  | [] => rfl
  | c :: cs => by rw [List.flatMap_cons, List.length_append, flat_len cs, List.length_cons]; show 9 + _ = _; omega
theorem bkL_len (s : Bool) (n : Nat) (sl : List KC) (tl : List Value) : (bkL s n sl tl).length = 3 + 9 * sl.length + tl.length := by
  unfold bkL
  simp only [List.length_cons, List.length_append, flat_len]
  omega
theorem bkL_0 (s : Bool) (n : Nat) (sl : List KC) (tl : List Value) : (bkL s n sl tl)[0]? = some (.bool true) := rfl
theorem bkL_1 (s : Bool) (n : Nat) (sl : List KC) (tl : List Value) : (bkL s n sl tl)[1]? = some (.bool s) := rfl
theorem bkL_2 (s : Bool) (n : Nat) (sl : List KC) (tl : List Value) : (bkL s n sl tl)[2]? = some (.int .i64 n) := rfl
theorem bkL_split {sl : List KC} {k : Nat} {c : KC} (h : sl[k]? = some c) (s : Bool) (n : Nat) (tl : List Value) :
    bkL s n sl tl = (.bool true :: .bool s :: .int .i64 n :: (sl.take k).flatMap KC.cells) ++ (c.cells ++ ((sl.drop (k + 1)).flatMap KC.cells ++ tl)) ∧ (Value.bool true :: .bool s :: .int .i64 n :: (sl.take k).flatMap KC.cells).length = 3 + k * 9 := by
  obtain ⟨hk, rfl⟩ := List.getElem?_eq_some_iff.1 h
  constructor
  · unfold bkL
    have : sl.flatMap KC.cells = (sl.take k).flatMap KC.cells ++ (sl[k].cells ++ (sl.drop (k + 1)).flatMap KC.cells) := by
      rw [← List.flatMap_cons, ← List.flatMap_append, List.getElem_cons_drop, List.take_append_drop]
    rw [this]
    simp
  · simp only [List.length_cons, flat_len, List.length_take]; omega
theorem bkL_card {sl : List KC} {k : Nat} {c : KC} (h : sl[k]? = some c) (s : Bool) (n : Nat) (tl : List Value) (m : Nat) (e : TypeId) (wr : Bool) : cellsOf (some ⟨bkL s n sl tl, m, e, wr⟩) (3 + k * 9) 9 = some c.cells := by
  obtain ⟨h1, h2⟩ := bkL_split h s n tl
  have hl : 3 + k * 9 + 9 ≤ (bkL s n sl tl).length := by
    have := (List.getElem?_eq_some_iff.1 h).1
    rw [bkL_len]; omega
  rw [cellsOf_some hl]
  show some (((bkL s n sl tl).drop (3 + k * 9)).take 9) = _
  rw [h1, ← h2, List.drop_left, List.take_left' c.cells_len]
theorem bkL_cell {sl : List KC} {k : Nat} {c : KC} (h : sl[k]? = some c) (s : Bool) (n : Nat) (tl : List Value) {j : Nat} (hj : j < 9) : (bkL s n sl tl)[3 + k * 9 + j]? = c.cells[j]? := by
  obtain ⟨h1, h2⟩ := bkL_split h s n tl
  rw [h1, List.getElem?_append_right (by omega), h2, Nat.add_sub_cancel_left, List.getElem?_append_left (by rw [c.cells_len]; exact hj)]
theorem bkL_name {sl : List KC} {k : Nat} {c : KC} (h : sl[k]? = some c) (s : Bool) (n : Nat) (tl : List Value) : (bkL s n sl tl)[3 + k * 9]? = some (.string c.h.nm) := bkL_cell h s n tl (j := 0) (by omega)
theorem bkL_kind {sl : List KC} {k : Nat} {c : KC} (h : sl[k]? = some c) (s : Bool) (n : Nat) (tl : List Value) : (bkL s n sl tl)[3 + k * 9 + 2]? = some (.int .u8 c.h.ki) := bkL_cell h s n tl (j := 2) (by omega)
theorem bkL_tail (s : Bool) (n : Nat) {sl : List KC} (tl : List Value) (h : sl.length = 64) (j : Nat) : (bkL s n sl tl)[579 + j]? = tl[j]? := by
  have : bkL s n sl tl = (.bool true :: .bool s :: .int .i64 n :: sl.flatMap KC.cells) ++ tl := by simp [bkL]
  rw [this, List.getElem?_append_right (by simp only [List.length_cons, flat_len]; omega)]
  congr 1
  simp only [List.length_cons, flat_len]; omega
theorem splice_mid (A x B v : List Value) (h : x.length = v.length) : Sym.splice (A ++ (x ++ B)) A.length v = A ++ (v ++ B) := by
  unfold Sym.splice
  rw [List.take_left, ← h, ← List.append_assoc A x B, ← List.length_append, List.drop_left, List.append_assoc]
theorem splice_card {sl : List KC} {k : Nat} {c : KC} (d : KC) (h : sl[k]? = some c) (s : Bool) (n : Nat) (tl : List Value) : Sym.splice (bkL s n sl tl) (3 + k * 9) d.cells = bkL s n (sl.set k d) tl := by
  obtain ⟨h1, h2⟩ := bkL_split h s n tl
  have hk := (List.getElem?_eq_some_iff.1 h).1
  have h3 : (sl.set k d)[k]? = some d := by rw [List.getElem?_set]; simp [hk]
  obtain ⟨h4, h5⟩ := bkL_split h3 s n tl
  rw [h1, ← h2, splice_mid _ _ _ _ (show c.cells.length = d.cells.length from rfl), h4]
  congr 2
  · rw [List.take_set_of_le (Nat.le_refl k)]
  · rw [List.drop_set_of_lt (by omega)]
theorem splice_n (s : Bool) (n m : Nat) (sl : List KC) (tl : List Value) : Sym.splice (bkL s n sl tl) 2 [.int .i64 m] = bkL s m sl tl := rfl
theorem splice_s (s t : Bool) (n : Nat) (sl : List KC) (tl : List Value) : Sym.splice (bkL s n sl tl) 1 [.bool t] = bkL t n sl tl := rfl

def TB : Nat := 102
/-- where a name stands -/
def pos (nm : ByteArray) (cs : List KC) : Int := match cs.findIdx? (fun c => beqB c.h.nm nm) with | some k => (k : Int) | none => -1
theorem pos_some {cs : List KC} {nm : ByteArray} {k : Nat} {c : KC} (hc : cs[k]? = some c) (he : beqB c.h.nm nm = true) (hn : ∀ (j : Nat) (d : KC), j < k → cs[j]? = some d → beqB d.h.nm nm = false) : pos nm cs = k := by
  have : cs.findIdx? (fun c => beqB c.h.nm nm) = some k := by
    obtain ⟨hk, rfl⟩ := List.getElem?_eq_some_iff.1 hc
    rw [List.findIdx?_eq_some_iff_getElem]
    exact ⟨hk, he, fun j hj => by simp [hn j cs[j] hj (List.getElem?_eq_getElem (by omega))]⟩
  rw [pos, this]
theorem pos_none {cs : List KC} {nm : ByteArray} (hn : ∀ (j : Nat) (d : KC), cs[j]? = some d → beqB d.h.nm nm = false) : pos nm cs = -1 := by
  have : cs.findIdx? (fun c => beqB c.h.nm nm) = none := by
    rw [List.findIdx?_eq_none_iff]
    intro c hc
    obtain ⟨j, hj⟩ := List.getElem?_of_mem hc
    exact hn j c hj
  rw [pos, this]
/-- a book's block -/
structure BkA (X : St) (b : Nat) (s : Bool) (cs zs : List KC) (tl : List Value) : Prop where
  blk : X.get b = some ⟨bkL s cs.length (cs ++ zs) tl, 608, TB, true⟩
  len : cs.length + zs.length = 64
  tll : tl.length = 29
theorem d_none {b : Nat} {s : Bool} {cs zs : List KC} {tl : List Value} (hB : BkA X b s cs zs tl) : Does Go.Proofs.Tryd.prog Bar 57 [.pointer (some ⟨b, 0, none⟩)] X (fun v X' => v = .bool false ∧ X' = X) := by
  have hb := hB.blk
  refine Does.body numOK mixed k.f57 rfl k.o57 (Nat.le_of_ble_eq_true rfl) ?_
  simp (disch := first | omega | (simp only [Zv, Zw, Zx, Zy, Zz]; omega)) only [↓SA, Vi, Vj, Vk, Vl, Vm, List.set_cons_zero, List.set_cons_succ, Vn, Vo, Vp, Vq, Vr, Vs, Vt, Vu, Vv, Vw, Vx, Vy, List.forall_mem_cons, Vz, VA, VB, VC, VD, VE, VF, VG, VH, VI, VJ, VK, VL, VM, VN, VO, VP, VQ, VR, VS, VT, VU, VV, VW, VX, VY, VZ, V0, V1, V2, V3, V4, V5, V9, Ga, Gp, Gq, GF, GG, GH, GI, GJ, GK, GL, GM, GN, GO, Option.isNone_some, Option.isNone_none, Option.isSome_some, Option.isSome_none, GP, GQ, GR, GS, GT, GU, GV, GW, GX, GY, GZ, G0, G1, G2, G3, G4, G5, G6, G7, G8, G9, Za, Zb, Zc, Zd, Ze, Zf, Zg, Zh, Zi, Zj, Zk, Zl, Zm, Zn, Zo, List.drop_zero, List.take_succ_cons, List.drop_succ_cons, List.take_zero, List.take_nil, List.append_nil, List.nil_append, if_true, if_false, ite_true, ite_false, ↓reduceIte, Bool.false_eq_true, Bool.true_eq_false, decide_eq_true_eq, eq_self, true_and, and_true, Option.map_some, Option.map_none, Nat.reduceAdd, Nat.reduceEqDiff, Nat.reduceMul, Nat.add_zero, Nat.zero_add, reduceCtorEq, Bool.not_true, Bool.not_false, List.getElem?_cons_zero, List.getElem?_cons_succ, and_self, exists_eq_left', exists_eq_left, List.length_cons, List.length_nil, Nat.reduceLeDiff, Nat.reduceSub, Zr, Zs, decide_true, decide_false, Int.natCast_zero, Int.cast_ofNat_Int, Int.reduceLE, Int.reduceLT, Int.reduceEq, Int.reduceAdd, Int.reduceSub, Int.reduceMul, Int.reduceToNat, Int.reduceNeg, Int.toNat_natCast, Nat.reduceLT, ge_iff_le, gt_iff_lt, Zt, Zu, hb, bkL_0, bkL_1, bkL_2]
  exact ⟨_, (by repeat' (first | exact Le.refl _ | (refine Le.new_of ?_ (by first | omega | (simp only [Zv, Zw, Zx, Zy, Zz] at *; omega))) | (refine Le.set_of ?_ (by first | omega | (simp only [Zv, Zw, Zx, Zy, Zz] at *; omega))))), rfl⟩
theorem d_shut {b : Nat} {s : Bool} {cs zs : List KC} {tl : List Value} (hB : BkA X b s cs zs tl) : Does Go.Proofs.Tryd.prog Bar 55 [.pointer (some ⟨b, 0, none⟩)] X (fun v X' => v = .int .i64 (if s then 7 else 0) ∧ X' = X) := by
  have hb := hB.blk
  refine Does.body numOK mixed k.f55 rfl k.o55 (Nat.le_of_ble_eq_true rfl) ?_
  simp (disch := first | omega | (simp only [Zv, Zw, Zx, Zy, Zz]; omega)) only [↓SA, Vi, Vj, Vk, Vl, Vm, List.set_cons_zero, List.set_cons_succ, Vn, Vo, Vp, Vq, Vr, Vs, Vt, Vu, Vv, Vw, Vx, Vy, List.forall_mem_cons, Vz, VA, VB, VC, VD, VE, VF, VG, VH, VI, VJ, VK, VL, VM, VN, VO, VP, VQ, VR, VS, VT, VU, VV, VW, VX, VY, VZ, V0, V1, V2, V3, V4, V5, V9, Ga, Gp, Gq, GF, GG, GH, GI, GJ, GK, GL, GM, GN, GO, Option.isNone_some, Option.isNone_none, Option.isSome_some, Option.isSome_none, GP, GQ, GR, GS, GT, GU, GV, GW, GX, GY, GZ, G0, G1, G2, G3, G4, G5, G6, G7, G8, G9, Za, Zb, Zc, Zd, Ze, Zf, Zg, Zh, Zi, Zj, Zk, Zl, Zm, Zn, Zo, List.drop_zero, List.take_succ_cons, List.drop_succ_cons, List.take_zero, List.take_nil, List.append_nil, List.nil_append, if_true, if_false, ite_true, ite_false, ↓reduceIte, Bool.false_eq_true, Bool.true_eq_false, decide_eq_true_eq, eq_self, true_and, and_true, Option.map_some, Option.map_none, Nat.reduceAdd, Nat.reduceEqDiff, Nat.reduceMul, Nat.add_zero, Nat.zero_add, reduceCtorEq, Bool.not_true, Bool.not_false, List.getElem?_cons_zero, List.getElem?_cons_succ, and_self, exists_eq_left', exists_eq_left, List.length_cons, List.length_nil, Nat.reduceLeDiff, Nat.reduceSub, Zr, Zs, decide_true, decide_false, Int.natCast_zero, Int.cast_ofNat_Int, Int.reduceLE, Int.reduceLT, Int.reduceEq, Int.reduceAdd, Int.reduceSub, Int.reduceMul, Int.reduceToNat, Int.reduceNeg, Int.toNat_natCast, Nat.reduceLT, ge_iff_le, gt_iff_lt, Zt, Zu, hb, bkL_0, bkL_1, bkL_2]
  repeat' (first | (refine cnd_intro (fun h => ?_) (fun h => ?_) <;> (try simp only [decide_eq_true_eq, decide_eq_false_iff_not, Bool.not_eq_true', Bool.not_eq_false'] at h)) | (refine AllN_intro (fun n hn => ?_) <;> (try simp only [Zv, Zw, Zx, Zy, Zz] at hn)) | (refine DoesK.by (d_none hB) ?_; rintro _ X2 ⟨rfl, hX2⟩; subst X2) | (simp (disch := first | omega | (simp only [Zv, Zw, Zx, Zy, Zz]; omega)) only [↓SA, Vi, Vj, Vk, Vl, Vm, List.set_cons_zero, List.set_cons_succ, Vn, Vo, Vp, Vq, Vr, Vs, Vt, Vu, Vv, Vw, Vx, Vy, List.forall_mem_cons, Vz, VA, VB, VC, VD, VE, VF, VG, VH, VI, VJ, VK, VL, VM, VN, VO, VP, VQ, VR, VS, VT, VU, VV, VW, VX, VY, VZ, V0, V1, V2, V3, V4, V5, V9, Ga, Gp, Gq, GF, GG, GH, GI, GJ, GK, GL, GM, GN, GO, Option.isNone_some, Option.isNone_none, Option.isSome_some, Option.isSome_none, GP, GQ, GR, GS, GT, GU, GV, GW, GX, GY, GZ, G0, G1, G2, G3, G4, G5, G6, G7, G8, G9, Za, Zb, Zc, Zd, Ze, Zf, Zg, Zh, Zi, Zj, Zk, Zl, Zm, Zn, Zo, List.drop_zero, List.take_succ_cons, List.drop_succ_cons, List.take_zero, List.take_nil, List.append_nil, List.nil_append, if_true, if_false, ite_true, ite_false, ↓reduceIte, Bool.false_eq_true, Bool.true_eq_false, decide_eq_true_eq, eq_self, true_and, and_true, Option.map_some, Option.map_none, Nat.reduceAdd, Nat.reduceEqDiff, Nat.reduceMul, Nat.add_zero, Nat.zero_add, reduceCtorEq, Bool.not_true, Bool.not_false, List.getElem?_cons_zero, List.getElem?_cons_succ, and_self, exists_eq_left', exists_eq_left, List.length_cons, List.length_nil, Nat.reduceLeDiff, Nat.reduceSub, Zr, Zs, decide_true, decide_false, Int.natCast_zero, Int.cast_ofNat_Int, Int.reduceLE, Int.reduceLT, Int.reduceEq, Int.reduceAdd, Int.reduceSub, Int.reduceMul, Int.reduceToNat, Int.reduceNeg, Int.toNat_natCast, Nat.reduceLT, ge_iff_le, gt_iff_lt, Zt, Zu, hb, bkL_0, bkL_1, bkL_2, *]))
  all_goals first | exact ⟨_, (by repeat' (first | exact Le.refl _ | (refine Le.new_of ?_ (by first | omega | (simp only [Zv, Zw, Zx, Zy, Zz] at *; omega))) | (refine Le.set_of ?_ (by first | omega | (simp only [Zv, Zw, Zx, Zy, Zz] at *; omega))))), rfl⟩ | exact ⟨_, (by repeat' (first | exact Le.refl _ | (refine Le.new_of ?_ (by first | omega | (simp only [Zv, Zw, Zx, Zy, Zz] at *; omega))) | (refine Le.set_of ?_ (by first | omega | (simp only [Zv, Zw, Zx, Zy, Zz] at *; omega))))), by simp_all, rfl⟩
theorem d_place {b : Nat} {s : Bool} {cs zs : List KC} {tl : List Value} (hB : BkA X b s cs zs tl) (nm : ByteArray) : Does Go.Proofs.Tryd.prog Bar 56 [.pointer (some ⟨b, 0, none⟩), .string nm] X (fun v X' => v = .int .i64 (pos nm cs) ∧ X' = X) := by
  have hb := hB.blk
  have hl := hB.len
  refine Does.body numOK mixed k.f56 rfl k.o56 (Nat.le_of_ble_eq_true rfl) ?_
  simp (disch := first | omega | (simp only [Zv, Zw, Zx, Zy, Zz]; omega)) only [↓SA, Vi, Vj, Vk, Vl, Vm, List.set_cons_zero, List.set_cons_succ, Vn, Vo, Vp, Vq, Vr, Vs, Vt, Vu, Vv, Vw, Vx, Vy, List.forall_mem_cons, Vz, VA, VB, VC, VD, VE, VF, VG, VH, VI, VJ, VK, VL, VM, VN, VO, VP, VQ, VR, VS, VT, VU, VV, VW, VX, VY, VZ, V0, V1, V2, V3, V4, V5, V9, Ga, Gp, Gq, GF, GG, GH, GI, GJ, GK, GL, GM, GN, GO, Option.isNone_some, Option.isNone_none, Option.isSome_some, Option.isSome_none, GP, GQ, GR, GS, GT, GU, GV, GW, GX, GY, GZ, G0, G1, G2, G3, G4, G5, G6, G7, G8, G9, Za, Zb, Zc, Zd, Ze, Zf, Zg, Zh, Zi, Zj, Zk, Zl, Zm, Zn, Zo, List.drop_zero, List.take_succ_cons, List.drop_succ_cons, List.take_zero, List.take_nil, List.append_nil, List.nil_append, if_true, if_false, ite_true, ite_false, ↓reduceIte, Bool.false_eq_true, Bool.true_eq_false, decide_eq_true_eq, eq_self, true_and, and_true, Option.map_some, Option.map_none, Nat.reduceAdd, Nat.reduceEqDiff, Nat.reduceMul, Nat.add_zero, Nat.zero_add, reduceCtorEq, Bool.not_true, Bool.not_false, List.getElem?_cons_zero, List.getElem?_cons_succ, and_self, exists_eq_left', exists_eq_left, List.length_cons, List.length_nil, Nat.reduceLeDiff, Nat.reduceSub, Zr, Zs, decide_true, decide_false, Int.natCast_zero, Int.cast_ofNat_Int, Int.reduceLE, Int.reduceLT, Int.reduceEq, Int.reduceAdd, Int.reduceSub, Int.reduceMul, Int.reduceToNat, Int.reduceNeg, Int.toNat_natCast, Nat.reduceLT, ge_iff_le, gt_iff_lt, Zt, Zu, hb, bkL_0, bkL_1, bkL_2]
  refine wpC_loop (fun k : Nat => ⟨24, [(0, .pointer (some ⟨b, 0, none⟩)), (1, .string nm), (9, .int .i64 cs.length), (10, .int .i64 k)]⟩) (fun _ => X) (fun k => k ≤ cs.length ∧ ∀ (j : Nat) (d : KC), j < k → cs[j]? = some d → beqB d.h.nm nm = false) (fun k => cs.length - k) 0 rfl (Le.refl _) ⟨Nat.zero_le _, fun j d hj => absurd hj (Nat.not_lt_zero _)⟩ ?_
  rintro k ⟨hk, hi⟩
  by_cases hkl : k < cs.length
  · obtain ⟨c, hc⟩ : ∃ c, cs[k]? = some c := ⟨_, List.getElem?_eq_getElem hkl⟩
    have hkl' : decide ((k : Int) < cs.length) = true := decide_eq_true (by omega)
    have hc' : (cs ++ zs)[k]? = some c := by rw [List.getElem?_append_left hkl]; exact hc
    have hn := bkL_name hc' s cs.length tl
    simp (disch := first | omega | (simp only [Zv, Zw, Zx, Zy, Zz]; omega)) only [↓SA, Vi, Vj, Vk, Vl, Vm, List.set_cons_zero, List.set_cons_succ, Vn, Vo, Vp, Vq, Vr, Vs, Vt, Vu, Vv, Vw, Vx, Vy, List.forall_mem_cons, Vz, VA, VB, VC, VD, VE, VF, VG, VH, VI, VJ, VK, VL, VM, VN, VO, VP, VQ, VR, VS, VT, VU, VV, VW, VX, VY, VZ, V0, V1, V2, V3, V4, V5, V9, Ga, Gp, Gq, GF, GG, GH, GI, GJ, GK, GL, GM, GN, GO, Option.isNone_some, Option.isNone_none, Option.isSome_some, Option.isSome_none, GP, GQ, GR, GS, GT, GU, GV, GW, GX, GY, GZ, G0, G1, G2, G3, G4, G5, G6, G7, G8, G9, Za, Zb, Zc, Zd, Ze, Zf, Zg, Zh, Zi, Zj, Zk, Zl, Zm, Zn, Zo, List.drop_zero, List.take_succ_cons, List.drop_succ_cons, List.take_zero, List.take_nil, List.append_nil, List.nil_append, if_true, if_false, ite_true, ite_false, ↓reduceIte, Bool.false_eq_true, Bool.true_eq_false, decide_eq_true_eq, eq_self, true_and, and_true, Option.map_some, Option.map_none, Nat.reduceAdd, Nat.reduceEqDiff, Nat.reduceMul, Nat.add_zero, Nat.zero_add, reduceCtorEq, Bool.not_true, Bool.not_false, List.getElem?_cons_zero, List.getElem?_cons_succ, and_self, exists_eq_left', exists_eq_left, List.length_cons, List.length_nil, Nat.reduceLeDiff, Nat.reduceSub, Zr, Zs, decide_true, decide_false, Int.natCast_zero, Int.cast_ofNat_Int, Int.reduceLE, Int.reduceLT, Int.reduceEq, Int.reduceAdd, Int.reduceSub, Int.reduceMul, Int.reduceToNat, Int.reduceNeg, Int.toNat_natCast, Nat.reduceLT, ge_iff_le, gt_iff_lt, Zt, Zu, hkl', Int.toNat_natCast, hb, hn]
    repeat' (first | (refine cnd_intro (fun h => ?_) (fun h => ?_) <;> (try simp only [decide_eq_true_eq, decide_eq_false_iff_not, Bool.not_eq_true', Bool.not_eq_false'] at h)) | (refine AllN_intro (fun n hn => ?_) <;> (try simp only [Zv, Zw, Zx, Zy, Zz] at hn)) | (simp (disch := first | omega | (simp only [Zv, Zw, Zx, Zy, Zz]; omega)) only [↓SA, Vi, Vj, Vk, Vl, Vm, List.set_cons_zero, List.set_cons_succ, Vn, Vo, Vp, Vq, Vr, Vs, Vt, Vu, Vv, Vw, Vx, Vy, List.forall_mem_cons, Vz, VA, VB, VC, VD, VE, VF, VG, VH, VI, VJ, VK, VL, VM, VN, VO, VP, VQ, VR, VS, VT, VU, VV, VW, VX, VY, VZ, V0, V1, V2, V3, V4, V5, V9, Ga, Gp, Gq, GF, GG, GH, GI, GJ, GK, GL, GM, GN, GO, Option.isNone_some, Option.isNone_none, Option.isSome_some, Option.isSome_none, GP, GQ, GR, GS, GT, GU, GV, GW, GX, GY, GZ, G0, G1, G2, G3, G4, G5, G6, G7, G8, G9, Za, Zb, Zc, Zd, Ze, Zf, Zg, Zh, Zi, Zj, Zk, Zl, Zm, Zn, Zo, List.drop_zero, List.take_succ_cons, List.drop_succ_cons, List.take_zero, List.take_nil, List.append_nil, List.nil_append, if_true, if_false, ite_true, ite_false, ↓reduceIte, Bool.false_eq_true, Bool.true_eq_false, decide_eq_true_eq, eq_self, true_and, and_true, Option.map_some, Option.map_none, Nat.reduceAdd, Nat.reduceEqDiff, Nat.reduceMul, Nat.add_zero, Nat.zero_add, reduceCtorEq, Bool.not_true, Bool.not_false, List.getElem?_cons_zero, List.getElem?_cons_succ, and_self, exists_eq_left', exists_eq_left, List.length_cons, List.length_nil, Nat.reduceLeDiff, Nat.reduceSub, Zr, Zs, decide_true, decide_false, Int.natCast_zero, Int.cast_ofNat_Int, Int.reduceLE, Int.reduceLT, Int.reduceEq, Int.reduceAdd, Int.reduceSub, Int.reduceMul, Int.reduceToNat, Int.reduceNeg, Int.toNat_natCast, Nat.reduceLT, ge_iff_le, gt_iff_lt, Zt, Zu, hb, hn, *]))
    · exact ⟨_, (by repeat' (first | exact Le.refl _ | (refine Le.new_of ?_ (by first | omega | (simp only [Zv, Zw, Zx, Zy, Zz] at *; omega))) | (refine Le.set_of ?_ (by first | omega | (simp only [Zv, Zw, Zx, Zy, Zz] at *; omega))))), by rw [pos_some hc h hi], rfl⟩
    · refine ⟨k + 1, rfl, Le.refl _, ⟨by omega, fun j d hj hd => ?_⟩, by omega⟩
      by_cases hjk : j = k
      · subst hjk; rw [hc] at hd; cases hd; exact h
      · exact hi j d (by omega) hd
  · have hkl' : decide ((k : Int) < cs.length) = false := decide_eq_false (by omega)
    simp (disch := first | omega | (simp only [Zv, Zw, Zx, Zy, Zz]; omega)) only [↓SA, Vi, Vj, Vk, Vl, Vm, List.set_cons_zero, List.set_cons_succ, Vn, Vo, Vp, Vq, Vr, Vs, Vt, Vu, Vv, Vw, Vx, Vy, List.forall_mem_cons, Vz, VA, VB, VC, VD, VE, VF, VG, VH, VI, VJ, VK, VL, VM, VN, VO, VP, VQ, VR, VS, VT, VU, VV, VW, VX, VY, VZ, V0, V1, V2, V3, V4, V5, V9, Ga, Gp, Gq, GF, GG, GH, GI, GJ, GK, GL, GM, GN, GO, Option.isNone_some, Option.isNone_none, Option.isSome_some, Option.isSome_none, GP, GQ, GR, GS, GT, GU, GV, GW, GX, GY, GZ, G0, G1, G2, G3, G4, G5, G6, G7, G8, G9, Za, Zb, Zc, Zd, Ze, Zf, Zg, Zh, Zi, Zj, Zk, Zl, Zm, Zn, Zo, List.drop_zero, List.take_succ_cons, List.drop_succ_cons, List.take_zero, List.take_nil, List.append_nil, List.nil_append, if_true, if_false, ite_true, ite_false, ↓reduceIte, Bool.false_eq_true, Bool.true_eq_false, decide_eq_true_eq, eq_self, true_and, and_true, Option.map_some, Option.map_none, Nat.reduceAdd, Nat.reduceEqDiff, Nat.reduceMul, Nat.add_zero, Nat.zero_add, reduceCtorEq, Bool.not_true, Bool.not_false, List.getElem?_cons_zero, List.getElem?_cons_succ, and_self, exists_eq_left', exists_eq_left, List.length_cons, List.length_nil, Nat.reduceLeDiff, Nat.reduceSub, Zr, Zs, decide_true, decide_false, Int.natCast_zero, Int.cast_ofNat_Int, Int.reduceLE, Int.reduceLT, Int.reduceEq, Int.reduceAdd, Int.reduceSub, Int.reduceMul, Int.reduceToNat, Int.reduceNeg, Int.toNat_natCast, Nat.reduceLT, ge_iff_le, gt_iff_lt, Zt, Zu, hkl']
    refine ⟨_, (by repeat' (first | exact Le.refl _ | (refine Le.new_of ?_ (by first | omega | (simp only [Zv, Zw, Zx, Zy, Zz] at *; omega))) | (refine Le.set_of ?_ (by first | omega | (simp only [Zv, Zw, Zx, Zy, Zz] at *; omega))))), ?_, rfl⟩
    rw [pos_none fun j d hd => hi j d (by have := (List.getElem?_eq_some_iff.1 hd).1; omega) hd]
end Go.Proofs.YtdgbnaignpploaaDoor.bk
