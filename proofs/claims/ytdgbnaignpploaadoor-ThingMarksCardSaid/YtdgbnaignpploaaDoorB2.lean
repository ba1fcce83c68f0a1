/- book.Book: a card is added. -/
import Derived.Test.YtdgbnaignpploaaDoorSy
import Derived.Test.YtdgbnaignpploaaDoorB1
namespace Go.Proofs.YtdgbnaignpploaaDoor.bk
open Go.Sym
set_option linter.unusedVariables false
set_option linter.unusedSimpArgs false
set_option maxRecDepth 100000
variable {Bar : Nat} {X : St}
/-- where a card comes to stand -/
def stands (h : Head) (cs : List KC) : Nat → Nat
  | 0 => 0
  | k + 1 => match cs[k]? with | some d => if less h d.h then stands h cs k else k + 1 | none => k + 1
theorem stands_le (h : Head) (cs : List KC) : ∀ n, stands h cs n ≤ n
  | 0 => Nat.le_refl _
  | k + 1 => by
    unfold stands
    split
    · split
      · have := stands_le h cs k; omega
      · exact Nat.le_refl _
    · exact Nat.le_refl _
def ins (c : KC) (cs : List KC) : List KC := cs.take (stands c.h cs cs.length) ++ c :: cs.drop (stands c.h cs cs.length)
theorem ins_len (c : KC) (cs : List KC) : (ins c cs).length = cs.length + 1 := by
  have := stands_le c.h cs cs.length
  unfold ins
  rw [List.length_append, List.length_cons, List.length_take, List.length_drop]; omega
/-- what a card is answered -/
def cardRes (s : Bool) (cs : List KC) (c : KC) : Int :=
  if s then 7 else if cardCheck c.h c.ps ≠ 0 then cardCheck c.h c.ps else if 0 ≤ pos c.h.nm cs then 5 else if 64 ≤ cs.length then 14 else 0
theorem KC.take9 (c : KC) : c.cells.take 9 = c.cells := rfl
theorem PartsK.set {po : Option Addr} {ps : List Part} {b : Nat} {B : Blk} (h : PartsK X po ps) (hne : ps ≠ [] → ∀ p, po = some p → p.block ≠ b) : PartsK (X.set b B) po ps := by
  by_cases h0 : ps = []
  · exact .inl h0
  rcases h with h | ⟨c, o, rfl, h⟩
  · exact .inl h
  · exact .inr ⟨c, o, rfl, by rw [VJ (hne h0 _ rfl)]; exact h⟩
theorem PartsK.lt {po : Option Addr} {ps : List Part} (h : PartsK X po ps) (h0 : ps ≠ []) (p : Addr) (hp : po = some p) : p.block < X.next := by
  rcases h with h | ⟨c, o, rfl, h⟩
  · exact absurd h h0
  · cases hp; exact cellsOf_lt h
theorem parts4 {h : Head} {ps : List Part} (e : cardCheck h ps = 0) : ps.length ≤ 4 := by
  unfold cardCheck at e
  split at e
  · rename_i hn; exact absurd e hn
  · rename_i hn; exact faceE_len (Decidable.not_not.1 hn)
theorem KC.cell_0 (c : KC) : c.cells[0]? = some (.string c.h.nm) := rfl
theorem d_cardCheck' (c : KC) (hp : PartsK X c.po c.ps) : Does Go.Proofs.Tryd.prog Bar 32 [.agg ⟨c.cells⟩] X (fun r X' => r = .int .i64 (cardCheck c.h c.ps) ∧ X' = X) := d_cardCheck c.h c.po c.ps c.pc hp
theorem BkA.new {b : Nat} {s : Bool} {cs zs : List KC} {tl : List Value} (hB : BkA X b s cs zs tl) {n : Nat} {B : Blk} (hn : X.next ≤ n) : BkA (X.new n B) b s cs zs tl := ⟨by have := St.lt hB.blk; rw [VH (by omega)]; exact hB.blk, hB.len, hB.tll⟩
/-- the array of cards while a card is put in -/
def slots (cs zs : List KC) (i : Nat) (x : KC) : List KC := cs.take i ++ x :: (cs.drop i ++ zs)
theorem slots_below {cs zs : List KC} {k : Nat} {x d : KC} (h : cs[k]? = some d) : (slots cs zs (k + 1) x)[k]? = some d := by
  have hk := (List.getElem?_eq_some_iff.1 h).1
  unfold slots
  rw [List.getElem?_append_left (by rw [List.length_take]; omega), List.getElem?_take]
  simp [h]
theorem slots_at {cs zs : List KC} {i : Nat} {x : KC} (h : i ≤ cs.length) : (slots cs zs i x)[i]? = some x := by
  unfold slots
  have hl : (cs.take i).length = i := by rw [List.length_take]; omega
  rw [List.getElem?_append_right (by omega), hl, Nat.sub_self]
  rfl
theorem slots_put {cs zs : List KC} {i : Nat} {x y : KC} (h : i ≤ cs.length) : (slots cs zs i x).set i y = slots cs zs i y := by
  unfold slots
  have hl : (cs.take i).length = i := by rw [List.length_take]; omega
  rw [List.set_append_right _ _ (by omega), hl, Nat.sub_self]
  rfl
theorem slots_set {cs zs : List KC} {k : Nat} {x d : KC} (h : cs[k]? = some d) : (slots cs zs (k + 1) x).set (k + 1) d = slots cs zs k d := by
  have hk := (List.getElem?_eq_some_iff.1 h).1
  rw [slots_put (by omega)]
  unfold slots
  have h1 : cs.take (k + 1) = cs.take k ++ [d] := by rw [List.take_add_one, h]; rfl
  have h2 : cs.drop k = d :: cs.drop (k + 1) := by
    rw [List.drop_eq_getElem_cons hk]; rw [List.getElem?_eq_getElem hk] at h; cases h; rfl
  rw [h1, h2]
  simp
set_option maxHeartbeats 2000000 in
theorem d_card {b : Nat} {s : Bool} {cs zs : List KC} {tl : List Value} (hB : BkA X b s cs zs tl) (c : KC) (hp : PartsK X c.po c.ps) (hne : c.ps ≠ [] → ∀ p, c.po = some p → p.block ≠ b) :
    Does Go.Proofs.Tryd.prog Bar 19 [.pointer (some ⟨b, 0, none⟩), .agg ⟨c.cells⟩] X (fun r X' => r = .int .i64 (cardRes s cs c) ∧ (cardRes s cs c ≠ 0 → X' = X) ∧
      (cardRes s cs c = 0 → ∃ po' pc' z zs', zs = z :: zs' ∧ BkA X' b s (ins ⟨c.h, po', pc', c.ps⟩ cs) zs' tl ∧ PartsE X' po' c.ps ∧ Keep b X X')) := by
  have hb := hB.blk
  have hl := hB.len
  have hblt := St.lt hb
  refine Does.body numOK mixed k.f19 rfl k.o19 (Nat.le_of_ble_eq_true rfl) ?_
  simp (disch := first | omega | (simp only [Zv, Zw, Zx, Zy, Zz]; omega)) only [↓SA, Vi, Vj, Vk, Vl, Vm, List.set_cons_zero, List.set_cons_succ, Vn, Vo, Vp, Vq, Vr, Vs, Vt, Vu, Vv, Vw, Vx, Vy, List.forall_mem_cons, Vz, VA, VB, VC, VD, VE, VF, VG, VH, VI, VJ, VK, VL, VM, VN, VO, VP, VQ, VR, VS, VT, VU, VV, VW, VX, VY, VZ, V0, V1, V2, V3, V4, V5, V9, Ga, Gp, Gq, GF, GG, GH, GI, GJ, GK, GL, GM, GN, GO, Option.isNone_some, Option.isNone_none, Option.isSome_some, Option.isSome_none, GP, GQ, GR, GS, GT, GU, GV, GW, GX, GY, GZ, G0, G1, G2, G3, G4, G5, G6, G7, G8, G9, Za, Zb, Zc, Zd, Ze, Zf, Zg, Zh, Zi, Zj, Zk, Zl, Zm, Zn, Zo, List.drop_zero, List.take_succ_cons, List.drop_succ_cons, List.take_zero, List.take_nil, List.append_nil, List.nil_append, if_true, if_false, ite_true, ite_false, ↓reduceIte, Bool.false_eq_true, Bool.true_eq_false, decide_eq_true_eq, eq_self, true_and, and_true, Option.map_some, Option.map_none, Nat.reduceAdd, Nat.reduceEqDiff, Nat.reduceMul, Nat.add_zero, Nat.zero_add, reduceCtorEq, Bool.not_true, Bool.not_false, List.getElem?_cons_zero, List.getElem?_cons_succ, and_self, exists_eq_left', exists_eq_left, List.length_cons, List.length_nil, Nat.reduceLeDiff, Nat.reduceSub, Zr, Zs, decide_true, decide_false, Int.natCast_zero, Int.cast_ofNat_Int, Int.reduceLE, Int.reduceLT, Int.reduceEq, Int.reduceAdd, Int.reduceSub, Int.reduceMul, Int.reduceToNat, Int.reduceNeg, Int.toNat_natCast, Nat.reduceLT, ge_iff_le, gt_iff_lt, Zt, Zu, KC.cells_len]
  repeat' (first | (refine cnd_intro (fun h => ?_) (fun h => ?_) <;> (try simp only [decide_eq_true_eq, decide_eq_false_iff_not, Bool.not_eq_true', Bool.not_eq_false'] at h)) | (refine AllN_intro (fun n hn => ?_) <;> (try simp only [Zv, Zw, Zx, Zy, Zz] at hn)) | (refine DoesK.by (d_shut (hB.new hn)) ?_; rintro _ X2 ⟨rfl, hX2⟩; subst X2) | (refine DoesK.by (d_cardCheck' c (hp.le (Le.new (Le.refl _) hn))) ?_; rintro _ X2 ⟨rfl, hX2⟩; subst X2) | (refine DoesK.by (d_place (hB.new hn) _) ?_; rintro _ X2 ⟨rfl, hX2⟩; subst X2) | (refine wpC_plan _ _ _ _ (Le.refl _) ?_) | (simp (disch := first | omega | (simp only [Zv, Zw, Zx, Zy, Zz]; omega)) only [↓SA, Vi, Vj, Vk, Vl, Vm, List.set_cons_zero, List.set_cons_succ, Vn, Vo, Vp, Vq, Vr, Vs, Vt, Vu, Vv, Vw, Vx, Vy, List.forall_mem_cons, Vz, VA, VB, VC, VD, VE, VF, VG, VH, VI, VJ, VK, VL, VM, VN, VO, VP, VQ, VR, VS, VT, VU, VV, VW, VX, VY, VZ, V0, V1, V2, V3, V4, V5, V9, Ga, Gp, Gq, GF, GG, GH, GI, GJ, GK, GL, GM, GN, GO, Option.isNone_some, Option.isNone_none, Option.isSome_some, Option.isSome_none, GP, GQ, GR, GS, GT, GU, GV, GW, GX, GY, GZ, G0, G1, G2, G3, G4, G5, G6, G7, G8, G9, Za, Zb, Zc, Zd, Ze, Zf, Zg, Zh, Zi, Zj, Zk, Zl, Zm, Zn, Zo, List.drop_zero, List.take_succ_cons, List.drop_succ_cons, List.take_zero, List.take_nil, List.append_nil, List.nil_append, if_true, if_false, ite_true, ite_false, ↓reduceIte, Bool.false_eq_true, Bool.true_eq_false, decide_eq_true_eq, eq_self, true_and, and_true, Option.map_some, Option.map_none, Nat.reduceAdd, Nat.reduceEqDiff, Nat.reduceMul, Nat.add_zero, Nat.zero_add, reduceCtorEq, Bool.not_true, Bool.not_false, List.getElem?_cons_zero, List.getElem?_cons_succ, and_self, exists_eq_left', exists_eq_left, List.length_cons, List.length_nil, Nat.reduceLeDiff, Nat.reduceSub, Zr, Zs, decide_true, decide_false, Int.natCast_zero, Int.cast_ofNat_Int, Int.reduceLE, Int.reduceLT, Int.reduceEq, Int.reduceAdd, Int.reduceSub, Int.reduceMul, Int.reduceToNat, Int.reduceNeg, Int.toNat_natCast, Nat.reduceLT, ge_iff_le, gt_iff_lt, Zt, Zu, KC.cells_len, KC.cell_0, hb, bkL_0, bkL_1, bkL_2, *]))
  · have e : cardRes s cs c = 7 := by cases s <;> simp_all [cardRes]
    exact ⟨X, (by repeat' (first | exact Le.refl _ | (refine Le.new_of ?_ (by first | omega | (simp only [Zv, Zw, Zx, Zy, Zz] at *; omega))) | (refine Le.set_of ?_ (by first | omega | (simp only [Zv, Zw, Zx, Zy, Zz] at *; omega))))), by rw [e]; cases s <;> simp_all, fun _ => rfl, fun h0 => by omega⟩
  · have e : cardRes s cs c = cardCheck c.h c.ps := by cases s <;> simp_all [cardRes]
    exact ⟨X, (by repeat' (first | exact Le.refl _ | (refine Le.new_of ?_ (by first | omega | (simp only [Zv, Zw, Zx, Zy, Zz] at *; omega))) | (refine Le.set_of ?_ (by first | omega | (simp only [Zv, Zw, Zx, Zy, Zz] at *; omega))))), by rw [e], fun _ => rfl, fun h0 => by omega⟩
  · have e : cardRes s cs c = 5 := by cases s <;> simp_all [cardRes]
    exact ⟨X, (by repeat' (first | exact Le.refl _ | (refine Le.new_of ?_ (by first | omega | (simp only [Zv, Zw, Zx, Zy, Zz] at *; omega))) | (refine Le.set_of ?_ (by first | omega | (simp only [Zv, Zw, Zx, Zy, Zz] at *; omega))))), by rw [e], fun _ => rfl, fun h0 => by omega⟩
  · have e : cardRes s cs c = 14 := by
      have : 64 ≤ cs.length := by omega
      cases s <;> simp_all [cardRes]
    exact ⟨X, (by repeat' (first | exact Le.refl _ | (refine Le.new_of ?_ (by first | omega | (simp only [Zv, Zw, Zx, Zy, Zz] at *; omega))) | (refine Le.set_of ?_ (by first | omega | (simp only [Zv, Zw, Zx, Zy, Zz] at *; omega))))), by rw [e], fun _ => rfl, fun h0 => by omega⟩
  have e : cardRes s cs c = 0 := by
    have h1 : ¬ 64 ≤ cs.length := by omega
    have h2 : ¬ 0 ≤ pos c.h.nm cs := by assumption
    have h3 : cardCheck c.h c.ps = 0 := by assumption
    have h4 : s = false := by cases s <;> simp_all
    unfold cardRes
    rw [h4, h3, if_neg h2, if_neg h1]; rfl
  obtain ⟨z, zs', rfl⟩ : ∃ z zs', zs = z :: zs' := by
    cases zs with
    | nil => simp at hl; omega
    | cons z zs' => exact ⟨z, zs', rfl⟩
  have hps4 : c.ps.length ≤ 4 := parts4 (h := c.h) (by assumption)
  have hz : zs'.length + cs.length = 63 := by simp at hl; omega
  have htl := hB.tll
  have hsl : ∀ i x, i ≤ cs.length → (slots cs zs' i x).length = 64 := fun i x hi => by unfold slots; simp; omega
  have hbl : ∀ i x, i ≤ cs.length → (bkL s cs.length (slots cs zs' i x) tl).length = 608 := fun i x hi => by rw [bkL_len, hsl i x hi, htl]
  refine wpC_loop (fun a : Nat × KC => ⟨76, [(0, .pointer (some ⟨b, 0, none⟩)), (3, .pointer (some ⟨n, 0, none⟩)), (7, .int .i64 a.1)]⟩)
    (fun a => (X.set b ⟨bkL s cs.length (slots cs zs' a.1 a.2) tl, 608, TB, true⟩).new n ⟨c.cells, 9, 51, true⟩)
    (fun a => a.1 ≤ cs.length ∧ stands c.h cs cs.length = stands c.h cs a.1) (fun a => a.1) (cs.length, z) rfl ?_ ⟨Nat.le_refl _, rfl⟩ ?_
  · have : slots cs zs' cs.length z = cs ++ z :: zs' := by simp [slots]
    show Le ((X.set b ⟨bkL s cs.length (slots cs zs' cs.length z) tl, 608, TB, true⟩).new n _) _
    rw [this]
    exact Le.new2 (Le.set_self hb)
  rintro ⟨i, x⟩ ⟨hi, hst⟩
  have hi : i ≤ cs.length := hi
  have hst : stands c.h cs cs.length = stands c.h cs i := hst
  have hbl0 := hbl
  have hbl := hbl i x hi
  rcases i with _ | k
  · have hstd : stands c.h cs cs.length = 0 := hst
    simp (disch := first | omega | (simp only [Zv, Zw, Zx, Zy, Zz]; omega)) only [↓SA, Vi, Vj, Vk, Vl, Vm, List.set_cons_zero, List.set_cons_succ, Vn, Vo, Vp, Vq, Vr, Vs, Vt, Vu, Vv, Vw, Vx, Vy, List.forall_mem_cons, Vz, VA, VB, VC, VD, VE, VF, VG, VH, VI, VJ, VK, VL, VM, VN, VO, VP, VQ, VR, VS, VT, VU, VV, VW, VX, VY, VZ, V0, V1, V2, V3, V4, V5, V9, Ga, Gp, Gq, GF, GG, GH, GI, GJ, GK, GL, GM, GN, GO, Option.isNone_some, Option.isNone_none, Option.isSome_some, Option.isSome_none, GP, GQ, GR, GS, GT, GU, GV, GW, GX, GY, GZ, G0, G1, G2, G3, G4, G5, G6, G7, G8, G9, Za, Zb, Zc, Zd, Ze, Zf, Zg, Zh, Zi, Zj, Zk, Zl, Zm, Zn, Zo, List.drop_zero, List.take_succ_cons, List.drop_succ_cons, List.take_zero, List.take_nil, List.append_nil, List.nil_append, if_true, if_false, ite_true, ite_false, ↓reduceIte, Bool.false_eq_true, Bool.true_eq_false, decide_eq_true_eq, eq_self, true_and, and_true, Option.map_some, Option.map_none, Nat.reduceAdd, Nat.reduceEqDiff, Nat.reduceMul, Nat.add_zero, Nat.zero_add, reduceCtorEq, Bool.not_true, Bool.not_false, List.getElem?_cons_zero, List.getElem?_cons_succ, and_self, exists_eq_left', exists_eq_left, List.length_cons, List.length_nil, Nat.reduceLeDiff, Nat.reduceSub, Zr, Zs, decide_true, decide_false, Int.natCast_zero, Int.cast_ofNat_Int, Int.reduceLE, Int.reduceLT, Int.reduceEq, Int.reduceAdd, Int.reduceSub, Int.reduceMul, Int.reduceToNat, Int.reduceNeg, Int.toNat_natCast, Nat.reduceLT, ge_iff_le, gt_iff_lt, Zt, Zu, Int.toNat_natCast]
    repeat' (first | (refine cnd_intro (fun h => ?_) (fun h => ?_) <;> (try simp only [decide_eq_true_eq, decide_eq_false_iff_not, Bool.not_eq_true', Bool.not_eq_false'] at h)) | (refine AllN_intro (fun n hn => ?_) <;> (try simp only [Zv, Zw, Zx, Zy, Zz] at hn)) | (refine wpC_plan _ _ _ _ (Le.refl _) ?_) | (simp (disch := first | omega | (simp only [Zv, Zw, Zx, Zy, Zz]; omega)) only [↓SA, Vi, Vj, Vk, Vl, Vm, List.set_cons_zero, List.set_cons_succ, Vn, Vo, Vp, Vq, Vr, Vs, Vt, Vu, Vv, Vw, Vx, Vy, List.forall_mem_cons, Vz, VA, VB, VC, VD, VE, VF, VG, VH, VI, VJ, VK, VL, VM, VN, VO, VP, VQ, VR, VS, VT, VU, VV, VW, VX, VY, VZ, V0, V1, V2, V3, V4, V5, V9, Ga, Gp, Gq, GF, GG, GH, GI, GJ, GK, GL, GM, GN, GO, Option.isNone_some, Option.isNone_none, Option.isSome_some, Option.isSome_none, GP, GQ, GR, GS, GT, GU, GV, GW, GX, GY, GZ, G0, G1, G2, G3, G4, G5, G6, G7, G8, G9, Za, Zb, Zc, Zd, Ze, Zf, Zg, Zh, Zi, Zj, Zk, Zl, Zm, Zn, Zo, List.drop_zero, List.take_succ_cons, List.drop_succ_cons, List.take_zero, List.take_nil, List.append_nil, List.nil_append, if_true, if_false, ite_true, ite_false, ↓reduceIte, Bool.false_eq_true, Bool.true_eq_false, decide_eq_true_eq, eq_self, true_and, and_true, Option.map_some, Option.map_none, Nat.reduceAdd, Nat.reduceEqDiff, Nat.reduceMul, Nat.add_zero, Nat.zero_add, reduceCtorEq, Bool.not_true, Bool.not_false, List.getElem?_cons_zero, List.getElem?_cons_succ, and_self, exists_eq_left', exists_eq_left, List.length_cons, List.length_nil, Nat.reduceLeDiff, Nat.reduceSub, Zr, Zs, decide_true, decide_false, Int.natCast_zero, Int.cast_ofNat_Int, Int.reduceLE, Int.reduceLT, Int.reduceEq, Int.reduceAdd, Int.reduceSub, Int.reduceMul, Int.reduceToNat, Int.reduceNeg, Int.toNat_natCast, Nat.reduceLT, ge_iff_le, gt_iff_lt, Zt, Zu, KC.cells_len, KC.take9, *]))
    refine DoesK.by (d_copy c ((hp.set hne).le (Le.new (Le.refl _) hn)) hps4) ?_
    rintro _ Y ⟨po', pc', rfl, hpe, hYle, hfr⟩
    have hYb : Y.get b = some ⟨bkL s cs.length (slots cs zs' 0 x) tl, 608, TB, true⟩ := hYle.blk b _ (by rw [VH (by omega), VI hblt])
    have hYlt := St.lt hYb
    have hsp' : Sym.splice (bkL s cs.length (slots cs zs' 0 x) tl) 3 (KC.mk c.h po' pc' c.ps).cells = bkL s cs.length (slots cs zs' 0 ⟨c.h, po', pc', c.ps⟩) tl := by
      have := splice_card (KC.mk c.h po' pc' c.ps) (slots_at (zs := zs') (x := x) hi) s cs.length tl
      rw [slots_put hi] at this
      exact this
    have hn1 : IntKind.i64.wrap ((cs.length : Int) + 1) = ((cs.length + 1 : Nat) : Int) := by rw [Zt] <;> omega
    have hbl' := hbl0 0 ⟨c.h, po', pc', c.ps⟩ hi
    have hds' : (∀ v ∈ (KC.mk c.h po' pc' c.ps).cells, single v = true) = True := eq_true (KC.single _)
    have hil : 3 ≤ 599 := by omega
    simp (disch := first | omega | (simp only [Zv, Zw, Zx, Zy, Zz]; omega)) only [↓SA, Vi, Vj, Vk, Vl, Vm, List.set_cons_zero, List.set_cons_succ, Vn, Vo, Vp, Vq, Vr, Vs, Vt, Vu, Vv, Vw, Vx, Vy, List.forall_mem_cons, Vz, VA, VB, VC, VD, VE, VF, VG, VH, VI, VJ, VK, VL, VM, VN, VO, VP, VQ, VR, VS, VT, VU, VV, VW, VX, VY, VZ, V0, V1, V2, V3, V4, V5, V9, Ga, Gp, Gq, GF, GG, GH, GI, GJ, GK, GL, GM, GN, GO, Option.isNone_some, Option.isNone_none, Option.isSome_some, Option.isSome_none, GP, GQ, GR, GS, GT, GU, GV, GW, GX, GY, GZ, G0, G1, G2, G3, G4, G5, G6, G7, G8, G9, Za, Zb, Zc, Zd, Ze, Zf, Zg, Zh, Zi, Zj, Zk, Zl, Zm, Zn, Zo, List.drop_zero, List.take_succ_cons, List.drop_succ_cons, List.take_zero, List.take_nil, List.append_nil, List.nil_append, if_true, if_false, ite_true, ite_false, ↓reduceIte, Bool.false_eq_true, Bool.true_eq_false, decide_eq_true_eq, eq_self, true_and, and_true, Option.map_some, Option.map_none, Nat.reduceAdd, Nat.reduceEqDiff, Nat.reduceMul, Nat.add_zero, Nat.zero_add, reduceCtorEq, Bool.not_true, Bool.not_false, List.getElem?_cons_zero, List.getElem?_cons_succ, and_self, exists_eq_left', exists_eq_left, List.length_cons, List.length_nil, Nat.reduceLeDiff, Nat.reduceSub, Zr, Zs, decide_true, decide_false, Int.natCast_zero, Int.cast_ofNat_Int, Int.reduceLE, Int.reduceLT, Int.reduceEq, Int.reduceAdd, Int.reduceSub, Int.reduceMul, Int.reduceToNat, Int.reduceNeg, Int.toNat_natCast, Nat.reduceLT, ge_iff_le, gt_iff_lt, Zt, Zu, hYle, hds', hil, hYb, hbl, hbl', hsp', hn1, Int.toNat_natCast, KC.cells_len, bkL_2, splice_n]
    refine ⟨_, Le.refl _, by rw [e], fun h0 => absurd e h0, fun _ => ⟨po', pc', z, zs', rfl, ⟨?_, ?_, htl⟩, hpe.keep hYb (show TB ≠ TP by decide) Keep.set, ?_⟩⟩
    · rw [VI hYlt, ins_len]
      have : ins ⟨c.h, po', pc', c.ps⟩ cs ++ zs' = slots cs zs' (0) ⟨c.h, po', pc', c.ps⟩ := by
        unfold ins slots
        rw [show stands (KC.mk c.h po' pc' c.ps).h cs cs.length = 0 from hstd]
        simp
      rw [this]
    · rw [ins_len]; omega
    · exact ((Keep.set.trans (Keep.of_le (Le.new (Le.refl _) hn))).trans (Keep.of_le hYle)).trans Keep.set
  · obtain ⟨d, hd⟩ : ∃ d, cs[k]? = some d := ⟨_, List.getElem?_eq_getElem (by omega)⟩
    have hsub : IntKind.i64.wrap (((k + 1 : Nat) : Int) - 1) = (k : Int) := by rw [Zt] <;> omega
    have hpos : decide ((0 : Int) < ((k + 1 : Nat) : Int)) = true := decide_eq_true (by omega)
    have hg : (slots cs zs' (k + 1) x)[k]? = some d := slots_below hd
    have hg1 : (slots cs zs' (k + 1) x)[k + 1]? = some x := slots_at (by omega)
    have hc9 := fun m e wr => bkL_card hg s cs.length tl m e wr
    have hsp : Sym.splice (bkL s cs.length (slots cs zs' (k + 1) x) tl) (3 + (k + 1) * 9) d.cells = bkL s cs.length (slots cs zs' k d) tl := by
      rw [splice_card d hg1, slots_set hd]
    have hds : (∀ v ∈ d.cells, single v = true) = True := eq_true d.single
    have hdl := d.cells_len
    have hle : 3 + (k + 1) * 9 ≤ 599 := by omega
    have hsu : stands c.h cs (k + 1) = if less c.h d.h then stands c.h cs k else k + 1 := by
      show (match cs[k]? with | some d => if less c.h d.h then stands c.h cs k else k + 1 | none => k + 1) = _
      rw [hd]
    simp (disch := first | omega | (simp only [Zv, Zw, Zx, Zy, Zz]; omega)) only [↓SA, Vi, Vj, Vk, Vl, Vm, List.set_cons_zero, List.set_cons_succ, Vn, Vo, Vp, Vq, Vr, Vs, Vt, Vu, Vv, Vw, Vx, Vy, List.forall_mem_cons, Vz, VA, VB, VC, VD, VE, VF, VG, VH, VI, VJ, VK, VL, VM, VN, VO, VP, VQ, VR, VS, VT, VU, VV, VW, VX, VY, VZ, V0, V1, V2, V3, V4, V5, V9, Ga, Gp, Gq, GF, GG, GH, GI, GJ, GK, GL, GM, GN, GO, Option.isNone_some, Option.isNone_none, Option.isSome_some, Option.isSome_none, GP, GQ, GR, GS, GT, GU, GV, GW, GX, GY, GZ, G0, G1, G2, G3, G4, G5, G6, G7, G8, G9, Za, Zb, Zc, Zd, Ze, Zf, Zg, Zh, Zi, Zj, Zk, Zl, Zm, Zn, Zo, List.drop_zero, List.take_succ_cons, List.drop_succ_cons, List.take_zero, List.take_nil, List.append_nil, List.nil_append, if_true, if_false, ite_true, ite_false, ↓reduceIte, Bool.false_eq_true, Bool.true_eq_false, decide_eq_true_eq, eq_self, true_and, and_true, Option.map_some, Option.map_none, Nat.reduceAdd, Nat.reduceEqDiff, Nat.reduceMul, Nat.add_zero, Nat.zero_add, reduceCtorEq, Bool.not_true, Bool.not_false, List.getElem?_cons_zero, List.getElem?_cons_succ, and_self, exists_eq_left', exists_eq_left, List.length_cons, List.length_nil, Nat.reduceLeDiff, Nat.reduceSub, Zr, Zs, decide_true, decide_false, Int.natCast_zero, Int.cast_ofNat_Int, Int.reduceLE, Int.reduceLT, Int.reduceEq, Int.reduceAdd, Int.reduceSub, Int.reduceMul, Int.reduceToNat, Int.reduceNeg, Int.toNat_natCast, Nat.reduceLT, ge_iff_le, gt_iff_lt, Zt, Zu, hpos, hsub, Int.toNat_natCast]
    repeat' (first | (refine cnd_intro (fun h => ?_) (fun h => ?_) <;> (try simp only [decide_eq_true_eq, decide_eq_false_iff_not, Bool.not_eq_true', Bool.not_eq_false'] at h)) | (refine AllN_intro (fun n hn => ?_) <;> (try simp only [Zv, Zw, Zx, Zy, Zz] at hn)) | (refine DoesK.by (d_ahead c d) ?_; rintro _ X2 ⟨rfl, hX2⟩; subst X2) | (refine wpC_plan _ _ _ _ (Le.refl _) ?_) | (simp (disch := first | omega | (simp only [Zv, Zw, Zx, Zy, Zz]; omega)) only [↓SA, Vi, Vj, Vk, Vl, Vm, List.set_cons_zero, List.set_cons_succ, Vn, Vo, Vp, Vq, Vr, Vs, Vt, Vu, Vv, Vw, Vx, Vy, List.forall_mem_cons, Vz, VA, VB, VC, VD, VE, VF, VG, VH, VI, VJ, VK, VL, VM, VN, VO, VP, VQ, VR, VS, VT, VU, VV, VW, VX, VY, VZ, V0, V1, V2, V3, V4, V5, V9, Ga, Gp, Gq, GF, GG, GH, GI, GJ, GK, GL, GM, GN, GO, Option.isNone_some, Option.isNone_none, Option.isSome_some, Option.isSome_none, GP, GQ, GR, GS, GT, GU, GV, GW, GX, GY, GZ, G0, G1, G2, G3, G4, G5, G6, G7, G8, G9, Za, Zb, Zc, Zd, Ze, Zf, Zg, Zh, Zi, Zj, Zk, Zl, Zm, Zn, Zo, List.drop_zero, List.take_succ_cons, List.drop_succ_cons, List.take_zero, List.take_nil, List.append_nil, List.nil_append, if_true, if_false, ite_true, ite_false, ↓reduceIte, Bool.false_eq_true, Bool.true_eq_false, decide_eq_true_eq, eq_self, true_and, and_true, Option.map_some, Option.map_none, Nat.reduceAdd, Nat.reduceEqDiff, Nat.reduceMul, Nat.add_zero, Nat.zero_add, reduceCtorEq, Bool.not_true, Bool.not_false, List.getElem?_cons_zero, List.getElem?_cons_succ, and_self, exists_eq_left', exists_eq_left, List.length_cons, List.length_nil, Nat.reduceLeDiff, Nat.reduceSub, Zr, Zs, decide_true, decide_false, Int.natCast_zero, Int.cast_ofNat_Int, Int.reduceLE, Int.reduceLT, Int.reduceEq, Int.reduceAdd, Int.reduceSub, Int.reduceMul, Int.reduceToNat, Int.reduceNeg, Int.toNat_natCast, Nat.reduceLT, ge_iff_le, gt_iff_lt, Zt, Zu, hpos, hsub, Int.toNat_natCast, KC.cells_len, KC.take9, hc9, hbl, hsp, hds, hdl, hle, *]))
    · refine ⟨(k, d), rfl, Le.refl _, ⟨by omega, ?_⟩, by omega⟩
      first | rfl | (rw [hst, hsu, h]; rfl)
    · have hstd : stands c.h cs cs.length = k + 1 := by rw [hst, hsu, h]; rfl
      refine DoesK.by (d_copy c ((hp.set hne).le (Le.new (Le.refl _) hn)) hps4) ?_
      rintro _ Y ⟨po', pc', rfl, hpe, hYle, hfr⟩
      have hYb : Y.get b = some ⟨bkL s cs.length (slots cs zs' (k + 1) x) tl, 608, TB, true⟩ := hYle.blk b _ (by rw [VH (by omega), VI hblt])
      have hYlt := St.lt hYb
      have hsp' : Sym.splice (bkL s cs.length (slots cs zs' (k + 1) x) tl) (3 + (k + 1) * 9) (KC.mk c.h po' pc' c.ps).cells = bkL s cs.length (slots cs zs' (k + 1) ⟨c.h, po', pc', c.ps⟩) tl := by
        have := splice_card (KC.mk c.h po' pc' c.ps) (slots_at (zs := zs') (x := x) hi) s cs.length tl
        rw [slots_put hi] at this
        exact this
      have hn1 : IntKind.i64.wrap ((cs.length : Int) + 1) = ((cs.length + 1 : Nat) : Int) := by rw [Zt] <;> omega
      have hbl' := hbl0 (k + 1) ⟨c.h, po', pc', c.ps⟩ hi
      have hds' : (∀ v ∈ (KC.mk c.h po' pc' c.ps).cells, single v = true) = True := eq_true (KC.single _)
      have hil : (3 + (k + 1) * 9) ≤ 599 := by omega
      simp (disch := first | omega | (simp only [Zv, Zw, Zx, Zy, Zz]; omega)) only [↓SA, Vi, Vj, Vk, Vl, Vm, List.set_cons_zero, List.set_cons_succ, Vn, Vo, Vp, Vq, Vr, Vs, Vt, Vu, Vv, Vw, Vx, Vy, List.forall_mem_cons, Vz, VA, VB, VC, VD, VE, VF, VG, VH, VI, VJ, VK, VL, VM, VN, VO, VP, VQ, VR, VS, VT, VU, VV, VW, VX, VY, VZ, V0, V1, V2, V3, V4, V5, V9, Ga, Gp, Gq, GF, GG, GH, GI, GJ, GK, GL, GM, GN, GO, Option.isNone_some, Option.isNone_none, Option.isSome_some, Option.isSome_none, GP, GQ, GR, GS, GT, GU, GV, GW, GX, GY, GZ, G0, G1, G2, G3, G4, G5, G6, G7, G8, G9, Za, Zb, Zc, Zd, Ze, Zf, Zg, Zh, Zi, Zj, Zk, Zl, Zm, Zn, Zo, List.drop_zero, List.take_succ_cons, List.drop_succ_cons, List.take_zero, List.take_nil, List.append_nil, List.nil_append, if_true, if_false, ite_true, ite_false, ↓reduceIte, Bool.false_eq_true, Bool.true_eq_false, decide_eq_true_eq, eq_self, true_and, and_true, Option.map_some, Option.map_none, Nat.reduceAdd, Nat.reduceEqDiff, Nat.reduceMul, Nat.add_zero, Nat.zero_add, reduceCtorEq, Bool.not_true, Bool.not_false, List.getElem?_cons_zero, List.getElem?_cons_succ, and_self, exists_eq_left', exists_eq_left, List.length_cons, List.length_nil, Nat.reduceLeDiff, Nat.reduceSub, Zr, Zs, decide_true, decide_false, Int.natCast_zero, Int.cast_ofNat_Int, Int.reduceLE, Int.reduceLT, Int.reduceEq, Int.reduceAdd, Int.reduceSub, Int.reduceMul, Int.reduceToNat, Int.reduceNeg, Int.toNat_natCast, Nat.reduceLT, ge_iff_le, gt_iff_lt, Zt, Zu, hYle, hds', hil, hYb, hbl, hbl', hsp', hn1, Int.toNat_natCast, KC.cells_len, bkL_2, splice_n]
      refine ⟨_, Le.refl _, by rw [e], fun h0 => absurd e h0, fun _ => ⟨po', pc', z, zs', rfl, ⟨?_, ?_, htl⟩, hpe.keep hYb (show TB ≠ TP by decide) Keep.set, ?_⟩⟩
      · rw [VI hYlt, ins_len]
        have : ins ⟨c.h, po', pc', c.ps⟩ cs ++ zs' = slots cs zs' ((k + 1)) ⟨c.h, po', pc', c.ps⟩ := by
          unfold ins slots
          rw [show stands (KC.mk c.h po' pc' c.ps).h cs cs.length = (k + 1) from hstd]
          simp
        rw [this]
      · rw [ins_len]; omega
      · exact ((Keep.set.trans (Keep.of_le (Le.new (Le.refl _) hn))).trans (Keep.of_le hYle)).trans Keep.set
end Go.Proofs.YtdgbnaignpploaaDoor.bk
