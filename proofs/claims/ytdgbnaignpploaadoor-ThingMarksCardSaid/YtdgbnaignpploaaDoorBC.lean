/- book.Same. -/
import Derived.Test.YtdgbnaignpploaaDoorSy
import Derived.Test.YtdgbnaignpploaaDoorBB
namespace Go.Proofs.YtdgbnaignpploaaDoor.bk
open Go.Sym
set_option linter.unusedVariables false
set_option linter.unusedSimpArgs false
set_option maxRecDepth 100000
variable {Bar : Nat} {X : St}
def cardsEq : List KC → List KC → Bool
  | [], [] => true
  | a :: r, b :: q => cardEq a b && cardsEq r q
  | _, _ => false
theorem cardsEq_len : ∀ {ps qs : List KC}, ps.length ≠ qs.length → cardsEq ps qs = false
  | [], [], h => absurd rfl h
  | [], q :: qs, h => rfl
  | p :: ps, [], h => rfl
  | p :: ps, q :: qs, h => by
    unfold cardsEq
    rw [cardsEq_len (fun e => h (by simp [e]))]; simp
theorem cardEq_val {a b a' b' : KC} (h1 : a.val = a'.val) (h2 : b.val = b'.val) : cardEq a b = cardEq a' b' := by
  unfold KC.val at h1 h2
  simp only [Prod.mk.injEq] at h1 h2
  unfold cardEq
  rw [h1.1, h1.2, h2.1, h2.2]
theorem cardsEq_val : ∀ {ps qs ps' qs' : List KC}, ps.map KC.val = ps'.map KC.val → qs.map KC.val = qs'.map KC.val → cardsEq ps qs = cardsEq ps' qs'
  | [], [], ps', qs', h1, h2 => by
    cases ps' with
    | nil => cases qs' with
      | nil => rfl
      | cons b q => simp at h2
    | cons a r => simp at h1
  | [], q :: qs, ps', qs', h1, h2 => by
    cases ps' with
    | nil => cases qs' with
      | nil => simp at h2
      | cons b q => rfl
    | cons a r => simp at h1
  | p :: ps, [], ps', qs', h1, h2 => by
    cases qs' with
    | nil => cases ps' with
      | nil => simp at h1
      | cons b q => rfl
    | cons a r => simp at h2
  | p :: ps, q :: qs, ps', qs', h1, h2 => by
    cases ps' with
    | nil => simp at h1
    | cons a r => cases qs' with
      | nil => simp at h2
      | cons b q =>
        simp only [List.map_cons, List.cons.injEq] at h1 h2
        show (cardEq _ _ && cardsEq _ _) = (cardEq _ _ && cardsEq _ _)
        rw [cardEq_val h1.1 h2.1, cardsEq_val h1.2 h2.2]
theorem flat_at {ks : List KC} {k : Nat} {c : KC} (h : ks[k]? = some c) : ((ks.flatMap KC.cells).drop (k * 9)).take 9 = c.cells := by
  obtain ⟨hk, rfl⟩ := List.getElem?_eq_some_iff.1 h
  have : ks.flatMap KC.cells = (ks.take k).flatMap KC.cells ++ (ks[k].cells ++ (ks.drop (k + 1)).flatMap KC.cells) := by
    rw [← List.flatMap_cons, ← List.flatMap_append, List.getElem_cons_drop, List.take_append_drop]
  rw [this]
  have hl : ((ks.take k).flatMap KC.cells).length = k * 9 := by rw [flat_len, List.length_take]; omega
  rw [← hl, List.drop_left]
  exact List.take_left' rfl
theorem LBuilt.at {X Y : St} {v : Value} {ks : List KC} (h : LBuilt X Y v ks) : ∃ po cap, v = .slice po ks.length cap ∧ ∀ k c, ks[k]? = some c → ∃ g, po = some ⟨g, 0, none⟩ ∧ cellsOf (Y.get g) (0 + k * 9) 9 = some c.cells ∧ X.next ≤ g ∧ g < Y.next := by
  rcases h.v with ⟨h1, h2⟩ | ⟨g, cap, h1, h2, h3, h4⟩
  · subst h1; exact ⟨none, 0, h2, fun k c hk => by simp at hk⟩
  · refine ⟨_, cap, h1, fun k c hk => ⟨g, rfl, ?_, h4, St.lt h3⟩⟩
    have hkl := (List.getElem?_eq_some_iff.1 hk).1
    rw [h3, cellsOf_some (by show 0 + k * 9 + 9 ≤ (ks.flatMap KC.cells).length; rw [flat_len]; omega)]
    show some (((ks.flatMap KC.cells).drop (0 + k * 9)).take 9) = _
    rw [Nat.zero_add, flat_at hk]
theorem BkT.le {X Y : St} {b : Nat} {s : Bool} {cs zs : List KC} {ns : List ByteArray} {ms : List MK} (h : BkT X b s cs zs ns ms) (k : Le X Y) : BkT Y b s cs zs ns ms := ⟨⟨k.blk _ _ h.bk.blk, h.bk.len, h.bk.tll⟩, h.nl, h.ml⟩
set_option maxHeartbeats 4000000 in
theorem d_same {a b : Nat} {s s' : Bool} {cs ds zs zs' : List KC} {ns ns' : List ByteArray} {ms ms' : List MK} (hA : BkT X a s cs zs ns ms) (hB : BkT X b s' ds zs' ns' ms') (hpa : ∀ c ∈ cs, PartsK X c.po c.ps ∧ c.ps.length ≤ 4) (hpb : ∀ c ∈ ds, PartsK X c.po c.ps ∧ c.ps.length ≤ 4) :
    Does Go.Proofs.Tryd.prog Bar 29 [.pointer (some ⟨a, 0, none⟩), .pointer (some ⟨b, 0, none⟩)] X (fun r X' => r = .bool (toldEq s s' ns ns' ms ms' && cardsEq cs ds) ∧ X' = X) := by
  have hla := hA.bk.len
  have hlb := hB.bk.len
  have he := eqtTold (s := s) (s' := s') hA.nl hB.nl hA.ml hB.ml
  refine Does.body numOK mixed k.f29 rfl k.o29 (Nat.le_of_ble_eq_true rfl) ?_
  simp (disch := first | omega | (simp only [Zv, Zw, Zx, Zy, Zz]; omega)) only [↓SA, Vi, Vj, Vk, Vl, Vm, List.set_cons_zero, List.set_cons_succ, Vn, Vo, Vp, Vq, Vr, Vs, Vt, Vu, Vv, Vw, Vx, Vy, List.forall_mem_cons, Vz, VA, VB, VC, VD, VE, VF, VG, VH, VI, VJ, VK, VL, VM, VN, VO, VP, VQ, VR, VS, VT, VU, VV, VW, VX, VY, VZ, V0, V1, V2, V3, V4, V5, V9, Ga, Gp, Gq, GF, GG, GH, GI, GJ, GK, GL, GM, GN, GO, Option.isNone_some, Option.isNone_none, Option.isSome_some, Option.isSome_none, GP, GQ, GR, GS, GT, GU, GV, GW, GX, GY, GZ, G0, G1, G2, G3, G4, G5, G6, G7, G8, G9, Za, Zb, Zc, Zd, Ze, Zf, Zg, Zh, Zi, Zj, Zk, Zl, Zm, Zn, Zo, List.drop_zero, List.take_succ_cons, List.drop_succ_cons, List.take_zero, List.take_nil, List.append_nil, List.nil_append, if_true, if_false, ite_true, ite_false, ↓reduceIte, Bool.false_eq_true, Bool.true_eq_false, decide_eq_true_eq, eq_self, true_and, and_true, Option.map_some, Option.map_none, Nat.reduceAdd, Nat.reduceEqDiff, Nat.reduceMul, Nat.add_zero, Nat.zero_add, reduceCtorEq, Bool.not_true, Bool.not_false, List.getElem?_cons_zero, List.getElem?_cons_succ, and_self, exists_eq_left', exists_eq_left, List.length_cons, List.length_nil, Nat.reduceLeDiff, Nat.reduceSub, Zr, Zs, decide_true, decide_false, Int.natCast_zero, Int.cast_ofNat_Int, Int.reduceLE, Int.reduceLT, Int.reduceEq, Int.reduceAdd, Int.reduceSub, Int.reduceMul, Int.reduceToNat, Int.reduceNeg, Int.toNat_natCast, Nat.reduceLT, ge_iff_le, gt_iff_lt, Zt, Zu]
  repeat' (first | (refine cnd_intro (fun h => ?_) (fun h => ?_) <;> (try simp only [decide_eq_true_eq, decide_eq_false_iff_not, Bool.not_eq_true', Bool.not_eq_false'] at h)) | (refine AllN_intro (fun n hn => ?_) <;> (try simp only [Zv, Zw, Zx, Zy, Zz] at hn)) | (refine DoesK.by (d_none hA.bk) ?_; rintro _ X2 ⟨rfl, hX2⟩; subst X2) | (refine DoesK.by (d_none hB.bk) ?_; rintro _ X2 ⟨rfl, hX2⟩; subst X2) | (refine DoesK.by (d_tells hA) ?_; rintro _ X2 ⟨rfl, hX2⟩; subst X2) | (refine DoesK.by (d_tells hB) ?_; rintro _ X2 ⟨rfl, hX2⟩; subst X2) | (refine nEq_intro he ?_) | (simp (disch := first | omega | (simp only [Zv, Zw, Zx, Zy, Zz]; omega)) only [↓SA, Vi, Vj, Vk, Vl, Vm, List.set_cons_zero, List.set_cons_succ, Vn, Vo, Vp, Vq, Vr, Vs, Vt, Vu, Vv, Vw, Vx, Vy, List.forall_mem_cons, Vz, VA, VB, VC, VD, VE, VF, VG, VH, VI, VJ, VK, VL, VM, VN, VO, VP, VQ, VR, VS, VT, VU, VV, VW, VX, VY, VZ, V0, V1, V2, V3, V4, V5, V9, Ga, Gp, Gq, GF, GG, GH, GI, GJ, GK, GL, GM, GN, GO, Option.isNone_some, Option.isNone_none, Option.isSome_some, Option.isSome_none, GP, GQ, GR, GS, GT, GU, GV, GW, GX, GY, GZ, G0, G1, G2, G3, G4, G5, G6, G7, G8, G9, Za, Zb, Zc, Zd, Ze, Zf, Zg, Zh, Zi, Zj, Zk, Zl, Zm, Zn, Zo, List.drop_zero, List.take_succ_cons, List.drop_succ_cons, List.take_zero, List.take_nil, List.append_nil, List.nil_append, if_true, if_false, ite_true, ite_false, ↓reduceIte, Bool.false_eq_true, Bool.true_eq_false, decide_eq_true_eq, eq_self, true_and, and_true, Option.map_some, Option.map_none, Nat.reduceAdd, Nat.reduceEqDiff, Nat.reduceMul, Nat.add_zero, Nat.zero_add, reduceCtorEq, Bool.not_true, Bool.not_false, List.getElem?_cons_zero, List.getElem?_cons_succ, and_self, exists_eq_left', exists_eq_left, List.length_cons, List.length_nil, Nat.reduceLeDiff, Nat.reduceSub, Zr, Zs, decide_true, decide_false, Int.natCast_zero, Int.cast_ofNat_Int, Int.reduceLE, Int.reduceLT, Int.reduceEq, Int.reduceAdd, Int.reduceSub, Int.reduceMul, Int.reduceToNat, Int.reduceNeg, Int.toNat_natCast, Nat.reduceLT, ge_iff_le, gt_iff_lt, Zt, Zu, *]))
  · exact ⟨X, Le.refl _, rfl, rfl⟩
  have ht : toldEq s s' ns ns' ms ms' = true := h
  have hfin : (toldEq s s' ns ns' ms ms' && cardsEq cs ds) = cardsEq cs ds := by rw [ht]; rfl
  rw [hfin]
  clear h ht hfin he
  refine DoesK.by (d_list hA.bk hpa) ?_
  rintro v Y ⟨ks, hY, hks⟩
  have hpk : ∀ c ∈ ks, PartsE Y c.po c.ps := hY.ps
  obtain ⟨po, cap, rfl, hat⟩ := hY.at
  simp (disch := first | omega | (simp only [Zv, Zw, Zx, Zy, Zz]; omega)) only [↓SA, Vi, Vj, Vk, Vl, Vm, List.set_cons_zero, List.set_cons_succ, Vn, Vo, Vp, Vq, Vr, Vs, Vt, Vu, Vv, Vw, Vx, Vy, List.forall_mem_cons, Vz, VA, VB, VC, VD, VE, VF, VG, VH, VI, VJ, VK, VL, VM, VN, VO, VP, VQ, VR, VS, VT, VU, VV, VW, VX, VY, VZ, V0, V1, V2, V3, V4, V5, V9, Ga, Gp, Gq, GF, GG, GH, GI, GJ, GK, GL, GM, GN, GO, Option.isNone_some, Option.isNone_none, Option.isSome_some, Option.isSome_none, GP, GQ, GR, GS, GT, GU, GV, GW, GX, GY, GZ, G0, G1, G2, G3, G4, G5, G6, G7, G8, G9, Za, Zb, Zc, Zd, Ze, Zf, Zg, Zh, Zi, Zj, Zk, Zl, Zm, Zn, Zo, List.drop_zero, List.take_succ_cons, List.drop_succ_cons, List.take_zero, List.take_nil, List.append_nil, List.nil_append, if_true, if_false, ite_true, ite_false, ↓reduceIte, Bool.false_eq_true, Bool.true_eq_false, decide_eq_true_eq, eq_self, true_and, and_true, Option.map_some, Option.map_none, Nat.reduceAdd, Nat.reduceEqDiff, Nat.reduceMul, Nat.add_zero, Nat.zero_add, reduceCtorEq, Bool.not_true, Bool.not_false, List.getElem?_cons_zero, List.getElem?_cons_succ, and_self, exists_eq_left', exists_eq_left, List.length_cons, List.length_nil, Nat.reduceLeDiff, Nat.reduceSub, Zr, Zs, decide_true, decide_false, Int.natCast_zero, Int.cast_ofNat_Int, Int.reduceLE, Int.reduceLT, Int.reduceEq, Int.reduceAdd, Int.reduceSub, Int.reduceMul, Int.reduceToNat, Int.reduceNeg, Int.toNat_natCast, Nat.reduceLT, ge_iff_le, gt_iff_lt, Zt, Zu]
  refine DoesK.by (d_list (hB.le hY.le).bk (fun c hc => ⟨(hpb c hc).1.le hY.le, (hpb c hc).2⟩)) ?_
  rintro w Y2 ⟨ls, hY2, hls⟩
  obtain ⟨qo, cap2, rfl, hat2⟩ := hY2.at
  have hlk : ks.length = cs.length := by have := congrArg List.length hks; simpa using this
  have hll : ls.length = ds.length := by have := congrArg List.length hls; simpa using this
  have hh : Hid (ks.length ≤ 64 ∧ ks.length = cs.length ∧ ls.length = ds.length) := ⟨by omega, hlk, hll⟩
  clear hlk hll
  have hXY2 := hY.le.trans hY2.le
  have hps4 : ∀ c ∈ ks, c.ps.length ≤ 4 := by
    intro c hc
    have : c.val ∈ cs.map KC.val := by rw [← hks]; exact List.mem_map_of_mem hc
    obtain ⟨d, hd, he⟩ := List.mem_map.1 this
    have h2 : d.ps = c.ps := congrArg Prod.snd he
    rw [← h2]; exact (hpa d hd).2
  rw [← cardsEq_val hks hls]
  have hkeep : Hid (LBuilt X Y (.slice po ks.length cap) ks ∧ LBuilt Y Y2 (.slice qo ls.length cap2) ls) := ⟨hY, hY2⟩
  clear hks hls hpa hpb hY hY2 hA hB
  simp (disch := first | omega | (simp only [Zv, Zw, Zx, Zy, Zz]; omega)) only [↓SA, Vi, Vj, Vk, Vl, Vm, List.set_cons_zero, List.set_cons_succ, Vn, Vo, Vp, Vq, Vr, Vs, Vt, Vu, Vv, Vw, Vx, Vy, List.forall_mem_cons, Vz, VA, VB, VC, VD, VE, VF, VG, VH, VI, VJ, VK, VL, VM, VN, VO, VP, VQ, VR, VS, VT, VU, VV, VW, VX, VY, VZ, V0, V1, V2, V3, V4, V5, V9, Ga, Gp, Gq, GF, GG, GH, GI, GJ, GK, GL, GM, GN, GO, Option.isNone_some, Option.isNone_none, Option.isSome_some, Option.isSome_none, GP, GQ, GR, GS, GT, GU, GV, GW, GX, GY, GZ, G0, G1, G2, G3, G4, G5, G6, G7, G8, G9, Za, Zb, Zc, Zd, Ze, Zf, Zg, Zh, Zi, Zj, Zk, Zl, Zm, Zn, Zo, List.drop_zero, List.take_succ_cons, List.drop_succ_cons, List.take_zero, List.take_nil, List.append_nil, List.nil_append, if_true, if_false, ite_true, ite_false, ↓reduceIte, Bool.false_eq_true, Bool.true_eq_false, decide_eq_true_eq, eq_self, true_and, and_true, Option.map_some, Option.map_none, Nat.reduceAdd, Nat.reduceEqDiff, Nat.reduceMul, Nat.add_zero, Nat.zero_add, reduceCtorEq, Bool.not_true, Bool.not_false, List.getElem?_cons_zero, List.getElem?_cons_succ, and_self, exists_eq_left', exists_eq_left, List.length_cons, List.length_nil, Nat.reduceLeDiff, Nat.reduceSub, Zr, Zs, decide_true, decide_false, Int.natCast_zero, Int.cast_ofNat_Int, Int.reduceLE, Int.reduceLT, Int.reduceEq, Int.reduceAdd, Int.reduceSub, Int.reduceMul, Int.reduceToNat, Int.reduceNeg, Int.toNat_natCast, Nat.reduceLT, ge_iff_le, gt_iff_lt, Zt, Zu]
  repeat' (first | (refine cnd_intro (fun h => ?_) (fun h => ?_) <;> (try simp only [decide_eq_true_eq, decide_eq_false_iff_not, Bool.not_eq_true', Bool.not_eq_false'] at h)) | (refine AllN_intro (fun n hn => ?_) <;> (try simp only [Zv, Zw, Zx, Zy, Zz] at hn)) | (simp (disch := first | omega | (simp only [Zv, Zw, Zx, Zy, Zz]; omega)) only [↓SA, Vi, Vj, Vk, Vl, Vm, List.set_cons_zero, List.set_cons_succ, Vn, Vo, Vp, Vq, Vr, Vs, Vt, Vu, Vv, Vw, Vx, Vy, List.forall_mem_cons, Vz, VA, VB, VC, VD, VE, VF, VG, VH, VI, VJ, VK, VL, VM, VN, VO, VP, VQ, VR, VS, VT, VU, VV, VW, VX, VY, VZ, V0, V1, V2, V3, V4, V5, V9, Ga, Gp, Gq, GF, GG, GH, GI, GJ, GK, GL, GM, GN, GO, Option.isNone_some, Option.isNone_none, Option.isSome_some, Option.isSome_none, GP, GQ, GR, GS, GT, GU, GV, GW, GX, GY, GZ, G0, G1, G2, G3, G4, G5, G6, G7, G8, G9, Za, Zb, Zc, Zd, Ze, Zf, Zg, Zh, Zi, Zj, Zk, Zl, Zm, Zn, Zo, List.drop_zero, List.take_succ_cons, List.drop_succ_cons, List.take_zero, List.take_nil, List.append_nil, List.nil_append, if_true, if_false, ite_true, ite_false, ↓reduceIte, Bool.false_eq_true, Bool.true_eq_false, decide_eq_true_eq, eq_self, true_and, and_true, Option.map_some, Option.map_none, Nat.reduceAdd, Nat.reduceEqDiff, Nat.reduceMul, Nat.add_zero, Nat.zero_add, reduceCtorEq, Bool.not_true, Bool.not_false, List.getElem?_cons_zero, List.getElem?_cons_succ, and_self, exists_eq_left', exists_eq_left, List.length_cons, List.length_nil, Nat.reduceLeDiff, Nat.reduceSub, Zr, Zs, decide_true, decide_false, Int.natCast_zero, Int.cast_ofNat_Int, Int.reduceLE, Int.reduceLT, Int.reduceEq, Int.reduceAdd, Int.reduceSub, Int.reduceMul, Int.reduceToNat, Int.reduceNeg, Int.toNat_natCast, Nat.reduceLT, ge_iff_le, gt_iff_lt, Zt, Zu, *]))
  · exact ⟨X, hXY2, by rw [cardsEq_len (by omega)], rfl⟩
  · have hlen : ks.length = ls.length := by omega
    have hk64 := hh.h.1
    clear hla hlb h hh
    refine wpC_loop (fun k : Nat => ⟨46, [(6, .slice qo ls.length cap2), (31, .slice po ks.length cap), (32, .int .i64 ls.length), (33, .int .i64 k)]⟩) (fun _ => Y2) (fun k => k ≤ ls.length ∧ cardsEq (ks.drop k) (ls.drop k) = cardsEq ks ls) (fun k => ls.length - k) 0 rfl (Le.refl _) ⟨Nat.zero_le _, rfl⟩ ?_
    rintro k ⟨hk, hi⟩
    by_cases hkl : k < ls.length
    · obtain ⟨c, hck⟩ : ∃ c, ks[k]? = some c := ⟨_, List.getElem?_eq_getElem (by omega)⟩
      obtain ⟨d, hdk⟩ : ∃ d, ls[k]? = some d := ⟨_, List.getElem?_eq_getElem (by omega)⟩
      have hkl' : decide ((k : Int) < ls.length) = true := decide_eq_true (by omega)
      rw [drop_cons hck, drop_cons hdk] at hi
      have hi : Hid ((cardEq c d && cardsEq (ks.drop (k + 1)) (ls.drop (k + 1))) = cardsEq ks ls) := ⟨hi⟩
      obtain ⟨g, rfl, hc, hgX, hg⟩ := hat k c hck
      obtain ⟨g2, rfl, hd, hg2Y, hg2⟩ := hat2 k d hdk
      have hc := cellsOf_le hc hkeep.h.2.le
      rw [Nat.zero_add] at hc hd
      have hg := cellsOf_lt hc
      have hpc : Hid (PartsK Y2 c.po c.ps) := ⟨((hkeep.h.1.ps c (List.mem_of_getElem? hck)).le hkeep.h.2.le).k⟩
      have hpd : Hid (PartsK Y2 d.po d.ps) := ⟨(hkeep.h.2.ps d (List.mem_of_getElem? hdk)).k⟩
      have hp4 := hps4 c (List.mem_of_getElem? hck)
      have hds : (∀ v ∈ c.cells, single v = true) = True := eq_true c.single
      have hsp : Sym.splice [.string ⟨#[]⟩, .int .u8 0, .int .u8 0, .int .i64 0, .int .i64 0, .int .i64 0, .int .u16 0, .bool false, .slice none 0 0] 0 c.cells = c.cells := rfl
      have hlen' : Hid (ks.length = ls.length) := ⟨hlen⟩
      have hkk : (k : Int) < ks.length := by omega
      clear hat hat2 hlen
      simp (disch := first | omega | (simp only [Zv, Zw, Zx, Zy, Zz]; omega)) only [↓SA, Vi, Vj, Vk, Vl, Vm, List.set_cons_zero, List.set_cons_succ, Vn, Vo, Vp, Vq, Vr, Vs, Vt, Vu, Vv, Vw, Vx, Vy, List.forall_mem_cons, Vz, VA, VB, VC, VD, VE, VF, VG, VH, VI, VJ, VK, VL, VM, VN, VO, VP, VQ, VR, VS, VT, VU, VV, VW, VX, VY, VZ, V0, V1, V2, V3, V4, V5, V9, Ga, Gp, Gq, GF, GG, GH, GI, GJ, GK, GL, GM, GN, GO, Option.isNone_some, Option.isNone_none, Option.isSome_some, Option.isSome_none, GP, GQ, GR, GS, GT, GU, GV, GW, GX, GY, GZ, G0, G1, G2, G3, G4, G5, G6, G7, G8, G9, Za, Zb, Zc, Zd, Ze, Zf, Zg, Zh, Zi, Zj, Zk, Zl, Zm, Zn, Zo, List.drop_zero, List.take_succ_cons, List.drop_succ_cons, List.take_zero, List.take_nil, List.append_nil, List.nil_append, if_true, if_false, ite_true, ite_false, ↓reduceIte, Bool.false_eq_true, Bool.true_eq_false, decide_eq_true_eq, eq_self, true_and, and_true, Option.map_some, Option.map_none, Nat.reduceAdd, Nat.reduceEqDiff, Nat.reduceMul, Nat.add_zero, Nat.zero_add, reduceCtorEq, Bool.not_true, Bool.not_false, List.getElem?_cons_zero, List.getElem?_cons_succ, and_self, exists_eq_left', exists_eq_left, List.length_cons, List.length_nil, Nat.reduceLeDiff, Nat.reduceSub, Zr, Zs, decide_true, decide_false, Int.natCast_zero, Int.cast_ofNat_Int, Int.reduceLE, Int.reduceLT, Int.reduceEq, Int.reduceAdd, Int.reduceSub, Int.reduceMul, Int.reduceToNat, Int.reduceNeg, Int.toNat_natCast, Nat.reduceLT, ge_iff_le, gt_iff_lt, Zt, Zu, hkl', Int.toNat_natCast, hc, hd]
      refine AllN_intro (fun n1 hn1 => ?_)
      simp (disch := first | omega | (simp only [Zv, Zw, Zx, Zy, Zz]; omega)) only [↓SA, Vi, Vj, Vk, Vl, Vm, List.set_cons_zero, List.set_cons_succ, Vn, Vo, Vp, Vq, Vr, Vs, Vt, Vu, Vv, Vw, Vx, Vy, List.forall_mem_cons, Vz, VA, VB, VC, VD, VE, VF, VG, VH, VI, VJ, VK, VL, VM, VN, VO, VP, VQ, VR, VS, VT, VU, VV, VW, VX, VY, VZ, V0, V1, V2, V3, V4, V5, V9, Ga, Gp, Gq, GF, GG, GH, GI, GJ, GK, GL, GM, GN, GO, Option.isNone_some, Option.isNone_none, Option.isSome_some, Option.isSome_none, GP, GQ, GR, GS, GT, GU, GV, GW, GX, GY, GZ, G0, G1, G2, G3, G4, G5, G6, G7, G8, G9, Za, Zb, Zc, Zd, Ze, Zf, Zg, Zh, Zi, Zj, Zk, Zl, Zm, Zn, Zo, List.drop_zero, List.take_succ_cons, List.drop_succ_cons, List.take_zero, List.take_nil, List.append_nil, List.nil_append, if_true, if_false, ite_true, ite_false, ↓reduceIte, Bool.false_eq_true, Bool.true_eq_false, decide_eq_true_eq, eq_self, true_and, and_true, Option.map_some, Option.map_none, Nat.reduceAdd, Nat.reduceEqDiff, Nat.reduceMul, Nat.add_zero, Nat.zero_add, reduceCtorEq, Bool.not_true, Bool.not_false, List.getElem?_cons_zero, List.getElem?_cons_succ, and_self, exists_eq_left', exists_eq_left, List.length_cons, List.length_nil, Nat.reduceLeDiff, Nat.reduceSub, Zr, Zs, decide_true, decide_false, Int.natCast_zero, Int.cast_ofNat_Int, Int.reduceLE, Int.reduceLT, Int.reduceEq, Int.reduceAdd, Int.reduceSub, Int.reduceMul, Int.reduceToNat, Int.reduceNeg, Int.toNat_natCast, Nat.reduceLT, ge_iff_le, gt_iff_lt, Zt, Zu, hds, hsp, KC.cells_len, KC.take9, hc, hd, Int.toNat_natCast]
      have hd1 : cellsOf ((Y2.new n1 ⟨c.cells, 9, TC, true⟩).get g2) (k * 9) 9 = some d.cells := by rw [VH (by omega)]; exact hd
      have hLn : Le Y2 (Y2.new n1 ⟨c.cells, 9, TC, true⟩) := Le.new (Le.refl _) hn1
      repeat' (first | (refine cnd_intro (fun h => ?_) (fun h => ?_) <;> (try simp only [decide_eq_true_eq, decide_eq_false_iff_not, Bool.not_eq_true', Bool.not_eq_false'] at h)) | (refine AllN_intro (fun n hn => ?_) <;> (try simp only [Zv, Zw, Zx, Zy, Zz] at hn)) | (refine DoesK.by (d_cardSame c d (hpc.h.le hLn) (hpd.h.le hLn) (by omega)) ?_; rintro _ X2 ⟨rfl, hX2⟩; subst X2) | (refine wpC_plan _ _ _ _ (Le.refl _) ?_) | (simp (disch := first | omega | (simp only [Zv, Zw, Zx, Zy, Zz]; omega)) only [↓SA, Vi, Vj, Vk, Vl, Vm, List.set_cons_zero, List.set_cons_succ, Vn, Vo, Vp, Vq, Vr, Vs, Vt, Vu, Vv, Vw, Vx, Vy, List.forall_mem_cons, Vz, VA, VB, VC, VD, VE, VF, VG, VH, VI, VJ, VK, VL, VM, VN, VO, VP, VQ, VR, VS, VT, VU, VV, VW, VX, VY, VZ, V0, V1, V2, V3, V4, V5, V9, Ga, Gp, Gq, GF, GG, GH, GI, GJ, GK, GL, GM, GN, GO, Option.isNone_some, Option.isNone_none, Option.isSome_some, Option.isSome_none, GP, GQ, GR, GS, GT, GU, GV, GW, GX, GY, GZ, G0, G1, G2, G3, G4, G5, G6, G7, G8, G9, Za, Zb, Zc, Zd, Ze, Zf, Zg, Zh, Zi, Zj, Zk, Zl, Zm, Zn, Zo, List.drop_zero, List.take_succ_cons, List.drop_succ_cons, List.take_zero, List.take_nil, List.append_nil, List.nil_append, if_true, if_false, ite_true, ite_false, ↓reduceIte, Bool.false_eq_true, Bool.true_eq_false, decide_eq_true_eq, eq_self, true_and, and_true, Option.map_some, Option.map_none, Nat.reduceAdd, Nat.reduceEqDiff, Nat.reduceMul, Nat.add_zero, Nat.zero_add, reduceCtorEq, Bool.not_true, Bool.not_false, List.getElem?_cons_zero, List.getElem?_cons_succ, and_self, exists_eq_left', exists_eq_left, List.length_cons, List.length_nil, Nat.reduceLeDiff, Nat.reduceSub, Zr, Zs, decide_true, decide_false, Int.natCast_zero, Int.cast_ofNat_Int, Int.reduceLE, Int.reduceLT, Int.reduceEq, Int.reduceAdd, Int.reduceSub, Int.reduceMul, Int.reduceToNat, Int.reduceNeg, Int.toNat_natCast, Nat.reduceLT, ge_iff_le, gt_iff_lt, Zt, Zu, hkl', hds, hsp, KC.cells_len, KC.take9, hc, hd, Int.toNat_natCast, *]))
      all_goals first
        | exact ⟨X, Le.new_of hXY2 (by have := hXY2.next; omega), by rw [← hi.h, h]; rfl, rfl⟩
        | exact ⟨k + 1, rfl, hLn, ⟨by omega, by rw [← hi.h, h]; rfl⟩, by omega⟩
    · have hkl' : decide ((k : Int) < ls.length) = false := decide_eq_false (by omega)
      simp (disch := first | omega | (simp only [Zv, Zw, Zx, Zy, Zz]; omega)) only [↓SA, Vi, Vj, Vk, Vl, Vm, List.set_cons_zero, List.set_cons_succ, Vn, Vo, Vp, Vq, Vr, Vs, Vt, Vu, Vv, Vw, Vx, Vy, List.forall_mem_cons, Vz, VA, VB, VC, VD, VE, VF, VG, VH, VI, VJ, VK, VL, VM, VN, VO, VP, VQ, VR, VS, VT, VU, VV, VW, VX, VY, VZ, V0, V1, V2, V3, V4, V5, V9, Ga, Gp, Gq, GF, GG, GH, GI, GJ, GK, GL, GM, GN, GO, Option.isNone_some, Option.isNone_none, Option.isSome_some, Option.isSome_none, GP, GQ, GR, GS, GT, GU, GV, GW, GX, GY, GZ, G0, G1, G2, G3, G4, G5, G6, G7, G8, G9, Za, Zb, Zc, Zd, Ze, Zf, Zg, Zh, Zi, Zj, Zk, Zl, Zm, Zn, Zo, List.drop_zero, List.take_succ_cons, List.drop_succ_cons, List.take_zero, List.take_nil, List.append_nil, List.nil_append, if_true, if_false, ite_true, ite_false, ↓reduceIte, Bool.false_eq_true, Bool.true_eq_false, decide_eq_true_eq, eq_self, true_and, and_true, Option.map_some, Option.map_none, Nat.reduceAdd, Nat.reduceEqDiff, Nat.reduceMul, Nat.add_zero, Nat.zero_add, reduceCtorEq, Bool.not_true, Bool.not_false, List.getElem?_cons_zero, List.getElem?_cons_succ, and_self, exists_eq_left', exists_eq_left, List.length_cons, List.length_nil, Nat.reduceLeDiff, Nat.reduceSub, Zr, Zs, decide_true, decide_false, Int.natCast_zero, Int.cast_ofNat_Int, Int.reduceLE, Int.reduceLT, Int.reduceEq, Int.reduceAdd, Int.reduceSub, Int.reduceMul, Int.reduceToNat, Int.reduceNeg, Int.toNat_natCast, Nat.reduceLT, ge_iff_le, gt_iff_lt, Zt, Zu, hkl']
      rw [List.drop_eq_nil_of_le (by omega), List.drop_eq_nil_of_le (by omega)] at hi
      exact ⟨X, hXY2, by rw [← hi]; rfl, rfl⟩
end Go.Proofs.YtdgbnaignpploaaDoor.bk
