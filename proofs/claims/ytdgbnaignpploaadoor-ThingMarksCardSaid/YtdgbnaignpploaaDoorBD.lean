/- book.Book: a book with its cards' parts. -/
import Derived.Test.YtdgbnaignpploaaDoorBC
namespace Go.Proofs.YtdgbnaignpploaaDoor.bk
open Go.Sym
set_option linter.unusedVariables false
set_option linter.unusedSimpArgs false
set_option maxRecDepth 100000
variable {Bar : Nat} {X : St}
structure Bk (X : St) (b : Nat) (s : Bool) (cs zs : List KC) (ns : List ByteArray) (ms : List MK) : Prop where
  t : BkT X b s cs zs ns ms
  p : ∀ c ∈ cs, PartsE X c.po c.ps ∧ c.ps.length ≤ 4
theorem Bk.pk {b : Nat} {s : Bool} {cs zs : List KC} {ns : List ByteArray} {ms : List MK} (h : Bk X b s cs zs ns ms) : ∀ c ∈ cs, PartsK X c.po c.ps ∧ c.ps.length ≤ 4 := fun c hc => ⟨(h.p c hc).1.k, (h.p c hc).2⟩
theorem Bk.le {X Y : St} {b : Nat} {s : Bool} {cs zs : List KC} {ns : List ByteArray} {ms : List MK} (h : Bk X b s cs zs ns ms) (k : Le X Y) : Bk Y b s cs zs ns ms := ⟨h.t.le k, fun c hc => ⟨(h.p c hc).1.le k, (h.p c hc).2⟩⟩
/-- another book was written -/
theorem Bk.keep {X Y : St} {a b : Nat} {s s' : Bool} {cs zs cs' zs' : List KC} {ns ns' : List ByteArray} {ms ms' : List MK} (h : Bk X a s cs zs ns ms) (hb : Bk X b s' cs' zs' ns' ms') (hab : a ≠ b) (k : Keep b X Y) : Bk Y a s cs zs ns ms :=
  ⟨⟨⟨k.blk a _ hab h.t.bk.blk, h.t.bk.len, h.t.bk.tll⟩, h.t.nl, h.t.ml⟩, fun c hc => ⟨(h.p c hc).1.keep hb.t.bk.blk (show TB ≠ TP by decide) k, (h.p c hc).2⟩⟩
theorem PartsE.ne {po : Option Addr} {ps : List Part} (h : PartsE X po ps) {b : Nat} {C : Blk} (hb : X.get b = some C) (he : C.elem ≠ TP) : ps = [] ∨ ∀ p, po = some p → p.block ≠ b := by
  rcases h with h | ⟨c, o, B, rfl, h1, h2, h3⟩
  · exact .inl h
  · refine .inr fun p hp hpb => ?_
    cases hp
    have hpb : c = b := hpb
    subst hpb
    rw [hb] at h1
    cases h1
    exact he h2
theorem mem_ins {c d : KC} {cs : List KC} (h : d ∈ ins c cs) : d = c ∨ d ∈ cs := by
  unfold ins at h
  rcases List.mem_append.1 h with h | h
  · exact .inr (List.mem_of_mem_take h)
  · rcases List.mem_cons.1 h with h | h
    · exact .inl h
    · exact .inr (List.mem_of_mem_drop h)
theorem cardRes_zero {s : Bool} {cs : List KC} {c : KC} (h : cardRes s cs c = 0) : cardCheck c.h c.ps = 0 := by
  unfold cardRes at h
  split at h
  · cases h
  · split at h
    · rename_i h1; exact absurd h h1
    · rename_i h1; exact Decidable.not_not.1 h1
/-- a card is added to a book -/
theorem k_card {b : Nat} {s : Bool} {cs zs : List KC} {ns : List ByteArray} {ms : List MK} (hB : Bk X b s cs zs ns ms) (c : KC) (hp : PartsK X c.po c.ps) (hne : c.ps ≠ [] → ∀ p, c.po = some p → p.block ≠ b) :
    Does Go.Proofs.Tryd.prog Bar 19 [.pointer (some ⟨b, 0, none⟩), .agg ⟨c.cells⟩] X (fun r X' => r = .int .i64 (cardRes s cs c) ∧ (cardRes s cs c ≠ 0 → X' = X) ∧
      (cardRes s cs c = 0 → ∃ po' pc' zs', Bk X' b s (ins ⟨c.h, po', pc', c.ps⟩ cs) zs' ns ms) ∧ Keep b X X') := by
  refine (d_card hB.t.bk c hp hne).mono ?_
  rintro r X' ⟨h1, h2, h3⟩
  by_cases h0 : cardRes s cs c = 0
  · obtain ⟨po', pc', z, zs', -, h4, h5, h6⟩ := h3 h0
    refine ⟨h1, h2, fun _ => ⟨po', pc', zs', ⟨h4, hB.t.nl, hB.t.ml⟩, fun d hd => ?_⟩, h6⟩
    rcases mem_ins hd with rfl | hd
    · exact ⟨h5, parts4 (cardRes_zero h0)⟩
    · exact ⟨(hB.p d hd).1.keep hB.t.bk.blk (show TB ≠ TP by decide) h6, (hB.p d hd).2⟩
  · rw [h2 h0]
    exact ⟨h1, fun _ => rfl, fun h => absurd h h0, Keep.of_le (Le.refl _)⟩
theorem k_trait {b : Nat} {s : Bool} {cs zs : List KC} {ns : List ByteArray} {ms : List MK} (hB : Bk X b s cs zs ns ms) (t : Int) (x : ByteArray) :
    Does Go.Proofs.Tryd.prog Bar 20 [.pointer (some ⟨b, 0, none⟩), .int .u8 t, .string x] X (fun r X' => r = .int .i64 (traitRes s ns t x) ∧ (traitRes s ns t x ≠ 0 → X' = X) ∧
      (traitRes s ns t x = 0 → Bk X' b s cs zs (ns.set t.toNat x) ms) ∧ Keep b X X') := by
  refine (d_trait hB.t t x).mono ?_
  rintro r X' ⟨h1, h2, h3⟩
  by_cases h0 : traitRes s ns t x = 0
  · obtain ⟨h4, h6⟩ := h3 h0
    exact ⟨h1, h2, fun _ => ⟨h4, fun d hd => ⟨(hB.p d hd).1.keep hB.t.bk.blk (show TB ≠ TP by decide) h6, (hB.p d hd).2⟩⟩, h6⟩
  · rw [h2 h0]
    exact ⟨h1, fun _ => rfl, fun h => absurd h h0, Keep.of_le (Le.refl _)⟩
theorem k_mark {b : Nat} {s : Bool} {cs zs : List KC} {ns : List ByteArray} {ms : List MK} (hB : Bk X b s cs zs ns ms) (m : MK) :
    Does Go.Proofs.Tryd.prog Bar 21 [.pointer (some ⟨b, 0, none⟩), .agg ⟨m.cells⟩] X (fun r X' => r = .int .i64 (markRes s ms m) ∧ (markRes s ms m ≠ 0 → X' = X) ∧
      (markRes s ms m = 0 → Bk X' b s cs zs ns (ms.set m.ma.toNat m)) ∧ Keep b X X') := by
  refine (d_mark hB.t m).mono ?_
  rintro r X' ⟨h1, h2, h3⟩
  by_cases h0 : markRes s ms m = 0
  · obtain ⟨h4, h6⟩ := h3 h0
    exact ⟨h1, h2, fun _ => ⟨h4, fun d hd => ⟨(hB.p d hd).1.keep hB.t.bk.blk (show TB ≠ TP by decide) h6, (hB.p d hd).2⟩⟩, h6⟩
  · rw [h2 h0]
    exact ⟨h1, fun _ => rfl, fun h => absurd h h0, Keep.of_le (Le.refl _)⟩
theorem k_seal {b : Nat} {s : Bool} {cs zs : List KC} {ns : List ByteArray} {ms : List MK} (hB : Bk X b s cs zs ns ms) :
    Does Go.Proofs.Tryd.prog Bar 16 [.pointer (some ⟨b, 0, none⟩)] X (fun r X' => r = .int .i64 (sealRes s cs) ∧ (sealRes s cs ≠ 0 → X' = X) ∧ Bk X' b (s || decide (sealRes s cs = 0)) cs zs ns ms ∧ Keep b X X') := by
  refine (d_seal hB.t.bk hB.pk).mono ?_
  rintro r X' ⟨h1, h2, h3⟩
  by_cases h0 : sealRes s cs = 0
  · obtain ⟨h4, h6⟩ := h3 h0
    refine ⟨h1, h2, ?_, h6⟩
    rw [decide_eq_true h0, Bool.or_true]
    exact ⟨⟨h4, hB.t.nl, hB.t.ml⟩, fun d hd => ⟨(hB.p d hd).1.keep hB.t.bk.blk (show TB ≠ TP by decide) h6, (hB.p d hd).2⟩⟩
  · rw [h2 h0]
    refine ⟨h1, fun _ => rfl, ?_, Keep.of_le (Le.refl _)⟩
    rw [decide_eq_false h0, Bool.or_false]
    exact hB
theorem k_new : Does Go.Proofs.Tryd.prog Bar 33 [] X (fun r X' => ∃ b, X.next ≤ b ∧ r = .pointer (some ⟨b, 0, none⟩) ∧ Bk X' b false [] (List.replicate 64 noKC) (List.replicate 9 ⟨#[]⟩) (List.replicate 5 noMK) ∧ Le X X') := by
  refine d_new.mono ?_
  rintro r X' ⟨b, h1, h2, h3, h4⟩
  exact ⟨b, h1, h2, ⟨h3, fun c hc => by cases hc⟩, h4⟩
theorem k_same {a b : Nat} {s s' : Bool} {cs ds zs zs' : List KC} {ns ns' : List ByteArray} {ms ms' : List MK} (hA : Bk X a s cs zs ns ms) (hB : Bk X b s' ds zs' ns' ms') :
    Does Go.Proofs.Tryd.prog Bar 29 [.pointer (some ⟨a, 0, none⟩), .pointer (some ⟨b, 0, none⟩)] X (fun r X' => r = .bool (toldEq s s' ns ns' ms ms' && cardsEq cs ds) ∧ X' = X) := d_same hA.t hB.t hA.pk hB.pk
end Go.Proofs.YtdgbnaignpploaaDoor.bk
