/- Plain laws: books with the same cards answer alike. -/
import Derived.Test.YtdgbnaignpploaaDoorP0
import Derived.Test.YtdgbnaignpploaaDoorBC
namespace Go.Proofs.YtdgbnaignpploaaDoor.bk
open Go.Sym
set_option linter.unusedVariables false
theorem beqB_self (x : ByteArray) : beqB x x = true := beqB_iff.2 rfl
theorem partEq_self (p : Part) : partEq p p = true := by unfold partEq; simp [beqB_self]
theorem psEq_self : ∀ ps : List Part, psEq ps ps = true
  | [] => rfl
  | p :: ps => by show (partEq p p && psEq ps ps) = true; rw [partEq_self, psEq_self ps]; rfl
theorem cardEq_self (c : KC) : cardEq c c = true := by unfold cardEq headEq; simp [psEq_self, beqB_self]
theorem cardsEq_self : ∀ cs : List KC, cardsEq cs cs = true
  | [] => rfl
  | c :: cs => by show (cardEq c c && cardsEq cs cs) = true; rw [cardEq_self, cardsEq_self cs]; rfl
theorem cardsEq_of_val {cs ds : List KC} (h : cs.map KC.val = ds.map KC.val) : cardsEq cs ds = true := by
  rw [cardsEq_val (ps' := ds) (qs' := ds) h rfl, cardsEq_self]
theorem namesEq_self : ∀ ns : List ByteArray, namesEq ns ns = true
  | [] => rfl
  | n :: ns => by show (beqB n n && namesEq ns ns) = true; rw [beqB_self, namesEq_self ns]; rfl
theorem marksEq_self : ∀ ms : List MK, marksEq ms ms = true
  | [] => rfl
  | m :: ms => by
    have : mkEq m m = true := by unfold mkEq; simp [beqB_self]
    show (mkEq m m && marksEq ms ms) = true
    rw [this, marksEq_self ms]; rfl
theorem toldEq_self (s : Bool) (ns : List ByteArray) (ms : List MK) : toldEq s s ns ns ms ms = true := by unfold toldEq; rw [namesEq_self, marksEq_self]; simp
theorem pos_val {cs ds : List KC} (h : cs.map KC.val = ds.map KC.val) (nm : ByteArray) : pos nm cs = pos nm ds := by
  have h1 : ∀ l : List KC, l.findIdx? (fun c => beqB c.h.nm nm) = (l.map KC.val).findIdx? (fun v => beqB v.1.nm nm) := by
    intro l
    rw [List.findIdx?_map]; rfl
  unfold pos
  rw [h1, h1, h]
theorem kind_val {cs ds : List KC} (h : cs.map KC.val = ds.map KC.val) (i : Nat) : ((cs[i]?).any fun c => decide (c.h.ki = 2)) = ((ds[i]?).any fun c => decide (c.h.ki = 2)) := by
  have h1 : ∀ l : List KC, ((l[i]?).any fun c => decide (c.h.ki = 2)) = (((l.map KC.val)[i]?).any fun v => decide (v.1.ki = 2)) := by
    intro l
    rw [List.getElem?_map]
    cases l[i]? <;> rfl
  rw [h1, h1, h]
theorem sealPs_val {cs ds : List KC} (h : cs.map KC.val = ds.map KC.val) : ∀ ps : List Part, sealPs cs ps = sealPs ds ps
  | [] => rfl
  | p :: ps => by
    unfold sealPs
    rw [pos_val h, kind_val h, sealPs_val h ps]
theorem sealCs_val {cs ds : List KC} (h : cs.map KC.val = ds.map KC.val) : ∀ {l m : List KC}, l.map KC.val = m.map KC.val → sealCs cs l = sealCs ds m
  | [], [], _ => rfl
  | [], _ :: _, e => by simp at e
  | _ :: _, [], e => by simp at e
  | a :: l, b :: m, e => by
    simp only [List.map_cons, List.cons.injEq] at e
    have hp : a.ps = b.ps := congrArg Prod.snd e.1
    unfold sealCs
    rw [hp, sealPs_val h, sealCs_val h e.2]
theorem sealRes_val {cs ds : List KC} (h : cs.map KC.val = ds.map KC.val) (s : Bool) : sealRes s cs = sealRes s ds := by
  unfold sealRes
  rw [sealCs_val h h]
theorem stand_val {cs : List KC} : Stand cs ↔ (cs.map KC.val).Pairwise fun a b => less a.1 b.1 = true := by
  unfold Stand
  rw [List.pairwise_map]; rfl
/-- two books' cards in their order, of the same cards, are alike -/
theorem stand_unique {cs ds : List KC} (h1 : Stand cs) (h2 : Stand ds) (h : ∀ v, v ∈ cs.map KC.val ↔ v ∈ ds.map KC.val) : cs.map KC.val = ds.map KC.val :=
  sorted_unique (R := fun a b => less a.1 b.1 = true) (fun a e => by rw [less_irrefl] at e; cases e) (fun a b c => less_trans) (stand_val.1 h1) (stand_val.1 h2) h
theorem pos_no {nm : ByteArray} {cs : List KC} (h : ¬ 0 ≤ pos nm cs) : ∀ d ∈ cs, beqB d.h.nm nm = false := by
  unfold pos at h
  split at h
  · omega
  · rename_i hn
    rw [List.findIdx?_eq_none_iff] at hn
    exact hn
theorem pos_yes {nm : ByteArray} {cs : List KC} {d : KC} (hd : d ∈ cs) (he : d.h.nm = nm) : 0 ≤ pos nm cs := by
  by_cases h : 0 ≤ pos nm cs
  · exact h
  · have := pos_no h d hd
    rw [he, beqB_self] at this
    cases this
theorem mem_ins_iff {c d : KC} {cs : List KC} : d ∈ ins c cs ↔ d = c ∨ d ∈ cs := by
  unfold ins
  rw [List.mem_append, List.mem_cons]
  constructor
  · rintro (h | h | h)
    · exact .inr (List.mem_of_mem_take h)
    · exact .inl h
    · exact .inr (List.mem_of_mem_drop h)
  · rintro (h | h)
    · exact .inr (.inl h)
    · rw [← List.take_append_drop (stands c.h cs cs.length) cs, List.mem_append] at h
      rcases h with h | h
      · exact .inl h
      · exact .inr (.inr h)
end Go.Proofs.YtdgbnaignpploaaDoor.bk
