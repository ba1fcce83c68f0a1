/- gambitlaw01's pair.act: a call of a log and of the document's, side by side. -/
import Derived.Test.YtdiifadfpnbnhaaRl
import Derived.StillTailTactics
import Derived.Deep.RegionHeld3
import Derived.Deep.QuietTactic
import Derived.BigQuiet
import Derived.Deep.CutBlock
import Derived.Deep.RegionWith
namespace Go.Proofs.Ytdiifadfpnbnhaa.ac
open Go.RowKit Go.Sim lg rl
set_option linter.unusedVariables false
set_option maxRecDepth 100000

def foot (lb kb rb : Nat) (nv : Value) : List Nat := lb :: kb :: rb :: nv.ownBlock.toList
def footT (v : Value) (T : List (Nat × Nat × Nat)) : List Nat := v.ownBlock.toList ++ T.map (·.1)

/-- a log and the document's, that hold the same -/
structure PairR (w : World) (B lb kb rb : Nat) (L : List Int) (sh : Bool) (nv : Value) : Prop where
  log : IsLog w lb kb L sh
  ref : IsRef w B rb L sh nv
  nod : (foot lb kb rb nv).Nodup

/-- what was told: lists, each in a block of its own -/
structure TellR (w : World) (B : Nat) (v : Value) (T : List (Nat × Nat × Nat)) : Prop where
  own : w.ownsRow B 35 1 v T.length (T.map slv)
  blk : ∀ x ∈ T, WholeB w 3 1 x
  nod : (footT v T).Nodup

section
variable {w w1 : World} {B lb kb rb : Nat} {L : List Int} {sh : Bool} {nv v : Value} {T : List (Nat × Nat × Nat)}
theorem PairR.lt (h : PairR w B lb kb rb L sh nv) : ∀ k ∈ foot lb kb rb nv, k < w.heap.size := fun k hk => by
  simp only [foot, List.mem_cons, Option.mem_toList] at hk
  rcases hk with rfl | rfl | rfl | hk
  · exact h.log.lb_lt
  · exact h.log.kb_lt
  · exact h.ref.rb_lt
  · exact h.ref.nb_lt hk
theorem TellR.lt (h : TellR w B v T) : ∀ k ∈ footT v T, k < w.heap.size := fun k hk => by
  rcases List.mem_append.1 hk with hk | hk
  · exact (h.own.lt k (by simpa using hk)).2
  · obtain ⟨x, hx, rfl⟩ := List.mem_map.1 hk
    obtain ⟨cs, h1, _⟩ := h.blk x hx
    exact (Array.getElem?_eq_some_iff.1 h1).1
theorem PairR.kept (h : PairR w B lb kb rb L sh nv) (hk : ∀ k ∈ foot lb kb rb nv, w1.heap[k]? = w.heap[k]?) (hs : w.heap.size ≤ w1.heap.size) : PairR w1 B lb kb rb L sh nv :=
  ⟨IsLog.keptB h.log (hk _ (by simp [foot])) (hk _ (by simp [foot])), h.ref.kept (hk _ (by simp [foot])) (fun g hg => hk g (by simp [foot, hg])) hs, h.nod⟩
theorem TellR.kept (h : TellR w B v T) (hk : ∀ k ∈ footT v T, w1.heap[k]? = w.heap[k]?) : TellR w1 B v T :=
  ⟨owns_kept h.own fun g hg => hk g (by simp [footT, hg]), fun x hx => by
    obtain ⟨cs, h1, h2⟩ := h.blk x hx
    exact ⟨cs, (hk _ (List.mem_append.2 (.inr (List.mem_map.2 ⟨x, hx, rfl⟩)))).trans h1, h2⟩, h.nod⟩
theorem spoils_of_grown {k : Nat} (h : w.grownBy w1 (some k)) {bs : List Nat} (hk : k ∈ bs) : Spoils bs w w1 := ⟨h.os, h.tape, h.output, h.size, fun i hi hn => h.block i hi (fun e => by cases e; exact hn hk)⟩
theorem spoils_of_none (h : w.grownBy w1 none) (bs : List Nat) : Spoils bs w w1 := ⟨h.os, h.tape, h.output, h.size, fun i hi hn => h.block i hi (by simp)⟩
theorem owns_slice {e size n g c m : Nat} {xs : List Value} (h : w.ownsRow B e size (.slice (some ⟨g, 0, none⟩) n c) m xs) (hk : w1.heap[g]? = w.heap[g]?) : w1.ownsRow B e size (.slice (some ⟨g, 0, none⟩) n c) m xs :=
  owns_kept h fun q hq => by
    have hq : g = q := by simpa [Value.ownBlock] using hq
    rw [← hq]; exact hk
theorem cellFar {bs : List Nat} (h : Spoils bs w w1) (a : Addr) (hlt : a.block < w.heap.size) (hn : a.block ∉ bs) : w1.cell? a = w.cell? a := World.cell?_of_block (h.block _ hlt hn)
theorem Spoils.more {bs cs : List Nat} (h : Spoils bs w w1) (hk : ∀ b ∈ bs, b ∈ cs) : Spoils cs w w1 := ⟨h.os, h.tape, h.output, h.size, fun i hi hn => h.block i hi (fun e => hn (hk i e))⟩
end

theorem first_unique {L : List Int} {x f g : Int} (hf : FirstOf L x f) (hg : FirstOf L x g) : f = g := by
  rcases hf with ⟨rfl, h1⟩ | ⟨j, rfl, h1, h2, h3⟩ <;> rcases hg with ⟨rfl, h4⟩ | ⟨k, rfl, h4, h5, h6⟩
  · rfl
  · exact absurd h5 (h1 k h4)
  · exact absurd h2 (h4 j h1)
  · have : j = k := by
      rcases Nat.lt_trichotomy j k with h | h | h
      · exact absurd h2 (h6 j h)
      · exact h
      · exact absurd h5 (h3 k h)
    rw [this]

/-- what is told of a call -/
def Post (B lb kb rb : Nat) (nv v : Value) (T : List (Nat × Nat × Nat)) (w : World) (e : Ending) (w' : World) : Prop :=
  ∃ L' sh' nv' v' T', e = .returned (.tuple #[v', .bool true]) ∧ PairR w' B lb kb rb L' sh' nv' ∧ TellR w' B v' T' ∧ (∀ k ∈ foot lb kb rb nv', k ∉ footT v' T') ∧ T'.length ≤ T.length + 1 ∧
    (∀ k, k ∈ foot lb kb rb nv' ∨ k ∈ footT v' T' → k ∈ foot lb kb rb nv ∨ k ∈ footT v T ∨ w.heap.size ≤ k) ∧ Spoils (foot lb kb rb nv ++ footT v T) w w'

/-- within a call: the two boxes stand, the pair holds what it holds now, what was told stands -/
structure Inv (w wr : World) (B lb kb rb : Nat) (nv v : Value) (T : List (Nat × Nat × Nat)) (kd on n : Int) (L : List Int) (sh : Bool) (nv' : Value) : Prop where
  pair : PairR wr B lb kb rb L sh nv'
  tell : TellR wr B v T
  dis : ∀ k ∈ foot lb kb rb nv', k ∉ footT v T
  new : ∀ k ∈ foot lb kb rb nv', k ∈ foot lb kb rb nv ∨ w.heap.size + 2 ≤ k
  old : ∀ k, k ∈ foot lb kb rb nv ∨ k ∈ footT v T → k < w.heap.size
  sp : Spoils (foot lb kb rb nv ++ footT v T) w wr
  sz : w.heap.size + 2 ≤ wr.heap.size
  box0 : wr.heap[w.heap.size]? = some (.cells #[.pointer (some ⟨lb, 0, none⟩), .pointer (some ⟨rb, 0, none⟩)] 28 (0, 0))
  box1 : wr.heap[w.heap.size + 1]? = some (.cells #[.int .i64 kd, .int .i64 on, .int .i64 n] 33 (0, 0))

section
variable {w wr w2 w3 : World} {B lb kb rb : Nat} {nv v nv' nv2 : Value} {T : List (Nat × Nat × Nat)} {kd on n : Int} {L L2 : List Int} {sh sh2 : Bool}
theorem Inv.c0 (h : Inv w wr B lb kb rb nv v T kd on n L sh nv') : wr.cell? ⟨w.heap.size, 0, none⟩ = some (.pointer (some ⟨lb, 0, none⟩)) := by simp only [World.cell?, h.box0]; rfl
theorem Inv.c1 (h : Inv w wr B lb kb rb nv v T kd on n L sh nv') : wr.cell? ⟨w.heap.size, 1, none⟩ = some (.pointer (some ⟨rb, 0, none⟩)) := by simp only [World.cell?, h.box0]; rfl
theorem Inv.k0 (h : Inv w wr B lb kb rb nv v T kd on n L sh nv') : wr.cell? ⟨w.heap.size + 1, 0, none⟩ = some (.int .i64 kd) := by simp only [World.cell?, h.box1]; rfl
theorem Inv.k2 (h : Inv w wr B lb kb rb nv v T kd on n L sh nv') : wr.cell? ⟨w.heap.size + 1, 2, none⟩ = some (.int .i64 n) := by simp only [World.cell?, h.box1]; rfl
theorem Inv.far (h : Inv w wr B lb kb rb nv v T kd on n L sh nv') : ∀ k ∈ foot lb kb rb nv', k ≠ w.heap.size ∧ k ≠ w.heap.size + 1 := fun k hk => by
  rcases h.new k hk with h1 | h1
  · have := h.old k (.inl h1)
    omega
  · omega
theorem Inv.farT (h : Inv w wr B lb kb rb nv v T kd on n L sh nv') : ∀ k ∈ footT v T, k ≠ w.heap.size ∧ k ≠ w.heap.size + 1 := fun k hk => by
  have := h.old k (.inr hk)
  omega
/-- what stands where only some of the pair's blocks were touched -/
theorem Inv.step (h : Inv w wr B lb kb rb nv v T kd on n L sh nv') {bs : List Nat} (hb : ∀ b ∈ bs, b ∈ foot lb kb rb nv') (hs : Spoils bs wr w3) (hp : PairR w3 B lb kb rb L2 sh2 nv2) (hn : ∀ k ∈ foot lb kb rb nv2, k ∈ foot lb kb rb nv' ∨ wr.heap.size ≤ k) : Inv w w3 B lb kb rb nv v T kd on n L2 sh2 nv2 := by
  have hsz := hs.size
  refine ⟨hp, h.tell.kept fun k hk => hs.block k (h.tell.lt k hk) (fun hm => h.dis k (hb k hm) hk), fun k hk hT => ?_, fun k hk => ?_, h.old, ?_, Nat.le_trans h.sz hsz, ?_, ?_⟩
  · rcases hn k hk with h1 | h1
    · exact h.dis k h1 hT
    · have := h.tell.lt k hT
      omega
  · rcases hn k hk with h1 | h1
    · exact h.new k h1
    · have := h.sz
      exact .inr (by omega)
  · have := h.sp
    refine ⟨hs.os.trans this.os, hs.tape.trans this.tape, hs.output.trans this.output, Nat.le_trans this.size hsz, fun k hk hm => ?_⟩
    refine (hs.block k (Nat.lt_of_lt_of_le hk this.size) (fun hm2 => ?_)).trans (this.block k hk hm)
    rcases h.new k (hb k hm2) with h1 | h1
    · exact hm (List.mem_append.2 (.inl h1))
    · omega
  · refine (hs.block _ (by have := h.sz; omega) (fun hm => (h.far _ (hb _ hm)).1 rfl)).trans h.box0
  · refine (hs.block _ (by have := h.sz; omega) (fun hm => (h.far _ (hb _ hm)).2 rfl)).trans h.box1
theorem Inv.read (h : Inv w wr B lb kb rb nv v T kd on n L sh nv') (hg : wr.grownBy w3 none) : Inv w w3 B lb kb rb nv v T kd on n L sh nv' :=
  h.step (bs := []) (fun b hb => by cases hb) (spoils_of_none hg _) (h.pair.kept (fun k hk => hg.block k (h.pair.lt k hk) (by simp)) hg.size) (fun k hk => .inl hk)
theorem Inv.note (h : Inv w wr B lb kb rb nv v T kd on n L sh nv') (hg : wr.grownBy w2 (some kb)) (hl : IsLog w2 lb kb L2 sh2) (hr : IsRef w3 B rb L2 sh2 nv2) (hat : nv2.ownBlock = nv'.ownBlock ∨ ∃ g, nv2.ownBlock = some g ∧ w2.heap.size ≤ g) (hsp : Spoils (rb :: nv'.ownBlock.toList) w2 w3) :
    Inv w w3 B lb kb rb nv v T kd on n L2 sh2 nv2 := by
  have nod := h.pair.nod
  simp only [foot, List.nodup_cons] at nod
  obtain ⟨n1, n2, n3, n4⟩ := nod
  have hs2 := hg.size
  have hlb := h.pair.lt lb (by simp [foot])
  have hkb := h.pair.lt kb (by simp [foot])
  have hrb := h.pair.lt rb (by simp [foot])
  have hnv : ∀ k ∈ nv2.ownBlock.toList, k ∈ nv'.ownBlock.toList ∨ w2.heap.size ≤ k := fun k hk => by
    rcases hat with hat | ⟨g, hat, hge⟩
    · rw [hat] at hk; exact .inl hk
    · rw [hat] at hk
      simp at hk
      exact .inr (by omega)
  have hkk : ∀ b ∈ kb :: rb :: nv'.ownBlock.toList, b ∈ foot lb kb rb nv' := fun b hb => List.mem_cons_of_mem _ hb
  refine h.step (bs := kb :: rb :: nv'.ownBlock.toList) hkk ?_ ⟨IsLog.keptB hl (hsp.block lb (by omega) (fun hm => n1 (List.mem_cons_of_mem _ hm))) (hsp.block kb (by omega) n2), hr, ?_⟩ (fun k hk => ?_)
  · exact (spoils_of_grown hg (List.mem_cons_self ..)).trans (Spoils.more hsp fun b hb => List.mem_cons_of_mem _ hb)
  · simp only [foot, List.nodup_cons]
    have key : ∀ x, x < wr.heap.size → x ∉ nv'.ownBlock.toList → x ∉ nv2.ownBlock.toList := fun x hx hn hm => by
      rcases hnv x hm with h1 | h1
      · exact hn h1
      · omega
    simp only [List.mem_cons, not_or] at n1 n2 ⊢
    exact ⟨⟨n1.1, n1.2.1, key lb hlb n1.2.2⟩, ⟨n2.1, key kb hkb n2.2⟩, key rb hrb n3, by cases nv2.ownBlock <;> simp⟩
  · simp only [foot, List.mem_cons] at hk ⊢
    rcases hk with hk | hk | hk | hk
    · exact .inl (.inl hk)
    · exact .inl (.inr (.inl hk))
    · exact .inl (.inr (.inr (.inl hk)))
    · rcases hnv k hk with h1 | h1
      · exact .inl (.inr (.inr (.inr h1)))
      · exact .inr (by omega)
theorem Inv.told (h : Inv w w2 B lb kb rb nv v T kd on n L sh nv) {g len cap : Nat} {v2 : Value} (hx : WholeB w2 3 1 (g, len, cap)) (hg : w.heap.size ≤ g) (hs : Spoils v.ownBlock.toList w2 w3) (hown : w3.ownsRow B 35 1 v2 (T.length + 1) (T.map slv ++ [slv (g, len, cap)]))
    (hat : v2.ownBlock = v.ownBlock ∨ ∃ q, v2.ownBlock = some q ∧ w2.heap.size ≤ q) : Post B lb kb rb nv v T w (.returned (.tuple #[v2, .bool true])) w3 := by
  have hgl : g < w2.heap.size := by obtain ⟨cs, h1, _⟩ := hx; exact (Array.getElem?_eq_some_iff.1 h1).1
  have hgf : g ∉ foot lb kb rb nv := fun hm => by have := h.old g (.inl hm); omega
  have hgt : g ∉ footT v T := fun hm => by have := h.old g (.inr hm); omega
  have hv2 : ∀ k ∈ v2.ownBlock.toList, k ∈ v.ownBlock.toList ∨ w2.heap.size ≤ k := fun k hk => by
    rcases hat with hat | ⟨q, hat, hge⟩
    · rw [hat] at hk; exact .inl hk
    · rw [hat] at hk
      simp at hk
      exact .inr (by omega)
  have hvT : ∀ k ∈ v.ownBlock.toList, k ∈ footT v T := fun k hk => List.mem_append.2 (.inl hk)
  have hTT : ∀ k ∈ T.map (·.1), k ∈ footT v T := fun k hk => List.mem_append.2 (.inr hk)
  have nodT := h.tell.nod
  unfold footT at nodT
  obtain ⟨m1, m2, m3⟩ := List.nodup_append.1 nodT
  have hmem : ∀ k ∈ footT v2 (T ++ [(g, len, cap)]), k ∈ footT v T ∨ k = g ∨ w2.heap.size ≤ k := fun k hk => by
    simp only [footT, List.map_append, List.map_cons, List.map_nil] at hk
    rcases List.mem_append.1 hk with hk | hk
    · rcases hv2 k hk with h1 | h1
      · exact .inl (hvT k h1)
      · exact .inr (.inr h1)
    · rcases List.mem_append.1 hk with hk | hk
      · exact .inl (hTT k hk)
      · exact .inr (.inl (List.mem_singleton.1 hk))
  refine ⟨L, sh, nv, v2, T ++ [(g, len, cap)], rfl, h.pair.kept (fun k hk => hs.block k (h.pair.lt k hk) (fun hm => h.dis k hk (hvT k hm))) hs.size, ⟨by simpa using hown, fun x hxm => ?_, ?_⟩, fun k hk hm => ?_, by simp, fun k hk => ?_, ?_⟩
  · rcases List.mem_append.1 hxm with hxm | hxm
    · obtain ⟨cs, h1, h2⟩ := h.tell.blk x hxm
      have hxT : x.1 ∈ T.map (·.1) := List.mem_map.2 ⟨x, hxm, rfl⟩
      exact ⟨cs, (hs.block _ (h.tell.lt _ (hTT _ hxT)) (fun hm => m3 _ hm _ hxT rfl)).trans h1, h2⟩
    · obtain rfl := List.mem_singleton.1 hxm
      obtain ⟨cs, h1, h2⟩ := hx
      exact ⟨cs, (hs.block _ hgl (fun hm => hgt (hvT _ hm))).trans h1, h2⟩
  · simp only [footT, List.map_append, List.map_cons, List.map_nil]
    refine List.nodup_append.2 ⟨by cases v2.ownBlock <;> simp, List.nodup_append.2 ⟨m2, by simp, fun a ha b hb e => ?_⟩, fun a ha b hb e => ?_⟩
    · rw [List.mem_singleton.1 hb] at e
      exact hgt (by rw [← e]; exact hTT a ha)
    · subst e
      rcases hv2 a ha with h1 | h1
      · rcases List.mem_append.1 hb with hb | hb
        · exact m3 _ h1 _ hb rfl
        · rw [List.mem_singleton.1 hb] at h1
          exact hgt (hvT _ h1)
      · rcases List.mem_append.1 hb with hb | hb
        · have := h.tell.lt a (hTT a hb)
          omega
        · rw [List.mem_singleton.1 hb] at h1
          omega
  · rcases hmem k hm with h1 | h1 | h1
    · exact h.dis k hk h1
    · rw [h1] at hk; exact hgf hk
    · have := h.pair.lt k hk
      omega
  · rcases hk with hk | hk
    · exact .inl hk
    · rcases hmem k hk with h1 | h1 | h1
      · exact .inr (.inl h1)
      · exact .inr (.inr (by omega))
      · have := h.sz
        exact .inr (.inr (by omega))
  · have := h.sp
    refine ⟨hs.os.trans this.os, hs.tape.trans this.tape, hs.output.trans this.output, Nat.le_trans this.size hs.size, fun k hk hm => ?_⟩
    exact (hs.block k (Nat.lt_of_lt_of_le hk this.size) (fun hm2 => hm (List.mem_append.2 (.inr (hvT k hm2))))).trans (this.block k hk hm)
theorem Inv.post (h : Inv w wr B lb kb rb nv v T kd on n L sh nv') : Post B lb kb rb nv v T w (.returned (.tuple #[v, .bool true])) wr :=
  ⟨L, sh, nv', v, T, rfl, h.pair, h.tell, h.dis, by omega, fun k hk => by
    rcases hk with hk | hk
    · rcases h.new k hk with h1 | h1
      · exact .inl h1
      · exact .inr (.inr (by omega))
    · exact .inr (.inl hk), h.sp⟩
end

theorem infoS : (Try.prog.info? 35).map (fun i => (i.zero, i.size, i.bytes)) = some (some (.slice none 0 0), 1, 24) := by kernel_rfl

set_option maxHeartbeats 8000000 in
theorem act_any (B lb kb rb : Nat) (L : List Int) (sh : Bool) (nv v : Value) (T : List (Nat × Nat × Nat)) (kd on n : Int) (w : World) (hp : PairR w B lb kb rb L sh nv) (ht : TellR w B v T) (hd : ∀ k ∈ foot lb kb rb nv, k ∉ footT v T) (hlen : T.length ≤ 100000) (hwf : (Lit.int .i64 n).wf = true) :
    Calls Try.prog 6 #[.agg #[.pointer (some ⟨lb, 0, none⟩), .pointer (some ⟨rb, 0, none⟩)], .agg #[.int .i64 kd, .int .i64 on, .int .i64 n], v] w (Post B lb kb rb nv v T w) := by
  obtain ⟨W1, hW1⟩ : ∃ W, W = (w.alloc (.cells #[.pointer (some ⟨lb, 0, none⟩), .pointer (some ⟨rb, 0, none⟩)] 28)).alloc (.cells #[.int .i64 kd, .int .i64 on, .int .i64 n] 33) := ⟨_, rfl⟩
  have hI : Inv w W1 B lb kb rb nv v T kd on n L sh nv := by
    have hbel : Below w.heap.size w W1 := by rw [hW1]; exact ((Below.refl _ w).alloc (Nat.le_refl _) _).alloc (by simp) _
    refine ⟨hp.kept (fun k hk => hbel.block k (hp.lt k hk)) hbel.size, ht.kept (fun k hk => hbel.block k (ht.lt k hk)), hd, fun k hk => .inl hk, fun k hk => ?_, Spoils.of_below _ hbel, by rw [hW1]; simp, ?_, ?_⟩
    · rcases hk with hk | hk
      · exact hp.lt k hk
      · exact ht.lt k hk
    · rw [hW1]; exact (Below.heap_alloc _ _ _ (by simp)).trans (heap_alloc_new w _)
    · rw [hW1]; have := heap_alloc_new (w.alloc (.cells #[.pointer (some ⟨lb, 0, none⟩), .pointer (some ⟨rb, 0, none⟩)] 28)) (.cells #[.int .i64 kd, .int .i64 on, .int .i64 n] 33); rwa [World.size_alloc] at this
  obtain ⟨b0, hb0⟩ : ∃ b, b = w.heap.size := ⟨_, rfl⟩
  have hID : Inv w W1.drew B lb kb rb nv v T kd on n L sh nv := hI.read ⟨rfl, rfl, rfl, Nat.le_refl _, fun _ _ _ => rfl⟩
  have hc0 := hI.c0
  have hc1 := hI.c1
  have hk0 := hI.k0
  have hk2 := hI.k2
  have hsd : b0 + 2 ≤ W1.drew.heap.size := by rw [hb0]; exact hID.sz
  have hfar : ∀ b ∈ foot lb kb rb nv, b ≠ b0 ∧ b ≠ b0 + 1 := fun b hb => by rw [hb0]; exact hI.far b hb
  have hkb0 := hfar kb (by simp [foot])
  have hrb0 := hfar rb (by simp [foot])
  have hnf : ∀ b, b = b0 ∨ b = b0 + 1 → b ∉ rb :: nv.ownBlock.toList := fun b hb hm => by
    have := hfar b (by simp only [foot]; exact List.mem_cons_of_mem _ (List.mem_cons_of_mem _ hm))
    omega
  have hnf0 : b0 ∉ rb :: nv.ownBlock.toList := hnf b0 (.inl rfl)
  have hnf1 : b0 + 1 ∉ rb :: nv.ownBlock.toList := hnf (b0 + 1) (.inr rfl)
  rw [← hb0] at hc0 hc1 hk0 hk2
  have nod := hp.nod
  simp only [foot, List.nodup_cons] at nod
  obtain ⟨n1, n2, n3, -⟩ := nod
  have nkr : rb ≠ kb := fun e => n2 (by rw [e]; exact List.mem_cons_self ..)
  have nkn : nv.ownBlock ≠ some kb := fun e => n2 (by rw [e]; simp)
  have hPd := hID.pair
  go_enter Try.func6, Try.ntmps6
  go_upto_region 1 with (fail)
  rw [← hW1, ← hb0]
  have HB : Hid (b0 = w.heap.size) := hb0
  clear hW1 hp ht hb0
  by_cases h0 : kd = 0
  · subst h0
    go_upto_region 3 with (fail)
    go_region_held3 (fun w' => w'.cell? ⟨b0, 0, none⟩ = some (.pointer (some ⟨lb, 0, none⟩)) ∧ w'.cell? ⟨b0, 1, none⟩ = some (.pointer (some ⟨rb, 0, none⟩)) ∧ w'.cell? ⟨b0 + 1, 2, none⟩ = some (.int .i64 n))
      (first
        | go_keep
        | (refine ⟨?_, ?_, ?_⟩
           · exact (hgr2.cell_far _ (by show b0 < _; omega) (by simp; omega)).trans hc0
           · exact (hgr2.cell_far _ (by show b0 < _; omega) (by simp; omega)).trans hc1
           · exact (hgr2.cell_far _ (by show b0 + 1 < _; omega) (by simp; omega)).trans hk2)
        | (refine ⟨?_, ?_, ?_⟩
           · exact (cellFar hsp3 _ (by have := hgr2.size; show b0 < _; omega) hnf0).trans ((hgr2.cell_far _ (by show b0 < _; omega) (by simp; omega)).trans hc0)
           · exact (cellFar hsp3 _ (by have := hgr2.size; show b0 < _; omega) hnf0).trans ((hgr2.cell_far _ (by show b0 < _; omega) (by simp; omega)).trans hc1)
           · exact (cellFar hsp3 _ (by have := hgr2.size; show b0 + 1 < _; omega) hnf1).trans ((hgr2.cell_far _ (by show b0 + 1 < _; omega) (by simp; omega)).trans hk2)))
      (first
        | (go_at_call 11; refine (note_any lb kb L sh n W1.drew hPd.log).mono ?_; rintro e w2 ⟨rfl, hlog2, hgr2⟩)
        | (go_at_call 12; refine (rnote_any B rb L sh n nv w2 (hPd.ref.kept (hgr2.block rb hPd.ref.rb_lt (by simp; exact nkr)) (fun g hg => hgr2.block g (hPd.ref.nb_lt hg) (by rw [← hg]; exact nkn)) hgr2.size)).mono ?_; rintro e w3 ⟨rfl, nv', href3, hat3, hsp3⟩))
    go_wp2
    go_ret2
    exact (hID.note hgr2 hlog2 href3 hat3 hsp3).post
  by_cases h1 : kd = 1
  · subst h1
    go_wp2_with fail
    refine (close_any lb kb L sh W1 hI.pair.log).mono ?_
    rintro e w2 ⟨rfl, hlog2, hgr2⟩
    have hc12 := (hgr2.cell_far ⟨b0, 1, none⟩ (show b0 < W1.heap.size from Nat.lt_of_lt_of_le (by omega) hsd) (by simp; omega)).trans hc1
    go_wp2_with fail
    refine (rclose_any B rb L sh nv w2 (hI.pair.ref.kept (hgr2.block rb hI.pair.ref.rb_lt (by simp; exact nkr)) (fun g hg => hgr2.block g (hI.pair.ref.nb_lt hg) (by rw [← hg]; exact nkn)) hgr2.size)).mono ?_
    rintro e w3 ⟨rfl, href3, hgr3⟩
    have hfin := (hI.note hgr2 hlog2 href3 (.inl rfl) (spoils_of_grown hgr3 (List.mem_cons_self ..))).post
    go_wp2
    go_ret2
    exact hfin
  by_cases h2 : kd = 2
  · subst h2
    go_upto_region 8 with (fail)
    go_region_held3 (fun w' => w'.cell? ⟨b0, 0, none⟩ = some (.pointer (some ⟨lb, 0, none⟩)) ∧ w'.cell? ⟨b0, 1, none⟩ = some (.pointer (some ⟨rb, 0, none⟩)))
      (go_keep)
      (first
        | (go_at_call 15; refine (closed_any lb kb L sh W1.drew hPd.log).mono ?_; rintro e w2 ⟨rfl, rfl⟩)
        | (go_at_call 16; refine (rclosed_any B rb L sh nv W1.drew hPd.ref).mono ?_; rintro e w3 ⟨rfl, rfl⟩))
    go_wp2
    go_ret2
    exact hID.post
  by_cases h4 : kd = 4
  · subst h4
    go_upto_region 13 with (fail)
    go_region_held3 (fun w' => w'.cell? ⟨b0, 0, none⟩ = some (.pointer (some ⟨lb, 0, none⟩)) ∧ w'.cell? ⟨b0, 1, none⟩ = some (.pointer (some ⟨rb, 0, none⟩)) ∧ w'.cell? ⟨b0 + 1, 2, none⟩ = some (.int .i64 n))
      (first
        | go_keep
        | (refine ⟨?_, ?_, ?_⟩
           · exact (hgr2.cell_far _ (by show b0 < _; omega) (by simp)).trans hc0
           · exact (hgr2.cell_far _ (by show b0 < _; omega) (by simp)).trans hc1
           · exact (hgr2.cell_far _ (by show b0 + 1 < _; omega) (by simp)).trans hk2)
        | (refine ⟨?_, ?_, ?_⟩
           · exact (hgr3.cell_far _ (by have := hgr2.size; show b0 < _; omega) (by simp)).trans ((hgr2.cell_far _ (by show b0 < _; omega) (by simp)).trans hc0)
           · exact (hgr3.cell_far _ (by have := hgr2.size; show b0 < _; omega) (by simp)).trans ((hgr2.cell_far _ (by show b0 < _; omega) (by simp)).trans hc1)
           · exact (hgr3.cell_far _ (by have := hgr2.size; show b0 + 1 < _; omega) (by simp)).trans ((hgr2.cell_far _ (by show b0 + 1 < _; omega) (by simp)).trans hk2)))
      (first
        | (go_at_call 17; refine (first_any lb kb L sh n W1.drew hPd.log).mono ?_; rintro e w2 ⟨f2, rfl, hf2, hgr2⟩)
        | (go_at_call 18; refine (rfirst_any B rb L sh nv n w2 (hID.read hgr2).pair.ref).mono ?_; rintro e w3 ⟨f3, rfl, hf3, hgr3⟩))
    obtain rfl := first_unique hf2 hf3
    simp only [beq_self_eq_true]
    go_wp2
    go_ret2
    exact ((hID.read hgr2).read hgr3).post
  by_cases h5 : kd = 5
  · subst h5
    clear hc0 hc1 hk0 hk2 hID hPd hsd
    have hk2 := hI.k2
    have hk0 := hI.k0
    rw [← HB.out] at hk2 hk0
    go_wp2
    clear hk2 hk0
    go_loopw [9] (fun i wr => ∃ (k : Nat) (L' : List Int) (nv' : Value), i = .int .i64 k ∧ k ≤ 300 ∧ Inv w wr B lb kb rb nv v T 5 on n L' sh nv') (fun i _ => 301 - (intOf i).toNat)
    case atStart => exact ⟨0, L, nv, rfl, by omega, hI⟩
    case round =>
      clear hI hfar hkb0 hrb0 hnf hnf0 hnf1 n1 n2 n3 nkr nkn
      obtain ⟨k, L', nv', rfl, hk, hJ⟩ := hrel
      have hJD : Inv w wr.drew B lb kb rb nv v T 5 on n L' sh nv' := hJ.read ⟨rfl, rfl, rfl, Nat.le_refl _, fun _ _ _ => rfl⟩
      have hPd := hJD.pair
      have hc0 := hJ.c0
      have hc1 := hJ.c1
      have hk2 := hJ.k2
      have hsd := hJD.sz
      have hfar := hJ.far
      rw [← HB.out] at hc0 hc1 hk2 hsd hfar
      have hkb0 := hfar kb (by simp [foot])
      have hnf0 : b0 ∉ rb :: nv'.ownBlock.toList := fun hm => (hfar b0 (by simp only [foot]; exact List.mem_cons_of_mem _ (List.mem_cons_of_mem _ hm))).1 rfl
      have nod := hPd.nod
      simp only [foot, List.nodup_cons] at nod
      obtain ⟨n1, n2, n3, -⟩ := nod
      have nkr : rb ≠ kb := fun e => n2 (by rw [e]; exact List.mem_cons_self ..)
      have nkn : nv'.ownBlock ≠ some kb := fun e => n2 (by rw [e]; simp)
      clear n1 n2 n3 hfar
      by_cases hkn : (k : Int) < n
      · by_cases hk3 : k < 300
        · have hd1 : decide ((k : Int) < n) = true := decide_eq_true hkn
          have hd2 : decide ((k : Int) < 300) = true := decide_eq_true (by omega)
          go_upto_region 18 with (fail)
          go_region_held3 (fun w' => w'.cell? ⟨b0, 0, none⟩ = some (.pointer (some ⟨lb, 0, none⟩)) ∧ w'.cell? ⟨b0, 1, none⟩ = some (.pointer (some ⟨rb, 0, none⟩)))
            (first
              | go_keep
              | (refine ⟨?_, ?_⟩
                 · exact (hgr2.cell_far _ (by show b0 < _; omega) (by simp; omega)).trans hc0
                 · exact (hgr2.cell_far _ (by show b0 < _; omega) (by simp; omega)).trans hc1)
              | (refine ⟨?_, ?_⟩
                 · exact (cellFar hsp3 _ (by have := hgr2.size; show b0 < _; omega) hnf0).trans ((hgr2.cell_far _ (by show b0 < _; omega) (by simp; omega)).trans hc0)
                 · exact (cellFar hsp3 _ (by have := hgr2.size; show b0 < _; omega) hnf0).trans ((hgr2.cell_far _ (by show b0 < _; omega) (by simp; omega)).trans hc1)))
            (first
              | (go_at_call 11; refine (note_any lb kb L' sh k wr.drew hPd.log).mono ?_; rintro e w2 ⟨rfl, hlog2, hgr2⟩)
              | (go_at_call 12; refine (rnote_any B rb L' sh k nv' w2 (hPd.ref.kept (hgr2.block rb hPd.ref.rb_lt (by simp; exact nkr)) (fun g hg => hgr2.block g (hPd.ref.nb_lt hg) (by rw [← hg]; exact nkn)) hgr2.size)).mono ?_; rintro e w3 ⟨rfl, nv2, href3, hat3, hsp3⟩))
          have hfin := hJD.note hgr2 hlog2 href3 hat3 hsp3
          go_wp2
          go_roundw
          case rel => exact ⟨k + 1, _, nv2, by go_num, by omega, hfin⟩
          case measure => simp [intOf]; omega
        · have hd1 : decide ((k : Int) < n) = true := decide_eq_true hkn
          have hd2 : decide ((k : Int) < 300) = false := decide_eq_false (by omega)
          have hfin := hJ.post
          go_wp2
          go_ret2
          exact hfin
      · have hd1 : decide ((k : Int) < n) = false := decide_eq_false hkn
        have hfin := hJ.post
        go_wp2
        go_ret2
        exact hfin
  by_cases h3 : kd = 3
  · subst h3
    obtain ⟨i0, hi, hz0, hz1, hz2⟩ := info_parts infoS
    go_wp2_with fail
    refine (list_new lb kb L sh W1 hI.pair.log).mono ?_
    rintro e w2 ⟨g, cap, rfl, hown2, hgr2⟩
    have hI2 := hI.read hgr2
    have hgl := hown2.lt g rfl
    have hx : WholeB w2 3 1 (g, L.length, cap) := by
      rcases hown2.2 with ⟨h0, _⟩ | ⟨g', cap', cur, h0, _, h1, h2, h3, h4, _⟩
      · cases h0
      · cases h0
        exact ⟨cur, h1, h4, h2, h3⟩
    have hc12 := hI2.c1
    rw [← HB.out] at hc12
    have hu := Ints.of_owns hown2
    have hsz2 := hI2.sz
    have hT := hI2.tell.own
    have hP2 := hI2.pair
    have hdis : ∀ k ∈ foot lb kb rb nv, v.ownBlock ≠ some k := fun k hk e => hd k hk (by simp [footT, e])
    have hvg : v.ownBlock ≠ some g := fun e => by have := hI.tell.lt g (by simp [footT, e]); omega
    have hTD : (w2.alloc (.cells #[slv (g, L.length, cap)] 35)).drew.ownsRow B 35 1 v T.length (T.map slv) := (hT.alloc _).drew
    have hone : ∀ u ∈ [slv (g, L.length, cap)], u.oneCell' = true := fun u hu => by rw [List.mem_singleton.1 hu]; rfl
    have hB2 := hP2.ref.low
    have hvb0 : v.ownBlock ≠ some b0 := fun e => (hI.farT b0 (by simp [footT, e])).1 HB.out
    have hb2 : b0 + 2 ≤ w2.heap.size := by rw [HB.out]; exact hsz2
    have hwg : w.heap.size ≤ g := by have := hI.sz; omega
    clear hsz2
    go_upto_region 11 with (fail)
    go_region_held3 (fun w' => w'.cell? ⟨b0, 1, none⟩ = some (.pointer (some ⟨rb, 0, none⟩)))
      (first
        | go_keep
        | exact (hdr.cell _).trans ((hgr4.cell_far ⟨b0, 1, none⟩ (show b0 < w3.heap.size by omega) (by simp)).trans ((World.cell?_of_block (a := ⟨b0, 1, none⟩) (hb3 b0 (by omega) hvb0)).trans hc12))
        | exact (hgr4.cell_far ⟨b0, 1, none⟩ (show b0 < w3.heap.size by omega) (by simp)).trans ((World.cell?_of_block (a := ⟨b0, 1, none⟩) (hb3 b0 (by omega) hvb0)).trans hc12)
        | exact (World.cell?_of_block (a := ⟨b0, 1, none⟩) (hb3 b0 (by omega) hvb0)).trans hc12)
      (first
        | (refine step_append_at _ (by rfl) _ _ _ (by rfl) B 35 i0 (.slice none 0 0) 1 24 Try.underlying30 hi hz0 hz1 hz2 rfl (by decide) v T.length (T.map slv) (by rfl) hTD ⟨w2.heap.size, 0, none⟩ 1 1 [slv (g, L.length, cap)] (by rfl) (by rfl) (World.news_of_block (cs := #[slv (g, L.length, cap)]) (t := 35) (fr := (0, 0)) (heap_alloc_new w2 _)) hone (by unfold maxLen; omega) (by omega) (by simp; omega) ?_; intro v' w3 hown3 hgr3 hnil3 hat3
           have hat4 : v'.ownBlock = v.ownBlock ∨ v'.ownBlock = some (w2.alloc (.cells #[slv (g, L.length, cap)] 35)).heap.size := hat3
           have hgr3 : (w2.alloc (.cells #[slv (g, L.length, cap)] 35)).grownBy w3 v.ownBlock := ⟨hgr3.os, hgr3.tape, hgr3.output, hgr3.size, hgr3.block⟩
           rw [World.size_alloc] at hat4
           have hs3 : w2.heap.size + 1 ≤ w3.heap.size := by have := hgr3.size; rwa [World.size_alloc] at this
           have hb3 : ∀ k, k < w2.heap.size → v.ownBlock ≠ some k → w3.heap[k]? = w2.heap[k]? := fun k hk hn => (hgr3.block k (by rw [World.size_alloc]; omega) (fun e => hn e.symm)).trans (Below.heap_alloc w2 _ k hk)
           have href3 := hP2.ref.kept (hb3 rb hP2.ref.rb_lt (hdis rb (by simp [foot]))) (fun g hg => hb3 g (hP2.ref.nb_lt hg) (hdis g (by simp [foot, hg]))) (by omega)
           have hown23 := owns_slice hown2 (hb3 g hgl.2 hvg))
        | (go_at_call 9; refine (rlist_any B rb L sh nv w3 href3).mono ?_; rintro e w4 ⟨v4, rfl, hown4, hgr4⟩
           have hu4 := Ints.of_owns (owns_slice hown23 (hgr4.block g (by omega) (by simp))))
        | (go_at_call 8; refine (same_true L (.slice (some ⟨g, 0, none⟩) L.length cap) v4 w4 hu4 (Ints.of_owns hown4)).mono ?_; rintro e w5 ⟨rfl, hdr⟩))
    have h54 := hdr.1
    have hs4 := hgr4.size
    have hsp : Spoils v.ownBlock.toList w2 w5 := ⟨(hdr.2.1.trans hgr4.os).trans hgr3.os, (hdr.2.2.1.trans hgr4.tape).trans hgr3.tape, (hdr.2.2.2.trans hgr4.output).trans hgr3.output, by rw [h54]; omega, fun k hk hn => by
      rw [h54, hgr4.block k (by omega) (by simp)]
      exact hb3 k hk (fun e => hn (by rw [e]; simp))⟩
    have hown5 : w5.ownsRow B 35 1 v' (T.length + 1) (T.map slv ++ [slv (g, L.length, cap)]) := owns_kept hown3 fun q hq => by
      rw [h54]
      exact hgr4.block q (hown3.lt q hq).2 (by simp)
    have hfin := hI2.told hx hwg hsp hown5 (by
      rcases hat4 with h | h
      · exact .inl h
      · exact .inr ⟨_, h, by omega⟩)
    go_wp2
    go_ret2
    exact hfin
  have hfin := hI.post
  go_wp2
  go_ret2
  exact hfin
end Go.Proofs.Ytdiifadfpnbnhaa.ac
