/- gambitlaw01.StartScript: two logs and the document's, any calls in turns: the walk. -/
import Derived.Test.YtdiifadfpnbnhaaAc
import Derived.Test.YtdiifadfpnbnhaaAi
import Derived.StillTailTactics
namespace Go.Proofs.Ytdiifadfpnbnhaa.sc
open Go.RowKit Go.Sim lg rl ac
set_option linter.unusedVariables false
set_option maxRecDepth 100000

theorem and1 (x : Int) : ∃ m : Nat, m < 2 ∧ bits .and .i64 x 1 = (m : Int) := by
  refine ⟨(BitVec.ofInt 64 x &&& BitVec.ofInt 64 1).toNat, ?_, ?_⟩
  · rw [BitVec.toNat_and]
    exact Nat.lt_of_le_of_lt Nat.and_le_right (by decide)
  · show IntKind.i64.wrap ((BitVec.ofInt 64 x &&& BitVec.ofInt 64 1).toNat : Int) = _
    have h : (BitVec.ofInt 64 x &&& BitVec.ofInt 64 1).toNat < 2 := by
      rw [BitVec.toNat_and]
      exact Nat.lt_of_le_of_lt Nat.and_le_right (by decide)
    generalize (BitVec.ofInt 64 x &&& BitVec.ofInt 64 1).toNat = m at h ⊢
    simp only [IntKind.wrap, IntKind.bits, IntKind.signed, Bool.true_and]
    have : (2 : Int) ^ 64 = 18446744073709551616 := by decide
    have : (2 : Int) ^ (64 - 1) = 9223372036854775808 := by decide
    split <;> simp_all <;> omega

/-- both pairs, and what was told -/
structure Both (w wr : World) (bb l0 k0 r0 l1 k1 r1 : Nat) (v : Value) (T : List (Nat × Nat × Nat)) (L0 : List Int) (s0 : Bool) (n0 : Value) (L1 : List Int) (s1 : Bool) (n1 : Value) : Prop where
  p0 : PairR wr w.heap.size l0 k0 r0 L0 s0 n0
  p1 : PairR wr w.heap.size l1 k1 r1 L1 s1 n1
  tl : TellR wr w.heap.size v T
  d01 : ∀ k ∈ foot l0 k0 r0 n0, k ∉ foot l1 k1 r1 n1
  d0 : ∀ k ∈ foot l0 k0 r0 n0, k ∉ footT v T
  d1 : ∀ k ∈ foot l1 k1 r1 n1, k ∉ footT v T
  low : ∀ k, k ∈ foot l0 k0 r0 n0 ∨ k ∈ foot l1 k1 r1 n1 ∨ k ∈ footT v T → w.heap.size ≤ k ∧ k ≠ bb
  box : wr.heap[bb]? = some (.cells #[.pointer (some ⟨l0, 0, none⟩), .pointer (some ⟨r0, 0, none⟩), .pointer (some ⟨l1, 0, none⟩), .pointer (some ⟨r1, 0, none⟩)] 29 (0, 0))
  bel : Below w.heap.size w wr
  bbl : w.heap.size ≤ bb

section
variable {w wr w2 : World} {bb l0 k0 r0 l1 k1 r1 : Nat} {v v2 : Value} {T T2 : List (Nat × Nat × Nat)} {L0 L1 L2 : List Int} {s0 s1 s2 : Bool} {n0 n1 n2 : Value}
theorem rebase {B B' rb : Nat} {sh : Bool} (h : IsRef w B rb [] sh (.slice none 0 0)) (hB : B' ≤ w.heap.size) : IsRef w B' rb [] sh (.slice none 0 0) := ⟨h.made, h.sh, h.notes, h.fro, ⟨rfl, .inl ⟨rfl, rfl⟩⟩, h.len, h.ne, hB⟩
/-- a call of the first pair -/
theorem Both.first (h : Both w wr bb l0 k0 r0 l1 k1 r1 v T L0 s0 n0 L1 s1 n1) (hp : PairR w2 w.heap.size l0 k0 r0 L2 s2 n2) (ht : TellR w2 w.heap.size v2 T2) (hd : ∀ k ∈ foot l0 k0 r0 n2, k ∉ footT v2 T2)
    (hn : ∀ k, k ∈ foot l0 k0 r0 n2 ∨ k ∈ footT v2 T2 → k ∈ foot l0 k0 r0 n0 ∨ k ∈ footT v T ∨ wr.heap.size ≤ k) (hs : Spoils (foot l0 k0 r0 n0 ++ footT v T) wr w2) : Both w w2 bb l0 k0 r0 l1 k1 r1 v2 T2 L2 s2 n2 L1 s1 n1 := by
  have hbb : bb < wr.heap.size := (Array.getElem?_eq_some_iff.1 h.box).1
  have k1' : ∀ k ∈ foot l1 k1 r1 n1, w2.heap[k]? = wr.heap[k]? := fun k hk => hs.block k (h.p1.lt k hk) (fun hm => by
    rcases List.mem_append.1 hm with hm | hm
    · exact h.d01 k hm hk
    · exact h.d1 k hk hm)
  have far : ∀ k, k ∈ foot l0 k0 r0 n2 ∨ k ∈ footT v2 T2 → k ∉ foot l1 k1 r1 n1 := fun k hk hm => by
    rcases hn k hk with h1 | h1 | h1
    · exact h.d01 k h1 hm
    · exact h.d1 k hm h1
    · have := h.p1.lt k hm; omega
  refine ⟨hp, h.p1.kept k1' hs.size, ht, fun k hk => far k (.inl hk), hd, fun k hk hm => far k (.inr hm) hk, fun k hk => ?_, ?_, ?_, h.bbl⟩
  · have : k ∈ foot l0 k0 r0 n2 ∨ k ∈ footT v2 T2 ∨ k ∈ foot l1 k1 r1 n1 := by rcases hk with h | h | h <;> simp [h]
    rcases this with h1 | h1 | h1
    · rcases hn k (.inl h1) with h2 | h2 | h2
      · exact h.low k (.inl h2)
      · exact h.low k (.inr (.inr h2))
      · have := h.bel.size; exact ⟨by omega, by omega⟩
    · rcases hn k (.inr h1) with h2 | h2 | h2
      · exact h.low k (.inl h2)
      · exact h.low k (.inr (.inr h2))
      · have := h.bel.size; exact ⟨by omega, by omega⟩
    · exact h.low k (.inr (.inl h1))
  · refine (hs.block bb hbb (fun hm => ?_)).trans h.box
    rcases List.mem_append.1 hm with hm | hm
    · exact (h.low bb (.inl hm)).2 rfl
    · exact (h.low bb (.inr (.inr hm))).2 rfl
  · exact h.bel.trans (hs.below h.bel.size fun b hb => by
      rcases List.mem_append.1 hb with hb | hb
      · exact (h.low b (.inl hb)).1
      · exact (h.low b (.inr (.inr hb))).1)
/-- a call of the second pair -/
theorem Both.second (h : Both w wr bb l0 k0 r0 l1 k1 r1 v T L0 s0 n0 L1 s1 n1) (hp : PairR w2 w.heap.size l1 k1 r1 L2 s2 n2) (ht : TellR w2 w.heap.size v2 T2) (hd : ∀ k ∈ foot l1 k1 r1 n2, k ∉ footT v2 T2)
    (hn : ∀ k, k ∈ foot l1 k1 r1 n2 ∨ k ∈ footT v2 T2 → k ∈ foot l1 k1 r1 n1 ∨ k ∈ footT v T ∨ wr.heap.size ≤ k) (hs : Spoils (foot l1 k1 r1 n1 ++ footT v T) wr w2) : Both w w2 bb l0 k0 r0 l1 k1 r1 v2 T2 L0 s0 n0 L2 s2 n2 := by
  have hbb : bb < wr.heap.size := (Array.getElem?_eq_some_iff.1 h.box).1
  have k1' : ∀ k ∈ foot l0 k0 r0 n0, w2.heap[k]? = wr.heap[k]? := fun k hk => hs.block k (h.p0.lt k hk) (fun hm => by
    rcases List.mem_append.1 hm with hm | hm
    · exact h.d01 k hk hm
    · exact h.d0 k hk hm)
  have far : ∀ k, k ∈ foot l1 k1 r1 n2 ∨ k ∈ footT v2 T2 → k ∉ foot l0 k0 r0 n0 := fun k hk hm => by
    rcases hn k hk with h1 | h1 | h1
    · exact h.d01 k hm h1
    · exact h.d0 k hm h1
    · have := h.p0.lt k hm; omega
  refine ⟨h.p0.kept k1' hs.size, hp, ht, fun k hk hm => far k (.inl hm) hk, fun k hk hm => far k (.inr hm) hk, hd, fun k hk => ?_, ?_, ?_, h.bbl⟩
  · rcases hk with h1 | h1 | h1
    · exact h.low k (.inl h1)
    · rcases hn k (.inl h1) with h2 | h2 | h2
      · exact h.low k (.inr (.inl h2))
      · exact h.low k (.inr (.inr h2))
      · have := h.bel.size; exact ⟨by omega, by omega⟩
    · rcases hn k (.inr h1) with h2 | h2 | h2
      · exact h.low k (.inr (.inl h2))
      · exact h.low k (.inr (.inr h2))
      · have := h.bel.size; exact ⟨by omega, by omega⟩
  · refine (hs.block bb hbb (fun hm => ?_)).trans h.box
    rcases List.mem_append.1 hm with hm | hm
    · exact (h.low bb (.inr (.inl hm))).2 rfl
    · exact (h.low bb (.inr (.inr hm))).2 rfl
  · exact h.bel.trans (hs.below h.bel.size fun b hb => by
      rcases List.mem_append.1 hb with hb | hb
      · exact (h.low b (.inr (.inl hb))).1
      · exact (h.low b (.inr (.inr hb))).1)
theorem Both.heap (h : Both w wr bb l0 k0 r0 l1 k1 r1 v T L0 s0 n0 L1 s1 n1) (hg : wr.grownBy w2 none) : Both w w2 bb l0 k0 r0 l1 k1 r1 v T L0 s0 n0 L1 s1 n1 := by
  have hbb : bb < wr.heap.size := (Array.getElem?_eq_some_iff.1 h.box).1
  exact ⟨h.p0.kept (fun k hk => hg.block k (h.p0.lt k hk) (by simp)) hg.size, h.p1.kept (fun k hk => hg.block k (h.p1.lt k hk) (by simp)) hg.size, h.tl.kept (fun k hk => hg.block k (h.tl.lt k hk) (by simp)), h.d01, h.d0, h.d1, h.low,
    (hg.block bb hbb (by simp)).trans h.box, h.bel.grown hg h.bel.size (fun k e => by cases e), h.bbl⟩
/-- a list more was told -/
theorem Both.add (h : Both w wr bb l0 k0 r0 l1 k1 r1 v T L0 s0 n0 L1 s1 n1) {g len cap : Nat} (hx : WholeB wr 3 1 (g, len, cap)) (hgw : w.heap.size ≤ g) (hgb : g ≠ bb) (hg0 : g ∉ foot l0 k0 r0 n0) (hg1 : g ∉ foot l1 k1 r1 n1) (hgt : g ∉ footT v T) (hs : Spoils v.ownBlock.toList wr w2)
    (hown : w2.ownsRow w.heap.size 35 1 v2 (T.length + 1) (T.map slv ++ [slv (g, len, cap)])) (hat : v2.ownBlock = v.ownBlock ∨ ∃ q, v2.ownBlock = some q ∧ wr.heap.size ≤ q) : Both w w2 bb l0 k0 r0 l1 k1 r1 v2 (T ++ [(g, len, cap)]) L0 s0 n0 L1 s1 n1 := by
  have hgl : g < wr.heap.size := by obtain ⟨cs, h1, _⟩ := hx; exact (Array.getElem?_eq_some_iff.1 h1).1
  have hbb : bb < wr.heap.size := (Array.getElem?_eq_some_iff.1 h.box).1
  have hsz := h.bel.size
  have hv2 : ∀ k ∈ v2.ownBlock.toList, k ∈ v.ownBlock.toList ∨ wr.heap.size ≤ k := fun k hk => by
    rcases hat with hat | ⟨q, hat, hge⟩
    · rw [hat] at hk; exact .inl hk
    · rw [hat] at hk
      simp at hk
      exact .inr (by omega)
  have hvT : ∀ k ∈ v.ownBlock.toList, k ∈ footT v T := fun k hk => List.mem_append.2 (.inl hk)
  have hTT : ∀ k ∈ T.map (·.1), k ∈ footT v T := fun k hk => List.mem_append.2 (.inr hk)
  have nodT := h.tl.nod
  unfold footT at nodT
  obtain ⟨m1, m2, m3⟩ := List.nodup_append.1 nodT
  have hmem : ∀ k ∈ footT v2 (T ++ [(g, len, cap)]), k ∈ footT v T ∨ k = g ∨ wr.heap.size ≤ k := fun k hk => by
    simp only [footT, List.map_append, List.map_cons, List.map_nil] at hk
    rcases List.mem_append.1 hk with hk | hk
    · rcases hv2 k hk with h1 | h1
      · exact .inl (hvT k h1)
      · exact .inr (.inr h1)
    · rcases List.mem_append.1 hk with hk | hk
      · exact .inl (hTT k hk)
      · exact .inr (.inl (List.mem_singleton.1 hk))
  have far : ∀ F : List Nat, (∀ k ∈ F, k < wr.heap.size) → g ∉ F → (∀ k ∈ F, k ∉ footT v T) → ∀ k ∈ F, k ∉ footT v2 (T ++ [(g, len, cap)]) := fun F hF hgF hFT k hk hm => by
    rcases hmem k hm with h1 | h1 | h1
    · exact hFT k hk h1
    · rw [h1] at hk; exact hgF hk
    · have := hF k hk; omega
  refine ⟨h.p0.kept (fun k hk => hs.block k (h.p0.lt k hk) (fun hm => h.d0 k hk (hvT k hm))) hs.size, h.p1.kept (fun k hk => hs.block k (h.p1.lt k hk) (fun hm => h.d1 k hk (hvT k hm))) hs.size, ⟨by simpa using hown, fun x hxm => ?_, ?_⟩, h.d01,
    far _ h.p0.lt hg0 h.d0, far _ h.p1.lt hg1 h.d1, fun k hk => ?_, ?_, ?_, h.bbl⟩
  · rcases List.mem_append.1 hxm with hxm | hxm
    · obtain ⟨cs, h1, h2⟩ := h.tl.blk x hxm
      have hxT : x.1 ∈ T.map (·.1) := List.mem_map.2 ⟨x, hxm, rfl⟩
      exact ⟨cs, (hs.block _ (h.tl.lt _ (hTT _ hxT)) (fun hm => m3 _ hm _ hxT rfl)).trans h1, h2⟩
    · obtain rfl := List.mem_singleton.1 hxm
      obtain ⟨cs, h1, h2⟩ := hx
      exact ⟨cs, (hs.block _ hgl (fun hm => hgt (hvT _ hm))).trans h1, h2⟩
  · simp only [footT, List.map_append, List.map_cons, List.map_nil]
    refine List.nodup_append.2 ⟨by cases v2.ownBlock <;> simp, List.nodup_append.2 ⟨m2, by simp, fun a ha b hb e => ?_⟩, fun a ha b hb e => ?_⟩
    · rw [List.mem_singleton.1 hb] at e
      exact hgt (by rw [← e]; exact hTT a ha)
    · subst e
      rcases hv2 a ha with h1 | h1
      · rcases List.mem_append.1 hb with hb | hb
        · exact m3 _ h1 _ hb rfl
        · rw [List.mem_singleton.1 hb] at h1
          exact hgt (hvT _ h1)
      · rcases List.mem_append.1 hb with hb | hb
        · have := h.tl.lt a (hTT a hb)
          omega
        · rw [List.mem_singleton.1 hb] at h1
          omega
  · rcases hk with hk | hk | hk
    · exact h.low k (.inl hk)
    · exact h.low k (.inr (.inl hk))
    · rcases hmem k hk with h1 | h1 | h1
      · exact h.low k (.inr (.inr h1))
      · rw [h1]; exact ⟨hgw, hgb⟩
      · exact ⟨by omega, by omega⟩
  · exact (hs.block bb hbb (fun hm => (h.low bb (.inr (.inr (hvT _ hm)))).2 rfl)).trans h.box
  · exact h.bel.trans (hs.below hsz fun b hb => (h.low b (.inr (.inr (hvT b hb)))).1)
end
/-- what the walk is told of the calls that came in -/
def IsActs (w : World) (a : Option Addr) (len cap : Nat) (V : Nat → Nat → Int) : Prop :=
  len ≤ cap ∧ cap ≤ maxLen ∧ (0 < len → ∃ b off, a = some ⟨b, off, none⟩ ∧ b < w.heap.size ∧ ∀ i, i < len → ∀ j, j < 3 → w.cell? ⟨b, off + (i * 3 + j), none⟩ = some (.int .i64 (V i j)) ∧ (Lit.int .i64 (V i j)).wf = true)

set_option maxHeartbeats 8000000 in
theorem walk (a : Option Addr) (len cap : Nat) (V : Nat → Nat → Int) (w : World) (hrow : IsActs w a len cap V) : Calls Try.prog 3 #[.slice a len cap] w fun e w' => e = .returned (.bool true) ∧ Below w.heap.size w w' := by
  obtain ⟨hlc, hcm, hrow⟩ := hrow
  unfold maxLen at hcm
  by_cases h2000 : len ≤ 2000
  · have hd : decide ((2000 : Int) < (len : Int)) = false := decide_eq_false (by omega)
    go_enter Try.func3, Try.ntmps3
    go_wp2_with fail
    refine (new_log _).mono ?_
    rintro e w1 ⟨l0, k0, rfl, hl0, hb1, hl0g, hk0g⟩
    go_wp2_with fail
    refine (rnew _).mono ?_
    rintro e w2 ⟨rfl, hr0, hg2⟩
    go_wp2_with fail
    refine (new_log _).mono ?_
    rintro e w3 ⟨l1, k1, rfl, hl1, hb3, hl1g, hk1g⟩
    go_wp2_with fail
    refine (rnew _).mono ?_
    rintro e w4 ⟨rfl, hr1, hg4⟩
    obtain ⟨W5, hW5⟩ : ∃ W, W = w4.alloc (.cells #[.pointer (some ⟨l0, 0, none⟩), .pointer (some ⟨w1.heap.size, 0, none⟩), .pointer (some ⟨l1, 0, none⟩), .pointer (some ⟨w3.heap.size, 0, none⟩)] 29) := ⟨_, rfl⟩
    have hBoth : Both w W5 w4.heap.size l0 k0 w1.heap.size l1 k1 w3.heap.size (.slice none 0 0) [] [] false (.slice none 0 0) [] false (.slice none 0 0) := by
      have s1 := hb1.size
      have s2 := hg2.size
      have s3 := hb3.size
      have s4 := hg4.size
      have q1 := hl0.lb_lt
      have q2 := hl0.kb_lt
      have q3 := hr0.rb_lt
      have q4 := hl1.lb_lt
      have q5 := hl1.kb_lt
      have q6 := hr1.rb_lt
      have e0 := hl0.ne
      have e1 := hl1.ne
      have h45 : ∀ k, k < w4.heap.size → W5.heap[k]? = w4.heap[k]? := fun k hk => by rw [hW5]; exact Below.heap_alloc _ _ _ hk
      have h35 : ∀ k, k < w3.heap.size → W5.heap[k]? = w3.heap[k]? := fun k hk => (h45 k (by omega)).trans (hg4.block k hk (by simp))
      have h25 : ∀ k, k < w2.heap.size → W5.heap[k]? = w2.heap[k]? := fun k hk => (h35 k (by omega)).trans (hb3.block k hk)
      have h15 : ∀ k, k < w1.heap.size → W5.heap[k]? = w1.heap[k]? := fun k hk => (h25 k (by omega)).trans (hg2.block k hk (by simp))
      have s5 : W5.heap.size = w4.heap.size + 1 := by rw [hW5]; simp
      refine ⟨⟨IsLog.keptB hl0 (h15 _ q1) (h15 _ q2), (rebase hr0 (B' := w.heap.size) (by omega)).kept (h25 _ q3) (fun g hg => by simp [Value.ownBlock] at hg) (by omega), ?_⟩, ⟨IsLog.keptB hl1 (h35 _ q4) (h35 _ q5), (rebase hr1 (B' := w.heap.size) (by omega)).kept (h45 _ q6) (fun g hg => by simp [Value.ownBlock] at hg) (by omega), ?_⟩,
        ⟨⟨rfl, .inl ⟨rfl, rfl⟩⟩, (fun x hx => by cases hx), by simp [footT, Value.ownBlock]⟩, fun k hk hm => ?_, fun k hk hm => ?_, fun k hk hm => ?_, fun k hk => ?_, ?_, ?_, by omega⟩
      · simp [foot, Value.ownBlock]; omega
      · simp [foot, Value.ownBlock]; omega
      · simp [foot, Value.ownBlock] at hk hm; omega
      · simp [footT, Value.ownBlock] at hm
      · simp [footT, Value.ownBlock] at hm
      · simp [foot, footT, Value.ownBlock] at hk; omega
      · rw [hW5]; exact heap_alloc_new _ _
      · have b2 : Below w.heap.size w w2 := hb1.grown hg2 (by omega) (fun k e => by cases e)
        have b3 := b2.trans (hb3.mono (by omega))
        have b4 : Below w.heap.size w w4 := b3.grown hg4 (by omega) (fun k e => by cases e)
        rw [hW5]; exact b4.alloc (by omega) _
    obtain ⟨bb, hbb⟩ : ∃ b, b = w4.heap.size := ⟨_, rfl⟩
    obtain ⟨r0, hr0e⟩ : ∃ b, b = w1.heap.size := ⟨_, rfl⟩
    obtain ⟨r1, hr1e⟩ : ∃ b, b = w3.heap.size := ⟨_, rfl⟩
    rw [← hbb, ← hr0e, ← hr1e] at hBoth
    go_upto_region 4 with (fail)
    rw [← hW5, ← hbb, ← hr0e, ← hr1e]
    have hc0 : W5.cell? ⟨bb, 0, none⟩ = some (.pointer (some ⟨l0, 0, none⟩)) := by simp only [World.cell?, hBoth.box]; rfl
    have hc2 : W5.cell? ⟨bb, 2, none⟩ = some (.pointer (some ⟨l1, 0, none⟩)) := by simp only [World.cell?, hBoth.box]; rfl
    clear hW5 hbb hr0e hr1e hl0 hb1 hl0g hk0g hr0 hg2 hl1 hb3 hl1g hk1g hr1 hg4
    go_wp2
    clear hc0 hc2
    go_loopw [4, 5] (fun v i wr => ∃ (k : Nat) (T : List (Nat × Nat × Nat)) (L0 : List Int) (s0 : Bool) (n0 : Value) (L1 : List Int) (s1 : Bool) (n1 : Value), k ≤ len ∧ i = .int .i64 k ∧ T.length ≤ k ∧ Both w wr bb l0 k0 r0 l1 k1 r1 v T L0 s0 n0 L1 s1 n1) (fun _ i _ => len - (intOf i).toNat)
    case atStart => exact ⟨0, [], _, _, _, _, _, _, by omega, rfl, by simp, hBoth⟩
    case round =>
      clear hBoth
      obtain ⟨k, T, L0, s0, n0, L1, s1, n1, hk, rfl, hTl, hB⟩ := hrel
      by_cases hkl : k < len
      · obtain ⟨b, off, rfl, hb, hcell⟩ := hrow (by omega)
        have hbox := hB.box
        have hc0 : wr.cell? ⟨bb, 0, none⟩ = some (.pointer (some ⟨l0, 0, none⟩)) := by simp only [World.cell?, hbox]; rfl
        have hc1 : wr.cell? ⟨bb, 1, none⟩ = some (.pointer (some ⟨r0, 0, none⟩)) := by simp only [World.cell?, hbox]; rfl
        have hc2 : wr.cell? ⟨bb, 2, none⟩ = some (.pointer (some ⟨l1, 0, none⟩)) := by simp only [World.cell?, hbox]; rfl
        have hc3 : wr.cell? ⟨bb, 3, none⟩ = some (.pointer (some ⟨r1, 0, none⟩)) := by simp only [World.cell?, hbox]; rfl
        obtain ⟨kd, hkd⟩ : ∃ x, V k 0 = x := ⟨_, rfl⟩
        obtain ⟨on, hon⟩ : ∃ x, V k 1 = x := ⟨_, rfl⟩
        obtain ⟨n, hnn⟩ : ∃ x, V k 2 = x := ⟨_, rfl⟩
        have ha0 : wr.cell? ⟨b, off + k * 3, none⟩ = some (.int .i64 kd) := by rw [← hkd]; exact (hB.bel.cell (p := ⟨b, off + k * 3, none⟩) hb).trans (hcell k hkl 0 (by omega)).1
        have ha1 : wr.cell? ⟨b, off + k * 3 + 1, none⟩ = some (.int .i64 on) := by rw [← hon]; exact (hB.bel.cell (p := ⟨b, off + k * 3 + 1, none⟩) hb).trans (hcell k hkl 1 (by omega)).1
        have ha2 : wr.cell? ⟨b, off + k * 3 + 2, none⟩ = some (.int .i64 n) := by rw [← hnn]; exact (hB.bel.cell (p := ⟨b, off + k * 3 + 2, none⟩) hb).trans (hcell k hkl 2 (by omega)).1
        have hwf : (Lit.int .i64 n).wf = true := by rw [← hnn]; exact (hcell k hkl 2 (by omega)).2
        have e0 : Hid (w.cell? ⟨b, off + k * 3, none⟩ = some (.int .i64 kd)) := by rw [← hkd]; exact (hcell k hkl 0 (by omega)).1
        have e1 : Hid (w.cell? ⟨b, off + k * 3 + 1, none⟩ = some (.int .i64 on)) := by rw [← hon]; exact (hcell k hkl 1 (by omega)).1
        have e2 : Hid (w.cell? ⟨b, off + k * 3 + 2, none⟩ = some (.int .i64 n)) := by rw [← hnn]; exact (hcell k hkl 2 (by omega)).1
        clear hcell hrow hbox hkd hon hnn
        obtain ⟨m, hm, hand⟩ := and1 on
        have hBD : Both w wr.drew bb l0 k0 r0 l1 k1 r1 u4 T L0 s0 n0 L1 s1 n1 := hB.heap ⟨rfl, rfl, rfl, Nat.le_refl _, fun _ _ _ => rfl⟩
        have hkI : (k : Int) < (len : Int) := by omega
        have hk0' : (0 : Int) ≤ (k : Int) := by omega
        have hkd1 : decide ((k : Int) < (len : Int)) = true := decide_eq_true hkI
        have hm01 : m = 0 ∨ m = 1 := by omega
        rcases hm01 with rfl | rfl
        · go_upto_region 10 with (fail)
          go_region_held3 (fun w' => w'.cell? ⟨bb, 0, none⟩ = some (.pointer (some ⟨l0, 0, none⟩)) ∧ w'.cell? ⟨bb, 1, none⟩ = some (.pointer (some ⟨r0, 0, none⟩)) ∧ w'.cell? ⟨b, off + k * 3, none⟩ = some (.int .i64 kd) ∧ w'.cell? ⟨b, off + k * 3 + 1, none⟩ = some (.int .i64 on) ∧ w'.cell? ⟨b, off + k * 3 + 2, none⟩ = some (.int .i64 n))
            (first | go_keep | exact ⟨j0, j1, j2, j3, j4⟩)
            (first
              | (go_at_call 6; refine (act_any w.heap.size l0 k0 r0 L0 s0 n0 u4 T kd on n wr.drew hBD.p0 hBD.tl hBD.d0 (by omega) hwf).mono ?_; rintro e w2 ⟨L2, s2, n2, v2, T2, rfl, hp2, ht2, hd2, hl2, hn2, hs2⟩
                 have hB2 := hBD.first hp2 ht2 hd2 hn2 hs2
                 have j0 : w2.cell? ⟨bb, 0, none⟩ = some (.pointer (some ⟨l0, 0, none⟩)) := by simp only [World.cell?, hB2.box]; rfl
                 have j1 : w2.cell? ⟨bb, 1, none⟩ = some (.pointer (some ⟨r0, 0, none⟩)) := by simp only [World.cell?, hB2.box]; rfl
                 have j2 := (hB2.bel.cell (p := ⟨b, off + k * 3, none⟩) hb).trans e0.out
                 have j3 := (hB2.bel.cell (p := ⟨b, off + k * 3 + 1, none⟩) hb).trans e1.out
                 have j4 := (hB2.bel.cell (p := ⟨b, off + k * 3 + 2, none⟩) hb).trans e2.out))
          clear j0 j1 j2 j3 j4 hc0 hc1 hc2 hc3 ha0 ha1 ha2
          go_wp2
          go_roundw
          case rel => exact ⟨k + 1, T2, L2, s2, n2, L1, s1, n1, by omega, by go_num, by omega, hB2⟩
          case measure => simp [intOf]; omega
        · go_upto_region 10 with (fail)
          go_region_held3 (fun w' => w'.cell? ⟨bb, 2, none⟩ = some (.pointer (some ⟨l1, 0, none⟩)) ∧ w'.cell? ⟨bb, 3, none⟩ = some (.pointer (some ⟨r1, 0, none⟩)) ∧ w'.cell? ⟨b, off + k * 3, none⟩ = some (.int .i64 kd) ∧ w'.cell? ⟨b, off + k * 3 + 1, none⟩ = some (.int .i64 on) ∧ w'.cell? ⟨b, off + k * 3 + 2, none⟩ = some (.int .i64 n))
            (first | go_keep | exact ⟨j0, j1, j2, j3, j4⟩)
            (first
              | (go_at_call 6; refine (act_any w.heap.size l1 k1 r1 L1 s1 n1 u4 T kd on n wr.drew hBD.p1 hBD.tl hBD.d1 (by omega) hwf).mono ?_; rintro e w2 ⟨L2, s2, n2, v2, T2, rfl, hp2, ht2, hd2, hl2, hn2, hs2⟩
                 have hB2 := hBD.second hp2 ht2 hd2 hn2 hs2
                 have j0 : w2.cell? ⟨bb, 2, none⟩ = some (.pointer (some ⟨l1, 0, none⟩)) := by simp only [World.cell?, hB2.box]; rfl
                 have j1 : w2.cell? ⟨bb, 3, none⟩ = some (.pointer (some ⟨r1, 0, none⟩)) := by simp only [World.cell?, hB2.box]; rfl
                 have j2 := (hB2.bel.cell (p := ⟨b, off + k * 3, none⟩) hb).trans e0.out
                 have j3 := (hB2.bel.cell (p := ⟨b, off + k * 3 + 1, none⟩) hb).trans e1.out
                 have j4 := (hB2.bel.cell (p := ⟨b, off + k * 3 + 2, none⟩) hb).trans e2.out))
          clear j0 j1 j2 j3 j4 hc0 hc1 hc2 hc3 ha0 ha1 ha2
          go_wp2
          go_roundw
          case rel => exact ⟨k + 1, T2, L0, s0, n0, L2, s2, n2, by omega, by go_num, by omega, hB2⟩
          case measure => simp [intOf]; omega
      · have : k = len := by omega
        subst this
        have hkd1 : decide ((k : Int) < (k : Int)) = false := decide_eq_false (by omega)
        obtain ⟨i0, hi, hz0, hz1, hz2⟩ := info_parts infoS
        go_wp2
        go_loopw [4, 8] (fun v i wr => ∃ (m : Nat) (T : List (Nat × Nat × Nat)) (L0 : List Int) (s0 : Bool) (n0 : Value) (L1 : List Int) (s1 : Bool) (n1 : Value), m ≤ 2 ∧ i = .int .i64 m ∧ T.length ≤ k + m ∧ m ≤ T.length ∧ Both w wr bb l0 k0 r0 l1 k1 r1 v T L0 s0 n0 L1 s1 n1) (fun _ i _ => 2 - (intOf i).toNat)
        case atStart => exact ⟨0, T, L0, s0, n0, L1, s1, n1, by omega, rfl, by omega, by omega, hB⟩
        case round =>
          clear hB hTl hkd1 hd
          obtain ⟨m, T, L0, s0, n0, L1, s1, n1, hm, rfl, hTl, hTm, hB⟩ := hrel
          have hm3 : m = 0 ∨ m = 1 ∨ m = 2 := by omega
          rcases hm3 with rfl | rfl | rfl
          · have hbox := hB.box
            have hc0 : wr.cell? ⟨bb, 0, none⟩ = some (.pointer (some ⟨l0, 0, none⟩)) := by simp only [World.cell?, hbox]; rfl
            clear hbox
            go_wp2_with fail
            refine (list_new l0 k0 L0 s0 _ hB.p0.log).mono ?_
            rintro e w2 ⟨g, cap, rfl, hown2, hgr2⟩
            have hB2 := hB.heap hgr2
            have hgl := hown2.lt g rfl
            have hg0 : g ∉ foot l0 k0 r0 n0 := fun hm => by have := hB.p0.lt g hm; omega
            have hg1 : g ∉ foot l1 k1 r1 n1 := fun hm => by have := hB.p1.lt g hm; omega
            have hgt : g ∉ footT u4 T := fun hm => by have := hB.tl.lt g hm; omega
            have hgb : g ≠ bb := by have := (Array.getElem?_eq_some_iff.1 hB.box).1; omega
            have hgw : w.heap.size ≤ g := by have := hB.bel.size; omega
            have hx : WholeB w2 3 1 (g, L0.length, cap) := by
              rcases hown2.2 with ⟨h0, _⟩ | ⟨g', cap', cur, h0, _, h1, h2, h3, h4, _⟩
              · cases h0
              · cases h0
                exact ⟨cur, h1, h4, h2, h3⟩
            have hc1 : w2.cell? ⟨bb, 1, none⟩ = some (.pointer (some ⟨r0, 0, none⟩)) := by simp only [World.cell?, hB2.box]; rfl
            clear hc0
            go_wp2_with fail
            refine (rlist_any w.heap.size r0 L0 s0 n0 w2 hB2.p0.ref).mono ?_
            rintro e w4 ⟨v4, rfl, hown4, hgr4⟩
            have hu4 := Ints.of_owns (owns_slice hown2 (hgr4.block g (by omega) (by simp)))
            have hB4 := hB2.heap hgr4
            have hx4 : WholeB w4 3 1 (g, L0.length, cap) := by
              obtain ⟨cs, h1, h2⟩ := hx
              exact ⟨cs, (hgr4.block g (by omega) (by simp)).trans h1, h2⟩
            go_wp2_with fail
            refine (same_true L0 (.slice (some ⟨g, 0, none⟩) L0.length cap) v4 w4 hu4 (Ints.of_owns hown4)).mono ?_
            rintro e w5 ⟨rfl, hdr⟩
            have hB5 := hB4.heap (hdr.grown none)
            have hx5 : WholeB w5 3 1 (g, L0.length, cap) := by
              obtain ⟨cs, h1, h2⟩ := hx4
              exact ⟨cs, by rw [hdr.1]; exact h1, h2⟩
            have hT5 := hB5.tl.own
            have hlow := hB5.bel.size
            clear hown2 hgr2 hown4 hgr4 hdr hu4 hx hx4 hB4 hB2 hB hgl hc1
            go_wp2_with (at_builtin; refine wpList_append_own_at _ rfl _ _ 30 rfl w.heap.size 35 i0 (.slice none 0 0) 1 24 Try.underlying30 hi hz0 hz1 hz2 rfl (by decide) u4 T.length (T.map slv) rfl (hT5.alloc _) ⟨w5.heap.size, 0, none⟩ 1 1 [slv (g, L0.length, cap)] rfl rfl (cell_one_new _ _ _) (fun u hu => by rw [List.mem_singleton.1 hu]; rfl) (by unfold maxLen; omega) (by omega) (by simp; omega) ?_; intro v' w6 hown6 hgr6 hnil6 hat6)
            have hat7 : v'.ownBlock = u4.ownBlock ∨ v'.ownBlock = some (w5.alloc (.cells #[slv (g, L0.length, cap)] 35)).heap.size := hat6
            have hgr7 : (w5.alloc (.cells #[slv (g, L0.length, cap)] 35)).grownBy w6 u4.ownBlock := hgr6
            rw [World.size_alloc] at hat7
            have hs6 : w5.heap.size + 1 ≤ w6.heap.size := by have := hgr7.size; rwa [World.size_alloc] at this
            have hsp : Spoils u4.ownBlock.toList w5 w6 := ⟨hgr7.os, hgr7.tape, hgr7.output, by omega, fun q hq hn => (hgr7.block q (by rw [World.size_alloc]; omega) (fun e => hn (by rw [← e]; simp))).trans (Below.heap_alloc w5 _ q hq)⟩
            have hB6 := hB5.add hx5 hgw hgb hg0 hg1 hgt hsp hown6 (by
              rcases hat7 with h | h
              · exact .inl h
              · exact .inr ⟨_, h, by omega⟩)
            clear hat6 hgr6 hnil6
            go_roundw
            case rel => exact ⟨0 + 1, T ++ [(g, L0.length, cap)], L0, s0, n0, L1, s1, n1, by omega, by go_num, (by simp; omega), (by simp; try omega), hB6⟩
            case measure => simp [intOf]
          · have hbox := hB.box
            have hc0 : wr.cell? ⟨bb, 2, none⟩ = some (.pointer (some ⟨l1, 0, none⟩)) := by simp only [World.cell?, hbox]; rfl
            clear hbox
            go_wp2_with fail
            refine (list_new l1 k1 L1 s1 _ hB.p1.log).mono ?_
            rintro e w2 ⟨g, cap, rfl, hown2, hgr2⟩
            have hB2 := hB.heap hgr2
            have hgl := hown2.lt g rfl
            have hg0 : g ∉ foot l0 k0 r0 n0 := fun hm => by have := hB.p0.lt g hm; omega
            have hg1 : g ∉ foot l1 k1 r1 n1 := fun hm => by have := hB.p1.lt g hm; omega
            have hgt : g ∉ footT u4 T := fun hm => by have := hB.tl.lt g hm; omega
            have hgb : g ≠ bb := by have := (Array.getElem?_eq_some_iff.1 hB.box).1; omega
            have hgw : w.heap.size ≤ g := by have := hB.bel.size; omega
            have hx : WholeB w2 3 1 (g, L1.length, cap) := by
              rcases hown2.2 with ⟨h0, _⟩ | ⟨g', cap', cur, h0, _, h1, h2, h3, h4, _⟩
              · cases h0
              · cases h0
                exact ⟨cur, h1, h4, h2, h3⟩
            have hc1 : w2.cell? ⟨bb, 3, none⟩ = some (.pointer (some ⟨r1, 0, none⟩)) := by simp only [World.cell?, hB2.box]; rfl
            clear hc0
            go_wp2_with fail
            refine (rlist_any w.heap.size r1 L1 s1 n1 w2 hB2.p1.ref).mono ?_
            rintro e w4 ⟨v4, rfl, hown4, hgr4⟩
            have hu4 := Ints.of_owns (owns_slice hown2 (hgr4.block g (by omega) (by simp)))
            have hB4 := hB2.heap hgr4
            have hx4 : WholeB w4 3 1 (g, L1.length, cap) := by
              obtain ⟨cs, h1, h2⟩ := hx
              exact ⟨cs, (hgr4.block g (by omega) (by simp)).trans h1, h2⟩
            go_wp2_with fail
            refine (same_true L1 (.slice (some ⟨g, 0, none⟩) L1.length cap) v4 w4 hu4 (Ints.of_owns hown4)).mono ?_
            rintro e w5 ⟨rfl, hdr⟩
            have hB5 := hB4.heap (hdr.grown none)
            have hx5 : WholeB w5 3 1 (g, L1.length, cap) := by
              obtain ⟨cs, h1, h2⟩ := hx4
              exact ⟨cs, by rw [hdr.1]; exact h1, h2⟩
            have hT5 := hB5.tl.own
            have hlow := hB5.bel.size
            clear hown2 hgr2 hown4 hgr4 hdr hu4 hx hx4 hB4 hB2 hB hgl hc1
            go_wp2_with (at_builtin; refine wpList_append_own_at _ rfl _ _ 30 rfl w.heap.size 35 i0 (.slice none 0 0) 1 24 Try.underlying30 hi hz0 hz1 hz2 rfl (by decide) u4 T.length (T.map slv) rfl (hT5.alloc _) ⟨w5.heap.size, 0, none⟩ 1 1 [slv (g, L1.length, cap)] rfl rfl (cell_one_new _ _ _) (fun u hu => by rw [List.mem_singleton.1 hu]; rfl) (by unfold maxLen; omega) (by omega) (by simp; omega) ?_; intro v' w6 hown6 hgr6 hnil6 hat6)
            have hat7 : v'.ownBlock = u4.ownBlock ∨ v'.ownBlock = some (w5.alloc (.cells #[slv (g, L1.length, cap)] 35)).heap.size := hat6
            have hgr7 : (w5.alloc (.cells #[slv (g, L1.length, cap)] 35)).grownBy w6 u4.ownBlock := hgr6
            rw [World.size_alloc] at hat7
            have hs6 : w5.heap.size + 1 ≤ w6.heap.size := by have := hgr7.size; rwa [World.size_alloc] at this
            have hsp : Spoils u4.ownBlock.toList w5 w6 := ⟨hgr7.os, hgr7.tape, hgr7.output, by omega, fun q hq hn => (hgr7.block q (by rw [World.size_alloc]; omega) (fun e => hn (by rw [← e]; simp))).trans (Below.heap_alloc w5 _ q hq)⟩
            have hB6 := hB5.add hx5 hgw hgb hg0 hg1 hgt hsp hown6 (by
              rcases hat7 with h | h
              · exact .inl h
              · exact .inr ⟨_, h, by omega⟩)
            clear hat6 hgr6 hnil6
            go_roundw
            case rel => exact ⟨1 + 1, T ++ [(g, L1.length, cap)], L0, s0, n0, L1, s1, n1, by omega, by go_num, (by simp; omega), (by simp; try omega), hB6⟩
            case measure => simp [intOf]
          · obtain ⟨g, cp, rfl, hgl, hcap, hcells⟩ : ∃ g cp, u4 = .slice (some ⟨g, 0, none⟩) T.length cp ∧ g < wr.heap.size ∧ T.length ≤ cp ∧ ∀ i x, T[i]? = some x → wr.cell? ⟨g, 0 + i, none⟩ = some (slv x) := by
              rcases hB.tl.own.2 with ⟨_, h0⟩ | ⟨g, cap, cur, h0, _, h1, h2, h3, h4, h5⟩
              · omega
              · refine ⟨g, cap, h0, (Array.getElem?_eq_some_iff.1 h1).1, h2, fun i x hx => ?_⟩
                have hi : i < T.length := (List.getElem?_eq_some_iff.1 hx).1
                have h6 : (cur.toList.take (T.length * 1))[i]? = (T.map slv)[i]? := by rw [h5]
                rw [List.getElem?_take, if_pos (by omega), List.getElem?_map, hx] at h6
                simp only [World.cell?, h1, Nat.zero_add]
                simpa using h6
            by_cases h40 : T.length ≤ 40
            · have hd40 : decide ((40 : Int) < (T.length : Int)) = false := decide_eq_false (by omega)
              have hnod := hB.tl.nod
              unfold footT at hnod
              obtain ⟨m1, m2, m3⟩ := List.nodup_append.1 hnod
              have hpre : ApartPre wr 3 1 g 0 T := ⟨hcells, hB.tl.blk, m2, fun x hx e => m3 g (by simp [Value.ownBlock]) x.1 (List.mem_map.2 ⟨x, hx, rfl⟩) e.symm, by omega⟩
              have hlowT : ∀ b ∈ T.map (·.1), w.heap.size ≤ b := fun b hb => (hB.low b (.inr (.inr (List.mem_append.2 (.inr hb))))).1
              have hbelf := hB.bel
              clear hcells hnod m1 m2 m3
              go_wp2_with fail
              refine (ai.apart _ g 0 cp T hpre hgl hcap).mono ?_
              rintro e w9 ⟨rfl, hsp9⟩
              have hfin := hbelf.trans (hsp9.below hbelf.size hlowT)
              go_wp2
              go_ret
              exact ⟨rfl, hfin⟩
            · have hd40 : decide ((40 : Int) < (T.length : Int)) = true := decide_eq_true (by omega)
              have hbelf := hB.bel
              clear hcells
              go_wp2
              go_ret
              exact ⟨rfl, hbelf⟩
  · have hd : decide ((2000 : Int) < (len : Int)) = true := decide_eq_true (by omega)
    go_enter Try.func3, Try.ntmps3
    go_wp2
    go_ret
    exact ⟨rfl, Below.refl _ _⟩
end Go.Proofs.Ytdiifadfpnbnhaa.sc
