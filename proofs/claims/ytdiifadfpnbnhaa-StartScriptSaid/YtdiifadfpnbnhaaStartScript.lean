/- The law StartScript: for every input the call returns true, in whatever memory. No condition. -/
import Derived.Test.YtdiifadfpnbnhaaRows
import Derived.Test.YtdiifadfpnbnhaaSc
import Derived.Deep.SlicePairs
import Derived.WalkKit
import Derived.ProofKit
import Derived.OpenShut
import Derived.ShutString
import Derived.ChangeOld
import Derived.Below
namespace Go.Proofs.Ytdiifadfpnbnhaa.startScript
open Go.ChangeShapes Go.WideShapes Go.ChangeAt Go.RowKit
set_option linter.unusedVariables false

theorem own : ownKnob Try.prog.godebug = none := by kernel_rfl
theorem laidOut : laidOutB Try.prog = true := by kernel_rfl

/-- a list of structs of three numbers, opened -/
theorem open_triples {H : Type} {enc : TypeId × Value → H} {P : Program} {w : World} {base : Nat} {spare : Nat → Bool} {held : Bool} {t e : TypeId} {f0 f1 f2 : Field} {fuel : Nat} {cs : List Value} {x : DataW H × List MemPlace} (ht : P.underlying t = some (.slice e)) (he : P.underlying e = some (.struct #[f0, f1, f2]))
    (ce : P.cellsOf e = 3) (o0 : f0.offset = 0) (o1 : f1.offset = 1) (o2 : f2.offset = 2) (c0 : P.cellsOf f0.type = 1) (c1 : P.cellsOf f1.type = 1) (c2 : P.cellsOf f2.type = 1)
    (k0 : P.underlying f0.type = some (.int .i64)) (k1 : P.underlying f1.type = some (.int .i64)) (k2 : P.underlying f2.type = some (.int .i64))
    (h : DataW.trod enc P w base spare held fuel t cs = some x) :
    cs = [.slice none 0 0] ∨ ∃ (a : Addr) (len cap : Nat) (V : Nat → Nat → Int), cs = [.slice (some a) len cap] ∧ len ≤ cap ∧ cap ≤ maxLen ∧ ∀ i, i < len → ∀ j, j < 3 → w.cell? (a.add (i * 3 + j)) = some (.int .i64 (V i j)) ∧ (Lit.int .i64 (V i j)).wf = true := by
  rcases Deep.open_slice ht h with ⟨h0, _⟩ | ⟨a, len, cap, m, n, D, Pl, rfl, hb, hl, hm, hmm, rfl, hx⟩
  · exact .inl h0
  right
  have hlm : len ≤ m := by rw [hmm]; split <;> omega
  have each : ∀ i, i < m → ∃ q : Int × Int × Int, (w.cell? (a.add (i * 3 + 0)) = some (.int .i64 q.1) ∧ (Lit.int .i64 q.1).wf = true) ∧ (w.cell? (a.add (i * 3 + 1)) = some (.int .i64 q.2.1) ∧ (Lit.int .i64 q.2.1).wf = true) ∧ (w.cell? (a.add (i * 3 + 2)) = some (.int .i64 q.2.2) ∧ (Lit.int .i64 q.2.2).wf = true) := by
    intro i hi
    obtain ⟨cs', h1, h2⟩ := hx i hi
    rw [ce] at h1
    obtain ⟨_, hlen, hcell⟩ := World.cells?_some h1
    obtain ⟨xs, k, hk, hxy, _, hxl, hf⟩ := DataW.trod_struct he h2
    match xs, hxl, cs', hlen with
    | [y0, y1, y2], _, [v0, v1, v2], _ =>
      have g0 := hf 0 f0 rfl
      have g1 := hf 1 f1 rfl
      have g2 := hf 2 f2 rfl
      simp [o0, o1, o2, c0, c1, c2] at g0 g1 g2
      have e0 := hcell 0 (by omega)
      have e1 := hcell 1 (by omega)
      have e2 := hcell 2 (by omega)
      rw [Deep.add_add] at e0 e1 e2
      obtain ⟨n0, q0, _, z0⟩ := DataW.trod_int k0 g0
      obtain ⟨n1, q1, _, z1⟩ := DataW.trod_int k1 g1
      obtain ⟨n2, q2, _, z2⟩ := DataW.trod_int k2 g2
      simp only [List.cons.injEq, and_true] at q0 q1 q2
      subst q0 q1 q2
      exact ⟨(n0, n1, n2), ⟨by simpa using e0, z0⟩, ⟨by simpa using e1, z1⟩, ⟨by simpa using e2, z2⟩⟩
  obtain ⟨q, hq⟩ := Deep.choose_lt each
  refine ⟨a, len, cap, fun i j => if j = 0 then (q i).1 else if j = 1 then (q i).2.1 else (q i).2.2, rfl, hl, hm, fun i hi j hj => ?_⟩
  obtain ⟨h0, h1, h2⟩ := hq i (by omega)
  have : j = 0 ∨ j = 1 ∨ j = 2 := by omega
  rcases this with rfl | rfl | rfl
  · exact h0
  · exact h1
  · exact h2

theorem acts_of {w : World} {a : Option Addr} {len cap : Nat} (h : (a = none ∧ len = 0 ∧ cap = 0) ∨ ∃ (x : Addr) (V : Nat → Nat → Int), a = some x ∧ len ≤ cap ∧ cap ≤ maxLen ∧ ∀ i, i < len → ∀ j, j < 3 → w.cell? (x.add (i * 3 + j)) = some (.int .i64 (V i j)) ∧ (Lit.int .i64 (V i j)).wf = true) : ∃ V, sc.IsActs w a len cap V := by
  rcases h with ⟨rfl, rfl, rfl⟩ | ⟨⟨b, off, spot⟩, V, rfl, h1, h2, h3⟩
  · exact ⟨fun _ _ => 0, Nat.le_refl _, Nat.zero_le _, fun h => absurd h (by omega)⟩
  · refine ⟨V, h1, h2, fun hp => ?_⟩
    have h0 := (h3 0 hp 0 (by omega)).1
    have hs : spot = none := by
      cases spot with
      | none => rfl
      | some s =>
        exfalso
        have : (⟨b, off, some s⟩ : Addr).add (0 * 3 + 0) = ⟨b, off, some s⟩ := by unfold Addr.add; simp
        rw [this] at h0
        unfold World.cell? at h0
        split at h0 <;> simp at h0
    subst hs
    have hadd : ∀ j, (⟨b, off, none⟩ : Addr).add j = ⟨b, off + j, none⟩ := fun j => by unfold Addr.add; split <;> simp_all
    refine ⟨b, off, rfl, ?_, fun i hi j hj => by rw [← hadd]; exact h3 i hi j hj⟩
    rw [hadd] at h0
    exact World.block_lt_of_cell? w _ h0

set_option maxRecDepth 100000 in
theorem lifted (os : Os) (started : os.Started) (H : Type) (enc : TypeId × Value → H) :
    ReturnsInHanded {} Try.checked os 3 .any (Rows.startScriptSpec.pre6 enc Try.prog Try.f3 Rows.startScriptRow.domain false) (Rows.startScriptSpec.post enc Try.prog Try.f3 false true false false) := by
  refine returnsInHanded_of_change (C := Try.checked) own started (by kernel_rfl) Try.func3
    (ChangeSpec.witness6 (enc := enc) (C := Try.checked) false ⟨#[], #[.slice none 0 0], []⟩ 8 (by kernel_rfl) (by kernel_rfl) (by kernel_rfl) (by kernel_rfl)) ?_
  intro W base args ds gs before hval0 hW hcnd _
  have hval : ∀ (j : Nat) t v, Try.f3.params[j]? = some t → args[j]? = some v → Value.okWide Try.prog W .any base t v := hval0
  have hW' := hW
  obtain ⟨p, q, hA0, hV, rfl, hfz, hnd⟩ := hW
  have hA : DataW.TrodAll enc Try.prog W 0 (fun _ => true) true Try.f3.params.toList args.toList ds p := hA0
  rw [Try.params3] at hA hval
  obtain ⟨v0, vs0, d0, ds0, p0, q0, hargs, rfl, rfl, h0, r0⟩ := trodAll_cons hA
  obtain ⟨rfl, rfl, rfl⟩ := trodAll_nil r0
  obtain rfl : args = #[v0] := by cases args; simp_all
  obtain ⟨rfl, rfl⟩ := trodVars_none hV
  obtain ⟨a0, len0, cap0, rfl⟩ := okWide_slice Try.underlying22 (hval 0 22 v0 rfl rfl)
  have k0 := h0
  have lt0 : ∀ x ∈ p0, x.block < W.heap.size := by obtain ⟨m, hm⟩ := k0; exact DataW.trod_lt m _ _ _ hm
  obtain ⟨V, w0⟩ : ∃ V, sc.IsActs W a0 len0 cap0 V := by
    obtain ⟨fuel, hf⟩ := h0
    refine acts_of ?_
    rcases open_triples Try.underlying22 Try.underlying33 (by kernel_rfl) (by kernel_rfl) (by kernel_rfl) (by kernel_rfl) (by kernel_rfl) (by kernel_rfl) (by kernel_rfl) Try.underlying3 Try.underlying3 Try.underlying3 hf with hcs | ⟨x, l, c, V, hcs, hl, hm, hcell⟩
    · simp [Value.cells] at hcs
      exact .inl hcs
    · simp [Value.cells] at hcs
      obtain ⟨rfl, rfl, rfl⟩ := hcs
      exact .inr ⟨x, V, rfl, hl, hm, hcell⟩
  clear hA0 hval0
  simp only [List.append_nil] at hW'
  refine (sc.walk a0 len0 cap0 V W w0).mono fun e W' ⟨he, bel⟩ => ?_
  subst he
  exact ⟨_, rfl, _, _, _, [], _, [], hW', trodAll_mk1 (shut_bool Try.underlying4 _), (trodAll_cons_mk (Below.trod laidOut (by kernel_rfl) (of_decide_eq_true (by kernel_rfl)) k0 bel lt0) trodAll_mk0), by first | rfl | simp, bel.frame _, fun h => by cases h⟩

theorem over : Rows.startScriptRow.holds Try.pinned (OpenSpec.ofChange Rows.startScriptSpec) :=
  OpenClaim.holds_of_wide 3 Try.f3 rfl rfl rfl rfl rfl rfl rfl ⟨rfl, rfl, rfl, rfl, rfl⟩ rfl rfl rfl rfl rfl (by kernel_rfl) Try.func3 (by kernel_rfl)
    (of_decide_eq_true (by kernel_rfl)) (by unfold Func.isWrapper; first | (rw [if_pos (by decide +kernel)]; kernel_rfl) | (rw [if_neg (by decide +kernel)]; exact ⟨rfl, rfl⟩))
    (fun os started H enc _ => lifted os started H enc)
end Go.Proofs.Ytdiifadfpnbnhaa.startScript
namespace Go.Proofs.Ytdiifadfpnbnhaa
theorem StartScriptHolds : Rows.StartScriptSaid := startScript.over
#print axioms StartScriptHolds
end Go.Proofs.Ytdiifadfpnbnhaa
