/- The book of air with more blocks beside it: its traits. -/
import Derived.Test.YtfahpjgfcndefaaDoorFcAir
import Derived.Test.YtfahpjgfcndefaaDoorSt
import Derived.Test.YtfahpjgfcndefaaDoorKn
import Derived.WalkKit
import Derived.ProofKit
import Derived.Below
import Derived.RegionTactic
import Derived.BigRegion
import Derived.OwnWalk
namespace Go.Proofs.YtfahpjgfcndefaaDoor.fiAir
open Go.Sim Go.RowKit
set_option linter.unusedVariables false
set_option maxRecDepth 100000

/-- a book with more blocks beside it: X tells which block bears which name -/
def HoldsX (w : World) (Bar bk : Nat) (X : List (Nat × Nat)) (next : Nat) (ro : List (Nat × KB)) (l : List Nat) (shut : Bool) (rest : List (Nat × Value)) : Prop :=
  ∃ e k, RS 6 Bar e (mkSt next (hpB t 6 72 l shut rest) ro) w ∧ e 6 = some (bk, k) ∧ ∀ p ∈ X, p.1 < next ∧ ∃ k, e p.1 = some (p.2, k)
theorem Holds.x {w : World} {Bar bk : Nat} {q : Nat → Nat} {l : List Nat} {shut : Bool} {rest : List (Nat × Value)} (h : Holds w Bar bk q l shut rest) : HoldsX w Bar bk [] 13 (roB t 6 l) l shut rest := by
  obtain ⟨e, k, h1, h2, h3⟩ := h
  exact ⟨e, k, h1, h2, fun p hp => by cases hp⟩
theorem HoldsX.kept {w w' : World} {Bar bk next : Nat} {X : List (Nat × Nat)} {ro : List (Nat × KB)} {l : List Nat} {shut : Bool} {rest : List (Nat × Value)} (h : HoldsX w Bar bk X next ro l shut rest) (hb : Below w.heap.size w w') : HoldsX w' Bar bk X next ro l shut rest := by
  obtain ⟨e, k, h1, h2, h3⟩ := h
  exact ⟨e, k, (Cl.keep ⟨h1, Below.refl _ _⟩ h1 hb).1, h2, h3⟩
/-- one block more has a name -/
theorem HoldsX.named {w : World} {Bar bk next cb cap W0 : Nat} {X : List (Nat × Nat)} {ro : List (Nat × KB)} {l : List Nat} {shut : Bool} {rest : List (Nat × Value)} (h : HoldsX w Bar bk X next ro l shut rest) (h1 : cb < w.heap.size) (h2 : W0 ≤ cb) (h3 : W0 ≤ Bar) (h6 : 6 < next) :
    ∃ e k, RS 6 W0 e (mkSt (next + 1) (hpB t 6 72 l shut rest) ro) w ∧ e 6 = some (bk, k) ∧ e next = some (cb, cap) := by
  obtain ⟨e, k, hR, hb, -⟩ := h
  obtain ⟨e2, g1, g2, g3⟩ := (hR.rebar (NG2 := 6) (Bar2 := W0) (fun n b k hn hle => Nat.le_trans h3 (hR.bar n b k hn hle)) (Nat.le_trans h3 hR.room) hR.low).addName (b := cb) (kc := cap) h2 h1
  exact ⟨e2, k, g1, g2 _ _ hb, g3⟩
theorem HoldsX.alloc {w : World} {Bar bk next : Nat} {X : List (Nat × Nat)} {ro : List (Nat × KB)} {l : List Nat} {shut : Bool} {rest : List (Nat × Value)} (h : HoldsX w Bar bk X next ro l shut rest) (cs : Array Value) (ty : TypeId) (k : KB)
    (hk : ∀ p ∈ k.cells, p.1 < 1000000 ∧ flat p.2 = true ∧ cs[p.1]? = some p.2) (hro : ∀ p ∈ ro, p.1 < 1000000 ∧ p.1 < next) (h6 : 6 < next) (hn : next < 1000000) :
    HoldsX (w.alloc (.cells cs ty)) Bar bk ((next, w.heap.size) :: X) (next + 1) (ro ++ [(next, k)]) l shut rest := by
  obtain ⟨e, kk, h1, h2, h3⟩ := h
  have hw : Below w.heap.size w (w.alloc (.cells cs ty)) := (Below.refl _ w).alloc (Nat.le_refl _) _
  have hR := (Cl.keep ⟨h1, Below.refl _ _⟩ h1 hw).1
  obtain ⟨e2, g1, g2, g3⟩ := hR.addRo (heap_alloc_new w _) h1.room (fun n p hn => by have := h1.hi n _ _ hn; omega) hk hro (fun p hp => by
    simp only [hpB, List.mem_singleton] at hp
    subst hp
    exact ⟨show 6 < 1000000 by decide, h6⟩) hn
  refine ⟨e2, kk, g1, (g2 6 h6).trans h2, fun p hp => ?_⟩
  rcases List.mem_cons.1 hp with rfl | hp
  · exact ⟨Nat.lt_succ_self _, 0, g3⟩
  · obtain ⟨a, b, c⟩ := h3 p hp
    exact ⟨by omega, b, (g2 p.1 a).trans c⟩
theorem HoldsX.read {w : World} {Bar bk next : Nat} {X : List (Nat × Nat)} {ro : List (Nat × KB)} {l : List Nat} {shut : Bool} {rest : List (Nat × Value)} (h : HoldsX w Bar bk X next ro l shut rest) {n b i : Nat} {v : Value} (hX : (n, b) ∈ X)
    (hB : ∃ B, (blOf ro).get n = some B ∧ B.get i = some v) (hv : flat v = true) : w.cell? ⟨b, i, none⟩ = some v := by
  obtain ⟨e, k, h1, h2, h3⟩ := h
  obtain ⟨B, hB, hi⟩ := hB
  obtain ⟨-, kk, hx⟩ := h3 _ hX
  obtain ⟨b', k', g1, cs, ty, f, g2, g3⟩ := h1.ro n B hB
  have hx : e n = some (b, kk) := hx
  rw [hx] at g1
  cases g1
  obtain ⟨v', g4, g5⟩ := g3 i v hi
  rw [RV.flat_eq hv g5] at g4
  simp [World.cell?, g2, g4]
theorem c_x {f : FuncId} {args : List Value} {v : Value} {l l2 : List Nat} {shut shut2 : Bool} {rest rest2 : List (Nat × Value)} {next : Nat} {ro : List (Nat × KB)} {X : List (Nat × Nat)} (hB : callV Tryd.prog H 0 60 6 f (.pointer (some ⟨6, 0, none⟩) :: args) (mkSt next (hpB t 6 72 l shut rest) ro) v (fun _ n => n) next (hpB t 6 72 l2 shut2 rest2) ro = true)
    (hv : flat v = true) (ha : flatL args = true) (h6 : 6 < next) {Bar bk : Nat} {w : World} (h : HoldsX w Bar bk X next ro l shut rest) :
    Calls Tryd.prog f (.pointer (some ⟨bk, 0, none⟩) :: args).toArray w fun en w' => en = .returned v ∧ HoldsX w' Bar bk X next ro l2 shut2 rest2 ∧ Below Bar w w' := by
  obtain ⟨e, k, hS, hbk, hX⟩ := h
  refine (callV_ok num mixed H_ok hB hS (globs0 _) (args' := .pointer (some ⟨bk, 0, none⟩) :: args) ⟨_, _, RV.ptr hbk, RVL.of_flat ha, rfl⟩).mono fun en w' ⟨⟨e2, v', hen, hv', h1, h2⟩, hb⟩ => ?_
  have same : ∀ n, n < next → e2 n = e n := fun n hn => h2 n hn (fun _ => rfl) hn
  exact ⟨by rw [hen, RV.flat_eq hv hv'], ⟨e2, k, h1, (same 6 h6).trans hbk, fun p hp => by obtain ⟨a, b, c⟩ := hX p hp; exact ⟨a, b, (same _ a).trans c⟩⟩, hb⟩
def restN (l : List ByteArray) : List (Nat × Value) := idx 579 (l.map .string) ++ idx 588 ((List.replicate 5 [Value.int .u8 0, .string ⟨#[]⟩, .int .i64 0, .int .i64 0]).flatten)
def rest1 := restN [⟨#[]⟩, ⟨#[]⟩, ⟨#[]⟩, ⟨#[]⟩, ⟨#[]⟩, ⟨#[]⟩, ⟨#[]⟩, ⟨#[]⟩, ⟨#[115, 119, 105, 102, 116]⟩]
def rest2 := restN [⟨#[]⟩, ⟨#[102, 97, 115, 116]⟩, ⟨#[]⟩, ⟨#[]⟩, ⟨#[]⟩, ⟨#[]⟩, ⟨#[]⟩, ⟨#[]⟩, ⟨#[115, 119, 105, 102, 116]⟩]
def tKB : KB := { cells := idx 0 [.int .u8 1, .int .u8 8], size := 2, elem := 40, es := 0 }
def roT : List (Nat × KB) := roB t 6 order ++ [(13, tKB)]
theorem d1 : callV Tryd.prog H 0 60 6 15 [.pointer (some ⟨6, 0, none⟩), .int .u8 8, .string ⟨#[115, 119, 105, 102, 116]⟩] (mkSt 14 (hpB t 6 72 order false rest0) roT) (.int .i64 0) (fun _ n => n) 14 (hpB t 6 72 order false rest1) roT = true := by kernel_rfl
theorem d2 : callV Tryd.prog H 0 60 6 15 [.pointer (some ⟨6, 0, none⟩), .int .u8 1, .string ⟨#[102, 97, 115, 116]⟩] (mkSt 14 (hpB t 6 72 order false rest1) roT) (.int .i64 0) (fun _ n => n) 14 (hpB t 6 72 order false rest2) roT = true := by kernel_rfl
theorem c_traits (w : World) : Calls Tryd.prog 14 #[] w fun e w' => e = .returned (.slice (some ⟨w.heap.size, 0, none⟩) 2 2) ∧ w' = w.alloc (.cells #[.int .u8 1, .int .u8 8] 40) := by
  go_enter Tryd.func14, Tryd.ntmps14
  go_wp2
  go_ret
  exact ⟨rfl, rfl⟩
theorem tOK : ∀ p ∈ tKB.cells, p.1 < 1000000 ∧ flat p.2 = true ∧ (#[.int .u8 1, .int .u8 8] : Array Value)[p.1]? = some p.2 := by
  intro p hp
  simp only [tKB, idx, List.mem_cons, List.not_mem_nil, or_false] at hp
  rcases hp with rfl | rfl
  · exact ⟨by decide, rfl, rfl⟩
  · exact ⟨by decide, rfl, rfl⟩
theorem ro_all : ((roB t 6 order).all fun p => Nat.blt p.1 1000000 && Nat.blt p.1 13) = true := by kernel_rfl
theorem roOK : ∀ p ∈ roB t 6 order, p.1 < 1000000 ∧ p.1 < 13 := fun p hp => by
  have := List.all_eq_true.1 ro_all p hp
  simpa [blt_dec] using this
theorem c_name (k : Nat) (s : ByteArray) (w : World) (hk : Known 1 kn.gl w) (h1 : 1 ≤ k) (h8 : k ≤ 8) (hs : kn.names[k]? = some s) : Calls Tryd.prog 16 #[.int .u8 k] w fun e w' => e = .returned (.string s) ∧ w' = w := by
  have hc : w.cell? ⟨0, k, none⟩ = some (.string s) := (hk.2 _ (List.mem_cons_self ..)).2.2.2.2 k (.string s) (by rw [List.getElem?_map, hs]; rfl)
  have a1 : (1 : Int) ≤ k := by omega
  have a8 : (k : Int) ≤ 8 := by omega
  have a9 : (k : Int) < 9 := by omega
  clear hs hk
  go_enter Tryd.func16, Tryd.ntmps16
  go_wp2
  go_ret
  exact ⟨rfl, rfl⟩
end Go.Proofs.YtfahpjgfcndefaaDoor.fiAir
