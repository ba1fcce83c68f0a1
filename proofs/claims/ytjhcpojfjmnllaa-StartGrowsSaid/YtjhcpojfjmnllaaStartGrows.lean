/- The law StartGrows: for every input the call returns true, in whatever memory. No condition. -/
import Derived.Test.YtjhcpojfjmnllaaRows
import Derived.Test.YtjhcpojfjmnllaaLg
import Derived.Test.YtjhcpojfjmnllaaSim
import Derived.WalkKit
import Derived.ProofKit
import Derived.OpenShut
import Derived.ShutString
import Derived.ChangeOld
import Derived.Below
import Derived.Maps.AppendAt
import Derived.Deep.QuietTactic
import Derived.BigQuiet
namespace Go.Proofs.Ytjhcpojfjmnllaa.startGrows
open Go.RowKit lg
set_option linter.unusedVariables false

theorem num : Sim.NumOK Try.prog := Sim.numOK_of (by kernel_rfl)
theorem mixed : Try.prog.follows .mixedOrders = true := by kernel_rfl
theorem awake_ran : (Sim.callF Try.prog 0 60 0 25 [] (Sim.S0 0)).map Prod.fst = some (.bool true) := by kernel_rfl

/-- WHAT THE WALK IS TOLD OF A SLICE OF INTEGERS THAT CAME IN. -/
def IsRow (k : IntKind) (w : World) (a : Option Addr) (len cap : Nat) (zs : List Int) : Prop :=
  (a = none ∧ len = 0 ∧ cap = 0 ∧ zs = []) ∨
  ∃ x, a = some x ∧ len ≤ cap ∧ cap ≤ maxLen ∧ zs.length = cap ∧ (∀ i, i < zs.length → w.cell? (x.add i) = some (.int k (zs.getD i 0))) ∧ ∀ n ∈ zs, (Lit.int k n).wf = true

theorem IsRow.use {w : World} {a : Option Addr} {len cap : Nat} {zs : List Int} (h : IsRow .i64 w a len cap zs) :
    len ≤ cap ∧ cap ≤ maxLen ∧ (0 < len → ∃ b off, a = some ⟨b, off, none⟩ ∧ b < w.heap.size ∧ ∀ j, j < len → w.cell? ⟨b, off + j, none⟩ = some (.int .i64 (zs.getD j 0))) := by
  rcases h with ⟨rfl, rfl, rfl, rfl⟩ | ⟨⟨b, off, spot⟩, rfl, h1, h2, h3, h4, _⟩
  · exact ⟨Nat.le_refl _, Nat.zero_le _, fun h => absurd h (by omega)⟩
  · refine ⟨h1, h2, fun hp => ?_⟩
    have h0 := h4 0 (by omega)
    have hs : spot = none := by
      cases spot with
      | none => rfl
      | some s =>
        exfalso
        have : (⟨b, off, some s⟩ : Addr).add 0 = ⟨b, off, some s⟩ := by unfold Addr.add; simp
        rw [this] at h0
        unfold World.cell? at h0
        split at h0 <;> simp at h0
    subst hs
    have hadd : ∀ j, (⟨b, off, none⟩ : Addr).add j = ⟨b, off + j, none⟩ := fun j => by unfold Addr.add; split <;> simp_all
    refine ⟨b, off, rfl, ?_, fun j hj => by rw [← hadd]; exact h4 j (by omega)⟩
    rw [hadd] at h0
    exact World.block_lt_of_cell? w _ h0

theorem owns_slice {w : World} {base e size n : Nat} {v : Value} {xs : List Value} (h : w.ownsRow base e size v n xs) : ∃ ao c, v = .slice ao n c := by
  rcases h.2 with ⟨rfl, h0⟩ | ⟨g, cap, cur, rfl, _⟩
  · exact ⟨none, 0, by rw [h0]⟩
  · exact ⟨_, _, rfl⟩

theorem owns_far {w : World} {base e size n kb : Nat} {v : Value} {xs : List Value} (h : w.ownsRow base e size v n xs) (hk : kb < base) : v.ownBlock = none ∨ v.ownBlock ≠ some kb := by
  right
  intro he
  have := (h.lt kb he).1
  omega

theorem one_int (x : Int) : ∀ u ∈ [Value.int .i64 x], u.oneCell' = true := by
  intro u hu
  simp at hu
  subst hu
  rfl

theorem kept_log {w1 w2 : World} {base lb kb : Nat} {L : List Int} {sh : Bool} {v : Value} {n : Nat} {xs : List Value} {o : Obj} (hown : w1.ownsRow base 3 1 v n xs) (hlog : IsLog w1 lb kb L sh) (hlb : lb < base) (hkb : kb < base)
    (hg : (w1.alloc o).grownBy w2 v.ownBlock) : IsLog w2 lb kb L sh :=
  (hlog.grown (World.grownBy_alloc w1 o none) (by simp) (by simp)).grown hg (fun e => by have := (hown.lt lb e.symm).1; omega) (fun e => by have := (hown.lt kb e.symm).1; omega)

theorem kept_below {B base : Nat} {w w1 w2 : World} {v : Value} {n : Nat} {xs : List Value} {o : Obj} (hown : w1.ownsRow base 3 1 v n xs) (hb : Below B w w1) (hB : B ≤ base) (hB1 : B ≤ w1.heap.size)
    (hg : (w1.alloc o).grownBy w2 v.ownBlock) : Below B w w2 :=
  (hb.alloc hB1 o).grown hg (by simp; omega) (fun k hk => by have := (hown.lt k hk).1; omega)

theorem log_below {B : Nat} {w w1 : World} {lb kb : Nat} {L : List Int} {sh : Bool} (h : IsLog w lb kb L sh) (hb : Below B w w1) (h1 : lb < B) (h2 : kb < B) : IsLog w1 lb kb L sh := by
  refine ⟨by rw [hb.cell h1]; exact h.log, fun i hi => by rw [hb.cell h2]; exact h.cells i hi, by rw [hb.cell h2]; exact h.n, by rw [hb.cell h2]; exact h.sh, fun i => by rw [hb.frozen h2]; exact h.fro i, h.len, h.ne⟩

set_option maxRecDepth 100000 in
set_option maxHeartbeats 6400000 in
theorem walk (a0 : Option Addr) (len0 cap0 : Nat) (z0 : List Int) (a1 : Int) (w : World) (w0 : IsRow .i64 w a0 len0 cap0 z0) (w1 : (Lit.int .i64 a1).wf = true) :
    Calls Try.prog 7 #[.slice a0 len0 cap0, .int .i64 a1] w fun e w' => e = .returned (.bool true) ∧ Below w.heap.size w w' := by
  obtain ⟨i0, hi, hz0, hz1, hz2⟩ := info_parts lg.Try.infoI
  obtain ⟨hlc, hcm, hrow⟩ := w0.use
  clear w0
  unfold maxLen at hcm
  by_cases hbig : len0 > 300
  · obtain ⟨b, off, rfl, hb, hcell⟩ := hrow (by omega)
    have hrow : 0 < 300 → ∃ b1 off1, some (⟨b, off, none⟩ : Addr) = some ⟨b1, off1, none⟩ ∧ b1 < w.heap.size ∧ ∀ j, j < 300 → w.cell? ⟨b1, off1 + j, none⟩ = some (.int .i64 (z0.getD j 0)) :=
      fun _ => ⟨b, off, rfl, hb, fun j hj => hcell j (by omega)⟩
    clear hcell
    go_enter Try.func7, Try.ntmps7
    go_wp2_with fail
    refine (Sim.calls_ans num mixed awake_ran rfl rfl _).mono ?_
    rintro e wa ⟨rfl, hba⟩
    go_wp2_with fail
    refine (pick_any a1 _ _ w1 (by omega) (by omega)).mono ?_
    rintro e wx ⟨r, rfl, hr, h2⟩
    have h2 := h2.symm
    subst h2
    go_wp2_with fail
    refine (new_log _).mono ?_
    rintro e w1' ⟨lb, kb, rfl, hlogA, hbelA, hlbA, hkbA⟩
    go_wp2_with fail
    refine (new_log _).mono ?_
    rintro e w2 ⟨lb2, kb2, rfl, hlogB, hbelB, hlbB, hkbB⟩
    have hlb := hlogA.lb_lt
    have hkb := hlogA.kb_lt
    have hlb2 := hlogB.lb_lt
    have hkb2 := hlogB.kb_lt
    have hA2 := log_below hlogA hbelB hlb hkb
    have hbel2 : Below w.heap.size w w2 := (hba.trans (hbelA.mono hba.size)).trans (hbelB.mono (Nat.le_trans hba.size hbelA.size))
    have hs1 := hba.size
    have hs2 := hbelB.size
    have hs3 := hbelA.size
    clear hlogA hbelA hbelB hba
    go_wp2
    go_loopw [8, 9] (fun v i wr => ∃ (k : Nat) (A : List Int), k ≤ 300 ∧ i = .int .i64 k ∧ wr.ownsRow w2.heap.size 3 1 v A.length (A.map (Value.int .i64)) ∧ IsLog wr lb kb A (decide (r < k)) ∧ IsLog wr lb2 kb2 [] false ∧ Below w.heap.size w wr ∧ w2.heap.size ≤ wr.heap.size) (fun _ i _ => 300 - (intOf i).toNat)
    case atStart => exact ⟨0, [], by omega, rfl, World.ownsRow_nil _ _ _ _, by simpa using hA2, hlogB, hbel2, Nat.le_refl _⟩
    case round =>
      obtain ⟨k, A, hk, rfl, hown, hlog, hlogb, hbel, hsz⟩ := hrel
      have hA256 := hlog.len
      obtain ⟨ao, cp, rfl⟩ := owns_slice hown
      by_cases hkl : k < 300
      · obtain ⟨b, off, hao, hb, hcell⟩ := hrow (by omega)
        have hc0 := hcell k hkl
        by_cases hkr : k < r
        · have hd0 : decide (r < k) = false := decide_eq_false (by omega)
          have hd1 : decide (r < k + 1) = false := decide_eq_false (by omega)
          have hne : ¬ k = r := by omega
          rw [hd0] at hlog
          cases hao
          have hcx : wr.cell? ⟨b, off + k, none⟩ = some (.int .i64 (z0.getD k 0)) := (hbel.cell hb).trans hc0
          by_cases hfull : A.length < 256
          · go_wp2_with fail
            refine (note_open lb kb A _ _ hlog hfull).mono ?_
            rintro e w3 ⟨rfl, hlog3, hgr3⟩
            have hown3 := hown.kept hgr3 (owns_far hown (by omega))
            have hbel3 := hbel.grown hgr3 hbel.size (fun j hj => by cases hj; omega)
            have hlogb3 := hlogb.grown hgr3 (by simp; omega) (by simp; omega)
            have hcx3 : w3.cell? ⟨b, off + k, none⟩ = some (.int .i64 (z0.getD k 0)) := (hbel3.cell hb).trans hc0
            have hsz3 : w2.heap.size ≤ w3.heap.size := Nat.le_trans hsz hgr3.size
            by_cases hk20 : k < 20
            · go_wp2_with (at_builtin; refine wpList_append_own_at _ rfl _ _ 44 rfl w2.heap.size 3 i0 (.int .i64 0) 1 8 Try.underlying44 hi hz0 hz1 hz2 rfl (by decide) _ _ _ rfl (hown3.alloc _) ⟨w3.heap.size, 0, none⟩ 1 1 [.int .i64 (z0.getD k 0)] rfl rfl (cell_one_new _ _ _) (one_int _) (by unfold maxLen; omega) (by omega) (by simp; omega) ?_; intro v' w4 hown4 hgr4 hnil hat; obtain ⟨ao4, cp4, rfl⟩ := owns_slice hown4)
              have hown5 : w4.ownsRow w2.heap.size 3 1 (.slice ao4 (A.length + 1) cp4) (A ++ [z0.getD k 0]).length ((A ++ [z0.getD k 0]).map (Value.int .i64)) := by simpa using hown4
              have hlog4 := kept_log hown3 hlog3 (by omega) (by omega) hgr4
              have hlogb4 := kept_log hown3 hlogb3 hlb2 hkb2 hgr4
              have hbel4 := kept_below hown3 hbel3 hbel2.size hbel3.size hgr4
              have hsz4 : w2.heap.size ≤ w4.heap.size := by have := hgr4.size; simp at this; omega
              refine (list_any lb kb _ _ _ hlog4).mono ?_
              rintro e w6 ⟨v6, rfl, hown6, hgr6⟩
              have hown7 := hown5.kept hgr6 (Classical.em _)
              go_wp2_with fail
              refine (same_true _ _ _ _ (Ints.of_owns hown6) (Ints.of_owns hown7)).mono ?_
              rintro e w8 ⟨rfl, hd8⟩
              have hg8 := hd8.grown none
              have hown8 := hown7.kept hg8 (Classical.em _)
              have hbel8 := (hbel4.grown hgr6 hbel4.size (fun j hj => by cases hj)).grown hg8 (Nat.le_trans hbel4.size hgr6.size) (fun j hj => by cases hj)
              have hlog8 := (hlog4.grown hgr6 (by simp) (by simp)).heap hd8.1
              have hlogb8 := (hlogb4.grown hgr6 (by simp) (by simp)).heap hd8.1
              go_wp2
              go_roundw
              case rel => exact ⟨k + 1, A ++ [z0.getD k 0], by omega, by go_num, by simpa using hown8, by rw [hd1]; exact hlog8, hlogb8, hbel8, Nat.le_trans hsz4 (Nat.le_trans hgr6.size hg8.size)⟩
              case measure => simp [intOf]; omega
            · go_wp2_with (at_builtin; refine wpList_append_own_at _ rfl _ _ 44 rfl w2.heap.size 3 i0 (.int .i64 0) 1 8 Try.underlying44 hi hz0 hz1 hz2 rfl (by decide) _ _ _ rfl (hown3.alloc _) ⟨w3.heap.size, 0, none⟩ 1 1 [.int .i64 (z0.getD k 0)] rfl rfl (cell_one_new _ _ _) (one_int _) (by unfold maxLen; omega) (by omega) (by simp; omega) ?_; intro v' w4 hown4 hgr4 hnil hat; obtain ⟨ao4, cp4, rfl⟩ := owns_slice hown4)
              have hown5 : w4.ownsRow w2.heap.size 3 1 (.slice ao4 (A.length + 1) cp4) (A ++ [z0.getD k 0]).length ((A ++ [z0.getD k 0]).map (Value.int .i64)) := by simpa using hown4
              have hlog4 := kept_log hown3 hlog3 (by omega) (by omega) hgr4
              have hlogb4 := kept_log hown3 hlogb3 hlb2 hkb2 hgr4
              have hbel4 := kept_below hown3 hbel3 hbel2.size hbel3.size hgr4
              have hsz4 : w2.heap.size ≤ w4.heap.size := by have := hgr4.size; simp at this; omega
              go_roundw
              case rel => exact ⟨k + 1, A ++ [z0.getD k 0], by omega, by go_num, by simpa using hown5, by rw [hd1]; exact hlog4, hlogb4, hbel4, hsz4⟩
              case measure => simp [intOf]; omega
          · go_wp2_with fail
            refine (note_full lb kb A _ _ hlog (by omega)).mono ?_
            rintro e w3 ⟨rfl, h3⟩
            have h3 := h3.symm
            subst h3
            have hA : 256 ≤ A.length := by omega
            go_wp2
            go_roundw
            case rel => exact ⟨k + 1, A, by omega, by go_num, hown, by rw [hd1]; exact hlog, hlogb, hbel, hsz⟩
            case measure => simp [intOf]; omega
        · cases hao
          have hd1 : decide (r < k + 1) = true := decide_eq_true (by omega)
          by_cases hre : k = r
          · have hd0 : decide (r < k) = false := decide_eq_false (by omega)
            rw [hd0] at hlog
            subst hre
            go_wp2_with fail
            refine (close_open lb kb A _ hlog).mono ?_
            rintro e w3 ⟨rfl, hlog3, hgr3⟩
            have hown3 := hown.kept hgr3 (owns_far hown (by omega))
            have hbel3 := hbel.grown hgr3 hbel.size (fun j hj => by cases hj; omega)
            have hlogb3 := hlogb.grown hgr3 (by simp; omega) (by simp; omega)
            have hcx3 : w3.cell? ⟨b, off + k, none⟩ = some (.int .i64 (z0.getD k 0)) := (hbel3.cell hb).trans hc0
            have hsz3 : w2.heap.size ≤ w3.heap.size := Nat.le_trans hsz hgr3.size
            go_wp2_with fail
            refine (note_shut lb kb A _ _ hlog3).mono ?_
            rintro e w4 ⟨rfl, h3⟩
            have h3 := h3.symm
            subst h3
            go_wp2
            go_roundw
            case rel => exact ⟨k + 1, A, by omega, by go_num, hown3, by rw [hd1]; exact hlog3, hlogb3, hbel3, hsz3⟩
            case measure => simp [intOf]; omega
          · have hd0 : decide (r < k) = true := decide_eq_true (by omega)
            rw [hd0] at hlog
            have hcx : wr.cell? ⟨b, off + k, none⟩ = some (.int .i64 (z0.getD k 0)) := (hbel.cell hb).trans hc0
            go_wp2_with fail
            refine (note_shut lb kb A _ _ hlog).mono ?_
            rintro e w4 ⟨rfl, h3⟩
            have h3 := h3.symm
            subst h3
            go_wp2
            go_roundw
            case rel => exact ⟨k + 1, A, by omega, by go_num, hown, by rw [hd1]; exact hlog, hlogb, hbel, hsz⟩
            case measure => simp [intOf]; omega
      · have : 300 = k := by omega
        subst this
        obtain ⟨sh, hsh⟩ : ∃ x, x = decide (r < 300) := ⟨_, rfl⟩
        rw [← hsh] at hlog
        obtain ⟨v0, hv0⟩ : ∃ x, x = Value.slice ao A.length cp := ⟨_, rfl⟩
        go_wp2
        go_loopw [11] (fun i wr => ∃ (k : Nat), k ≤ 300 ∧ i = .int .i64 k ∧ wr.ownsRow w2.heap.size 3 1 (.slice ao A.length cp) A.length (A.map (Value.int .i64)) ∧ IsLog wr lb kb A sh ∧ IsLog wr lb2 kb2 [] false ∧ Below w.heap.size w wr ∧ w2.heap.size ≤ wr.heap.size) (fun i _ => 300 - (intOf i).toNat)
        case atStart => exact ⟨0, by omega, rfl, hown, hlog, hlogb, hbel, hsz⟩
        case round =>
          clear hown hlog hlogb hbel hsz
          obtain ⟨k, hk, rfl, hown, hlog, hlogb, hbel, hsz⟩ := hrel
          by_cases hkl : k < 300
          · obtain ⟨b, off, hao, hb, hcell⟩ := hrow (by omega)
            have hc0 := hcell k hkl
            cases hao
            have hcx : wr.cell? ⟨b, off + k, none⟩ = some (.int .i64 (z0.getD k 0)) := (hbel.cell hb).trans hc0
            obtain ⟨x, hx⟩ : ∃ x, z0.getD k 0 = x := ⟨_, rfl⟩
            rw [hx] at hcx hc0
            go_wp2_with fail
            refine (first_any lb kb A sh _ _ hlog).mono ?_
            rintro e w3 ⟨f, rfl, hf, hgr3⟩
            have hown3 := hown.kept hgr3 (Classical.em _)
            have hlog3 := hlog.grown hgr3 (by simp) (by simp)
            have hlogb3 := hlogb.grown hgr3 (by simp) (by simp)
            have hbel3 := hbel.grown hgr3 hbel.size (fun j hj => by cases hj)
            have hsz3 : w2.heap.size ≤ w3.heap.size := Nat.le_trans hsz hgr3.size
            have hcx3 : w3.cell? ⟨b, off + k, none⟩ = some (.int .i64 x) := (hbel3.cell hb).trans hc0
            have hI := Ints.of_owns hown3
            obtain ⟨ao', cp', heq, hcellA, _⟩ := hI
            cases heq
            rcases hf with ⟨rfl, hbefore⟩ | ⟨j, rfl, hj, hjx, hbefore⟩
            · have hlimA : A.length ≤ A.length := Nat.le_refl _
              go_wp2
              go_quiet (fail)
              go_wp2
              go_loopw [13] (fun i wr => ∃ m : Nat, m ≤ A.length ∧ i = .int .i64 m ∧ Dr w3 wr) (fun i _ => A.length - (intOf i).toNat)
              case atStart => exact ⟨0, by omega, rfl, rfl, rfl, rfl, rfl⟩
              case round =>
                obtain ⟨m, hm, rfl, hd⟩ := hrel
                by_cases hml : m < A.length
                · obtain ⟨b2, hao2, hcA⟩ := hcellA m (by omega)
                  cases hao2
                  have c2 : wr.cell? ⟨b2, m, none⟩ = some (.int .i64 (A.getD m 0)) := by rw [hd.cell]; exact hcA m (by omega)
                  have c1 : wr.cell? ⟨b, off + k, none⟩ = some (.int .i64 x) := by rw [hd.cell]; exact hcx3
                  have hne := hbefore m hml
                  obtain ⟨y, hy⟩ : ∃ y, A.getD m 0 = y := ⟨_, rfl⟩
                  rw [hy] at c2 hne
                  clear hy hcA hcellA hcell hbefore
                  have hmA : m < A.length := by omega
                  go_wp2
                  go_region
                  all_goals go_wp2
                  all_goals go_roundw
                  case rel => first | exact ⟨m + 1, by omega, by go_num, hd.drew⟩ | ((repeat apply Exists.intro); exact ⟨⟨m + 1, by omega, (congrArg (Value.int .i64) (by omega : ((m : Int) + 1) = ((m + 1 : Nat) : Int))), hd.drew⟩, rfl⟩)
                  case measure => simp [intOf]; omega
                · have : A.length = m := by omega
                  have hge : ¬ m < A.length := hml
                  go_wp2
                  have hownD := hown3.kept (hd.grown none) (Classical.em _)
                  have hlogD := hlog3.heap hd.1
                  have hlogbD := hlogb3.heap hd.1
                  have hbelD := hbel3.grown (hd.grown none) hbel3.size (fun j hj => by cases hj)
                  have hszD := Nat.le_trans hsz3 (hd.grown none).size
                  go_roundw
                  case rel => first | exact ⟨k + 1, by omega, by go_num, hownD, hlogD, hlogbD, hbelD, hszD⟩ | ((repeat apply Exists.intro); exact ⟨⟨k + 1, by omega, (congrArg (Value.int .i64) (by omega : ((k : Int) + 1) = ((k + 1 : Nat) : Int))), hownD, hlogD, hlogbD, hbelD, hszD⟩, rfl⟩)
                  case measure => simp [intOf]; omega
            · have hlimA : j ≤ A.length := by omega
              obtain ⟨b3, hao3, hc3⟩ := hcellA j hj
              cases hao3
              have hj3 : w3.cell? ⟨b3, j, none⟩ = some (.int .i64 x) := by rw [← hjx]; exact hc3 j hj
              have hge0 : (0 : Int) ≤ (j : Int) := by omega
              have hjA : (j : Int) < (A.length : Int) := by omega
              clear hc3 hjx
              have hnA : decide (A.length ≤ j) = false := decide_eq_false (by omega)
              go_wp2
              go_quiet (fail)
              go_wp2
              go_loopw [13] (fun i wr => ∃ m : Nat, m ≤ j ∧ i = .int .i64 m ∧ Dr w3 wr) (fun i _ => j - (intOf i).toNat)
              case atStart => exact ⟨0, by omega, rfl, rfl, rfl, rfl, rfl⟩
              case round =>
                obtain ⟨m, hm, rfl, hd⟩ := hrel
                by_cases hml : m < j
                · obtain ⟨b2, hao2, hcA⟩ := hcellA m (by omega)
                  cases hao2
                  have c2 : wr.cell? ⟨b3, m, none⟩ = some (.int .i64 (A.getD m 0)) := by rw [hd.cell]; exact hcA m (by omega)
                  have c1 : wr.cell? ⟨b, off + k, none⟩ = some (.int .i64 x) := by rw [hd.cell]; exact hcx3
                  have hne := hbefore m hml
                  obtain ⟨y, hy⟩ : ∃ y, A.getD m 0 = y := ⟨_, rfl⟩
                  rw [hy] at c2 hne
                  clear hy hcA hcellA hcell hbefore
                  have hmA : m < A.length := by omega
                  go_wp2
                  go_region
                  all_goals go_wp2
                  all_goals go_roundw
                  case rel => first | exact ⟨m + 1, by omega, by go_num, hd.drew⟩ | ((repeat apply Exists.intro); exact ⟨⟨m + 1, by omega, (congrArg (Value.int .i64) (by omega : ((m : Int) + 1) = ((m + 1 : Nat) : Int))), hd.drew⟩, rfl⟩)
                  case measure => simp [intOf]; omega
                · have : j = m := by omega
                  subst this
                  go_wp2
                  have hownD := hown3.kept (hd.grown none) (Classical.em _)
                  have hlogD := hlog3.heap hd.1
                  have hlogbD := hlogb3.heap hd.1
                  have hbelD := hbel3.grown (hd.grown none) hbel3.size (fun j hj => by cases hj)
                  have hszD := Nat.le_trans hsz3 (hd.grown none).size
                  go_roundw
                  case rel => first | exact ⟨k + 1, by omega, by go_num, hownD, hlogD, hlogbD, hbelD, hszD⟩ | ((repeat apply Exists.intro); exact ⟨⟨k + 1, by omega, (congrArg (Value.int .i64) (by omega : ((k : Int) + 1) = ((k + 1 : Nat) : Int))), hownD, hlogD, hlogbD, hbelD, hszD⟩, rfl⟩)
                  case measure => simp [intOf]; omega
          · have : 300 = k := by omega
            subst this
            have hcase : (sh = true ∧ r < 300) ∨ (sh = false ∧ ¬ r < 300) := by
              by_cases hrn : r < 300
              · exact .inl ⟨by rw [hsh]; exact decide_eq_true hrn, hrn⟩
              · exact .inr ⟨by rw [hsh]; exact decide_eq_false hrn, hrn⟩
            clear hsh
            rcases hcase with ⟨rfl, hrn⟩ | ⟨rfl, hrn⟩
            · have hrz : (r : Int) < (300 : Int) := by omega
              have hrz3 : decide ((r : Int) < (300 : Int)) = true := decide_eq_true hrz
              go_wp2_with fail
              refine (list_any lb kb A _ _ hlog).mono ?_
              rintro e w3 ⟨v3, rfl, hown3, hgr3⟩
              have hownA := hown.kept hgr3 (Classical.em _)
              have hlog3 := hlog.grown hgr3 (by simp) (by simp)
              have hlogb3 := hlogb.grown hgr3 (by simp) (by simp)
              have hbel3 := hbel.grown hgr3 hbel.size (fun j hj => by cases hj)
              go_wp2_with fail
              refine (same_true A _ _ _ (Ints.of_owns hown3) (Ints.of_owns hownA)).mono ?_
              rintro e w4 ⟨rfl, hd4⟩
              have hlog4 := hlog3.heap hd4.1
              have hlogb4 := hlogb3.heap hd4.1
              have hbel4 := hbel3.grown (hd4.grown none) hbel3.size (fun j hj => by cases hj)
              go_wp2_with fail
              refine (closed_any lb kb A _ _ hlog4).mono ?_
              rintro e w5 ⟨rfl, h5⟩
              have h5 := h5.symm
              subst h5
              go_wp2_with fail
              refine (list_any lb2 kb2 [] _ _ hlogb4).mono ?_
              rintro e w6 ⟨v6, rfl, hown6, hgr6⟩
              obtain ⟨ao6, cp6, rfl⟩ := owns_slice hown6
              have hlogb6 := hlogb4.grown hgr6 (by simp) (by simp)
              have hbel6 := hbel4.grown hgr6 hbel4.size (fun j hj => by cases hj)
              go_wp2_with fail
              refine (closed_any lb2 kb2 [] _ _ hlogb6).mono ?_
              rintro e w7 ⟨rfl, h7⟩
              have h7 := h7.symm
              subst h7
              go_wp2
              go_ret
              exact ⟨rfl, hbel6⟩
            · have hrz : ¬ ((r : Int) < (300 : Int)) := by omega
              have hrz3 : decide ((r : Int) < (300 : Int)) = false := decide_eq_false hrz
              go_wp2_with fail
              refine (list_any lb kb A _ _ hlog).mono ?_
              rintro e w3 ⟨v3, rfl, hown3, hgr3⟩
              have hownA := hown.kept hgr3 (Classical.em _)
              have hlog3 := hlog.grown hgr3 (by simp) (by simp)
              have hlogb3 := hlogb.grown hgr3 (by simp) (by simp)
              have hbel3 := hbel.grown hgr3 hbel.size (fun j hj => by cases hj)
              go_wp2_with fail
              refine (same_true A _ _ _ (Ints.of_owns hown3) (Ints.of_owns hownA)).mono ?_
              rintro e w4 ⟨rfl, hd4⟩
              have hlog4 := hlog3.heap hd4.1
              have hlogb4 := hlogb3.heap hd4.1
              have hbel4 := hbel3.grown (hd4.grown none) hbel3.size (fun j hj => by cases hj)
              go_wp2_with fail
              refine (closed_any lb kb A _ _ hlog4).mono ?_
              rintro e w5 ⟨rfl, h5⟩
              have h5 := h5.symm
              subst h5
              go_wp2_with fail
              refine (list_any lb2 kb2 [] _ _ hlogb4).mono ?_
              rintro e w6 ⟨v6, rfl, hown6, hgr6⟩
              obtain ⟨ao6, cp6, rfl⟩ := owns_slice hown6
              have hlogb6 := hlogb4.grown hgr6 (by simp) (by simp)
              have hbel6 := hbel4.grown hgr6 hbel4.size (fun j hj => by cases hj)
              go_wp2_with fail
              refine (closed_any lb2 kb2 [] _ _ hlogb6).mono ?_
              rintro e w7 ⟨rfl, h7⟩
              have h7 := h7.symm
              subst h7
              go_wp2
              go_ret
              exact ⟨rfl, hbel6⟩
  · have hle : len0 ≤ 300 := by omega
    go_enter Try.func7, Try.ntmps7
    go_wp2_with fail
    refine (Sim.calls_ans num mixed awake_ran rfl rfl _).mono ?_
    rintro e wa ⟨rfl, hba⟩
    go_wp2_with fail
    refine (pick_any a1 _ _ w1 (by omega) (by omega)).mono ?_
    rintro e wx ⟨r, rfl, hr, h2⟩
    have h2 := h2.symm
    subst h2
    go_wp2_with fail
    refine (new_log _).mono ?_
    rintro e w1' ⟨lb, kb, rfl, hlogA, hbelA, hlbA, hkbA⟩
    go_wp2_with fail
    refine (new_log _).mono ?_
    rintro e w2 ⟨lb2, kb2, rfl, hlogB, hbelB, hlbB, hkbB⟩
    have hlb := hlogA.lb_lt
    have hkb := hlogA.kb_lt
    have hlb2 := hlogB.lb_lt
    have hkb2 := hlogB.kb_lt
    have hA2 := log_below hlogA hbelB hlb hkb
    have hbel2 : Below w.heap.size w w2 := (hba.trans (hbelA.mono hba.size)).trans (hbelB.mono (Nat.le_trans hba.size hbelA.size))
    have hs1 := hba.size
    have hs2 := hbelB.size
    have hs3 := hbelA.size
    clear hlogA hbelA hbelB hba
    go_wp2
    go_loopw [8, 9] (fun v i wr => ∃ (k : Nat) (A : List Int), k ≤ len0 ∧ i = .int .i64 k ∧ wr.ownsRow w2.heap.size 3 1 v A.length (A.map (Value.int .i64)) ∧ IsLog wr lb kb A (decide (r < k)) ∧ IsLog wr lb2 kb2 [] false ∧ Below w.heap.size w wr ∧ w2.heap.size ≤ wr.heap.size) (fun _ i _ => len0 - (intOf i).toNat)
    case atStart => exact ⟨0, [], by omega, rfl, World.ownsRow_nil _ _ _ _, by simpa using hA2, hlogB, hbel2, Nat.le_refl _⟩
    case round =>
      obtain ⟨k, A, hk, rfl, hown, hlog, hlogb, hbel, hsz⟩ := hrel
      have hA256 := hlog.len
      obtain ⟨ao, cp, rfl⟩ := owns_slice hown
      by_cases hkl : k < len0
      · obtain ⟨b, off, hao, hb, hcell⟩ := hrow (by omega)
        have hc0 := hcell k hkl
        by_cases hkr : k < r
        · have hd0 : decide (r < k) = false := decide_eq_false (by omega)
          have hd1 : decide (r < k + 1) = false := decide_eq_false (by omega)
          have hne : ¬ k = r := by omega
          rw [hd0] at hlog
          cases hao
          have hcx : wr.cell? ⟨b, off + k, none⟩ = some (.int .i64 (z0.getD k 0)) := (hbel.cell hb).trans hc0
          by_cases hfull : A.length < 256
          · go_wp2_with fail
            refine (note_open lb kb A _ _ hlog hfull).mono ?_
            rintro e w3 ⟨rfl, hlog3, hgr3⟩
            have hown3 := hown.kept hgr3 (owns_far hown (by omega))
            have hbel3 := hbel.grown hgr3 hbel.size (fun j hj => by cases hj; omega)
            have hlogb3 := hlogb.grown hgr3 (by simp; omega) (by simp; omega)
            have hcx3 : w3.cell? ⟨b, off + k, none⟩ = some (.int .i64 (z0.getD k 0)) := (hbel3.cell hb).trans hc0
            have hsz3 : w2.heap.size ≤ w3.heap.size := Nat.le_trans hsz hgr3.size
            by_cases hk20 : k < 20
            · go_wp2_with (at_builtin; refine wpList_append_own_at _ rfl _ _ 44 rfl w2.heap.size 3 i0 (.int .i64 0) 1 8 Try.underlying44 hi hz0 hz1 hz2 rfl (by decide) _ _ _ rfl (hown3.alloc _) ⟨w3.heap.size, 0, none⟩ 1 1 [.int .i64 (z0.getD k 0)] rfl rfl (cell_one_new _ _ _) (one_int _) (by unfold maxLen; omega) (by omega) (by simp; omega) ?_; intro v' w4 hown4 hgr4 hnil hat; obtain ⟨ao4, cp4, rfl⟩ := owns_slice hown4)
              have hown5 : w4.ownsRow w2.heap.size 3 1 (.slice ao4 (A.length + 1) cp4) (A ++ [z0.getD k 0]).length ((A ++ [z0.getD k 0]).map (Value.int .i64)) := by simpa using hown4
              have hlog4 := kept_log hown3 hlog3 (by omega) (by omega) hgr4
              have hlogb4 := kept_log hown3 hlogb3 hlb2 hkb2 hgr4
              have hbel4 := kept_below hown3 hbel3 hbel2.size hbel3.size hgr4
              have hsz4 : w2.heap.size ≤ w4.heap.size := by have := hgr4.size; simp at this; omega
              refine (list_any lb kb _ _ _ hlog4).mono ?_
              rintro e w6 ⟨v6, rfl, hown6, hgr6⟩
              have hown7 := hown5.kept hgr6 (Classical.em _)
              go_wp2_with fail
              refine (same_true _ _ _ _ (Ints.of_owns hown6) (Ints.of_owns hown7)).mono ?_
              rintro e w8 ⟨rfl, hd8⟩
              have hg8 := hd8.grown none
              have hown8 := hown7.kept hg8 (Classical.em _)
              have hbel8 := (hbel4.grown hgr6 hbel4.size (fun j hj => by cases hj)).grown hg8 (Nat.le_trans hbel4.size hgr6.size) (fun j hj => by cases hj)
              have hlog8 := (hlog4.grown hgr6 (by simp) (by simp)).heap hd8.1
              have hlogb8 := (hlogb4.grown hgr6 (by simp) (by simp)).heap hd8.1
              go_wp2
              go_roundw
              case rel => exact ⟨k + 1, A ++ [z0.getD k 0], by omega, by go_num, by simpa using hown8, by rw [hd1]; exact hlog8, hlogb8, hbel8, Nat.le_trans hsz4 (Nat.le_trans hgr6.size hg8.size)⟩
              case measure => simp [intOf]; omega
            · go_wp2_with (at_builtin; refine wpList_append_own_at _ rfl _ _ 44 rfl w2.heap.size 3 i0 (.int .i64 0) 1 8 Try.underlying44 hi hz0 hz1 hz2 rfl (by decide) _ _ _ rfl (hown3.alloc _) ⟨w3.heap.size, 0, none⟩ 1 1 [.int .i64 (z0.getD k 0)] rfl rfl (cell_one_new _ _ _) (one_int _) (by unfold maxLen; omega) (by omega) (by simp; omega) ?_; intro v' w4 hown4 hgr4 hnil hat; obtain ⟨ao4, cp4, rfl⟩ := owns_slice hown4)
              have hown5 : w4.ownsRow w2.heap.size 3 1 (.slice ao4 (A.length + 1) cp4) (A ++ [z0.getD k 0]).length ((A ++ [z0.getD k 0]).map (Value.int .i64)) := by simpa using hown4
              have hlog4 := kept_log hown3 hlog3 (by omega) (by omega) hgr4
              have hlogb4 := kept_log hown3 hlogb3 hlb2 hkb2 hgr4
              have hbel4 := kept_below hown3 hbel3 hbel2.size hbel3.size hgr4
              have hsz4 : w2.heap.size ≤ w4.heap.size := by have := hgr4.size; simp at this; omega
              go_roundw
              case rel => exact ⟨k + 1, A ++ [z0.getD k 0], by omega, by go_num, by simpa using hown5, by rw [hd1]; exact hlog4, hlogb4, hbel4, hsz4⟩
              case measure => simp [intOf]; omega
          · go_wp2_with fail
            refine (note_full lb kb A _ _ hlog (by omega)).mono ?_
            rintro e w3 ⟨rfl, h3⟩
            have h3 := h3.symm
            subst h3
            have hA : 256 ≤ A.length := by omega
            go_wp2
            go_roundw
            case rel => exact ⟨k + 1, A, by omega, by go_num, hown, by rw [hd1]; exact hlog, hlogb, hbel, hsz⟩
            case measure => simp [intOf]; omega
        · cases hao
          have hd1 : decide (r < k + 1) = true := decide_eq_true (by omega)
          by_cases hre : k = r
          · have hd0 : decide (r < k) = false := decide_eq_false (by omega)
            rw [hd0] at hlog
            subst hre
            go_wp2_with fail
            refine (close_open lb kb A _ hlog).mono ?_
            rintro e w3 ⟨rfl, hlog3, hgr3⟩
            have hown3 := hown.kept hgr3 (owns_far hown (by omega))
            have hbel3 := hbel.grown hgr3 hbel.size (fun j hj => by cases hj; omega)
            have hlogb3 := hlogb.grown hgr3 (by simp; omega) (by simp; omega)
            have hcx3 : w3.cell? ⟨b, off + k, none⟩ = some (.int .i64 (z0.getD k 0)) := (hbel3.cell hb).trans hc0
            have hsz3 : w2.heap.size ≤ w3.heap.size := Nat.le_trans hsz hgr3.size
            go_wp2_with fail
            refine (note_shut lb kb A _ _ hlog3).mono ?_
            rintro e w4 ⟨rfl, h3⟩
            have h3 := h3.symm
            subst h3
            go_wp2
            go_roundw
            case rel => exact ⟨k + 1, A, by omega, by go_num, hown3, by rw [hd1]; exact hlog3, hlogb3, hbel3, hsz3⟩
            case measure => simp [intOf]; omega
          · have hd0 : decide (r < k) = true := decide_eq_true (by omega)
            rw [hd0] at hlog
            have hcx : wr.cell? ⟨b, off + k, none⟩ = some (.int .i64 (z0.getD k 0)) := (hbel.cell hb).trans hc0
            go_wp2_with fail
            refine (note_shut lb kb A _ _ hlog).mono ?_
            rintro e w4 ⟨rfl, h3⟩
            have h3 := h3.symm
            subst h3
            go_wp2
            go_roundw
            case rel => exact ⟨k + 1, A, by omega, by go_num, hown, by rw [hd1]; exact hlog, hlogb, hbel, hsz⟩
            case measure => simp [intOf]; omega
      · have : len0 = k := by omega
        subst this
        obtain ⟨sh, hsh⟩ : ∃ x, x = decide (r < len0) := ⟨_, rfl⟩
        rw [← hsh] at hlog
        obtain ⟨v0, hv0⟩ : ∃ x, x = Value.slice ao A.length cp := ⟨_, rfl⟩
        go_wp2
        go_loopw [11] (fun i wr => ∃ (k : Nat), k ≤ len0 ∧ i = .int .i64 k ∧ wr.ownsRow w2.heap.size 3 1 (.slice ao A.length cp) A.length (A.map (Value.int .i64)) ∧ IsLog wr lb kb A sh ∧ IsLog wr lb2 kb2 [] false ∧ Below w.heap.size w wr ∧ w2.heap.size ≤ wr.heap.size) (fun i _ => len0 - (intOf i).toNat)
        case atStart => exact ⟨0, by omega, rfl, hown, hlog, hlogb, hbel, hsz⟩
        case round =>
          clear hown hlog hlogb hbel hsz
          obtain ⟨k, hk, rfl, hown, hlog, hlogb, hbel, hsz⟩ := hrel
          by_cases hkl : k < len0
          · obtain ⟨b, off, hao, hb, hcell⟩ := hrow (by omega)
            have hc0 := hcell k hkl
            cases hao
            have hcx : wr.cell? ⟨b, off + k, none⟩ = some (.int .i64 (z0.getD k 0)) := (hbel.cell hb).trans hc0
            obtain ⟨x, hx⟩ : ∃ x, z0.getD k 0 = x := ⟨_, rfl⟩
            rw [hx] at hcx hc0
            go_wp2_with fail
            refine (first_any lb kb A sh _ _ hlog).mono ?_
            rintro e w3 ⟨f, rfl, hf, hgr3⟩
            have hown3 := hown.kept hgr3 (Classical.em _)
            have hlog3 := hlog.grown hgr3 (by simp) (by simp)
            have hlogb3 := hlogb.grown hgr3 (by simp) (by simp)
            have hbel3 := hbel.grown hgr3 hbel.size (fun j hj => by cases hj)
            have hsz3 : w2.heap.size ≤ w3.heap.size := Nat.le_trans hsz hgr3.size
            have hcx3 : w3.cell? ⟨b, off + k, none⟩ = some (.int .i64 x) := (hbel3.cell hb).trans hc0
            have hI := Ints.of_owns hown3
            obtain ⟨ao', cp', heq, hcellA, _⟩ := hI
            cases heq
            rcases hf with ⟨rfl, hbefore⟩ | ⟨j, rfl, hj, hjx, hbefore⟩
            · have hlimA : A.length ≤ A.length := Nat.le_refl _
              go_wp2
              go_quiet (fail)
              go_wp2
              go_loopw [13] (fun i wr => ∃ m : Nat, m ≤ A.length ∧ i = .int .i64 m ∧ Dr w3 wr) (fun i _ => A.length - (intOf i).toNat)
              case atStart => exact ⟨0, by omega, rfl, rfl, rfl, rfl, rfl⟩
              case round =>
                obtain ⟨m, hm, rfl, hd⟩ := hrel
                by_cases hml : m < A.length
                · obtain ⟨b2, hao2, hcA⟩ := hcellA m (by omega)
                  cases hao2
                  have c2 : wr.cell? ⟨b2, m, none⟩ = some (.int .i64 (A.getD m 0)) := by rw [hd.cell]; exact hcA m (by omega)
                  have c1 : wr.cell? ⟨b, off + k, none⟩ = some (.int .i64 x) := by rw [hd.cell]; exact hcx3
                  have hne := hbefore m hml
                  obtain ⟨y, hy⟩ : ∃ y, A.getD m 0 = y := ⟨_, rfl⟩
                  rw [hy] at c2 hne
                  clear hy hcA hcellA hcell hbefore
                  have hmA : m < A.length := by omega
                  go_wp2
                  go_region
                  all_goals go_wp2
                  all_goals go_roundw
                  case rel => first | exact ⟨m + 1, by omega, by go_num, hd.drew⟩ | ((repeat apply Exists.intro); exact ⟨⟨m + 1, by omega, (congrArg (Value.int .i64) (by omega : ((m : Int) + 1) = ((m + 1 : Nat) : Int))), hd.drew⟩, rfl⟩)
                  case measure => simp [intOf]; omega
                · have : A.length = m := by omega
                  have hge : ¬ m < A.length := hml
                  go_wp2
                  have hownD := hown3.kept (hd.grown none) (Classical.em _)
                  have hlogD := hlog3.heap hd.1
                  have hlogbD := hlogb3.heap hd.1
                  have hbelD := hbel3.grown (hd.grown none) hbel3.size (fun j hj => by cases hj)
                  have hszD := Nat.le_trans hsz3 (hd.grown none).size
                  go_roundw
                  case rel => first | exact ⟨k + 1, by omega, by go_num, hownD, hlogD, hlogbD, hbelD, hszD⟩ | ((repeat apply Exists.intro); exact ⟨⟨k + 1, by omega, (congrArg (Value.int .i64) (by omega : ((k : Int) + 1) = ((k + 1 : Nat) : Int))), hownD, hlogD, hlogbD, hbelD, hszD⟩, rfl⟩)
                  case measure => simp [intOf]; omega
            · have hlimA : j ≤ A.length := by omega
              obtain ⟨b3, hao3, hc3⟩ := hcellA j hj
              cases hao3
              have hj3 : w3.cell? ⟨b3, j, none⟩ = some (.int .i64 x) := by rw [← hjx]; exact hc3 j hj
              have hge0 : (0 : Int) ≤ (j : Int) := by omega
              have hjA : (j : Int) < (A.length : Int) := by omega
              clear hc3 hjx
              have hnA : decide (A.length ≤ j) = false := decide_eq_false (by omega)
              go_wp2
              go_quiet (fail)
              go_wp2
              go_loopw [13] (fun i wr => ∃ m : Nat, m ≤ j ∧ i = .int .i64 m ∧ Dr w3 wr) (fun i _ => j - (intOf i).toNat)
              case atStart => exact ⟨0, by omega, rfl, rfl, rfl, rfl, rfl⟩
              case round =>
                obtain ⟨m, hm, rfl, hd⟩ := hrel
                by_cases hml : m < j
                · obtain ⟨b2, hao2, hcA⟩ := hcellA m (by omega)
                  cases hao2
                  have c2 : wr.cell? ⟨b3, m, none⟩ = some (.int .i64 (A.getD m 0)) := by rw [hd.cell]; exact hcA m (by omega)
                  have c1 : wr.cell? ⟨b, off + k, none⟩ = some (.int .i64 x) := by rw [hd.cell]; exact hcx3
                  have hne := hbefore m hml
                  obtain ⟨y, hy⟩ : ∃ y, A.getD m 0 = y := ⟨_, rfl⟩
                  rw [hy] at c2 hne
                  clear hy hcA hcellA hcell hbefore
                  have hmA : m < A.length := by omega
                  go_wp2
                  go_region
                  all_goals go_wp2
                  all_goals go_roundw
                  case rel => first | exact ⟨m + 1, by omega, by go_num, hd.drew⟩ | ((repeat apply Exists.intro); exact ⟨⟨m + 1, by omega, (congrArg (Value.int .i64) (by omega : ((m : Int) + 1) = ((m + 1 : Nat) : Int))), hd.drew⟩, rfl⟩)
                  case measure => simp [intOf]; omega
                · have : j = m := by omega
                  subst this
                  go_wp2
                  have hownD := hown3.kept (hd.grown none) (Classical.em _)
                  have hlogD := hlog3.heap hd.1
                  have hlogbD := hlogb3.heap hd.1
                  have hbelD := hbel3.grown (hd.grown none) hbel3.size (fun j hj => by cases hj)
                  have hszD := Nat.le_trans hsz3 (hd.grown none).size
                  go_roundw
                  case rel => first | exact ⟨k + 1, by omega, by go_num, hownD, hlogD, hlogbD, hbelD, hszD⟩ | ((repeat apply Exists.intro); exact ⟨⟨k + 1, by omega, (congrArg (Value.int .i64) (by omega : ((k : Int) + 1) = ((k + 1 : Nat) : Int))), hownD, hlogD, hlogbD, hbelD, hszD⟩, rfl⟩)
                  case measure => simp [intOf]; omega
          · have : len0 = k := by omega
            subst this
            have hcase : (sh = true ∧ r < len0) ∨ (sh = false ∧ ¬ r < len0) := by
              by_cases hrn : r < len0
              · exact .inl ⟨by rw [hsh]; exact decide_eq_true hrn, hrn⟩
              · exact .inr ⟨by rw [hsh]; exact decide_eq_false hrn, hrn⟩
            clear hsh
            rcases hcase with ⟨rfl, hrn⟩ | ⟨rfl, hrn⟩
            · have hrz : (r : Int) < (len0 : Int) := by omega
              have hrz3 : decide ((r : Int) < (len0 : Int)) = true := decide_eq_true hrz
              go_wp2_with fail
              refine (list_any lb kb A _ _ hlog).mono ?_
              rintro e w3 ⟨v3, rfl, hown3, hgr3⟩
              have hownA := hown.kept hgr3 (Classical.em _)
              have hlog3 := hlog.grown hgr3 (by simp) (by simp)
              have hlogb3 := hlogb.grown hgr3 (by simp) (by simp)
              have hbel3 := hbel.grown hgr3 hbel.size (fun j hj => by cases hj)
              go_wp2_with fail
              refine (same_true A _ _ _ (Ints.of_owns hown3) (Ints.of_owns hownA)).mono ?_
              rintro e w4 ⟨rfl, hd4⟩
              have hlog4 := hlog3.heap hd4.1
              have hlogb4 := hlogb3.heap hd4.1
              have hbel4 := hbel3.grown (hd4.grown none) hbel3.size (fun j hj => by cases hj)
              go_wp2_with fail
              refine (closed_any lb kb A _ _ hlog4).mono ?_
              rintro e w5 ⟨rfl, h5⟩
              have h5 := h5.symm
              subst h5
              go_wp2_with fail
              refine (list_any lb2 kb2 [] _ _ hlogb4).mono ?_
              rintro e w6 ⟨v6, rfl, hown6, hgr6⟩
              obtain ⟨ao6, cp6, rfl⟩ := owns_slice hown6
              have hlogb6 := hlogb4.grown hgr6 (by simp) (by simp)
              have hbel6 := hbel4.grown hgr6 hbel4.size (fun j hj => by cases hj)
              go_wp2_with fail
              refine (closed_any lb2 kb2 [] _ _ hlogb6).mono ?_
              rintro e w7 ⟨rfl, h7⟩
              have h7 := h7.symm
              subst h7
              go_wp2
              go_ret
              exact ⟨rfl, hbel6⟩
            · have hrz : ¬ ((r : Int) < (len0 : Int)) := by omega
              have hrz3 : decide ((r : Int) < (len0 : Int)) = false := decide_eq_false hrz
              go_wp2_with fail
              refine (list_any lb kb A _ _ hlog).mono ?_
              rintro e w3 ⟨v3, rfl, hown3, hgr3⟩
              have hownA := hown.kept hgr3 (Classical.em _)
              have hlog3 := hlog.grown hgr3 (by simp) (by simp)
              have hlogb3 := hlogb.grown hgr3 (by simp) (by simp)
              have hbel3 := hbel.grown hgr3 hbel.size (fun j hj => by cases hj)
              go_wp2_with fail
              refine (same_true A _ _ _ (Ints.of_owns hown3) (Ints.of_owns hownA)).mono ?_
              rintro e w4 ⟨rfl, hd4⟩
              have hlog4 := hlog3.heap hd4.1
              have hlogb4 := hlogb3.heap hd4.1
              have hbel4 := hbel3.grown (hd4.grown none) hbel3.size (fun j hj => by cases hj)
              go_wp2_with fail
              refine (closed_any lb kb A _ _ hlog4).mono ?_
              rintro e w5 ⟨rfl, h5⟩
              have h5 := h5.symm
              subst h5
              go_wp2_with fail
              refine (list_any lb2 kb2 [] _ _ hlogb4).mono ?_
              rintro e w6 ⟨v6, rfl, hown6, hgr6⟩
              obtain ⟨ao6, cp6, rfl⟩ := owns_slice hown6
              have hlogb6 := hlogb4.grown hgr6 (by simp) (by simp)
              have hbel6 := hbel4.grown hgr6 hbel4.size (fun j hj => by cases hj)
              go_wp2_with fail
              refine (closed_any lb2 kb2 [] _ _ hlogb6).mono ?_
              rintro e w7 ⟨rfl, h7⟩
              have h7 := h7.symm
              subst h7
              go_wp2
              go_ret
              exact ⟨rfl, hbel6⟩

open Go.ChangeShapes Go.WideShapes Go.ChangeAt
theorem own : ownKnob Try.prog.godebug = none := by kernel_rfl
theorem laidOut : laidOutB Try.prog = true := by kernel_rfl

set_option maxRecDepth 100000 in
theorem lifted (os : Os) (started : os.Started) (H : Type) (enc : TypeId × Value → H) :
    ReturnsInHanded {} Try.checked os 7 .any (Rows.startGrowsSpec.pre6 enc Try.prog Try.f7 Rows.startGrowsRow.domain false) (Rows.startGrowsSpec.post enc Try.prog Try.f7 false true false false) := by
  refine returnsInHanded_of_change (C := Try.checked) own started (by kernel_rfl) Try.func7
    (ChangeSpec.witness6 (enc := enc) (C := Try.checked) false ⟨#[], #[.slice none 0 0, .int .i64 0], []⟩ 8 (by kernel_rfl) (by kernel_rfl) (by kernel_rfl) (by kernel_rfl)) ?_
  intro W base args ds gs before hval0 hW hcnd _
  have hval : ∀ (j : Nat) t v, Try.f7.params[j]? = some t → args[j]? = some v → Value.okWide Try.prog W .any base t v := hval0
  have hW' := hW
  obtain ⟨p, q, hA0, hV, rfl, hfz, hnd⟩ := hW
  have hA : DataW.TrodAll enc Try.prog W 0 (fun _ => true) true Try.f7.params.toList args.toList ds p := hA0
  rw [Try.params7] at hA hval
  obtain ⟨v0, vs0, d0, ds0, p0, q0, hargs, rfl, rfl, h0, r0⟩ := trodAll_cons hA
  obtain ⟨v1, vs1, d1, ds1, p1, q1, rfl, rfl, rfl, h1, r1⟩ := trodAll_cons r0
  obtain ⟨rfl, rfl, rfl⟩ := trodAll_nil r1
  obtain rfl : args = #[v0, v1] := by cases args; simp_all
  obtain ⟨rfl, rfl⟩ := trodVars_none hV
  obtain ⟨a0, len0, cap0, rfl⟩ := okWide_slice Try.underlying44 (hval 0 44 v0 rfl rfl)
  have k0 := h0
  have lt0 : ∀ x ∈ p0, x.block < W.heap.size := by obtain ⟨m, hm⟩ := k0; exact DataW.trod_lt m _ _ _ hm
  obtain ⟨z0, w0⟩ : ∃ zs, IsRow .i64 W a0 len0 cap0 zs := by
    obtain ⟨fuel, hf⟩ := h0
    rcases open_ints Try.underlying44 Try.underlying3 (by kernel_rfl) hf with ⟨hcs, _⟩ | ⟨x, l, c, zs, hcs, _, hl, hm, hz, _, hcell, hwz⟩
    · simp [Value.cells] at hcs
      obtain ⟨rfl, rfl, rfl⟩ := hcs
      exact ⟨[], .inl ⟨rfl, rfl, rfl, rfl⟩⟩
    · simp [Value.cells] at hcs
      obtain ⟨rfl, rfl, rfl⟩ := hcs
      exact ⟨zs, .inr ⟨_, rfl, hl, hm, by simpa using hz, hcell, hwz⟩⟩
  obtain ⟨a1, rfl, rfl, rfl, w1⟩ := open_int Try.underlying3 (hval 1 3 v1 rfl rfl) h1
  clear hA0 hval0
  refine (walk a0 len0 cap0 z0 a1 W w0 w1).mono fun e W' ⟨he, bel⟩ => ?_
  subst he
  exact ⟨_, rfl, _, _, _, [], _, [], hW', trodAll_mk1 (shut_bool Try.underlying4 _), (trodAll_cons_mk (Below.trod laidOut (by kernel_rfl) (of_decide_eq_true (by kernel_rfl)) k0 bel lt0) (trodAll_cons_mk (shut_int Try.underlying3 w1) trodAll_mk0)), rfl, bel.frame _, fun h => by cases h⟩

theorem over : Rows.startGrowsRow.holds Try.pinned (OpenSpec.ofChange Rows.startGrowsSpec) :=
  OpenClaim.holds_of_wide 7 Try.f7 rfl rfl rfl rfl rfl rfl rfl ⟨rfl, rfl, rfl, rfl, rfl⟩ rfl rfl rfl rfl rfl (by kernel_rfl) Try.func7 (by kernel_rfl)
    (of_decide_eq_true (by kernel_rfl)) (by unfold Func.isWrapper; first | (rw [if_pos (by decide +kernel)]; kernel_rfl) | (rw [if_neg (by decide +kernel)]; exact ⟨rfl, rfl⟩))
    (fun os started H enc _ => lifted os started H enc)

end Go.Proofs.Ytjhcpojfjmnllaa.startGrows
namespace Go.Proofs.Ytjhcpojfjmnllaa
theorem StartGrowsHolds : Rows.StartGrowsSaid := startGrows.over
#print axioms StartGrowsHolds
end Go.Proofs.Ytjhcpojfjmnllaa
