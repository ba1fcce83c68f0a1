/- The law FireFills: for every input the call returns true, in whatever memory. No condition but the listed variables. -/
import Derived.Test.YtfahpjgfcndefaaDoorRows
import Derived.Test.YtfahpjgfcndefaaDoorCards
import Derived.Test.YtfahpjgfcndefaaDoorTie
import Derived.Test.YtfahpjgfcndefaaDoorSim
import Derived.Test.YtfahpjgfcndefaaDoorKn
import Derived.Test.YtfahpjgfcndefaaDoorFdFire
import Derived.Laws.Cover1
import Derived.WalkKit
import Derived.ProofKit
import Derived.OpenShut
import Derived.ShutString
import Derived.ChangeOld
import Derived.Below
import Derived.RegionTactic
import Derived.BigRegion
import Derived.OwnWalk
import Derived.LaidMore
import Derived.Lay
import Derived.SevenTiedAt
import Derived.Stop.Joined
import Derived.Maps.AppendAt
import Derived.Deep.QuietTactic
import Derived.BigQuiet
import Derived.StillTailTactics
import Derived.Deep.RegionWith
import Derived.Deep.CutBlock
namespace Go.Proofs.YtfahpjgfcndefaaDoor.fireFills
open Go.ChangeShapes Go.WideShapes Go.ChangeAt Go.RowKit
set_option linter.unusedVariables false

theorem own : ownKnob Tryd.prog.godebug = none := by kernel_rfl
theorem laidOut : laidOutB Tryd.prog = true := by kernel_rfl
theorem num : Sim.NumOK Tryd.prog := Sim.numOK_of (by kernel_rfl)
theorem mixed : Tryd.prog.follows .mixedOrders = true := by kernel_rfl

/-- what the walk is told of a list of integers that came in -/
def IsRow (k : IntKind) (w : World) (a : Option Addr) (len cap : Nat) (zs : List Int) : Prop :=
  (a = none ∧ len = 0 ∧ cap = 0 ∧ zs = []) ∨
  ∃ x, a = some x ∧ len ≤ cap ∧ cap ≤ maxLen ∧ zs.length = cap ∧ (∀ i, i < zs.length → w.cell? (x.add i) = some (.int k (zs.getD i 0))) ∧ ∀ n ∈ zs, (Lit.int k n).wf = true

theorem IsRow.use {w : World} {a : Option Addr} {len cap : Nat} {zs : List Int} (h : IsRow .i64 w a len cap zs) :
    len ≤ cap ∧ cap ≤ maxLen ∧ (0 < len → ∃ b off, a = some ⟨b, off, none⟩ ∧ b < w.heap.size ∧ ∀ j, j < len → w.cell? ⟨b, off + j, none⟩ = some (.int .i64 (zs.getD j 0)) ∧ (Lit.int .i64 (zs.getD j 0)).wf = true) := by
  rcases h with ⟨rfl, rfl, rfl, rfl⟩ | ⟨⟨b, off, spot⟩, rfl, h1, h2, h3, h4, h5⟩
  · exact ⟨Nat.le_refl _, Nat.zero_le _, fun h => absurd h (by omega)⟩
  · refine ⟨h1, h2, fun hp => ?_⟩
    have h0 := h4 0 (by omega)
    have hs : spot = none := by
      cases spot with
      | none => rfl
      | some s =>
        exfalso
        have : (⟨b, off, some s⟩ : Addr).add 0 = ⟨b, off, some s⟩ := by unfold Addr.add; simp
        rw [this] at h0
        unfold World.cell? at h0
        split at h0 <;> simp at h0
    subst hs
    have hadd : ∀ j, (⟨b, off, none⟩ : Addr).add j = ⟨b, off + j, none⟩ := fun j => by unfold Addr.add; split <;> simp_all
    refine ⟨b, off, rfl, ?_, fun j hj => ⟨by rw [← hadd]; exact h4 j (by omega), h5 _ (by rw [List.getD, List.getElem?_eq_getElem (by omega)]; exact List.getElem_mem _)⟩⟩
    rw [hadd] at h0
    exact World.block_lt_of_cell? w _ h0
/-- a number from 0 to n - 1 -/
theorem pick_any (a m : Int) (w : World) (wf : (Lit.int .i64 a).wf = true) (hm : 0 < m) (hm2 : m ≤ 1000000) :
    Calls Tryd.prog 10 #[.int .i64 a, .int .i64 m] w fun e w' => ∃ r : Nat, e = .returned (.int .i64 r) ∧ (r : Int) < m ∧ w = w' := by
  have h1 := Int.tmod_lt_of_pos a hm
  have h2 := Int.lt_tmod_of_pos a hm
  have h3 : wrap64 (a.tmod m + m) = a.tmod m + m := by unfold wrap64; omega
  go_enter Tryd.func10, Tryd.ntmps10
  go_wp2
  · go_ret
    exact ⟨(a.tmod m + m).toNat, by rw [Int.toNat_of_nonneg (by omega)]; rfl, by rw [Int.toNat_of_nonneg (by omega)]; omega, rfl⟩
  · go_ret
    exact ⟨(a.tmod m).toNat, by rw [Int.toNat_of_nonneg (by assumption)]; rfl, by rw [Int.toNat_of_nonneg (by assumption)]; omega, rfl⟩

theorem known1 {w w' : World} (h : Sim.Known 1 kn.gl w) (hb : Below w.heap.size w w') : Sim.Known 1 kn.gl w' :=
  ⟨Nat.le_trans h.1 hb.size, fun p hp => let ⟨a, b, c, d, f⟩ := h.2 p hp; ⟨a, b, c, d, fun i v hv => (hb.cell (p := ⟨p.1, i, none⟩) (Nat.lt_of_lt_of_le a h.1)).trans (f i v hv)⟩⟩

set_option maxRecDepth 100000 in
set_option maxHeartbeats 20000000 in
theorem walk (a0 : Option Addr) (len0 cap0 : Nat) (z0 : List Int) (w : World) (w0 : IsRow .i64 w a0 len0 cap0 z0) (hk : True) : Calls Tryd.prog 5 #[.slice a0 len0 cap0] w fun e w' => e = .returned (.bool true) ∧ Below w.heap.size w w' := by
  obtain ⟨hlc, hcm, hrow⟩ := w0.use
  clear w0
  unfold maxLen at hcm
  by_cases h100 : len0 ≤ 100
  · have hd100 : decide ((100 : Int) < (len0 : Int)) = false := decide_eq_false (by omega)
    go_enter Tryd.func5, Tryd.ntmps5
    go_wp2_with fail
    refine (fiFire.c_list _).mono ?_
    rintro e wL ⟨⟨cb, cap, q, en, rfl, hcap, hcb0, hcb, hq, hS, hne, hlie⟩, hbL⟩
    have hszL := hbL.size
    go_wp2
    go_loopw [4] (fun i wr => ∃ (k : Nat) (p : Nat → Nat), k ≤ 100 ∧ k ≤ len0 ∧ i = .int .i64 k ∧ wL.grownBy wr (some cb) ∧ fiFire.Lie wr cb q p ∧ (∀ i, i < 6 → p i < 6) ∧ (∀ i j, i < 6 → j < 6 → p i = p j → i = j)) (fun i _ => len0 - (intOf i).toNat)
    case atStart => exact ⟨0, fun i => i, by omega, by omega, rfl, fiFire.grown_refl _ _, hlie, fun i h => h, fun i j _ _ h => h⟩
    case round =>
      clear hlie
      obtain ⟨k, p, hk60, hkl, rfl, hg, hlie, hp6, hpi⟩ := hrel
      by_cases hlt1 : k < len0
      · obtain ⟨b, off, rfl, hb, hcell⟩ := hrow (by omega)
        obtain ⟨hc0, hwf⟩ := hcell k hlt1
        obtain ⟨z, hz⟩ : ∃ z, z0.getD k 0 = z := ⟨_, rfl⟩
        rw [hz] at hc0 hwf
        have hbelr := hbL.grown hg hszL (fun j hj => by cases hj; exact hcb0)
        have hcx : wr.cell? ⟨b, off + k, none⟩ = some (.int .i64 z) := (hbelr.cell (p := ⟨b, off + k, none⟩) hb).trans hc0
        clear hcell hc0
        have hd1 : decide ((k : Int) < (len0 : Int)) = true := decide_eq_true (by omega)
  
        go_wp2_with fail
        refine (pick_any z 6 _ hwf (by omega) (by omega)).mono ?_
        rintro e wx ⟨s, rfl, hsI, rfl⟩
        obtain ⟨r, hr⟩ : ∃ r, k % 6 = r := ⟨_, rfl⟩
        have hs6 : s < 6 := by omega
        have hr6 : r < 6 := by omega
        go_wp2
        have hsi : (k : Int) % 6 = (r : Int) := by omega
        rw [hsi]
        have hrI : (r : Int) < 6 := by omega
        have hlieD : fiFire.Lie wr.drew cb q p := hlie.heap rfl
        have hlie2 := hlieD.swap hs6 hr6 hp6
        have hlt6 := fiFire.swp_lt hs6 hr6 hp6
        have hinj := fiFire.swp_inj hs6 hr6 hpi
        have hex1 := hlieD.ex hs6 hp6 (fiFire.cw_len q (hp6 r hr6))
        have hex2 := hlieD.ex2 hs6 hr6 hp6
        have hfr1 := hlieD.fro
        have hfr2 := fun o => (fiFire.put_fro (a := ⟨cb, o, none⟩) (cb := cb) (fiFire.cw q (p r)) wr.drew (s * 9)).trans (hfr1 o)
        have hone1 := fiFire.cw_one q (hp6 r hr6)
        have hone2 := fiFire.cw_one q (hp6 s hs6)
        have hgw : wr.grownBy (fiFire.put (fiFire.put wr.drew cb (s * 9) (fiFire.cw q (p r))) cb (r * 9) (fiFire.cw q (p s))) (some cb) := fiFire.grown_trans (fiFire.grown_trans (fiFire.grown_drew wr _) (fiFire.put_grown _ _ _)) (fiFire.put_grown _ _ _)
        obtain ⟨u0, u1, u2, u3, u4, u5, u6, u7, u8, hus⟩ := fiFire.cw_nine q (hp6 s hs6)
        obtain ⟨x0, x1, x2, x3, x4, x5, x6, x7, x8, hxs⟩ := fiFire.cw_nine q (hp6 r hr6)
        rw [hxs] at hlie2 hex1 hex2 hfr2 hone1 hgw
        rw [hus] at hlie2 hex2 hone2 hgw
        have cu0 : wr.cell? ⟨cb, s * 9, none⟩ = some u0 := hlie.cell s 0 u0 hs6 (by rw [hus]; rfl)
        have cx0 : wr.cell? ⟨cb, r * 9, none⟩ = some x0 := hlie.cell r 0 x0 hr6 (by rw [hxs]; rfl)
        have cu1 : wr.cell? ⟨cb, s * 9 + 1, none⟩ = some u1 := hlie.cell s 1 u1 hs6 (by rw [hus]; rfl)
        have cx1 : wr.cell? ⟨cb, r * 9 + 1, none⟩ = some x1 := hlie.cell r 1 x1 hr6 (by rw [hxs]; rfl)
        have cu2 : wr.cell? ⟨cb, s * 9 + 2, none⟩ = some u2 := hlie.cell s 2 u2 hs6 (by rw [hus]; rfl)
        have cx2 : wr.cell? ⟨cb, r * 9 + 2, none⟩ = some x2 := hlie.cell r 2 x2 hr6 (by rw [hxs]; rfl)
        have cu3 : wr.cell? ⟨cb, s * 9 + 3, none⟩ = some u3 := hlie.cell s 3 u3 hs6 (by rw [hus]; rfl)
        have cx3 : wr.cell? ⟨cb, r * 9 + 3, none⟩ = some x3 := hlie.cell r 3 x3 hr6 (by rw [hxs]; rfl)
        have cu4 : wr.cell? ⟨cb, s * 9 + 4, none⟩ = some u4 := hlie.cell s 4 u4 hs6 (by rw [hus]; rfl)
        have cx4 : wr.cell? ⟨cb, r * 9 + 4, none⟩ = some x4 := hlie.cell r 4 x4 hr6 (by rw [hxs]; rfl)
        have cu5 : wr.cell? ⟨cb, s * 9 + 5, none⟩ = some u5 := hlie.cell s 5 u5 hs6 (by rw [hus]; rfl)
        have cx5 : wr.cell? ⟨cb, r * 9 + 5, none⟩ = some x5 := hlie.cell r 5 x5 hr6 (by rw [hxs]; rfl)
        have cu6 : wr.cell? ⟨cb, s * 9 + 6, none⟩ = some u6 := hlie.cell s 6 u6 hs6 (by rw [hus]; rfl)
        have cx6 : wr.cell? ⟨cb, r * 9 + 6, none⟩ = some x6 := hlie.cell r 6 x6 hr6 (by rw [hxs]; rfl)
        have cu7 : wr.cell? ⟨cb, s * 9 + 7, none⟩ = some u7 := hlie.cell s 7 u7 hs6 (by rw [hus]; rfl)
        have cx7 : wr.cell? ⟨cb, r * 9 + 7, none⟩ = some x7 := hlie.cell r 7 x7 hr6 (by rw [hxs]; rfl)
        have cu8 : wr.cell? ⟨cb, s * 9 + 8, none⟩ = some u8 := hlie.cell s 8 u8 hs6 (by rw [hus]; rfl)
        have cx8 : wr.cell? ⟨cb, r * 9 + 8, none⟩ = some x8 := hlie.cell r 8 x8 hr6 (by rw [hxs]; rfl)
        clear hlieD hsi hr hus hxs hlie
        obtain ⟨iC, hiC, hsC⟩ := fiFire.infoC
        have hl1 : [x0, x1, x2, x3, x4, x5, x6, x7, x8].length = iC.size := by simp [hsC]
        have hl2 : [u0, u1, u2, u3, u4, u5, u6, u7, u8].length = iC.size := by simp [hsC]
        obtain ⟨Ws, hW0, hW9, hWs⟩ := fiFire.run_chain Tryd.prog hone1 hex1 hfr1
        have hW9 : Ws 9 = _ := hW9
        rw [← hW9] at hlie2 hex2 hfr2 hgw
        obtain ⟨Vs, hV0, hV9, hVs⟩ := fiFire.run_chain Tryd.prog hone2 hex2 hfr2
        have hV9 : Vs 9 = _ := hV9
        rw [← hV9] at hlie2 hgw
        have q0 : Sem.run Tryd.prog (store ⟨cb, s * 9, none⟩ x0) wr.drew = .ok () (Ws 1) := by have h := hWs 0 x0 rfl; rw [hW0] at h; exact h
        have q1 : Sem.run Tryd.prog (store ⟨cb, s * 9 + 1, none⟩ x1) (Ws 1) = .ok () (Ws 2) := by have h := hWs 1 x1 rfl; exact h
        have q2 : Sem.run Tryd.prog (store ⟨cb, s * 9 + 2, none⟩ x2) (Ws 2) = .ok () (Ws 3) := by have h := hWs 2 x2 rfl; exact h
        have q3 : Sem.run Tryd.prog (store ⟨cb, s * 9 + 3, none⟩ x3) (Ws 3) = .ok () (Ws 4) := by have h := hWs 3 x3 rfl; exact h
        have q4 : Sem.run Tryd.prog (store ⟨cb, s * 9 + 4, none⟩ x4) (Ws 4) = .ok () (Ws 5) := by have h := hWs 4 x4 rfl; exact h
        have q5 : Sem.run Tryd.prog (store ⟨cb, s * 9 + 5, none⟩ x5) (Ws 5) = .ok () (Ws 6) := by have h := hWs 5 x5 rfl; exact h
        have q6 : Sem.run Tryd.prog (store ⟨cb, s * 9 + 6, none⟩ x6) (Ws 6) = .ok () (Ws 7) := by have h := hWs 6 x6 rfl; exact h
        have q7 : Sem.run Tryd.prog (store ⟨cb, s * 9 + 7, none⟩ x7) (Ws 7) = .ok () (Ws 8) := by have h := hWs 7 x7 rfl; exact h
        have q8 : Sem.run Tryd.prog (store ⟨cb, s * 9 + 8, none⟩ x8) (Ws 8) = .ok () (Ws 9) := by have h := hWs 8 x8 rfl; exact h
        have p0 : Sem.run Tryd.prog (store ⟨cb, r * 9, none⟩ u0) (Ws 9) = .ok () (Vs 1) := by have h := hVs 0 u0 rfl; rw [hV0] at h; exact h
        have p1 : Sem.run Tryd.prog (store ⟨cb, r * 9 + 1, none⟩ u1) (Vs 1) = .ok () (Vs 2) := by have h := hVs 1 u1 rfl; exact h
        have p2 : Sem.run Tryd.prog (store ⟨cb, r * 9 + 2, none⟩ u2) (Vs 2) = .ok () (Vs 3) := by have h := hVs 2 u2 rfl; exact h
        have p3 : Sem.run Tryd.prog (store ⟨cb, r * 9 + 3, none⟩ u3) (Vs 3) = .ok () (Vs 4) := by have h := hVs 3 u3 rfl; exact h
        have p4 : Sem.run Tryd.prog (store ⟨cb, r * 9 + 4, none⟩ u4) (Vs 4) = .ok () (Vs 5) := by have h := hVs 4 u4 rfl; exact h
        have p5 : Sem.run Tryd.prog (store ⟨cb, r * 9 + 5, none⟩ u5) (Vs 5) = .ok () (Vs 6) := by have h := hVs 5 u5 rfl; exact h
        have p6 : Sem.run Tryd.prog (store ⟨cb, r * 9 + 6, none⟩ u6) (Vs 6) = .ok () (Vs 7) := by have h := hVs 6 u6 rfl; exact h
        have p7 : Sem.run Tryd.prog (store ⟨cb, r * 9 + 7, none⟩ u7) (Vs 7) = .ok () (Vs 8) := by have h := hVs 7 u7 rfl; exact h
        have p8 : Sem.run Tryd.prog (store ⟨cb, r * 9 + 8, none⟩ u8) (Vs 8) = .ok () (Vs 9) := by have h := hVs 8 u8 rfl; exact h
        clear hl1 hl2 hone1 hone2 hex1 hex2 hfr1 hfr2 hW0 hV0 hWs hVs hW9 hV9
        go_region
        all_goals go_wp2
        all_goals go_roundw
        case rel => exact ⟨k + 1, fiFire.swp p s r, by omega, by omega, by go_num, fiFire.grown_heap (fiFire.grown_trans hg hgw) rfl rfl rfl rfl, hlie2.heap rfl, hlt6, hinj⟩
        case measure => simp [intOf]; omega
      · have hd1 : decide ((k : Int) < (len0 : Int)) = false := decide_eq_false (by omega)
        have hP := fiFire.Parts.frame hS hq hne hg
        have hcbr : cb < wr.heap.size := Nat.lt_of_lt_of_le hcb hg.size
        have hbr : Below w.heap.size w wr := hbL.grown hg hszL (fun j hj => by cases hj; exact hcb0)
        obtain ⟨wm, hwm⟩ : ∃ wm, wm = wr := ⟨_, rfl⟩
        subst hwm
        go_wp2_with fail
        refine (fiFire.c_new q _ hP).mono ?_
        rintro e wN ⟨⟨bk, rfl, hH⟩, hbN⟩
        have hlieN := hlie.kept (hbN.block cb hcbr)
        have hbelN : Below w.heap.size w wN := hbr.trans (hbN.mono hbr.size)
        have hszN := hbN.size
        have hBw := hbr.size
        obtain ⟨Bar, hBar⟩ : ∃ B, wm.heap.size = B := ⟨_, rfl⟩
        rw [hBar] at hH hcbr hbN hBw hszN
        clear hP hg hlie hS hq hne hbN hbr hBar hbL hszL hcb
        go_wp2
        go_loopw [8] (fun i wr => ∃ (m T : Nat), m ≤ 6 ∧ i = .int .i64 m ∧ T < 64 ∧ (∀ i, i < 6 → Sim.hasM T i = true → ∃ j, j < m ∧ p j = i) ∧ fiFire.cntM T = m ∧ fiFire.Holds wr Bar bk q (Sim.mem fiFire.order T) false Sim.rest0 ∧ fiFire.Lie wr cb q p ∧ Below w.heap.size w wr ∧ Bar ≤ wr.heap.size) (fun i _ => 6 - (intOf i).toNat)
        case atStart => exact ⟨0, 0, by omega, rfl, by omega, fun i hi h => absurd h (by rw [fiFire.none0 i hi]; decide), rfl, hH, hlieN, hbelN, hszN⟩
        case round =>
          clear hH hlieN hbelN hszN
          obtain ⟨m, T, hm6, rfl, hT, hin, hcnt, hH, hlie, hbel, hBsz⟩ := hrel
          by_cases hlt : m < 6
          · have hpm := hp6 m hlt
            have hno : Sim.hasM T (p m) = false := by
              cases hh : Sim.hasM T (p m) with
              | false => rfl
              | true =>
                obtain ⟨j, hj, hje⟩ := hin _ hpm hh
                have := hpi j m (by omega) hlt hje
                omega
            obtain ⟨hT2, hbits⟩ := fiFire.bits_add hT hpm hno
            have hcnt2 := fiFire.cnt_add hT hpm hno
            have hchk := fiFire.c_check q (p m) hpm wr (hH.parts hT)
            obtain ⟨v0, v2, v3, v4, v5, v6, v7, v8, hvs⟩ := fiFire.cw_suit q hpm
            rw [show fiFire.suitNo = 3 from by kernel_rfl] at hvs
            have cv0 : wr.cell? ⟨cb, m * 9, none⟩ = some v0 := hlie.cell m 0 _ hlt (by rw [hvs]; rfl)
            have cv1 : wr.cell? ⟨cb, m * 9 + 1, none⟩ = some (.int .u8 3) := hlie.cell m 1 _ hlt (by rw [hvs]; rfl)
            have cv2 : wr.cell? ⟨cb, m * 9 + 2, none⟩ = some v2 := hlie.cell m 2 _ hlt (by rw [hvs]; rfl)
            have cv3 : wr.cell? ⟨cb, m * 9 + 3, none⟩ = some v3 := hlie.cell m 3 _ hlt (by rw [hvs]; rfl)
            have cv4 : wr.cell? ⟨cb, m * 9 + 4, none⟩ = some v4 := hlie.cell m 4 _ hlt (by rw [hvs]; rfl)
            have cv5 : wr.cell? ⟨cb, m * 9 + 5, none⟩ = some v5 := hlie.cell m 5 _ hlt (by rw [hvs]; rfl)
            have cv6 : wr.cell? ⟨cb, m * 9 + 6, none⟩ = some v6 := hlie.cell m 6 _ hlt (by rw [hvs]; rfl)
            have cv7 : wr.cell? ⟨cb, m * 9 + 7, none⟩ = some v7 := hlie.cell m 7 _ hlt (by rw [hvs]; rfl)
            have cv8 : wr.cell? ⟨cb, m * 9 + 8, none⟩ = some v8 := hlie.cell m 8 _ hlt (by rw [hvs]; rfl)
            rw [hvs] at hchk
            have hmI : (m : Int) < 6 := by omega
            go_wp2_with fail
            refine hchk.mono ?_
            rintro e w3 ⟨rfl, hb3⟩
            have hH3 := hH.kept hb3
            have hlie3 := hlie.kept (hb3.block cb (Nat.lt_of_lt_of_le hcbr hBsz))
            have hbel3 := hbel.trans (hb3.mono hbel.size)
            have hB3 := Nat.le_trans hBsz hb3.size
            have cw0 : w3.cell? ⟨cb, m * 9, none⟩ = some v0 := hlie3.cell m 0 _ hlt (by rw [hvs]; rfl)
            have cw1 : w3.cell? ⟨cb, m * 9 + 1, none⟩ = some (.int .u8 3) := hlie3.cell m 1 _ hlt (by rw [hvs]; rfl)
            have cw2 : w3.cell? ⟨cb, m * 9 + 2, none⟩ = some v2 := hlie3.cell m 2 _ hlt (by rw [hvs]; rfl)
            have cw3 : w3.cell? ⟨cb, m * 9 + 3, none⟩ = some v3 := hlie3.cell m 3 _ hlt (by rw [hvs]; rfl)
            have cw4 : w3.cell? ⟨cb, m * 9 + 4, none⟩ = some v4 := hlie3.cell m 4 _ hlt (by rw [hvs]; rfl)
            have cw5 : w3.cell? ⟨cb, m * 9 + 5, none⟩ = some v5 := hlie3.cell m 5 _ hlt (by rw [hvs]; rfl)
            have cw6 : w3.cell? ⟨cb, m * 9 + 6, none⟩ = some v6 := hlie3.cell m 6 _ hlt (by rw [hvs]; rfl)
            have cw7 : w3.cell? ⟨cb, m * 9 + 7, none⟩ = some v7 := hlie3.cell m 7 _ hlt (by rw [hvs]; rfl)
            have cw8 : w3.cell? ⟨cb, m * 9 + 8, none⟩ = some v8 := hlie3.cell m 8 _ hlt (by rw [hvs]; rfl)
            have hadd := fiFire.c_add q T (p m) Bar bk hT hpm hno w3 hH3
            rw [hvs] at hadd
            clear cv0 cv1 cv2 cv3 cv4 cv5 cv6 cv7 cv8 hvs hlie hH hH3 hchk
            go_wp2_with fail
            refine hadd.mono ?_
            rintro e w4 ⟨rfl, hH4, hb4⟩
            have hlie4 := hlie3.kept (hb4.block cb hcbr)
            have hbel4 := hbel3.trans (hb4.mono hBw)
            go_wp2
            go_roundw
            case rel => exact ⟨m + 1, T + 2 ^ p m, by omega, by go_num, hT2, fun i hi h => by
              rw [hbits i hi] at h
              by_cases hip : i = p m
              · exact ⟨m, by omega, hip.symm⟩
              · obtain ⟨j, hj, hje⟩ := hin i hi (by simpa [hip] using h)
                exact ⟨j, by omega, hje⟩, by rw [hcnt2, hcnt], hH4, hlie4, hbel4, Nat.le_trans hB3 hb4.size⟩
            case measure => simp [intOf]; omega
          · have : m = 6 := by omega
            subst this
            have hT63 := fiFire.cnt_full hT hcnt
            subst hT63
            have hX : fiFire.HoldsX wr Bar bk [] 13 (Sim.roB fiFire.t 6 fiFire.order) fiFire.order false Sim.rest0 := hH.x
            go_upto_region 15 with (fail)
            obtain ⟨e0, k0, hRS, hbk, -⟩ := hX
            refine Sim.tail_run (fuel := 60) (l := [_, _]) num mixed fiFire.H_ok rfl ⟨_, _, rfl, (by assumption), _, _, rfl, (by assumption), fun _ _ _ h => h⟩ 155 [(7, .pointer (some ⟨6, 0, none⟩))] (by kernel_rfl) rfl rfl (fun p hp => ?_) hRS (fiFire.globs0 _) (fun w' hb => ⟨rfl, hbel.trans (hb.mono hBw)⟩)
            obtain rfl := List.mem_singleton.1 hp
            exact ⟨_, rfl, Sim.RV.ptr hbk⟩
  · have hd100 : decide ((100 : Int) < (len0 : Int)) = true := decide_eq_true (by omega)
    go_enter Tryd.func5, Tryd.ntmps5
    go_wp2_with fail
    refine (fiFire.c_list _).mono ?_
    rintro e wL ⟨⟨cb, cap, q, en, rfl, hcap, hcb0, hcb, hq, hS, hne, hlie⟩, hbL⟩
    have hszL := hbL.size
    go_wp2
    go_ret
    exact ⟨rfl, hbL⟩

set_option maxRecDepth 100000 in
theorem lifted (os : Os) (started : os.Started) (H : Type) (enc : TypeId × Value → H) :
    ReturnsInHanded {} Tryd.checked os 5 .any (fun w args => (Rows.fireFillsSpec.pre enc Tryd.prog Tryd.f5 Rows.fireFillsRow.domain false w args ∧ laidMetH Tryd.prog Rows.fireFillsRow.laid w) ∧ sizedMet enc Tryd.prog Tryd.f5 (OpenSpec.ofChange Rows.fireFillsSpec) false w args)
      (Rows.fireFillsSpec.post enc Tryd.prog Tryd.f5 false true false false) := by
  refine returnsInHanded_of_change_and (C := Tryd.checked) (X := fun w _ => laidMetH Tryd.prog Rows.fireFillsRow.laid w) (fun _ _ _ hh h => h.of_heap hh) own started (by kernel_rfl) Tryd.func5
    (ChangeSpec.witness_shaped (enc := enc) (C := Tryd.checked) (os := os) (X := fun w _ => laidMetH Tryd.prog Rows.fireFillsRow.laid w) false (World.laidAll Tryd.prog os Rows.fireFillsRow.laid) #[.slice none 0 0] 8 (World.laidAll_os _ _ _)
      (World.shaped_of_ZipB (by kernel_rfl) (by kernel_rfl)) (by kernel_rfl) (by kernel_rfl) (by kernel_rfl)
      (by rw [MakeChecks.laidMetH_plain _ _ _ (by kernel_rfl)]; exact laidMet_laidAll _ (by kernel_rfl) (by kernel_rfl))) ?_
  intro W base args ds gs before hval0 hW _ _ hL _
  have hval : ∀ (j : Nat) t v, Tryd.f5.params[j]? = some t → args[j]? = some v → Value.okWide Tryd.prog W .any base t v := hval0
  have hW' := hW
  obtain ⟨p, q, hA0, hV, rfl, hfz, hnd⟩ := hW
  have hA : DataW.TrodAll enc Tryd.prog W 0 (fun _ => true) true Tryd.f5.params.toList args.toList ds p := hA0
  rw [Tryd.params5] at hA hval
  obtain ⟨v0, vs0, d0, ds0, p0, q0, hargs, rfl, rfl, h0, r0⟩ := trodAll_cons hA
  obtain ⟨rfl, rfl, rfl⟩ := trodAll_nil r0
  obtain rfl : args = #[v0] := by cases args; simp_all
  obtain ⟨rfl, rfl⟩ := trodVars_none hV
  obtain ⟨a0, len0, cap0, rfl⟩ := okWide_slice Tryd.underlying22 (hval 0 22 v0 rfl rfl)
  have k0 := h0
  have lt0 : ∀ x ∈ p0, x.block < W.heap.size := by obtain ⟨m, hm⟩ := k0; exact DataW.trod_lt m _ _ _ hm
  obtain ⟨z0, w0⟩ : ∃ zs, IsRow .i64 W a0 len0 cap0 zs := by
    obtain ⟨fuel, hf⟩ := h0
    rcases open_ints Tryd.underlying22 Tryd.underlying3 (by kernel_rfl) hf with ⟨hcs, _⟩ | ⟨x, l, c, zs, hcs, _, hl, hm, hz, _, hcell, hwz⟩
    · simp [Value.cells] at hcs
      obtain ⟨rfl, rfl, rfl⟩ := hcs
      exact ⟨[], .inl ⟨rfl, rfl, rfl, rfl⟩⟩
    · simp [Value.cells] at hcs
      obtain ⟨rfl, rfl, rfl⟩ := hcs
      exact ⟨zs, .inr ⟨_, rfl, hl, hm, by simpa using hz, hcell, hwz⟩⟩
  clear hA0 hval0
  simp only [List.append_nil] at hW'
  refine (walk a0 len0 cap0 z0 W w0 ((fun _ => trivial) hL)).mono fun e W' ⟨he, bel⟩ => ?_
  subst he
  exact ⟨_, rfl, _, _, _, [], _, [], hW', trodAll_mk1 (shut_bool Tryd.underlying4 _), (trodAll_cons_mk (Below.trod laidOut (by kernel_rfl) (of_decide_eq_true (by kernel_rfl)) k0 bel lt0) trodAll_mk0), by first | rfl | simp, bel.frame _, fun h => by cases h⟩

theorem over : Rows.fireFillsRow.holds Tryd.pinned (OpenSpec.ofChange Rows.fireFillsSpec) :=
  OpenClaim.holds_of_wide 5 Tryd.f5 rfl rfl rfl rfl rfl rfl rfl ⟨rfl, rfl, rfl, rfl, rfl⟩ rfl rfl rfl rfl rfl (by kernel_rfl) Tryd.func5 (by kernel_rfl)
    (of_decide_eq_true (by kernel_rfl)) (by unfold Func.isWrapper; first | (rw [if_pos (by decide +kernel)]; kernel_rfl) | (rw [if_neg (by decide +kernel)]; exact ⟨rfl, rfl⟩))
    (fun os started H enc _ => lifted os started H enc)
end Go.Proofs.YtfahpjgfcndefaaDoor.fireFills
namespace Go.Proofs.YtfahpjgfcndefaaDoor
theorem FireFillsCardHolds : Rows.FireFillsCardSaid :=
  Claim7.holds_tied_plain_at .later [] [.data, .pinned] true (true, "68051cacb442be19c0b5e58a07a865a490de5b4356a77347656dc7b24a37c338") false fireFills.over (fun _ h => by cases h) (by kernel_rfl) (fun _ h => by cases h) fireFills_row_tie rfl ⟨rfl, rfl⟩ (by kernel_rfl) rfl
    (fun f fn hf hfn => by
      obtain rfl : f = 5 := Option.some.inj ((show Tryd.prog.funcNamed "gambit/gambitlaw10.FireFills" = some 5 by kernel_rfl).symm.trans hf) |>.symm
      obtain rfl : fn = Tryd.f5 := (Option.some.inj (Tryd.func5.symm.trans hfn)).symm
      exact ⟨by kernel_rfl, fun j t ht => by
        rw [Tryd.params5] at ht
        have hm : t ∈ [22] := by simpa using Array.mem_of_getElem? ht
        have hall : ([22].all fun u => !Tryd.prog.wantsStandIn u) = true := by kernel_rfl
        exact (show Tryd.prog.wantsStandIn t = false by simpa using List.all_eq_true.1 hall t hm)⟩)
    (by kernel_rfl)
#print axioms FireFillsCardHolds
end Go.Proofs.YtfahpjgfcndefaaDoor
