/- gambitkit.ApartCards, from its second loop on: it hands back true, and writes over its lists' blocks alone. -/
import Derived.Test.YtfafaeghnkmpcaaChecked
import Derived.Test.YtfafaeghnkmpcaaSim
import Derived.WalkKit
import Derived.ProofKit
import Derived.RegionTactic
import Derived.BigRegion
import Derived.ChangeAlike
import Derived.OwnWalk
namespace Go.Proofs.Ytfafaeghnkmpcaa.ac
open Go.RowKit Go.Sim
set_option linter.unusedVariables false

/-- a card as it is written over -/
def mark (k q : Nat) : List Value := [Value.string ⟨#[]⟩, .int .u8 0, .int .u8 0, .int .i64 (-(k : Int) - 1), .int .i64 q, .int .i64 0, .int .u16 0, .bool false, .slice none 0 0]

set_option maxRecDepth 100000 in
set_option maxHeartbeats 4000000 in
theorem rear : Sim.ApartRear Try.prog Try.f18 (Sim.rear 4 (Try.f18.body.getD .skip)) 48 9 := by
  intro a w B O n cp L R hsz hd h0 hn hpre hR
  have hlit := Sim.arr_lit a.tmps 111 hsz
  obtain ⟨t, ds⟩ := a
  simp only at hsz hd h0 hlit
  subst hd
  obtain ⟨g, hg⟩ : ∃ g : Nat → Value, g = fun i => t.getD i undef := ⟨_, rfl⟩
  rw [← hg] at hlit
  have hg0 : g 0 = .slice (some ⟨B, O, none⟩) n cp := by rw [hg]; simp [Array.getD_eq_getD_getElem?, h0]
  have hlit : t = #[g 0, g 1, g 2, g 3, g 4, g 5, g 6, g 7, g 8, g 9, g 10, g 11, g 12, g 13, g 14, g 15, g 16, g 17, g 18, g 19, g 20, g 21, g 22, g 23, g 24, g 25, g 26, g 27, g 28, g 29, g 30, g 31, g 32, g 33, g 34, g 35, g 36, g 37, g 38, g 39, g 40, g 41, g 42, g 43, g 44, g 45, g 46, g 47, g 48, g 49, g 50, g 51, g 52, g 53, g 54, g 55, g 56, g 57, g 58, g 59, g 60, g 61, g 62, g 63, g 64, g 65, g 66, g 67, g 68, g 69, g 70, g 71, g 72, g 73, g 74, g 75, g 76, g 77, g 78, g 79, g 80, g 81, g 82, g 83, g 84, g 85, g 86, g 87, g 88, g 89, g 90, g 91, g 92, g 93, g 94, g 95, g 96, g 97, g 98, g 99, g 100, g 101, g 102, g 103, g 104, g 105, g 106, g 107, g 108, g 109, g 110] := hlit
  rw [hg0] at hlit
  clear hg hg0 h0 hsz
  subst hlit
  have hmany := hpre.many
  subst hn
  dsimp only [Try.f18, Sim.rear, Option.getD_some]
  have hap := hpre.start mark
  clear hlit
  go_wp2
  go_loopw [6] (fun i wr => ∃ (k : Nat), k ≤ L.length ∧ i = .int .i64 k ∧ Ap w wr 48 9 L mark k 0) (fun i _ => L.length - (intOf i).toNat)
  case atStart => exact ⟨0, by omega, rfl, hap⟩
  case round =>
    clear hap
    obtain ⟨k, hk, rfl, hap⟩ := hrel
    by_cases hkl : k < L.length
    · obtain ⟨x, hx⟩ : ∃ x, L[k]? = some x := ⟨L[k], by simp [hkl]⟩
      have hcell := hap.cell hpre hx
      have hblk := hpre.blk _ (List.mem_of_getElem? hx)
      obtain ⟨b, l, c⟩ := x
      unfold slv at hcell
      obtain ⟨-, -, -, hlc, hcm⟩ := hblk
      go_wp2
      go_region
      all_goals go_wp2
      go_loopw [8] (fun i wr => ∃ (q : Nat), q ≤ c ∧ i = .int .i64 q ∧ Ap w wr 48 9 L mark k q) (fun i _ => c - (intOf i).toNat)
      case atStart => exact ⟨0, by omega, rfl, hap.heap rfl rfl rfl rfl⟩
      case round =>
        obtain ⟨q, hq, rfl, haq⟩ := hrel
        by_cases hql : q < c
        · have hqm : q + 1 ≤ maxLen := Nat.le_trans hql hcm
          unfold maxLen at hqm
          obtain ⟨w', hset, hap'⟩ := haq.step (P := Try.prog) hpre.dis hx hql (fun _ _ => rfl) (by simp [mark, Value.oneCell'])
          obtain ⟨u, hu, hfz⟩ := haq.there hx hql
          have hc0 : wr.cell? ⟨b, q * 9, none⟩ = some (u 0) := by exact hu 0 (by omega)
          have hc1 : (wr.setCell ⟨b, q * 9, none⟩ (Value.string ⟨#[]⟩)).cell? ⟨b, q * 9 + 1, none⟩ = some (u 1) := by rw [World.cell?_setCell_other _ _ _ _ (by intro e; injection e with _ e _; omega)]; exact hu 1 (by omega)
          have hc2 : ((wr.setCell ⟨b, q * 9, none⟩ (Value.string ⟨#[]⟩)).setCell ⟨b, q * 9 + 1, none⟩ (.int .u8 0)).cell? ⟨b, q * 9 + 2, none⟩ = some (u 2) := by rw [World.cell?_setCell_other _ _ _ _ (by intro e; injection e with _ e _; omega)]; rw [World.cell?_setCell_other _ _ _ _ (by intro e; injection e with _ e _; omega)]; exact hu 2 (by omega)
          have hc3 : (((wr.setCell ⟨b, q * 9, none⟩ (Value.string ⟨#[]⟩)).setCell ⟨b, q * 9 + 1, none⟩ (.int .u8 0)).setCell ⟨b, q * 9 + 2, none⟩ (.int .u8 0)).cell? ⟨b, q * 9 + 3, none⟩ = some (u 3) := by rw [World.cell?_setCell_other _ _ _ _ (by intro e; injection e with _ e _; omega)]; rw [World.cell?_setCell_other _ _ _ _ (by intro e; injection e with _ e _; omega)]; rw [World.cell?_setCell_other _ _ _ _ (by intro e; injection e with _ e _; omega)]; exact hu 3 (by omega)
          have hc4 : ((((wr.setCell ⟨b, q * 9, none⟩ (Value.string ⟨#[]⟩)).setCell ⟨b, q * 9 + 1, none⟩ (.int .u8 0)).setCell ⟨b, q * 9 + 2, none⟩ (.int .u8 0)).setCell ⟨b, q * 9 + 3, none⟩ (.int .i64 (-(k : Int) - 1))).cell? ⟨b, q * 9 + 4, none⟩ = some (u 4) := by rw [World.cell?_setCell_other _ _ _ _ (by intro e; injection e with _ e _; omega)]; rw [World.cell?_setCell_other _ _ _ _ (by intro e; injection e with _ e _; omega)]; rw [World.cell?_setCell_other _ _ _ _ (by intro e; injection e with _ e _; omega)]; rw [World.cell?_setCell_other _ _ _ _ (by intro e; injection e with _ e _; omega)]; exact hu 4 (by omega)
          have hc5 : (((((wr.setCell ⟨b, q * 9, none⟩ (Value.string ⟨#[]⟩)).setCell ⟨b, q * 9 + 1, none⟩ (.int .u8 0)).setCell ⟨b, q * 9 + 2, none⟩ (.int .u8 0)).setCell ⟨b, q * 9 + 3, none⟩ (.int .i64 (-(k : Int) - 1))).setCell ⟨b, q * 9 + 4, none⟩ (.int .i64 q)).cell? ⟨b, q * 9 + 5, none⟩ = some (u 5) := by rw [World.cell?_setCell_other _ _ _ _ (by intro e; injection e with _ e _; omega)]; rw [World.cell?_setCell_other _ _ _ _ (by intro e; injection e with _ e _; omega)]; rw [World.cell?_setCell_other _ _ _ _ (by intro e; injection e with _ e _; omega)]; rw [World.cell?_setCell_other _ _ _ _ (by intro e; injection e with _ e _; omega)]; rw [World.cell?_setCell_other _ _ _ _ (by intro e; injection e with _ e _; omega)]; exact hu 5 (by omega)
          have hc6 : ((((((wr.setCell ⟨b, q * 9, none⟩ (Value.string ⟨#[]⟩)).setCell ⟨b, q * 9 + 1, none⟩ (.int .u8 0)).setCell ⟨b, q * 9 + 2, none⟩ (.int .u8 0)).setCell ⟨b, q * 9 + 3, none⟩ (.int .i64 (-(k : Int) - 1))).setCell ⟨b, q * 9 + 4, none⟩ (.int .i64 q)).setCell ⟨b, q * 9 + 5, none⟩ (.int .i64 0)).cell? ⟨b, q * 9 + 6, none⟩ = some (u 6) := by rw [World.cell?_setCell_other _ _ _ _ (by intro e; injection e with _ e _; omega)]; rw [World.cell?_setCell_other _ _ _ _ (by intro e; injection e with _ e _; omega)]; rw [World.cell?_setCell_other _ _ _ _ (by intro e; injection e with _ e _; omega)]; rw [World.cell?_setCell_other _ _ _ _ (by intro e; injection e with _ e _; omega)]; rw [World.cell?_setCell_other _ _ _ _ (by intro e; injection e with _ e _; omega)]; rw [World.cell?_setCell_other _ _ _ _ (by intro e; injection e with _ e _; omega)]; exact hu 6 (by omega)
          have hc7 : (((((((wr.setCell ⟨b, q * 9, none⟩ (Value.string ⟨#[]⟩)).setCell ⟨b, q * 9 + 1, none⟩ (.int .u8 0)).setCell ⟨b, q * 9 + 2, none⟩ (.int .u8 0)).setCell ⟨b, q * 9 + 3, none⟩ (.int .i64 (-(k : Int) - 1))).setCell ⟨b, q * 9 + 4, none⟩ (.int .i64 q)).setCell ⟨b, q * 9 + 5, none⟩ (.int .i64 0)).setCell ⟨b, q * 9 + 6, none⟩ (.int .u16 0)).cell? ⟨b, q * 9 + 7, none⟩ = some (u 7) := by rw [World.cell?_setCell_other _ _ _ _ (by intro e; injection e with _ e _; omega)]; rw [World.cell?_setCell_other _ _ _ _ (by intro e; injection e with _ e _; omega)]; rw [World.cell?_setCell_other _ _ _ _ (by intro e; injection e with _ e _; omega)]; rw [World.cell?_setCell_other _ _ _ _ (by intro e; injection e with _ e _; omega)]; rw [World.cell?_setCell_other _ _ _ _ (by intro e; injection e with _ e _; omega)]; rw [World.cell?_setCell_other _ _ _ _ (by intro e; injection e with _ e _; omega)]; rw [World.cell?_setCell_other _ _ _ _ (by intro e; injection e with _ e _; omega)]; exact hu 7 (by omega)
          have hc8 : ((((((((wr.setCell ⟨b, q * 9, none⟩ (Value.string ⟨#[]⟩)).setCell ⟨b, q * 9 + 1, none⟩ (.int .u8 0)).setCell ⟨b, q * 9 + 2, none⟩ (.int .u8 0)).setCell ⟨b, q * 9 + 3, none⟩ (.int .i64 (-(k : Int) - 1))).setCell ⟨b, q * 9 + 4, none⟩ (.int .i64 q)).setCell ⟨b, q * 9 + 5, none⟩ (.int .i64 0)).setCell ⟨b, q * 9 + 6, none⟩ (.int .u16 0)).setCell ⟨b, q * 9 + 7, none⟩ (.bool false)).cell? ⟨b, q * 9 + 8, none⟩ = some (u 8) := by rw [World.cell?_setCell_other _ _ _ _ (by intro e; injection e with _ e _; omega)]; rw [World.cell?_setCell_other _ _ _ _ (by intro e; injection e with _ e _; omega)]; rw [World.cell?_setCell_other _ _ _ _ (by intro e; injection e with _ e _; omega)]; rw [World.cell?_setCell_other _ _ _ _ (by intro e; injection e with _ e _; omega)]; rw [World.cell?_setCell_other _ _ _ _ (by intro e; injection e with _ e _; omega)]; rw [World.cell?_setCell_other _ _ _ _ (by intro e; injection e with _ e _; omega)]; rw [World.cell?_setCell_other _ _ _ _ (by intro e; injection e with _ e _; omega)]; rw [World.cell?_setCell_other _ _ _ _ (by intro e; injection e with _ e _; omega)]; exact hu 8 (by omega)
          go_wp2
          have hww : (((((((((wr.setCell ⟨b, q * 9, none⟩ (Value.string ⟨#[]⟩)).setCell ⟨b, q * 9 + 1, none⟩ (.int .u8 0)).setCell ⟨b, q * 9 + 2, none⟩ (.int .u8 0)).setCell ⟨b, q * 9 + 3, none⟩ (.int .i64 (-(k : Int) - 1))).setCell ⟨b, q * 9 + 4, none⟩ (.int .i64 q)).setCell ⟨b, q * 9 + 5, none⟩ (.int .i64 0)).setCell ⟨b, q * 9 + 6, none⟩ (.int .u16 0)).setCell ⟨b, q * 9 + 7, none⟩ (.bool false)).setCell ⟨b, q * 9 + 8, none⟩ (.slice none 0 0)) = w' := hset
          go_roundw
          case rel => exact ⟨q + 1, by omega, by go_num, by rw [hww]; exact hap'⟩
          case measure => simp [intOf]; omega
        · have hqc : q = c := by omega
          subst hqc
          go_wp2
          go_roundw
          case rel => exact ⟨k + 1, by omega, by go_num, haq.next hx (Nat.le_refl _)⟩
          case measure => simp [intOf]; omega
    · have : L.length = k := by omega
      subst this
      go_wp2
      go_loopw [9] (fun i wr => ∃ (k : Nat), k ≤ L.length ∧ i = .int .i64 k ∧ Ap w wr 48 9 L mark L.length 0) (fun i _ => L.length - (intOf i).toNat)
      case atStart => exact ⟨0, by omega, rfl, hap⟩
      case round =>
        clear hap
        obtain ⟨k, hk, rfl, hap⟩ := hrel
        by_cases hkl : k < L.length
        · obtain ⟨x, hx⟩ : ∃ x, L[k]? = some x := ⟨L[k], by simp [hkl]⟩
          have hcell := hap.cell hpre hx
          have hblk := hpre.blk _ (List.mem_of_getElem? hx)
          obtain ⟨b, l, c⟩ := x
          unfold slv at hcell
          obtain ⟨-, -, -, hlc, hcm⟩ := hblk
          go_wp2
          go_region
          all_goals go_wp2
          go_loopw [11] (fun i wr => ∃ (q : Nat), q ≤ c ∧ i = .int .i64 q ∧ Ap w wr 48 9 L mark L.length 0) (fun i _ => c - (intOf i).toNat)
          case atStart => exact ⟨0, by omega, rfl, hap.heap rfl rfl rfl rfl⟩
          case round =>
            obtain ⟨q, hq, rfl, haq⟩ := hrel
            by_cases hql : q < c
            · have hqm : q + 1 ≤ maxLen := Nat.le_trans hql hcm
              unfold maxLen at hqm
              have hco : wr.cell? ⟨b, q * 9 + 3, none⟩ = some (.int .i64 (-(k : Int) - 1)) := haq.full k _ q hx hql (.inl hkl) 3 _ rfl
              have hpo : wr.cell? ⟨b, q * 9 + 4, none⟩ = some (.int .i64 q) := haq.full k _ q hx hql (.inl hkl) 4 _ rfl
              go_wp2
              go_roundw
              case rel => exact ⟨q + 1, by omega, by go_num, haq⟩
              case measure => simp [intOf]; omega
            · have hqc : q = c := by omega
              subst hqc
              go_wp2
              go_roundw
              case rel => exact ⟨k + 1, by omega, by go_num, haq⟩
              case measure => simp [intOf]; omega
        · have : L.length = k := by omega
          subst this
          go_wp2
          exact hap.sp
