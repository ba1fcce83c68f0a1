/- Sets of traits: the document's functions; Name, Home, Text, Print beside the document's. -/
import Derived.Test.YtfafaeghnkmpcaaDoorChecked
import Derived.Test.YtfafaeghnkmpcaaDoorSim
import Derived.Test.YtfafaeghnkmpcaaDoorKn
import Derived.Test.YtfafaeghnkmpcaaDoorJn
import Derived.Test.YtfafaeghnkmpcaaDoorTb
import Derived.WalkKit
import Derived.ProofKit
import Derived.Below
import Derived.RegionTactic
import Derived.BigRegion
import Derived.Deep.AppendLies
import Derived.Deep.RegionLaw
import Derived.OwnWalk
import Derived.Maps.AppendAt
import Derived.Deep.QuietTactic
import Derived.BigQuiet
import Derived.Lib.Join
import Derived.Laws.Concat
namespace Go.Proofs.YtfafaeghnkmpcaaDoor.ts
open Go.RowKit tb
set_option linter.unusedVariables false

theorem num : Sim.NumOK Tryd.prog := Sim.numOK_of (by kernel_rfl)
theorem mixed : Tryd.prog.follows .mixedOrders = true := by kernel_rfl
theorem rbit_calls (x : Int) (hx : 0 ≤ x) (w : World) : Calls Tryd.prog 59 #[.int .u8 x] w fun e w' => e = .returned (.int .u16 ((ub x).toNat : Int)) ∧ w' = w := by
  by_cases h1 : x = 1
  · subst h1; go_enter Tryd.func59, Tryd.ntmps59; go_wp2; go_ret; exact ⟨rfl, rfl⟩
  by_cases h2 : x = 2
  · subst h2; go_enter Tryd.func59, Tryd.ntmps59; go_wp2; go_ret; exact ⟨rfl, rfl⟩
  by_cases h3 : x = 3
  · subst h3; go_enter Tryd.func59, Tryd.ntmps59; go_wp2; go_ret; exact ⟨rfl, rfl⟩
  by_cases h4 : x = 4
  · subst h4; go_enter Tryd.func59, Tryd.ntmps59; go_wp2; go_ret; exact ⟨rfl, rfl⟩
  by_cases h5 : x = 5
  · subst h5; go_enter Tryd.func59, Tryd.ntmps59; go_wp2; go_ret; exact ⟨rfl, rfl⟩
  by_cases h6 : x = 6
  · subst h6; go_enter Tryd.func59, Tryd.ntmps59; go_wp2; go_ret; exact ⟨rfl, rfl⟩
  by_cases h7 : x = 7
  · subst h7; go_enter Tryd.func59, Tryd.ntmps59; go_wp2; go_ret; exact ⟨rfl, rfl⟩
  by_cases h8 : x = 8
  · subst h8; go_enter Tryd.func59, Tryd.ntmps59; go_wp2; go_ret; exact ⟨rfl, rfl⟩
  by_cases h0 : x = 0
  · subst h0; go_enter Tryd.func59, Tryd.ntmps59; go_wp2; go_ret; exact ⟨rfl, rfl⟩
  have h9 : ¬ x ≤ 8 := by omega
  have h10 : decide (x ≤ 8) = false := decide_eq_false h9
  have h11 : 1 ≤ x := by omega
  clear h0
  have hu : ub x = 0 := by simp [ub, h1, h2, h3, h4, h5, h6, h7, h8]
  rw [hu]
  clear h1 h2 h3 h4 h5 h6 h7 h8
  go_enter Tryd.func59, Tryd.ntmps59
  go_wp2
  go_ret
  exact ⟨rfl, rfl⟩
theorem rwith_calls (v : BitVec 16) (x : Int) (hx : 0 ≤ x) (w : World) : Calls Tryd.prog 39 #[.int .u16 (v.toNat : Int), .int .u8 x] w fun e w' => e = .returned (.int .u16 ((v ||| ub x).toNat : Int)) ∧ w' = w := by
  go_enter Tryd.func39, Tryd.ntmps39
  go_wp2_with fail
  refine (rbit_calls x hx _).mono ?_
  rintro e w' ⟨rfl, rfl⟩
  go_wp2
  go_ret
  exact ⟨by rw [bor]; rfl, rfl⟩
theorem rwithout_calls (v : BitVec 16) (x : Int) (hx : 0 ≤ x) (w : World) : Calls Tryd.prog 40 #[.int .u16 (v.toNat : Int), .int .u8 x] w fun e w' => e = .returned (.int .u16 ((v &&& ~~~ ub x).toNat : Int)) ∧ w' = w := by
  go_enter Tryd.func40, Tryd.ntmps40
  go_wp2_with fail
  refine (rbit_calls x hx _).mono ?_
  rintro e w' ⟨rfl, rfl⟩
  go_wp2
  go_ret
  exact ⟨by rw [bnot]; rfl, rfl⟩
theorem rhas_calls (v : BitVec 16) (x : Int) (hx : 0 ≤ x) (w : World) : Calls Tryd.prog 38 #[.int .u16 (v.toNat : Int), .int .u8 x] w fun e w' => e = .returned (.bool (hasF v x)) ∧ w' = w := by
  have hb := band v (ub x)
  by_cases h : v &&& ub x = 0
  · have hf : hasF v x = false := by simp [hasF, h]
    rw [hf]
    have hz : bits .and .u16 v.toNat (ub x).toNat = 0 := by rw [hb, h]; rfl
    go_enter Tryd.func38, Tryd.ntmps38
    go_wp2_with fail
    refine (rbit_calls x hx _).mono ?_
    rintro e w' ⟨rfl, rfl⟩
    go_wp2
    go_ret
    first | exact ⟨rfl, rfl⟩ | simp [hz]
  · have hf : hasF v x = true := decide_eq_true h
    rw [hf]
    have hz2 : (((v.toNat &&& (ub x).toNat : Nat) : Int) != 0) = true := by
      rw [← BitVec.toNat_and, bne_iff_ne]
      intro h0
      apply h
      apply BitVec.eq_of_toNat_eq
      have h0 : ((v &&& ub x).toNat : Int) = 0 := h0
      have h1 : (v &&& ub x).toNat = 0 := by omega
      rw [h1]
      rfl
    go_enter Tryd.func38, Tryd.ntmps38
    go_wp2_with fail
    refine (rbit_calls x hx _).mono ?_
    rintro e w' ⟨rfl, rfl⟩
    go_wp2
    go_ret
    exact ⟨rfl, rfl⟩
theorem rchk_calls (v : BitVec 16) (w : World) : Calls Tryd.prog 41 #[.int .u16 (v.toNat : Int)] w fun e w' => e = .returned (.bool (chkF v)) ∧ w' = w := by
  have hv := v.isLt
  by_cases h : v.toNat < 256
  · have hc : chkF v = true := decide_eq_true h
    rw [hc]
    have hz : (v.toNat : Int) < 256 := by omega
    go_enter Tryd.func41, Tryd.ntmps41
    go_wp2
    go_ret
    exact ⟨rfl, rfl⟩
  · have hc : chkF v = false := decide_eq_false h
    rw [hc]
    have hz : ¬ (v.toNat : Int) < 256 := by omega
    go_enter Tryd.func41, Tryd.ntmps41
    go_wp2
    go_ret
    exact ⟨rfl, rfl⟩
set_option maxRecDepth 100000 in
set_option maxHeartbeats 1600000 in
theorem rlist_calls (v : BitVec 16) (w : World) : Calls Tryd.prog 43 #[.int .u16 (v.toNat : Int)] w fun e w' => (∃ u, e = .returned u ∧ w'.ownsRow w.heap.size 37 1 u (tl v 8).length ((tl v 8).map (Value.int .u8))) ∧ Below w.heap.size w w' := by
  obtain ⟨i0, hi, hz0, hz1, hz2⟩ := info_parts Tryd.infoT
  go_enter Tryd.func43, Tryd.ntmps43
  go_wp2
  go_loopw [3, 4] (fun u i wr => ∃ k : Nat, k ≤ 8 ∧ i = .int .u8 ((k : Int) + 1) ∧ wr.ownsRow w.heap.size 37 1 u (tl v k).length ((tl v k).map (Value.int .u8)) ∧ Below w.heap.size w wr) (fun _ i _ => 9 - (intOf i).toNat)
  case atStart => exact ⟨0, by omega, rfl, World.ownsRow_nil _ _ _ _, Below.refl _ _⟩
  case round =>
    obtain ⟨k, hk, rfl, hown, hbel⟩ := hrel
    obtain ⟨ao, cp, rfl⟩ := owns_slice hown
    have hle := tl_le v k
    have hsz := hbel.size
    by_cases hk8 : k < 8
    · cases hh : hasF v ((k : Int) + 1) with
      | false =>
        have hs := tl_succ v k
        rw [hh, if_neg (by decide)] at hs
        go_wp2_with fail
        refine (rhas_calls v _ (by omega) _).mono ?_
        rintro e w3 ⟨rfl, h3⟩
        have h3 := h3.symm
        subst h3
        rw [hh]
        go_wp2
        go_roundw
        case rel => exact ⟨k + 1, by omega, by go_num, by rw [hs]; exact hown, hbel⟩
        case measure => simp [intOf]; omega
      | true =>
        have hs := tl_succ v k
        rw [hh, if_pos rfl] at hs
        go_wp2_with fail
        refine (rhas_calls v _ (by omega) _).mono ?_
        rintro e w3 ⟨rfl, h3⟩
        have h3 := h3.symm
        subst h3
        rw [hh]
        go_wp2_with (at_builtin; (refine wpList_append_own_at _ rfl _ _ 51 rfl w.heap.size 37 i0 (.int .u8 0) 1 1 Tryd.underlying51 hi hz0 hz1 hz2 rfl (by decide) _ _ _ rfl (hown.alloc _) ⟨wr.heap.size, 0, none⟩ 1 1 [.int .u8 ((k : Int) + 1)] rfl rfl (cell_one_new _ _ _) (one_int _ _) (by unfold maxLen; omega) (by omega) (by simp; omega) ?_; intro v' w4 hown4 hgr4 hnil hat; obtain ⟨ao4, cp4, rfl⟩ := owns_slice hown4))
        have hbel4 := kept_below hown hbel (Nat.le_refl _) hsz hgr4
        go_roundw
        case rel => exact ⟨k + 1, by omega, by go_num, by rw [hs]; simpa using hown4, hbel4⟩
        case measure => simp [intOf]; omega
    · have : k = 8 := by omega
      subst this
      go_wp2
      go_ret
      exact ⟨⟨_, rfl, hown⟩, hbel⟩
theorem rwith_eq {v a : BitVec 16} {x : Int} (h : v ||| ub x = a) (hx : 0 ≤ x) (w : World) : Calls Tryd.prog 39 #[.int .u16 (v.toNat : Int), .int .u8 x] w fun e w' => e = .returned (.int .u16 (a.toNat : Int)) ∧ w = w' :=
  (rwith_calls v x hx w).mono fun e w' ⟨h1, h2⟩ => ⟨by rw [h1, h], h2.symm⟩
theorem rwithout_eq {v a : BitVec 16} {x : Int} (h : v &&& ~~~ ub x = a) (hx : 0 ≤ x) (w : World) : Calls Tryd.prog 40 #[.int .u16 (v.toNat : Int), .int .u8 x] w fun e w' => e = .returned (.int .u16 (a.toNat : Int)) ∧ w = w' :=
  (rwithout_calls v x hx w).mono fun e w' ⟨h1, h2⟩ => ⟨by rw [h1, h], h2.symm⟩
theorem rhas_eq {v : BitVec 16} {x : Int} {t : Bool} (h : hasF v x = t) (hx : 0 ≤ x) (w : World) : Calls Tryd.prog 38 #[.int .u16 (v.toNat : Int), .int .u8 x] w fun e w' => e = .returned (.bool t) ∧ w = w' :=
  (rhas_calls v x hx w).mono fun e w' ⟨h1, h2⟩ => ⟨by rw [h1, h], h2.symm⟩
theorem rchk_eq {v : BitVec 16} {t : Bool} (h : chkF v = t) (w : World) : Calls Tryd.prog 41 #[.int .u16 (v.toNat : Int)] w fun e w' => e = .returned (.bool t) ∧ w = w' :=
  (rchk_calls v w).mono fun e w' ⟨h1, h2⟩ => ⟨by rw [h1, h], h2.symm⟩

theorem known_below {w w' : World} (h : Sim.Known 2 kn.gl w) (hb : Below w.heap.size w w') : Sim.Known 2 kn.gl w' :=
  ⟨Nat.le_trans h.1 hb.size, fun p hp => let ⟨a, b, c, d, f⟩ := h.2 p hp; ⟨a, b, c, d, fun i v hv => (hb.cell (p := ⟨p.1, i, none⟩) (Nat.lt_of_lt_of_le a h.1)).trans (f i v hv)⟩⟩

/-! ### Name, Home, Text -/
def nmF : Int → ByteArray
  | .ofNat 1 => ⟨#[102, 97, 115, 116]⟩
  | .ofNat 2 => ⟨#[103, 117, 97, 114, 100]⟩
  | .ofNat 3 => ⟨#[118, 101, 110, 111, 109]⟩
  | .ofNat 4 => ⟨#[108, 111, 110, 101]⟩
  | .ofNat 5 => ⟨#[100, 114, 97, 105, 110]⟩
  | .ofNat 6 => ⟨#[109, 117, 116, 101]⟩
  | .ofNat 7 => ⟨#[102, 105, 120, 101, 100]⟩
  | .ofNat 8 => ⟨#[115, 119, 105, 102, 116]⟩
  | _ => ⟨#[]⟩
def hmF : Int → Int
  | .ofNat 1 => 1
  | .ofNat 2 => 2
  | .ofNat 3 => 3
  | .ofNat 4 => 4
  | .ofNat 5 => 4
  | .ofNat 6 => 5
  | .ofNat 7 => 6
  | .ofNat 8 => 1
  | _ => 0
noncomputable def txF (k : Int) : ByteArray := match Sim.callH Tryd.prog Sim.noHook 2 60 2 37 [.int .u8 k] (Sim.SG 2 kn.gl) with | some (.string s, _) => s | _ => ⟨#[]⟩
theorem r24 : ∀ k : Int, 0 ≤ k → (Sim.callH Tryd.prog Sim.noHook 2 60 2 24 [.int .u8 k] (Sim.SG 2 kn.gl)).map Prod.fst = some (.string (nmF k))
  | .ofNat 0, _ => by kernel_rfl
  | .ofNat 1, _ => by kernel_rfl
  | .ofNat 2, _ => by kernel_rfl
  | .ofNat 3, _ => by kernel_rfl
  | .ofNat 4, _ => by kernel_rfl
  | .ofNat 5, _ => by kernel_rfl
  | .ofNat 6, _ => by kernel_rfl
  | .ofNat 7, _ => by kernel_rfl
  | .ofNat 8, _ => by kernel_rfl
  | .ofNat (m + 9), _ => by kernel_rfl
  | .negSucc m, h => absurd h (by omega)
theorem r35 : ∀ k : Int, 0 ≤ k → (Sim.callH Tryd.prog Sim.noHook 2 60 2 35 [.int .u8 k] (Sim.SG 2 kn.gl)).map Prod.fst = some (.string (nmF k))
  | .ofNat 0, _ => by kernel_rfl
  | .ofNat 1, _ => by kernel_rfl
  | .ofNat 2, _ => by kernel_rfl
  | .ofNat 3, _ => by kernel_rfl
  | .ofNat 4, _ => by kernel_rfl
  | .ofNat 5, _ => by kernel_rfl
  | .ofNat 6, _ => by kernel_rfl
  | .ofNat 7, _ => by kernel_rfl
  | .ofNat 8, _ => by kernel_rfl
  | .ofNat (m + 9), _ => by kernel_rfl
  | .negSucc m, h => absurd h (by omega)
theorem r26 : ∀ k : Int, 0 ≤ k → (Sim.callH Tryd.prog Sim.noHook 2 60 2 26 [.int .u8 k] (Sim.SG 2 kn.gl)).map Prod.fst = some (.int .u8 (hmF k))
  | .ofNat 0, _ => by kernel_rfl
  | .ofNat 1, _ => by kernel_rfl
  | .ofNat 2, _ => by kernel_rfl
  | .ofNat 3, _ => by kernel_rfl
  | .ofNat 4, _ => by kernel_rfl
  | .ofNat 5, _ => by kernel_rfl
  | .ofNat 6, _ => by kernel_rfl
  | .ofNat 7, _ => by kernel_rfl
  | .ofNat 8, _ => by kernel_rfl
  | .ofNat (m + 9), _ => by kernel_rfl
  | .negSucc m, h => absurd h (by omega)
theorem r36 : ∀ k : Int, 0 ≤ k → (Sim.callH Tryd.prog Sim.noHook 2 60 2 36 [.int .u8 k] (Sim.SG 2 kn.gl)).map Prod.fst = some (.int .u8 (hmF k))
  | .ofNat 0, _ => by kernel_rfl
  | .ofNat 1, _ => by kernel_rfl
  | .ofNat 2, _ => by kernel_rfl
  | .ofNat 3, _ => by kernel_rfl
  | .ofNat 4, _ => by kernel_rfl
  | .ofNat 5, _ => by kernel_rfl
  | .ofNat 6, _ => by kernel_rfl
  | .ofNat 7, _ => by kernel_rfl
  | .ofNat 8, _ => by kernel_rfl
  | .ofNat (m + 9), _ => by kernel_rfl
  | .negSucc m, h => absurd h (by omega)
theorem r25 : ∀ k : Int, 0 ≤ k → (Sim.callH Tryd.prog Sim.noHook 2 60 2 25 [.int .u8 k] (Sim.SG 2 kn.gl)).map Prod.fst = some (.string (txF k))
  | .ofNat 0, _ => by kernel_rfl
  | .ofNat 1, _ => by kernel_rfl
  | .ofNat 2, _ => by kernel_rfl
  | .ofNat 3, _ => by kernel_rfl
  | .ofNat 4, _ => by kernel_rfl
  | .ofNat 5, _ => by kernel_rfl
  | .ofNat 6, _ => by kernel_rfl
  | .ofNat 7, _ => by kernel_rfl
  | .ofNat 8, _ => by kernel_rfl
  | .ofNat (m + 9), _ => by kernel_rfl
  | .negSucc m, h => absurd h (by omega)
theorem r37 : ∀ k : Int, 0 ≤ k → (Sim.callH Tryd.prog Sim.noHook 2 60 2 37 [.int .u8 k] (Sim.SG 2 kn.gl)).map Prod.fst = some (.string (txF k))
  | .ofNat 0, _ => by kernel_rfl
  | .ofNat 1, _ => by kernel_rfl
  | .ofNat 2, _ => by kernel_rfl
  | .ofNat 3, _ => by kernel_rfl
  | .ofNat 4, _ => by kernel_rfl
  | .ofNat 5, _ => by kernel_rfl
  | .ofNat 6, _ => by kernel_rfl
  | .ofNat 7, _ => by kernel_rfl
  | .ofNat 8, _ => by kernel_rfl
  | .ofNat (m + 9), _ => by kernel_rfl
  | .negSucc m, h => absurd h (by omega)

theorem name_eq {k : Int} {s : ByteArray} (h : nmF k = s) (hk : 0 ≤ k) {w : World} (hw : Sim.Known 2 kn.gl w) : Calls Tryd.prog 24 #[.int .u8 k] w fun e w' => e = .returned (.string s) ∧ Below w.heap.size w w' := by
  subst h
  exact Sim.callsG_ans num mixed Sim.noHook_ok (r24 k hk) rfl rfl hw
theorem rname_eq {k : Int} {s : ByteArray} (h : nmF k = s) (hk : 0 ≤ k) {w : World} (hw : Sim.Known 2 kn.gl w) : Calls Tryd.prog 35 #[.int .u8 k] w fun e w' => e = .returned (.string s) ∧ Below w.heap.size w w' := by
  subst h
  exact Sim.callsG_ans num mixed Sim.noHook_ok (r35 k hk) rfl rfl hw
theorem home_eq {k : Int} {s : Int} (h : hmF k = s) (hk : 0 ≤ k) {w : World} (hw : Sim.Known 2 kn.gl w) : Calls Tryd.prog 26 #[.int .u8 k] w fun e w' => e = .returned (.int .u8 s) ∧ Below w.heap.size w w' := by
  subst h
  exact Sim.callsG_ans num mixed Sim.noHook_ok (r26 k hk) rfl rfl hw
theorem rhome_eq {k : Int} {s : Int} (h : hmF k = s) (hk : 0 ≤ k) {w : World} (hw : Sim.Known 2 kn.gl w) : Calls Tryd.prog 36 #[.int .u8 k] w fun e w' => e = .returned (.int .u8 s) ∧ Below w.heap.size w w' := by
  subst h
  exact Sim.callsG_ans num mixed Sim.noHook_ok (r36 k hk) rfl rfl hw
theorem text_eq {k : Int} {s : ByteArray} (h : txF k = s) (hk : 0 ≤ k) {w : World} (hw : Sim.Known 2 kn.gl w) : Calls Tryd.prog 25 #[.int .u8 k] w fun e w' => e = .returned (.string s) ∧ Below w.heap.size w w' := by
  subst h
  exact Sim.callsG_ans num mixed Sim.noHook_ok (r25 k hk) rfl rfl hw
theorem rtext_eq {k : Int} {s : ByteArray} (h : txF k = s) (hk : 0 ≤ k) {w : World} (hw : Sim.Known 2 kn.gl w) : Calls Tryd.prog 37 #[.int .u8 k] w fun e w' => e = .returned (.string s) ∧ Below w.heap.size w w' := by
  subst h
  exact Sim.callsG_ans num mixed Sim.noHook_ok (r37 k hk) rfl rfl hw

/-! ### lists held against each other -/
/-- the same world but for draws -/
def Dr (w w' : World) : Prop := w'.heap = w.heap ∧ w'.os = w.os ∧ w'.tape = w.tape ∧ w'.output = w.output
theorem Dr.cell {w w' : World} (h : Dr w w') (a : Addr) : w'.cell? a = w.cell? a := by simp [World.cell?, h.1]
theorem Dr.drew {w w' : World} (h : Dr w w') : Dr w w'.drew := ⟨h.1, h.2.1, h.2.2.1, h.2.2.2⟩
theorem Dr.grown {w w' : World} (h : Dr w w') (row : Option Nat) : w.grownBy w' row := ⟨h.2.1, h.2.2.1, h.2.2.2, by rw [h.1]; exact Nat.le_refl _, fun k _ _ => by rw [h.1]⟩

/-- a slice's elements, in memory from block lo on -/
def TI (w : World) (lo : Nat) (k : IntKind) (v : Value) (xs : List Int) : Prop :=
  ∃ ao c, v = .slice ao xs.length c ∧ (∀ i, i < xs.length → ∃ b, ao = some ⟨b, 0, none⟩ ∧ lo ≤ b ∧ b < w.heap.size ∧ (∀ j, w.frozen? ⟨b, j, none⟩ = false) ∧ ∀ j, j < xs.length → w.cell? ⟨b, j, none⟩ = some (.int k (xs.getD j 0))) ∧ xs.length ≤ maxLen

theorem TI.of_owns {w : World} {base el : Nat} {v : Value} {n : Nat} {k : IntKind} {xs : List Int} (h : w.ownsRow base el 1 v n (xs.map (Value.int k))) : TI w base k v xs := by
  obtain ⟨h1, h2⟩ := h
  have hn : n = xs.length := by simpa using h1.symm
  subst hn
  rcases h2 with ⟨rfl, h0⟩ | ⟨g, cap, cur, rfl, hlo, hg, hle, hmax, hsz, htk⟩
  · exact ⟨none, 0, by rw [h0], fun i hi => by omega, by rw [h0]; exact Nat.zero_le _⟩
  · refine ⟨some ⟨g, 0, none⟩, cap, rfl, fun i _ => ⟨g, rfl, hlo, (Array.getElem?_eq_some_iff.1 hg).1, fun j => by simp [World.frozen?, hg], fun j hj => ?_⟩, by omega⟩
    have h3 : (cur.toList.take (xs.length * 1))[j]? = (xs.map (Value.int k))[j]? := by rw [htk]
    rw [List.getElem?_take] at h3
    rw [if_pos (by omega)] at h3
    simp only [World.cell?, hg]
    rw [if_neg (by simp)]
    rw [← Array.getElem?_toList, h3, List.getElem?_map, List.getD, List.getElem?_eq_getElem hj]
    rfl

theorem TI.grown {w w' : World} {lo : Nat} {k : IntKind} {v : Value} {xs : List Int} {row : Option Nat} (h : TI w lo k v xs) (hg : w.grownBy w' row) (hr : ∀ b, row = some b → b < lo) : TI w' lo k v xs := by
  obtain ⟨ao, c, h1, h2, h3⟩ := h
  refine ⟨ao, c, h1, fun i hi => ?_, h3⟩
  obtain ⟨b, h4, h5, h6, h7, h8⟩ := h2 i hi
  have hb := hg.block b h6 (fun e => by have := hr b e.symm; omega)
  exact ⟨b, h4, h5, Nat.lt_of_lt_of_le h6 hg.size, fun j => by rw [World.frozen?_of_block (w := w) (a := ⟨b, j, none⟩) hb]; exact h7 j, fun j hj => by rw [World.cell?_of_block (w := w) (a := ⟨b, j, none⟩) hb]; exact h8 j hj⟩

theorem grown_refl (w : World) (row : Option Nat) : w.grownBy w row := ⟨rfl, rfl, rfl, Nat.le_refl _, fun _ _ _ => rfl⟩
theorem grown_trans {a b c : World} {row : Option Nat} (h : a.grownBy b row) (k : b.grownBy c row) : a.grownBy c row :=
  ⟨k.os.trans h.os, k.tape.trans h.tape, k.output.trans h.output, Nat.le_trans h.size k.size, fun i hi hne => (k.block i (Nat.lt_of_lt_of_le hi h.size) hne).trans (h.block i hi hne)⟩
theorem grown_setCell {kb : Nat} (w : World) (i : Nat) (v : Value) : w.grownBy (w.setCell ⟨kb, i, none⟩ v) (some kb) :=
  ⟨rfl, rfl, rfl, by simp, fun k _ hne => Below.heap_setCell w _ v k (fun e => hne (by rw [e]))⟩
theorem set_cells {w : World} {b n : Nat} (h : ∀ j, j < n → ∃ u, w.cell? ⟨b, j, none⟩ = some u) (k : Nat) (v : Value) : ∀ j, j < n → ∃ u, (w.setCell ⟨b, k, none⟩ v).cell? ⟨b, j, none⟩ = some u := fun j hj => by
  obtain ⟨u, hu⟩ := h j hj
  by_cases hjk : k = j
  · subst hjk
    exact ⟨v, World.cell?_setCell_same _ _ _ hu⟩
  · exact ⟨u, by rw [World.cell?_setCell_other _ _ _ _ (fun e => hjk (by injection e))]; exact hu⟩
theorem grown_of_below {w w' : World} (h : Below w.heap.size w w') : w.grownBy w' none := ⟨h.os, h.tape, h.output, h.size, fun k hk _ => h.block k hk⟩

set_option maxRecDepth 100000 in
set_option maxHeartbeats 1600000 in
theorem same_true (xs : List Int) (lu lv : Nat) (u v : Value) (w : World) (hu : TI w lu .u8 u xs) (hv : TI w lv .u8 v xs) :
    Calls Tryd.prog 44 #[u, v] w fun e w' => e = .returned (.bool true) ∧ Dr w w' := by
  obtain ⟨au, cu, rfl, hcu, hmx⟩ := hu
  obtain ⟨av, cv, rfl, hcv, _⟩ := hv
  unfold maxLen at hmx
  go_enter Tryd.func44, Tryd.ntmps44
  go_wp2
  go_loopw [5] (fun i wr => ∃ k : Nat, k ≤ xs.length ∧ i = .int .i64 k ∧ Dr w wr) (fun i _ => xs.length - (intOf i).toNat)
  case atStart => exact ⟨0, Nat.zero_le _, rfl, rfl, rfl, rfl, rfl⟩
  case round =>
    obtain ⟨k, hk, rfl, hd⟩ := hrel
    by_cases hkl : k < xs.length
    · obtain ⟨bu, rfl, _, _, _, hbu⟩ := hcu k hkl
      obtain ⟨bv, rfl, _, _, _, hbv⟩ := hcv k hkl
      have c1 : wr.cell? ⟨bu, k, none⟩ = some (.int .u8 (xs.getD k 0)) := by rw [hd.cell]; exact hbu k hkl
      have c2 : wr.cell? ⟨bv, k, none⟩ = some (.int .u8 (xs.getD k 0)) := by rw [hd.cell]; exact hbv k hkl
      clear hbu hbv hcu hcv
      go_wp2
      go_region
      all_goals go_wp2
      all_goals go_roundw
      case rel => exact ⟨k + 1, by omega, by go_num, hd.drew⟩
      case measure => simp [intOf]; omega
    · have : k = xs.length := by omega
      subst this
      go_wp2
      go_ret
      exact ⟨rfl, hd⟩

/-! ### Print -/
theorem bytes_eq {s t : ByteArray} (h : s.data.toList = t.data.toList) : s = t := by
  obtain ⟨⟨a⟩⟩ := s
  obtain ⟨⟨b⟩⟩ := t
  simp at h
  rw [h]
/-- the first k words, with a blank between each two -/
def jn (xs : List ByteArray) (k : Nat) : ByteArray := ⟨(Lib.join ((xs.take k).map (·.data.toList)) [32]).toArray⟩
theorem jn_one {xs : List ByteArray} {s : ByteArray} (h : xs[0]? = some s) : jn xs 1 = s := by
  cases xs with
  | nil => simp at h
  | cons x r =>
    simp at h
    subst h
    apply bytes_eq
    simp [jn, Lib.join_one]
theorem jn_succ {xs : List ByteArray} {s : ByteArray} {k : Nat} (h : xs[k]? = some s) (hk : 1 ≤ k) : jn xs k ++ ⟨#[32]⟩ ++ s = jn xs (k + 1) := by
  cases xs with
  | nil => simp at h
  | cons x r =>
    obtain ⟨j, rfl⟩ : ∃ j, k = j + 1 := ⟨k - 1, by omega⟩
    have hr : (r.map (·.data.toList))[j]? = some s.data.toList := by simpa using congrArg (Option.map (·.data.toList)) h
    apply bytes_eq
    simp only [jn, List.take_succ_cons, List.map_cons, Lib.join_cons, List.map_take, ByteArray.data_append, Array.toList_append]
    rw [Lib.joinTail_take_succ _ _ _ _ hr]
    simp [List.append_assoc]
theorem jn_all (xs : List ByteArray) : jn xs xs.length = ⟨(Lib.join (xs.map (·.data.toList)) [32]).toArray⟩ := by
  unfold jn
  rw [List.take_length]
def nmL (v : BitVec 16) : List ByteArray := (tl v 8).map nmF
def prF (v : BitVec 16) : ByteArray := if (tl v 8).length = 0 then ⟨#[45]⟩ else jn (nmL v) (tl v 8).length
theorem nmL_len (v : BitVec 16) : (nmL v).length = (tl v 8).length := by simp [nmL]
theorem nmL_at (v : BitVec 16) (k : Nat) (h : k < (tl v 8).length) : (nmL v)[k]? = some (nmF ((tl v 8).getD k 0)) := by
  simp [nmL, List.getD, List.getElem?_eq_getElem h]
theorem nmF_size (k : Int) : (nmF k).data.toList.length ≤ 5 := by
  unfold nmF
  split <;> decide
theorem tail_len : ∀ r : List (List UInt8), (∀ x ∈ r, x.length ≤ 5) → (Lib.joinTail [32] r).length ≤ 6 * r.length
  | [], _ => by simp [Lib.joinTail]
  | x :: r, h => by
    have h1 := h x (List.mem_cons_self ..)
    have h2 := tail_len r (fun y hy => h y (List.mem_cons_of_mem _ hy))
    simp only [Lib.joinTail, List.map_cons, List.flatten_cons, List.length_append, List.length_cons, List.length_nil] at h2 ⊢
    omega
theorem join_le : ∀ l : List (List UInt8), (∀ x ∈ l, x.length ≤ 5) → l.length ≤ 8 → (Lib.join l [32]).length ≤ 100
  | [], _, _ => by simp [Lib.join_nil]
  | x :: r, hall, hl => by
    rw [Lib.join_cons, List.length_append]
    have h1 := hall x (List.mem_cons_self ..)
    have h2 := tail_len r (fun y hy => hall y (List.mem_cons_of_mem _ hy))
    simp only [List.length_cons] at hl
    omega
theorem nmL_short (v : BitVec 16) : ∀ x ∈ nmL v, x.data.toList.length ≤ 5 := fun x hx => by
  obtain ⟨z, -, rfl⟩ := List.mem_map.1 hx
  exact nmF_size z
theorem join_len (v : BitVec 16) : (Lib.join ((nmL v).map (·.data.toList)) [32]).length ≤ 100 :=
  join_le _ (fun x hx => by obtain ⟨y, hy, rfl⟩ := List.mem_map.1 hx; exact nmL_short v y hy) (by simpa [nmL] using tl_le v 8)
theorem jn_size (v : BitVec 16) (k : Nat) : (jn (nmL v) k).size ≤ 100 := by
  have h := join_le (((nmL v).take k).map (·.data.toList)) (fun x hx => by obtain ⟨y, hy, rfl⟩ := List.mem_map.1 hx; exact nmL_short v y (List.mem_of_mem_take hy)) (by
    have h8 := tl_le v 8
    simp [nmL]
    omega)
  show (jn (nmL v) k).data.size ≤ 100
  simpa [jn] using h
theorem tl_pos (v : BitVec 16) (k : Nat) : 0 ≤ (tl v 8).getD k 0 := by
  have hall : ∀ y ∈ tl v 8, 0 ≤ y := fun y hy => by
    unfold tl at hy
    obtain ⟨h1, -⟩ := List.mem_filter.1 hy
    obtain ⟨i, -, hi⟩ := List.mem_map.1 h1
    omega
  by_cases h : k < (tl v 8).length
  · rw [List.getD, List.getElem?_eq_getElem h]
    exact hall _ (List.getElem_mem h)
  · rw [List.getD, List.getElem?_eq_none (by omega)]
    exact Int.le_refl 0
theorem Tryd.infoS : (Tryd.prog.info? 9).map (fun i => (i.zero, i.size, i.bytes)) = some (some (.string ⟨#[]⟩), 1, 16) := by kernel_rfl
theorem one_str (x : ByteArray) : ∀ u ∈ [Value.string x], u.oneCell' = true := by
  intro u hu
  simp at hu
  subst hu
  rfl

set_option maxRecDepth 100000 in
set_option maxHeartbeats 3200000 in
theorem print_calls (v : BitVec 16) (w : World) (hk : Sim.Known 2 kn.gl w) : Calls Tryd.prog 33 #[.int .u16 (v.toNat : Int)] w fun e w' => e = .returned (.string (prF v)) ∧ Below w.heap.size w w' := by
  obtain ⟨i0, hi, hz0, hz1, hz2⟩ := info_parts Tryd.infoS
  have hjl := join_len v
  have hnl := nmL_len v
  have hle := tl_le v 8
  obtain ⟨n, hn⟩ : ∃ n, (tl v 8).length = n := ⟨_, rfl⟩
  have hpr : prF v = if n = 0 then ⟨#[45]⟩ else jn (nmL v) n := by unfold prF; rw [hn]
  obtain ⟨res, hres⟩ : ∃ res, prF v = res := ⟨_, rfl⟩
  rw [hres] at hpr ⊢
  have hr0 : n = 0 → res = ⟨#[45]⟩ := fun h => by rw [hpr, if_pos h]
  have hrn : ¬ n = 0 → res = jn (nmL v) n := fun h => by rw [hpr, if_neg h]
  clear hpr hres
  go_enter Tryd.func33, Tryd.ntmps33
  go_wp2_with fail
  refine (list_calls v _).mono ?_
  rintro e wl ⟨⟨u, rfl, hown⟩, hbl⟩
  obtain ⟨ao, cp, rfl, hcell, hmx⟩ := cells_of_owns hown
  have hkl := known_below hk hbl
  have hat : ∀ k, k < n → (nmL v)[k]? = some (nmF ((tl v 8).getD k 0)) := fun k hk => nmL_at v k (by rw [hn]; exact hk)
  rw [hn] at hcell hle hmx hnl
  rw [hn]
  clear hown hn
  unfold maxLen at hmx
  go_wp2
  go_loopw [3, 5, 9] (fun q t i wr => ∃ k : Nat, k ≤ n ∧ i = .int .i64 k ∧ wr.ownsRow wl.heap.size 9 1 q k (((nmL v).take k).map Value.string) ∧ Below wl.heap.size wl wr) (fun _ _ i _ => n - (intOf i).toNat)
  case atStart => exact ⟨0, Nat.zero_le _, rfl, World.ownsRow_nil _ _ _ _, Below.refl _ _⟩
  case round =>
    obtain ⟨k, hkn, rfl, hown, hbel⟩ := hrel
    obtain ⟨a3, c3, rfl⟩ := owns_slice hown
    have hsz := hbel.size
    by_cases hlt : k < n
    · obtain ⟨b, rfl, hcb⟩ := hcell k hlt
      obtain ⟨y, hy⟩ : ∃ y, (tl v 8).getD k 0 = y := ⟨_, rfl⟩
      have hy0 : 0 ≤ y := by rw [← hy]; exact tl_pos v k
      have hc0 := hcb k hlt
      have hbw : b < wl.heap.size := World.block_lt_of_cell? wl _ hc0
      have hc1 : wr.cell? ⟨b, k, none⟩ = some (.int .u8 y) := by rw [hbel.cell (p := ⟨b, k, none⟩) hbw, hc0, hy]
      have hxk := hat k hlt
      rw [hy] at hxk
      obtain ⟨s, hs⟩ : ∃ s, nmF y = s := ⟨_, rfl⟩
      rw [hs] at hxk
      have htake : ((nmL v).take (k + 1)).map Value.string = ((nmL v).take k).map Value.string ++ [Value.string s] := by rw [List.take_add_one, hxk]; simp
      clear hcb hc0 hcell hat
      go_wp2_with fail
      refine (name_eq hs hy0 (known_below hkl hbel)).mono ?_
      rintro e w3 ⟨rfl, hb3⟩
      have hown3 := hown.kept (grown_of_below hb3) (Classical.em _)
      have hbel3 := hbel.trans (hb3.mono hsz)
      have hsz3 := hbel3.size
      go_wp2_with (at_builtin; (refine wpList_append_own_at _ rfl _ _ 68 rfl wl.heap.size 9 i0 (.string ⟨#[]⟩) 1 16 Tryd.underlying68 hi hz0 hz1 hz2 rfl (by decide) _ _ _ rfl (hown3.alloc _) ⟨w3.heap.size, 0, none⟩ 1 1 [.string s] rfl rfl (cell_one_new _ _ _) (one_str _) (by unfold maxLen; omega) (by omega) (by simp; omega) ?_; intro v' w4 hown4 hgr4 hnil hat; obtain ⟨ao4, cp4, rfl⟩ := owns_slice hown4))
      have hbel4 := kept_below hown3 hbel3 (Nat.le_refl _) hsz3 hgr4
      go_roundw
      case rel => exact ⟨k + 1, by omega, by go_num, by rw [htake]; simpa using hown4, hbel4⟩
      case measure => simp [intOf]; omega
    · have : k = n := by omega
      subst this
      have hfin := hbl.trans (hbel.mono hbl.size)
      by_cases h0 : k = 0
      · subst h0
        go_wp2
        go_ret
        exact ⟨by first | rfl | (rw [hr0 (by first | rfl | trivial)]; rfl) | (have hz := hr0 (by first | rfl | trivial); subst hz; rfl), hfin⟩
      · have hall : (nmL v).take k = nmL v := by rw [List.take_of_length_le (by omega)]
        rw [hall] at hown
        rcases hown.2 with ⟨he, hz⟩ | ⟨g, cap, cur, he, hlo, hg, hlc, hmax, hcs, htk⟩
        · exact absurd hz h0
        cases he
        have hgl : g < wr.heap.size := (Array.getElem?_eq_some_iff.1 hg).1
        have hck : ∀ (j : Nat) x, (nmL v)[j]? = some x → wr.cell? ⟨g, 0 + j, none⟩ = some (.string x) := by
          intro j x hj
          have hjl' : j < (nmL v).length := (List.getElem?_eq_some_iff.1 hj).1
          have h3 : (cur.toList.take (k * 1))[j]? = ((nmL v).map Value.string)[j]? := by rw [htk]
          rw [List.getElem?_take] at h3
          rw [if_pos (by omega)] at h3
          simp only [World.cell?, hg]
          rw [if_neg (by simp)]
          rw [Nat.zero_add, ← Array.getElem?_toList, h3, List.getElem?_map, hj]
          rfl
        have hjoin := YtfafaeghnkmpcaaDoor.joinOK g 0 c3 (nmL v) ⟨#[32]⟩ wr hck hgl (by omega) (by omega) (Nat.le_trans hjl (by omega))
        have hjv : (⟨(Lib.join ((nmL v).map (·.data.toList)) (ByteArray.mk #[32]).data.toList).toArray⟩ : ByteArray) = jn (nmL v) k := by rw [← hnl, jn_all]
        rw [hjv, hnl] at hjoin
        clear hjv hck htk hcs hg hat hcell
        rw [← hrn h0] at hjoin
        go_wp2_with fail
        refine hjoin.mono ?_
        rintro e w5 ⟨rfl, hb5⟩
        go_wp2
        go_ret
        exact ⟨by first | rfl | (rw [hrn h0]; rfl), hfin.trans (hb5.mono hfin.size)⟩

set_option maxRecDepth 100000 in
set_option maxHeartbeats 3200000 in
theorem rprint_calls (v : BitVec 16) (w : World) (hk : Sim.Known 2 kn.gl w) : Calls Tryd.prog 45 #[.int .u16 (v.toNat : Int)] w fun e w' => e = .returned (.string (prF v)) ∧ Below w.heap.size w w' := by
  have hle := tl_le v 8
  obtain ⟨n, hn⟩ : ∃ n, (tl v 8).length = n := ⟨_, rfl⟩
  have hpr : prF v = if n = 0 then ⟨#[45]⟩ else jn (nmL v) n := by unfold prF; rw [hn]
  obtain ⟨res, hres⟩ : ∃ res, prF v = res := ⟨_, rfl⟩
  rw [hres] at hpr ⊢
  have hr0 : n = 0 → res = ⟨#[45]⟩ := fun h => by rw [hpr, if_pos h]
  have hrn : ¬ n = 0 → res = jn (nmL v) n := fun h => by rw [hpr, if_neg h]
  clear hpr hres
  go_enter Tryd.func45, Tryd.ntmps45
  go_wp2_with fail
  refine (rlist_calls v _).mono ?_
  rintro e wl ⟨⟨u, rfl, hown⟩, hbl⟩
  obtain ⟨ao, cp, rfl, hcell, hmx⟩ := cells_of_owns hown
  have hkl := known_below hk hbl
  have hat : ∀ k, k < n → (nmL v)[k]? = some (nmF ((tl v 8).getD k 0)) := fun k hk => nmL_at v k (by rw [hn]; exact hk)
  rw [hn] at hcell hle hmx
  rw [hn]
  clear hown hn
  unfold maxLen at hmx
  by_cases h0 : n = 0
  · subst h0
    go_wp2
    go_ret
    exact ⟨by first | rfl | (rw [hr0 (by first | rfl | trivial)]; rfl), hbl⟩
  obtain ⟨b, rfl, hcb⟩ := hcell 0 (by omega)
  have hpos : 0 < n := by omega
  have hc0 := hcb 0 hpos
  have hbw : b < wl.heap.size := World.block_lt_of_cell? wl _ hc0
  obtain ⟨y, hy⟩ : ∃ y, (tl v 8).getD 0 0 = y := ⟨_, rfl⟩
  have hy0 : 0 ≤ y := by rw [← hy]; exact tl_pos v 0
  have hx0 := hat 0 hpos
  rw [hy] at hc0 hx0
  obtain ⟨s, hs⟩ : ∃ s, nmF y = s := ⟨_, rfl⟩
  rw [hs] at hx0
  have hj1 := jn_one hx0
  clear hcell
  obtain ⟨hcb', hcbe⟩ : ∃ P : Prop, P = (∀ j, j < n → wl.cell? ⟨b, j, none⟩ = some (.int .u8 ((tl v 8).getD j 0))) := ⟨_, rfl⟩
  have hcbp : hcb' := by rw [hcbe]; exact hcb
  clear hcb
  go_wp2_with fail
  refine (rname_eq hs hy0 hkl).mono ?_
  rintro e w3 ⟨rfl, hb3⟩
  go_wp2
  go_loopw [4, 5] (fun q i wr => ∃ k : Nat, 1 ≤ k ∧ k ≤ n ∧ i = .int .i64 k ∧ q = .string (jn (nmL v) k) ∧ Below wl.heap.size wl wr) (fun _ i _ => n - (intOf i).toNat)
  case atStart => exact ⟨1, Nat.le_refl _, hpos, rfl, by rw [hj1], hb3⟩
  case round =>
    obtain ⟨k, hk1, hkn, rfl, rfl, hbel⟩ := hrel
    have hsz := hbel.size
    by_cases hlt : k < n
    · clear hj1 hx0 hc0 hy hs hy0
      have hcb := hcbe ▸ hcbp
      obtain ⟨y, hy⟩ : ∃ y, (tl v 8).getD k 0 = y := ⟨_, rfl⟩
      have hy0 : 0 ≤ y := by rw [← hy]; exact tl_pos v k
      have hc1 : wr.cell? ⟨b, k, none⟩ = some (.int .u8 y) := by rw [hbel.cell (p := ⟨b, k, none⟩) hbw, hcb k hlt, hy]
      have hxk := hat k hlt
      rw [hy] at hxk
      obtain ⟨s, hs⟩ : ∃ s, nmF y = s := ⟨_, rfl⟩
      rw [hs] at hxk
      have hj := jn_succ hxk hk1
      obtain ⟨p, hp⟩ : ∃ p, jn (nmL v) k = p := ⟨_, rfl⟩
      have hpl : p.size ≤ 100 := by rw [← hp]; exact jn_size v k
      have hsl : s.size ≤ 5 := by rw [← hs]; exact nmF_size y
      rw [hp] at hj
      rw [hp]
      obtain ⟨q, hq⟩ : ∃ q, p ++ ⟨#[32]⟩ = q := ⟨_, rfl⟩
      have hql : q.size ≤ 101 := by
        rw [← hq, ByteArray.size_append]
        have : (ByteArray.mk #[32]).size = 1 := rfl
        omega
      have ha1 : ∀ w, (Op.stringOp .add p ⟨#[32]⟩).run Tryd.prog w = .ok (.string q) w := fun w => by
        rw [run_string_add_sum w p _ (by have : (ByteArray.mk #[32]).size = 1 := rfl; omega), hq]
      rw [hq] at hj
      have ha2 : ∀ w, (Op.stringOp .add q s).run Tryd.prog w = .ok (.string (jn (nmL v) (k + 1))) w := fun w => by
        rw [run_string_add_sum w q s (by omega), hj]
      clear hcb hat hcbp hcbe
      go_wp2_with fail
      refine (rname_eq hs hy0 (known_below hkl hbel)).mono ?_
      rintro e w4 ⟨rfl, hb4⟩
      go_wp2
      go_roundw
      case rel => exact ⟨k + 1, by omega, by omega, by go_num, rfl, hbel.trans (hb4.mono hsz)⟩
      case measure => simp [intOf]; omega
    · have : k = n := by omega
      subst this
      clear hcbe
      go_wp2
      go_ret
      exact ⟨by rw [hrn h0]; rfl, hbl.trans (hbel.mono hbl.size)⟩

theorem print_eq {v : BitVec 16} {s : ByteArray} (h : prF v = s) {w : World} (hk : Sim.Known 2 kn.gl w) : Calls Tryd.prog 33 #[.int .u16 (v.toNat : Int)] w fun e w' => e = .returned (.string s) ∧ Below w.heap.size w w' := by
  rw [← h]; exact print_calls v w hk
theorem rprint_eq {v : BitVec 16} {s : ByteArray} (h : prF v = s) {w : World} (hk : Sim.Known 2 kn.gl w) : Calls Tryd.prog 45 #[.int .u16 (v.toNat : Int)] w fun e w' => e = .returned (.string s) ∧ Below w.heap.size w w' := by
  rw [← h]; exact rprint_calls v w hk
end Go.Proofs.YtfafaeghnkmpcaaDoor.ts
