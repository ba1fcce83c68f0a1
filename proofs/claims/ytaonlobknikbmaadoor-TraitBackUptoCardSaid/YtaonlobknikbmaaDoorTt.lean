/- The texts of traits: Of, Parse, Print, pieces beside the document's. -/
import Derived.Test.YtaonlobknikbmaaDoorChecked
import Derived.Test.YtaonlobknikbmaaDoorSim
import Derived.Test.YtaonlobknikbmaaDoorKn
import Derived.Test.YtaonlobknikbmaaDoorJn
import Derived.Test.YtaonlobknikbmaaDoorTb
import Derived.Test.YtaonlobknikbmaaDoorSp
import Derived.WalkKit
import Derived.ProofKit
import Derived.Below
import Derived.RegionTactic
import Derived.BigRegion
import Derived.Deep.AppendLies
import Derived.Deep.RegionLaw
import Derived.OwnWalk
import Derived.Maps.AppendAt
import Derived.Deep.QuietTactic
import Derived.BigQuiet
import Derived.Lib.Join
import Derived.Laws.Concat
namespace Go.Proofs.YtaonlobknikbmaaDoor.tt
open Go.RowKit tb
set_option linter.unusedVariables false

theorem num : Sim.NumOK Tryd.prog := Sim.numOK_of (by kernel_rfl)
theorem mixed : Tryd.prog.follows .mixedOrders = true := by kernel_rfl
theorem known_below {w w' : World} (h : Sim.Known 1 kn.gl w) (hb : Below w.heap.size w w') : Sim.Known 1 kn.gl w' :=
  ⟨Nat.le_trans h.1 hb.size, fun p hp => let ⟨a, b, c, d, f⟩ := h.2 p hp; ⟨a, b, c, d, fun i v hv => (hb.cell (p := ⟨p.1, i, none⟩) (Nat.lt_of_lt_of_le a h.1)).trans (f i v hv)⟩⟩
theorem grown_refl (w : World) (row : Option Nat) : w.grownBy w row := ⟨rfl, rfl, rfl, Nat.le_refl _, fun _ _ _ => rfl⟩
theorem grown_trans {a b c : World} {row : Option Nat} (h : a.grownBy b row) (k : b.grownBy c row) : a.grownBy c row :=
  ⟨k.os.trans h.os, k.tape.trans h.tape, k.output.trans h.output, Nat.le_trans h.size k.size, fun i hi hne => (k.block i (Nat.lt_of_lt_of_le hi h.size) hne).trans (h.block i hi hne)⟩
theorem grown_setCell {kb : Nat} (w : World) (i : Nat) (v : Value) : w.grownBy (w.setCell ⟨kb, i, none⟩ v) (some kb) :=
  ⟨rfl, rfl, rfl, by simp, fun k _ hne => Below.heap_setCell w _ v k (fun e => hne (by rw [e]))⟩
theorem grown_of_below {w w' : World} (h : Below w.heap.size w w') : w.grownBy w' none := ⟨h.os, h.tape, h.output, h.size, fun k hk _ => h.block k hk⟩


def nmF : Int → ByteArray
  | .ofNat 1 => ⟨#[102, 97, 115, 116]⟩
  | .ofNat 2 => ⟨#[103, 117, 97, 114, 100]⟩
  | .ofNat 3 => ⟨#[118, 101, 110, 111, 109]⟩
  | .ofNat 4 => ⟨#[108, 111, 110, 101]⟩
  | .ofNat 5 => ⟨#[100, 114, 97, 105, 110]⟩
  | .ofNat 6 => ⟨#[109, 117, 116, 101]⟩
  | .ofNat 7 => ⟨#[102, 105, 120, 101, 100]⟩
  | .ofNat 8 => ⟨#[115, 119, 105, 102, 116]⟩
  | _ => ⟨#[]⟩
theorem r44 : ∀ k : Int, 0 ≤ k → (Sim.callH Tryd.prog Sim.noHook 1 60 1 44 [.int .u8 k] (Sim.SG 1 kn.gl)).map Prod.fst = some (.string (nmF k))
  | .ofNat 0, _ => by kernel_rfl
  | .ofNat 1, _ => by kernel_rfl
  | .ofNat 2, _ => by kernel_rfl
  | .ofNat 3, _ => by kernel_rfl
  | .ofNat 4, _ => by kernel_rfl
  | .ofNat 5, _ => by kernel_rfl
  | .ofNat 6, _ => by kernel_rfl
  | .ofNat 7, _ => by kernel_rfl
  | .ofNat 8, _ => by kernel_rfl
  | .ofNat (m + 9), _ => by kernel_rfl
  | .negSucc m, h => absurd h (by omega)

theorem name_eq {k : Int} {s : ByteArray} (h : nmF k = s) (hk : 0 ≤ k) {w : World} (hw : Sim.Known 1 kn.gl w) : Calls Tryd.prog 44 #[.int .u8 k] w fun e w' => e = .returned (.string s) ∧ Below w.heap.size w w' := by
  subst h
  exact Sim.callsG_ans num mixed Sim.noHook_ok (r44 k hk) rfl rfl hw
theorem bytes_eq {s t : ByteArray} (h : s.data.toList = t.data.toList) : s = t := by
  obtain ⟨⟨a⟩⟩ := s
  obtain ⟨⟨b⟩⟩ := t
  simp at h
  rw [h]
/-- the first k words, with a blank between each two -/
def jn (xs : List ByteArray) (k : Nat) : ByteArray := ⟨(Lib.join ((xs.take k).map (·.data.toList)) [32]).toArray⟩
theorem jn_one {xs : List ByteArray} {s : ByteArray} (h : xs[0]? = some s) : jn xs 1 = s := by
  cases xs with
  | nil => simp at h
  | cons x r =>
    simp at h
    subst h
    apply bytes_eq
    simp [jn, Lib.join_one]
theorem jn_succ {xs : List ByteArray} {s : ByteArray} {k : Nat} (h : xs[k]? = some s) (hk : 1 ≤ k) : jn xs k ++ ⟨#[32]⟩ ++ s = jn xs (k + 1) := by
  cases xs with
  | nil => simp at h
  | cons x r =>
    obtain ⟨j, rfl⟩ : ∃ j, k = j + 1 := ⟨k - 1, by omega⟩
    have hr : (r.map (·.data.toList))[j]? = some s.data.toList := by simpa using congrArg (Option.map (·.data.toList)) h
    apply bytes_eq
    simp only [jn, List.take_succ_cons, List.map_cons, Lib.join_cons, List.map_take, ByteArray.data_append, Array.toList_append]
    rw [Lib.joinTail_take_succ _ _ _ _ hr]
    simp [List.append_assoc]
theorem jn_all (xs : List ByteArray) : jn xs xs.length = ⟨(Lib.join (xs.map (·.data.toList)) [32]).toArray⟩ := by
  unfold jn
  rw [List.take_length]
def nmL (v : BitVec 16) : List ByteArray := (tl v 8).map nmF
def prF (v : BitVec 16) : ByteArray := if (tl v 8).length = 0 then ⟨#[45]⟩ else jn (nmL v) (tl v 8).length
theorem nmL_len (v : BitVec 16) : (nmL v).length = (tl v 8).length := by simp [nmL]
theorem nmL_at (v : BitVec 16) (k : Nat) (h : k < (tl v 8).length) : (nmL v)[k]? = some (nmF ((tl v 8).getD k 0)) := by
  simp [nmL, List.getD, List.getElem?_eq_getElem h]
theorem nmF_size (k : Int) : (nmF k).data.toList.length ≤ 5 := by
  unfold nmF
  split <;> decide
theorem tail_len : ∀ r : List (List UInt8), (∀ x ∈ r, x.length ≤ 5) → (Lib.joinTail [32] r).length ≤ 6 * r.length
  | [], _ => by simp [Lib.joinTail]
  | x :: r, h => by
    have h1 := h x (List.mem_cons_self ..)
    have h2 := tail_len r (fun y hy => h y (List.mem_cons_of_mem _ hy))
    simp only [Lib.joinTail, List.map_cons, List.flatten_cons, List.length_append, List.length_cons, List.length_nil] at h2 ⊢
    omega
theorem join_le : ∀ l : List (List UInt8), (∀ x ∈ l, x.length ≤ 5) → l.length ≤ 8 → (Lib.join l [32]).length ≤ 100
  | [], _, _ => by simp [Lib.join_nil]
  | x :: r, hall, hl => by
    rw [Lib.join_cons, List.length_append]
    have h1 := hall x (List.mem_cons_self ..)
    have h2 := tail_len r (fun y hy => hall y (List.mem_cons_of_mem _ hy))
    simp only [List.length_cons] at hl
    omega
theorem nmL_short (v : BitVec 16) : ∀ x ∈ nmL v, x.data.toList.length ≤ 5 := fun x hx => by
  obtain ⟨z, -, rfl⟩ := List.mem_map.1 hx
  exact nmF_size z
theorem join_len (v : BitVec 16) : (Lib.join ((nmL v).map (·.data.toList)) [32]).length ≤ 100 :=
  join_le _ (fun x hx => by obtain ⟨y, hy, rfl⟩ := List.mem_map.1 hx; exact nmL_short v y hy) (by simpa [nmL] using tl_le v 8)
theorem jn_size (v : BitVec 16) (k : Nat) : (jn (nmL v) k).size ≤ 100 := by
  have h := join_le (((nmL v).take k).map (·.data.toList)) (fun x hx => by obtain ⟨y, hy, rfl⟩ := List.mem_map.1 hx; exact nmL_short v y (List.mem_of_mem_take hy)) (by
    have h8 := tl_le v 8
    simp [nmL]
    omega)
  show (jn (nmL v) k).data.size ≤ 100
  simpa [jn] using h
theorem tl_pos (v : BitVec 16) (k : Nat) : 0 ≤ (tl v 8).getD k 0 := by
  have hall : ∀ y ∈ tl v 8, 0 ≤ y := fun y hy => by
    unfold tl at hy
    obtain ⟨h1, -⟩ := List.mem_filter.1 hy
    obtain ⟨i, -, hi⟩ := List.mem_map.1 h1
    omega
  by_cases h : k < (tl v 8).length
  · rw [List.getD, List.getElem?_eq_getElem h]
    exact hall _ (List.getElem_mem h)
  · rw [List.getD, List.getElem?_eq_none (by omega)]
    exact Int.le_refl 0
theorem Tryd.infoS : (Tryd.prog.info? 9).map (fun i => (i.zero, i.size, i.bytes)) = some (some (.string ⟨#[]⟩), 1, 16) := by kernel_rfl
theorem one_str (x : ByteArray) : ∀ u ∈ [Value.string x], u.oneCell' = true := by
  intro u hu
  simp at hu
  subst hu
  rfl

set_option maxRecDepth 100000 in
set_option maxHeartbeats 3200000 in
theorem print_calls (v : BitVec 16) (w : World) (hk : Sim.Known 1 kn.gl w) : Calls Tryd.prog 30 #[.int .u16 (v.toNat : Int)] w fun e w' => e = .returned (.string (prF v)) ∧ Below w.heap.size w w' := by
  obtain ⟨i0, hi, hz0, hz1, hz2⟩ := info_parts Tryd.infoS
  have hjl := join_len v
  have hnl := nmL_len v
  have hle := tl_le v 8
  obtain ⟨n, hn⟩ : ∃ n, (tl v 8).length = n := ⟨_, rfl⟩
  have hpr : prF v = if n = 0 then ⟨#[45]⟩ else jn (nmL v) n := by unfold prF; rw [hn]
  obtain ⟨res, hres⟩ : ∃ res, prF v = res := ⟨_, rfl⟩
  rw [hres] at hpr ⊢
  have hr0 : n = 0 → res = ⟨#[45]⟩ := fun h => by rw [hpr, if_pos h]
  have hrn : ¬ n = 0 → res = jn (nmL v) n := fun h => by rw [hpr, if_neg h]
  clear hpr hres
  go_enter Tryd.func30, Tryd.ntmps30
  go_wp2_with fail
  refine (list_calls v _).mono ?_
  rintro e wl ⟨⟨u, rfl, hown⟩, hbl⟩
  obtain ⟨ao, cp, rfl, hcell, hmx⟩ := cells_of_owns hown
  have hkl := known_below hk hbl
  have hat : ∀ k, k < n → (nmL v)[k]? = some (nmF ((tl v 8).getD k 0)) := fun k hk => nmL_at v k (by rw [hn]; exact hk)
  rw [hn] at hcell hle hmx hnl
  rw [hn]
  clear hown hn
  unfold maxLen at hmx
  go_wp2
  go_loopw [3, 5, 9] (fun q t i wr => ∃ k : Nat, k ≤ n ∧ i = .int .i64 k ∧ wr.ownsRow wl.heap.size 9 1 q k (((nmL v).take k).map Value.string) ∧ Below wl.heap.size wl wr) (fun _ _ i _ => n - (intOf i).toNat)
  case atStart => exact ⟨0, Nat.zero_le _, rfl, World.ownsRow_nil _ _ _ _, Below.refl _ _⟩
  case round =>
    obtain ⟨k, hkn, rfl, hown, hbel⟩ := hrel
    obtain ⟨a3, c3, rfl⟩ := owns_slice hown
    have hsz := hbel.size
    by_cases hlt : k < n
    · obtain ⟨b, rfl, hcb⟩ := hcell k hlt
      obtain ⟨y, hy⟩ : ∃ y, (tl v 8).getD k 0 = y := ⟨_, rfl⟩
      have hy0 : 0 ≤ y := by rw [← hy]; exact tl_pos v k
      have hc0 := hcb k hlt
      have hbw : b < wl.heap.size := World.block_lt_of_cell? wl _ hc0
      have hc1 : wr.cell? ⟨b, k, none⟩ = some (.int .u8 y) := by rw [hbel.cell (p := ⟨b, k, none⟩) hbw, hc0, hy]
      have hxk := hat k hlt
      rw [hy] at hxk
      obtain ⟨s, hs⟩ : ∃ s, nmF y = s := ⟨_, rfl⟩
      rw [hs] at hxk
      have htake : ((nmL v).take (k + 1)).map Value.string = ((nmL v).take k).map Value.string ++ [Value.string s] := by rw [List.take_add_one, hxk]; simp
      clear hcb hc0 hcell hat
      go_wp2_with fail
      refine (name_eq hs hy0 (known_below hkl hbel)).mono ?_
      rintro e w3 ⟨rfl, hb3⟩
      have hown3 := hown.kept (grown_of_below hb3) (Classical.em _)
      have hbel3 := hbel.trans (hb3.mono hsz)
      have hsz3 := hbel3.size
      go_wp2_with (at_builtin; (refine wpList_append_own_at _ rfl _ _ 94 rfl wl.heap.size 9 i0 (.string ⟨#[]⟩) 1 16 Tryd.underlying94 hi hz0 hz1 hz2 rfl (by decide) _ _ _ rfl (hown3.alloc _) ⟨w3.heap.size, 0, none⟩ 1 1 [.string s] rfl rfl (cell_one_new _ _ _) (one_str _) (by unfold maxLen; omega) (by omega) (by simp; omega) ?_; intro v' w4 hown4 hgr4 hnil hat; obtain ⟨ao4, cp4, rfl⟩ := owns_slice hown4))
      have hbel4 := kept_below hown3 hbel3 (Nat.le_refl _) hsz3 hgr4
      go_roundw
      case rel => exact ⟨k + 1, by omega, by go_num, by rw [htake]; simpa using hown4, hbel4⟩
      case measure => simp [intOf]; omega
    · have : k = n := by omega
      subst this
      have hfin := hbl.trans (hbel.mono hbl.size)
      by_cases h0 : k = 0
      · subst h0
        go_wp2
        go_ret
        exact ⟨by first | rfl | (rw [hr0 (by first | rfl | trivial)]; rfl) | (have hz := hr0 (by first | rfl | trivial); subst hz; rfl), hfin⟩
      · have hall : (nmL v).take k = nmL v := by rw [List.take_of_length_le (by omega)]
        rw [hall] at hown
        rcases hown.2 with ⟨he, hz⟩ | ⟨g, cap, cur, he, hlo, hg, hlc, hmax, hcs, htk⟩
        · exact absurd hz h0
        cases he
        have hgl : g < wr.heap.size := (Array.getElem?_eq_some_iff.1 hg).1
        have hck : ∀ (j : Nat) x, (nmL v)[j]? = some x → wr.cell? ⟨g, 0 + j, none⟩ = some (.string x) := by
          intro j x hj
          have hjl' : j < (nmL v).length := (List.getElem?_eq_some_iff.1 hj).1
          have h3 : (cur.toList.take (k * 1))[j]? = ((nmL v).map Value.string)[j]? := by rw [htk]
          rw [List.getElem?_take] at h3
          rw [if_pos (by omega)] at h3
          simp only [World.cell?, hg]
          rw [if_neg (by simp)]
          rw [Nat.zero_add, ← Array.getElem?_toList, h3, List.getElem?_map, hj]
          rfl
        have hjoin := YtaonlobknikbmaaDoor.joinOK g 0 c3 (nmL v) ⟨#[32]⟩ wr hck hgl (by omega) (by omega) (Nat.le_trans hjl (by omega))
        have hjv : (⟨(Lib.join ((nmL v).map (·.data.toList)) (ByteArray.mk #[32]).data.toList).toArray⟩ : ByteArray) = jn (nmL v) k := by rw [← hnl, jn_all]
        rw [hjv, hnl] at hjoin
        clear hjv hck htk hcs hg hat hcell
        rw [← hrn h0] at hjoin
        go_wp2_with fail
        refine hjoin.mono ?_
        rintro e w5 ⟨rfl, hb5⟩
        go_wp2
        go_ret
        exact ⟨by first | rfl | (rw [hrn h0]; rfl), hfin.trans (hb5.mono hfin.size)⟩

theorem print_eq {v : BitVec 16} {s : ByteArray} (h : prF v = s) {w : World} (hk : Sim.Known 1 kn.gl w) : Calls Tryd.prog 30 #[.int .u16 (v.toNat : Int)] w fun e w' => e = .returned (.string s) ∧ Below w.heap.size w w' := by
  rw [← h]; exact print_calls v w hk

/-! ### Of -/
/-- the number of a trait's name, from a place on; 0: none's -/
def ofGo (s : ByteArray) : Nat → Nat → Int
  | 0, _ => 0
  | f + 1, k => if nmF ((k : Int) + 1) = s then (k : Int) + 1 else ofGo s f (k + 1)
def ofF (s : ByteArray) : Int := ofGo s 8 0
theorem ofGo_pos (s : ByteArray) : ∀ f k, 0 ≤ ofGo s f k ∧ ofGo s f k ≤ (k : Int) + f
  | 0, k => by unfold ofGo; omega
  | f + 1, k => by
    unfold ofGo
    split
    · omega
    · have := ofGo_pos s f (k + 1)
      omega
theorem ofF_pos (s : ByteArray) : 0 ≤ ofF s ∧ ofF s ≤ 8 := by
  have := ofGo_pos s 8 0
  unfold ofF
  omega
theorem ofGo_hit {s : ByteArray} {k : Nat} (hk : k < 8) (h : nmF ((k : Int) + 1) = s) : ofGo s (8 - k) k = (k : Int) + 1 := by
  obtain ⟨f, hf⟩ : ∃ f, 8 - k = f + 1 := ⟨8 - k - 1, by omega⟩
  rw [hf]
  unfold ofGo
  rw [if_pos h]
theorem ofGo_miss {s : ByteArray} {k : Nat} (hk : k < 8) (h : ¬ nmF ((k : Int) + 1) = s) : ofGo s (8 - k) k = ofGo s (8 - (k + 1)) (k + 1) := by
  obtain ⟨f, hf⟩ : ∃ f, 8 - k = f + 1 := ⟨8 - k - 1, by omega⟩
  rw [hf, show 8 - (k + 1) = f by omega]
  conv => lhs; unfold ofGo
  rw [if_neg h]

set_option maxRecDepth 100000 in
set_option maxHeartbeats 1600000 in
theorem of_calls (s : ByteArray) {w : World} (hk : Sim.Known 1 kn.gl w) : Calls Tryd.prog 25 #[.string s] w fun e w' => e = .returned (.tuple #[.int .u8 (ofF s), .bool (decide (ofF s ≠ 0))]) ∧ Below w.heap.size w w' := by
  obtain ⟨r, hr⟩ : ∃ r, ofF s = r := ⟨_, rfl⟩
  rw [hr]
  go_enter Tryd.func25, Tryd.ntmps25
  go_wp2
  go_loopw [4] (fun i wr => ∃ k : Nat, k ≤ 8 ∧ i = .int .u8 ((k : Int) + 1) ∧ ofGo s (8 - k) k = r ∧ Below w.heap.size w wr) (fun i _ => 9 - (intOf i).toNat)
  case atStart => exact ⟨0, by omega, rfl, hr, Below.refl _ _⟩
  case round =>
    obtain ⟨k, hk8, rfl, hg, hbel⟩ := hrel
    have hsz := hbel.size
    by_cases hlt : k < 8
    · obtain ⟨m, hm⟩ : ∃ m, nmF ((k : Int) + 1) = m := ⟨_, rfl⟩
      by_cases heq : m = s
      · have hb : (m.toList == s.toList) = true := by rw [heq]; simp
        have hr1 : r = (k : Int) + 1 := by rw [← hg]; exact ofGo_hit hlt (by rw [hm, heq])
        have hr2 : decide (r ≠ 0) = true := decide_eq_true (by omega)
        go_wp2_with fail
        refine (name_eq hm (by omega) (known_below hk hbel)).mono ?_
        rintro e w3 ⟨rfl, hb3⟩
        go_wp2
        go_ret2
        exact ⟨by first | rfl | (simp; done) | (simp; omega) | (rw [hr2, hr1]; done) | (rw [hr2, hr1]; rfl) | (rw [hr1]; first | rfl | (simp; done) | (simp; omega)), hbel.trans (hb3.mono hsz)⟩
      · have hb : (m.toList == s.toList) = false := by
          rw [beq_eq_false_iff_ne]
          intro hh
          exact heq (bytes_eq (by simpa [ByteArray.toList_eq] using hh))
        have hg' := ofGo_miss hlt (s := s) (by rw [hm]; exact heq)
        rw [hg] at hg'
        go_wp2_with fail
        refine (name_eq hm (by omega) (known_below hk hbel)).mono ?_
        rintro e w3 ⟨rfl, hb3⟩
        go_wp2
        go_roundw
        case rel => exact ⟨k + 1, by omega, by go_num, hg'.symm, hbel.trans (hb3.mono hsz)⟩
        case measure => simp [intOf]; omega
    · have : k = 8 := by omega
      subst this
      have hr0 : r = 0 := by rw [← hg]; rfl
      have hr2 : decide (r ≠ 0) = false := decide_eq_false (fun h => h hr0)
      go_wp2
      go_ret2
      exact ⟨by first | rfl | (simp; done) | (simp; omega) | (rw [hr2, hr0]; done) | (rw [hr2, hr0]; rfl) | (rw [hr0]; first | rfl | (simp; done) | (simp; omega)), hbel⟩

theorem cell_new (w : World) (cs : Array Value) (t : TypeId) (o : Nat) : (w.alloc (.cells cs t)).cell? ⟨w.heap.size, o, none⟩ = cs[o]? := by
  simp only [World.cell?, heap_alloc_new]
  rfl
set_option maxRecDepth 100000 in
set_option maxHeartbeats 1600000 in
theorem rows_calls (w : World) : Calls Tryd.prog 45 #[] w fun e w' => (∃ b, e = .returned (.slice (some ⟨b, 0, none⟩) 8 8) ∧ b < w'.heap.size ∧ ∀ i, i < 8 → w'.cell? ⟨b, i * 4, none⟩ = some (.int .u8 ((i : Int) + 1)) ∧ w'.cell? ⟨b, i * 4 + 1, none⟩ = some (.string (nmF ((i : Int) + 1)))) ∧ Below w.heap.size w w' := by
  go_enter Tryd.func45, Tryd.ntmps45
  go_wp2
  go_ret
  refine ⟨⟨w.heap.size, rfl, by simp, fun i hi => ?_⟩, (Below.refl _ w).alloc (Nat.le_refl _) _⟩
  rw [cell_new, cell_new]
  match i, hi with
  | 0, _ => exact ⟨rfl, rfl⟩
  | 1, _ => exact ⟨rfl, rfl⟩
  | 2, _ => exact ⟨rfl, rfl⟩
  | 3, _ => exact ⟨rfl, rfl⟩
  | 4, _ => exact ⟨rfl, rfl⟩
  | 5, _ => exact ⟨rfl, rfl⟩
  | 6, _ => exact ⟨rfl, rfl⟩
  | 7, _ => exact ⟨rfl, rfl⟩

set_option maxRecDepth 100000 in
set_option maxHeartbeats 1600000 in
theorem rof_calls (s : ByteArray) (w : World) : Calls Tryd.prog 26 #[.string s] w fun e w' => e = .returned (.tuple #[.int .u8 (ofF s), .bool (decide (ofF s ≠ 0))]) ∧ Below w.heap.size w w' := by
  obtain ⟨r, hr⟩ : ∃ r, ofF s = r := ⟨_, rfl⟩
  rw [hr]
  go_enter Tryd.func26, Tryd.ntmps26
  go_wp2_with fail
  refine (rows_calls _).mono ?_
  rintro e wl ⟨⟨b, rfl, hbw, hcell⟩, hbl⟩
  go_wp2
  go_loop [5] (fun i => ∃ k : Nat, k ≤ 8 ∧ i = .int .i64 k ∧ ofGo s (8 - k) k = r) (fun i => 8 - (intOf i).toNat)
  case atStart => exact ⟨0, by omega, rfl, hr⟩
  case round =>
    obtain ⟨k, hk8, rfl, hg⟩ := hrel
    by_cases hlt : k < 8
    · obtain ⟨m, hm⟩ : ∃ m, nmF ((k : Int) + 1) = m := ⟨_, rfl⟩
      obtain ⟨hc1, hc2⟩ := hcell k hlt
      rw [hm] at hc2
      clear hcell
      by_cases heq : m = s
      · have hb : (m.toList == s.toList) = true := by rw [heq]; simp
        have hr1 : r = (k : Int) + 1 := by rw [← hg]; exact ofGo_hit hlt (by rw [hm, heq])
        have hr2 : decide (r ≠ 0) = true := decide_eq_true (by omega)
        go_wp2
        go_ret2
        exact ⟨by first | rfl | (simp; done) | (simp; omega) | (rw [hr2, hr1]; done) | (rw [hr2, hr1]; rfl) | (rw [hr1]; first | rfl | (simp; done) | (simp; omega)), hbl⟩
      · have hb : (m.toList == s.toList) = false := by
          rw [beq_eq_false_iff_ne]
          intro hh
          exact heq (bytes_eq (by simpa [ByteArray.toList_eq] using hh))
        have hg' := ofGo_miss hlt (s := s) (by rw [hm]; exact heq)
        rw [hg] at hg'
        go_wp2
        go_round
        case rel => exact ⟨k + 1, by omega, by go_num, hg'.symm⟩
        case measure => simp [intOf]; omega
    · have : k = 8 := by omega
      subst this
      have hr0 : r = 0 := by rw [← hg]; rfl
      have hr2 : decide (r ≠ 0) = false := decide_eq_false (fun h => h hr0)
      go_wp2
      go_ret2
      exact ⟨by first | rfl | (simp; done) | (simp; omega) | (rw [hr2, hr0]; done) | (rw [hr2, hr0]; rfl) | (rw [hr0]; first | rfl | (simp; done) | (simp; omega)), hbl⟩

/-! ### a set, out of words -/
def fold : List ByteArray → BitVec 16 → Int → BitVec 16 × Int
  | [], v, _ => (v, 0)
  | x :: r, v, l => if ofF x ≤ l then (0, 5) else fold r (v ||| ub (ofF x)) (ofF x)
def parW (W : List ByteArray) : BitVec 16 × Int := if W.all (fun x => decide (ofF x ≠ 0)) = true then fold W 0 0 else (0, 4)
noncomputable def parF (s : ByteArray) : BitVec 16 × Int := open Classical in if s = ⟨#[45]⟩ then (0, 0) else parW (sp.words s)
theorem parW_all (W : List ByteArray) (h : ∀ x ∈ W, ofF x ≠ 0) : fold W 0 0 = parW W := by
  unfold parW
  rw [if_pos]
  rw [List.all_eq_true]
  exact fun x hx => decide_eq_true (h x hx)
theorem parW_bad (W : List ByteArray) (x : ByteArray) (hx : x ∈ W) (h : ofF x = 0) : parW W = (0, 4) := by
  unfold parW
  rw [if_neg]
  intro h1
  rw [List.all_eq_true] at h1
  exact of_decide_eq_true (h1 x hx) h

set_option maxRecDepth 100000 in
set_option maxHeartbeats 3200000 in
theorem parse_calls (s : ByteArray) (hs : s.size ≤ 1100000) (w : World) (hk : Sim.Known 1 kn.gl w) :
    Calls Tryd.prog 27 #[.string s] w fun e w' => e = .returned (.tuple #[.int .u16 ((parF s).1.toNat : Int), .int .i64 (parF s).2]) ∧ Below w.heap.size w w' := by
  by_cases hd : s = ⟨#[45]⟩
  · subst hd
    go_enter Tryd.func27, Tryd.ntmps27
    go_wp2
    go_ret2
    exact ⟨rfl, Below.refl _ _⟩
  · have hp : parF s = parW (sp.words s) := by unfold parF; rw [if_neg hd]
    have hb0 : (s.toList == ((ByteArray.mk #[45]).toList)) = false := by
      rw [beq_eq_false_iff_ne]
      intro hh
      exact hd (bytes_eq (by simpa [ByteArray.toList_eq] using hh))
    have h45 : (ByteArray.mk #[45]).toList = [45] := by rw [ByteArray.toList_eq]
    have hb1 : (s.toList == [45]) = false := by rw [← h45]; exact hb0
    clear h45
    rw [hp]
    obtain ⟨R, hR⟩ : ∃ R, parW (sp.words s) = R := ⟨_, rfl⟩
    rw [hR]
    have hwl := sp.words_le s
    go_enter Tryd.func27, Tryd.ntmps27
    go_wp2_with fail
    refine (sp.split_calls s _ (by omega)).mono ?_
    rintro e wl ⟨rfl, hwl2⟩
    have hbl : Below w.heap.size w wl := by rw [hwl2]; exact (Below.refl _ w).alloc (Nat.le_refl _) _
    obtain ⟨bW, hbWe⟩ : ∃ bW, w.heap.size = bW := ⟨_, rfl⟩
    have hbw : bW < wl.heap.size := by rw [hwl2, ← hbWe]; simp
    have hcell : ∀ j x, (sp.words s)[j]? = some x → wl.cell? ⟨bW, j, none⟩ = some (.string x) := fun j x hj => by
      rw [hwl2, ← hbWe, cell_new, List.getElem?_toArray, List.getElem?_map, hj]
      rfl
    clear hwl2
    rw [hbWe]
    obtain ⟨W, hW⟩ : ∃ W, sp.words s = W := ⟨_, rfl⟩
    rw [hW] at hR hwl hcell
    have hkl := known_below hk hbl
    have hRa := parW_all W
    have hRb := parW_bad W
    rw [hR] at hRa hRb
    obtain ⟨n, hn⟩ : ∃ n, W.length = n := ⟨_, rfl⟩
    rw [hW, hn]
    rw [hn] at hwl
    go_wp2
    go_loopw [21] (fun i wr => ∃ k : Nat, k ≤ n ∧ i = .int .i64 k ∧ (∀ j x, j < k → W[j]? = some x → ofF x ≠ 0) ∧ Below wl.heap.size wl wr) (fun i _ => n - (intOf i).toNat)
    case atStart => exact ⟨0, Nat.zero_le _, rfl, fun j x hj => by omega, Below.refl _ _⟩
    case round =>
      obtain ⟨k, hkn, rfl, hbefore, hbel⟩ := hrel
      have hsz := hbel.size
      by_cases hlt : k < n
      · obtain ⟨x, hx⟩ : ∃ x, W[k]? = some x := ⟨W[k]'(by omega), List.getElem?_eq_getElem (by omega)⟩
        have hc0 := hcell k x hx
        have hc1 : wr.cell? ⟨bW, k, none⟩ = some (.string x) := by rw [hbel.cell (p := ⟨bW, k, none⟩) hbw, hc0]
        clear hcell
        by_cases hz : ofF x = 0
        · have hzz : decide (ofF x ≠ 0) = false := decide_eq_false (fun h => h hz)
          have hRe := hRb x (List.mem_of_getElem? hx) hz
          go_wp2_with fail
          refine (of_calls x (known_below hkl hbel)).mono ?_
          rintro e w3 ⟨rfl, hb3⟩
          rw [hzz, hz]
          go_wp2
          go_ret2
          exact ⟨by first | (rw [hRe]; done) | (rw [hRe]; rfl), hbl.trans ((hbel.trans (hb3.mono hsz)).mono hbl.size)⟩
        · have hzz : decide (ofF x ≠ 0) = true := decide_eq_true hz
          obtain ⟨y, hy⟩ : ∃ y, ofF x = y := ⟨_, rfl⟩
          go_wp2_with fail
          refine (of_calls x (known_below hkl hbel)).mono ?_
          rintro e w3 ⟨rfl, hb3⟩
          rw [hzz, hy]
          go_wp2
          go_roundw
          case rel => exact ⟨k + 1, by omega, by go_num, fun j z hj hz' => by
            by_cases hjk : j = k
            · subst hjk
              rw [hx] at hz'
              cases hz'
              exact hz
            · exact hbefore j z (by omega) hz', hbel.trans (hb3.mono hsz)⟩
          case measure => simp [intOf]; omega
      · have : k = n := by omega
        subst this
        have hall : ∀ x ∈ W, ofF x ≠ 0 := fun x hx => by
          obtain ⟨j, hj⟩ := List.getElem?_of_mem hx
          exact hbefore j x (by have := (List.getElem?_eq_some_iff.1 hj).1; omega) hj
        have hRf := hRa hall
        clear hbefore hRa hRb hR hall
        have hbel0 := hbel
        have hcell1 : ∀ j x, W[j]? = some x → wr.cell? ⟨bW, j, none⟩ = some (.string x) := fun j x hj => by rw [hbel.cell (p := ⟨bW, j, none⟩) hbw]; exact hcell j x hj
        have hkr := known_below hkl hbel
        have hbw1 : bW < wr.heap.size := Nat.lt_of_lt_of_le hbw hsz
        have hblr := hbl.trans (hbel.mono hbl.size)
        clear hcell hbel hbel0
        obtain ⟨wm, hwm⟩ : ∃ wm, wm = wr := ⟨_, rfl⟩
        subst hwm
        go_wp2
        go_loopw [9, 10, 35] (fun q p i wr2 => ∃ (k2 : Nat) (v : BitVec 16) (l : Int), k2 ≤ k ∧ i = .int .i64 k2 ∧ q = .int .u16 (v.toNat : Int) ∧ p = .int .u8 l ∧ 0 ≤ l ∧ fold (W.drop k2) v l = R ∧ Below wm.heap.size wm wr2) (fun _ _ i _ => k - (intOf i).toNat)
        case atStart => exact ⟨0, 0, 0, Nat.zero_le _, rfl, rfl, rfl, Int.le_refl _, hRf, Below.refl _ _⟩
        case round =>
          obtain ⟨k2, v, l, hk2, rfl, rfl, rfl, hl, hfo, hbel⟩ := hrel
          have hsz2 := hbel.size
          by_cases hlt2 : k2 < k
          · obtain ⟨x, hx⟩ : ∃ x, W[k2]? = some x := ⟨W[k2]'(by omega), List.getElem?_eq_getElem (by omega)⟩
            have hc0 := hcell1 k2 x hx
            have hc1 : wr.cell? ⟨bW, k2, none⟩ = some (.string x) := by rw [hbel.cell (p := ⟨bW, k2, none⟩) hbw1, hc0]
            have hdr : W.drop k2 = x :: W.drop (k2 + 1) := by
              rw [List.drop_eq_getElem_cons (by omega)]
              congr 1
              have := List.getElem?_eq_getElem (l := W) (i := k2) (by omega)
              rw [hx] at this
              exact (Option.some.inj this).symm
            rw [hdr] at hfo
            obtain ⟨y, hy⟩ : ∃ y, ofF x = y := ⟨_, rfl⟩
            have hyp := ofF_pos x
            rw [hy] at hyp
            obtain ⟨hy0, hy8⟩ := hyp
            unfold fold at hfo
            rw [hy] at hfo
            clear hcell1 hdr
            by_cases hle : y ≤ l
            · rw [if_pos hle] at hfo
              go_wp2_with fail
              refine (of_calls x (known_below hkr hbel)).mono ?_
              rintro e w3 ⟨rfl, hb3⟩
              rw [hy]
              go_wp2
              go_ret2
              exact ⟨by first | (rw [← hfo]; done) | (rw [← hfo]; rfl), hblr.trans ((hbel.trans (hb3.mono hsz2)).mono hblr.size)⟩
            · rw [if_neg hle] at hfo
              obtain ⟨v2, hv2⟩ : ∃ v2, v ||| ub y = v2 := ⟨_, rfl⟩
              rw [hv2] at hfo
              go_wp2_with fail
              refine (of_calls x (known_below hkr hbel)).mono ?_
              rintro e w3 ⟨rfl, hb3⟩
              rw [hy]
              go_wp2_with fail
              refine (with_eq hv2 hy0 _).mono ?_
              rintro e w' ⟨rfl, rfl⟩
              go_wp2
              go_roundw
              case rel => exact ⟨k2 + 1, v2, y, by omega, by go_num, rfl, rfl, hy0, hfo, hbel.trans (hb3.mono hsz2)⟩
              case measure => simp [intOf]; omega
          · have : k2 = k := by omega
            subst this
            rw [List.drop_of_length_le (by omega)] at hfo
            unfold fold at hfo
            go_wp2
            go_ret2
            exact ⟨by first | (rw [← hfo]; done) | (rw [← hfo]; rfl), hblr.trans (hbel.mono hblr.size)⟩

/-! ### pieces -/
def mkB (l : List UInt8) : ByteArray := ⟨l.toArray⟩
theorem drop_cut {B : List UInt8} {a k : Nat} (ha : a ≤ k) (hk : B[k]? = some 32) : B.drop a = (B.drop a).take (k - a) ++ 32 :: B.drop (k + 1) := by
  have hlt : k < B.length := (List.getElem?_eq_some_iff.1 hk).1
  have h1 : (B.drop a).drop (k - a) = B.drop k := by rw [List.drop_drop, show a + (k - a) = k by omega]
  have h2 : B.drop k = 32 :: B.drop (k + 1) := by
    rw [List.drop_eq_getElem_cons hlt]
    congr 1
    have := List.getElem?_eq_getElem hlt
    rw [hk] at this
    exact (Option.some.inj this).symm
  rw [← h2, ← h1, List.take_append_drop]
theorem no_in {B : List UInt8} {a k : Nat} (h : ∀ j, a ≤ j → j < k → B[j]? ≠ some 32) : 32 ∉ (B.drop a).take (k - a) := by
  intro hm
  obtain ⟨j, hj⟩ := List.getElem?_of_mem hm
  rw [List.getElem?_take] at hj
  split at hj
  · rename_i hjk
    rw [List.getElem?_drop] at hj
    exact h (a + j) (by omega) (by omega) hj
  · cases hj
theorem piece_cut {s : ByteArray} {a k : Nat} (ha : a ≤ k) (hk : s.data.toList[k]? = some 32) (h : ∀ j, a ≤ j → j < k → s.data.toList[j]? ≠ some 32) :
    (sp.wl (s.data.toList.drop a)).map mkB = s.extract a k :: (sp.wl (s.data.toList.drop (k + 1))).map mkB := by
  rw [drop_cut ha hk, sp.wl_cut (no_in h), List.map_cons, Lib.extract_eq]
  rfl
theorem piece_end {s : ByteArray} {a : Nat} (h : ∀ j, a ≤ j → j < s.size → s.data.toList[j]? ≠ some 32) :
    (sp.wl (s.data.toList.drop a)).map mkB = [s.extract a s.size] := by
  have h1 := no_in h
  have h2 : (s.data.toList.drop a).take (s.size - a) = s.data.toList.drop a := List.take_of_length_le (by rw [List.length_drop, Lib.size_eq]; omega)
  rw [h2] at h1
  rw [sp.wl_no h1, List.map_cons, List.map_nil, Lib.extract_eq, h2]
  rfl

set_option maxRecDepth 100000 in
set_option maxHeartbeats 3200000 in
theorem pieces_calls (s : ByteArray) (hs : s.size ≤ 1100000) (w : World) : Calls Tryd.prog 48 #[.string s] w fun e w' => (∃ u, e = .returned u ∧ w'.ownsRow w.heap.size 9 1 u (sp.words s).length ((sp.words s).map Value.string)) ∧ Below w.heap.size w w' := by
  obtain ⟨i0, hi, hz0, hz1, hz2⟩ := info_parts Tryd.infoS
  have hwords : (sp.wl (s.data.toList.drop 0)).map mkB = sp.words s := rfl
  obtain ⟨W, hW⟩ : ∃ W, sp.words s = W := ⟨_, rfl⟩
  rw [hW] at hwords
  rw [hW]
  clear hW
  obtain ⟨n, hn⟩ : ∃ n, s.size = n := ⟨_, rfl⟩
  rw [hn] at hs
  go_enter Tryd.func48, Tryd.ntmps48
  go_wp2
  go_loopw [3, 4, 5] (fun q p i wr => ∃ (k a : Nat) (V : List ByteArray), i = .int .i64 k ∧ p = .int .i64 a ∧ wr.ownsRow w.heap.size 9 1 q V.length (V.map Value.string) ∧ Below w.heap.size w wr ∧ ((k ≤ n ∧ a ≤ k ∧ V.length ≤ a ∧ (∀ j, a ≤ j → j < k → s.data.toList[j]? ≠ some 32) ∧ V ++ (sp.wl (s.data.toList.drop a)).map mkB = W) ∨ (k = n + 1 ∧ V = W))) (fun _ _ i _ => n + 1 - (intOf i).toNat)
  case atStart => exact ⟨0, 0, [], rfl, rfl, World.ownsRow_nil _ _ _ _, Below.refl _ _, .inl ⟨Nat.zero_le _, Nat.le_refl _, Nat.le_refl _, fun j h1 h2 => by omega, by simpa using hwords⟩⟩
  case round =>
    obtain ⟨k, a, V, rfl, rfl, hown, hbel, hst⟩ := hrel
    obtain ⟨a3, c3, rfl⟩ := owns_slice hown
    have hsz := hbel.size
    rcases hst with ⟨hkn, hak, hVa, hno, hV⟩ | ⟨rfl, rfl⟩
    · by_cases hlt : k < n
      · obtain ⟨c, hc⟩ : ∃ c, s.data.toList[k]? = some c := ⟨s.data.toList[k]'(by rw [← Lib.size_eq, hn]; exact hlt), List.getElem?_eq_getElem _⟩
        have hks : k < s.size := by rw [hn]; exact hlt
        have hsc : s[k]'hks = c := by
          have h1 := List.getElem?_eq_getElem (l := s.data.toList) (i := k) (by rw [← Lib.size_eq]; exact hks)
          rw [hc] at h1
          exact (Option.some.inj h1).symm
        have hkq : ((k : Int) == (n : Int)) = false := by rw [beq_eq_false_iff_ne]; omega
        by_cases h32 : c = 32
        · subst h32
          have hcut := piece_cut hak hc hno
          rw [hcut] at hV
          have hq : (((s[k]'hks).toNat : Int) == 32) = true := by rw [hsc]; rfl
          clear hc hsc hcut hwords
          go_wp2_with (at_builtin; (refine wpList_append_own_at _ rfl _ _ 94 rfl w.heap.size 9 i0 (.string ⟨#[]⟩) 1 16 Tryd.underlying94 hi hz0 hz1 hz2 rfl (by decide) _ _ _ rfl (hown.alloc _) ⟨wr.heap.size, 0, none⟩ 1 1 [.string (s.extract a k)] rfl rfl (cell_one_new _ _ _) (one_str _) (by unfold maxLen; omega) (by omega) (by simp; omega) ?_; intro v' w4 hown4 hgr4 hnil hat; obtain ⟨ao4, cp4, rfl⟩ := owns_slice hown4))
          have hbel4 := kept_below hown hbel (Nat.le_refl _) hsz hgr4
          go_wp2
          go_roundw
          case rel => exact ⟨k + 1, k + 1, V ++ [s.extract a k], by go_num, by go_num, by simpa using hown4, hbel4, .inl ⟨by omega, Nat.le_refl _, by simp; omega, fun j h1 h2 => by omega, by simpa using hV⟩⟩
          case measure => simp [intOf]; omega
        · have hq : (((s[k]'hks).toNat : Int) == 32) = false := by
            rw [hsc, beq_eq_false_iff_ne]
            intro h
            apply h32
            apply UInt8.toNat_inj.1
            have h : (c.toNat : Int) = 32 := h
            show c.toNat = 32
            omega
          clear hsc hwords
          go_wp2
          go_roundw
          case rel => exact ⟨k + 1, a, V, by go_num, rfl, hown, hbel, .inl ⟨by omega, by omega, hVa, fun j h1 h2 => by
            by_cases hjk : j = k
            · subst hjk
              rw [hc]
              intro h
              exact h32 (Option.some.inj h)
            · exact hno j h1 (by omega), hV⟩⟩
          case measure => simp [intOf]; omega
      · have : k = n := by omega
        subst this
        have hend := piece_end (s := s) (a := a) (by rw [hn]; exact hno)
        rw [hend, hn] at hV
        clear hend hwords
        go_wp2_with (at_builtin; (refine wpList_append_own_at _ rfl _ _ 94 rfl w.heap.size 9 i0 (.string ⟨#[]⟩) 1 16 Tryd.underlying94 hi hz0 hz1 hz2 rfl (by decide) _ _ _ rfl (hown.alloc _) ⟨wr.heap.size, 0, none⟩ 1 1 [.string (s.extract a k)] rfl rfl (cell_one_new _ _ _) (one_str _) (by unfold maxLen; omega) (by omega) (by simp; omega) ?_; intro v' w4 hown4 hgr4 hnil hat; obtain ⟨ao4, cp4, rfl⟩ := owns_slice hown4))
        have hbel4 := kept_below hown hbel (Nat.le_refl _) hsz hgr4
        go_wp2
        go_roundw
        case rel => exact ⟨k + 1, k + 1, V ++ [s.extract a k], by go_num, by go_num, by simpa using hown4, hbel4, .inr ⟨rfl, hV⟩⟩
        case measure => first | (simp [intOf]; done) | (simp [intOf]; omega)
    · go_wp2
      go_ret
      exact ⟨⟨_, rfl, hown⟩, hbel⟩
theorem rbit_calls (x : Int) (hx : 0 ≤ x) (w : World) : Calls Tryd.prog 59 #[.int .u8 x] w fun e w' => e = .returned (.int .u16 ((ub x).toNat : Int)) ∧ w' = w := by
  by_cases h1 : x = 1
  · subst h1; go_enter Tryd.func59, Tryd.ntmps59; go_wp2; go_ret; exact ⟨rfl, rfl⟩
  by_cases h2 : x = 2
  · subst h2; go_enter Tryd.func59, Tryd.ntmps59; go_wp2; go_ret; exact ⟨rfl, rfl⟩
  by_cases h3 : x = 3
  · subst h3; go_enter Tryd.func59, Tryd.ntmps59; go_wp2; go_ret; exact ⟨rfl, rfl⟩
  by_cases h4 : x = 4
  · subst h4; go_enter Tryd.func59, Tryd.ntmps59; go_wp2; go_ret; exact ⟨rfl, rfl⟩
  by_cases h5 : x = 5
  · subst h5; go_enter Tryd.func59, Tryd.ntmps59; go_wp2; go_ret; exact ⟨rfl, rfl⟩
  by_cases h6 : x = 6
  · subst h6; go_enter Tryd.func59, Tryd.ntmps59; go_wp2; go_ret; exact ⟨rfl, rfl⟩
  by_cases h7 : x = 7
  · subst h7; go_enter Tryd.func59, Tryd.ntmps59; go_wp2; go_ret; exact ⟨rfl, rfl⟩
  by_cases h8 : x = 8
  · subst h8; go_enter Tryd.func59, Tryd.ntmps59; go_wp2; go_ret; exact ⟨rfl, rfl⟩
  by_cases h0 : x = 0
  · subst h0; go_enter Tryd.func59, Tryd.ntmps59; go_wp2; go_ret; exact ⟨rfl, rfl⟩
  have h9 : ¬ x ≤ 8 := by omega
  have h10 : decide (x ≤ 8) = false := decide_eq_false h9
  have h11 : 1 ≤ x := by omega
  clear h0
  have hu : ub x = 0 := by simp [ub, h1, h2, h3, h4, h5, h6, h7, h8]
  rw [hu]
  clear h1 h2 h3 h4 h5 h6 h7 h8
  go_enter Tryd.func59, Tryd.ntmps59
  go_wp2
  go_ret
  exact ⟨rfl, rfl⟩
theorem rwith_calls (v : BitVec 16) (x : Int) (hx : 0 ≤ x) (w : World) : Calls Tryd.prog 49 #[.int .u16 (v.toNat : Int), .int .u8 x] w fun e w' => e = .returned (.int .u16 ((v ||| ub x).toNat : Int)) ∧ w' = w := by
  go_enter Tryd.func49, Tryd.ntmps49
  go_wp2_with fail
  refine (rbit_calls x hx _).mono ?_
  rintro e w' ⟨rfl, rfl⟩
  go_wp2
  go_ret
  exact ⟨by rw [bor]; rfl, rfl⟩
theorem rwith_eq {v a : BitVec 16} {x : Int} (h : v ||| ub x = a) (hx : 0 ≤ x) (w : World) : Calls Tryd.prog 49 #[.int .u16 (v.toNat : Int), .int .u8 x] w fun e w' => e = .returned (.int .u16 (a.toNat : Int)) ∧ w = w' :=
  (rwith_calls v x hx w).mono fun e w' ⟨h1, h2⟩ => ⟨by rw [h1, h], h2.symm⟩

set_option maxRecDepth 100000 in
set_option maxHeartbeats 3200000 in
theorem rparse_calls (s : ByteArray) (hs : s.size ≤ 1100000) (w : World) (hk : Sim.Known 1 kn.gl w) :
    Calls Tryd.prog 28 #[.string s] w fun e w' => e = .returned (.tuple #[.int .u16 ((parF s).1.toNat : Int), .int .i64 (parF s).2]) ∧ Below w.heap.size w w' := by
  by_cases hd : s = ⟨#[45]⟩
  · subst hd
    go_enter Tryd.func28, Tryd.ntmps28
    go_wp2
    go_ret2
    exact ⟨rfl, Below.refl _ _⟩
  · have hp : parF s = parW (sp.words s) := by unfold parF; rw [if_neg hd]
    have hb0 : (s.toList == ((ByteArray.mk #[45]).toList)) = false := by
      rw [beq_eq_false_iff_ne]
      intro hh
      exact hd (bytes_eq (by simpa [ByteArray.toList_eq] using hh))
    have h45 : (ByteArray.mk #[45]).toList = [45] := by rw [ByteArray.toList_eq]
    have hb1 : (s.toList == [45]) = false := by rw [← h45]; exact hb0
    clear h45
    rw [hp]
    obtain ⟨R, hR⟩ : ∃ R, parW (sp.words s) = R := ⟨_, rfl⟩
    rw [hR]
    have hwl := sp.words_le s
    go_enter Tryd.func28, Tryd.ntmps28
    go_wp2_with fail
    refine (pieces_calls s hs _).mono ?_
    rintro e wl ⟨⟨u, rfl, hown⟩, hbl⟩
    have hne : 1 ≤ (sp.words s).length := by rw [← sp.count_words]; omega
    rcases hown.2 with ⟨he, hz⟩ | ⟨bW, cap, cur, rfl, hlo, hg, hlc, hmax, hcs, htk⟩
    · omega
    have hbw : bW < wl.heap.size := (Array.getElem?_eq_some_iff.1 hg).1
    have hcell : ∀ j x, (sp.words s)[j]? = some x → wl.cell? ⟨bW, j, none⟩ = some (.string x) := fun j x hj => by
      have hjl : j < (sp.words s).length := (List.getElem?_eq_some_iff.1 hj).1
      have h3 : (cur.toList.take ((sp.words s).length * 1))[j]? = ((sp.words s).map Value.string)[j]? := by rw [htk]
      rw [List.getElem?_take] at h3
      rw [if_pos (by omega)] at h3
      simp only [World.cell?, hg]
      rw [if_neg (by simp)]
      rw [← Array.getElem?_toList, h3, List.getElem?_map, hj]
      rfl
    clear hown hg htk hcs hlc hmax hlo hne
    obtain ⟨W, hW⟩ : ∃ W, sp.words s = W := ⟨_, rfl⟩
    rw [hW] at hR hwl hcell
    have hkl := known_below hk hbl
    have hRa := parW_all W
    have hRb := parW_bad W
    rw [hR] at hRa hRb
    obtain ⟨n, hn⟩ : ∃ n, W.length = n := ⟨_, rfl⟩
    rw [hW, hn]
    rw [hn] at hwl
    go_wp2
    go_loopw [7] (fun i wr => ∃ k : Nat, k ≤ n ∧ i = .int .i64 k ∧ (∀ j x, j < k → W[j]? = some x → ofF x ≠ 0) ∧ Below wl.heap.size wl wr) (fun i _ => n - (intOf i).toNat)
    case atStart => exact ⟨0, Nat.zero_le _, rfl, fun j x hj => by omega, Below.refl _ _⟩
    case round =>
      obtain ⟨k, hkn, rfl, hbefore, hbel⟩ := hrel
      have hsz := hbel.size
      by_cases hlt : k < n
      · obtain ⟨x, hx⟩ : ∃ x, W[k]? = some x := ⟨W[k]'(by omega), List.getElem?_eq_getElem (by omega)⟩
        have hc0 := hcell k x hx
        have hc1 : wr.cell? ⟨bW, k, none⟩ = some (.string x) := by rw [hbel.cell (p := ⟨bW, k, none⟩) hbw, hc0]
        clear hcell
        by_cases hz : ofF x = 0
        · have hzz : decide (ofF x ≠ 0) = false := decide_eq_false (fun h => h hz)
          have hRe := hRb x (List.mem_of_getElem? hx) hz
          go_wp2_with fail
          refine (rof_calls x _).mono ?_
          rintro e w3 ⟨rfl, hb3⟩
          rw [hzz, hz]
          go_wp2
          go_ret2
          exact ⟨by first | (rw [hRe]; done) | (rw [hRe]; rfl), hbl.trans ((hbel.trans (hb3.mono hsz)).mono hbl.size)⟩
        · have hzz : decide (ofF x ≠ 0) = true := decide_eq_true hz
          obtain ⟨y, hy⟩ : ∃ y, ofF x = y := ⟨_, rfl⟩
          go_wp2_with fail
          refine (rof_calls x _).mono ?_
          rintro e w3 ⟨rfl, hb3⟩
          rw [hzz, hy]
          go_wp2
          go_roundw
          case rel => exact ⟨k + 1, by omega, by go_num, fun j z hj hz' => by
            by_cases hjk : j = k
            · subst hjk
              rw [hx] at hz'
              cases hz'
              exact hz
            · exact hbefore j z (by omega) hz', hbel.trans (hb3.mono hsz)⟩
          case measure => simp [intOf]; omega
      · have : k = n := by omega
        subst this
        have hall : ∀ x ∈ W, ofF x ≠ 0 := fun x hx => by
          obtain ⟨j, hj⟩ := List.getElem?_of_mem hx
          exact hbefore j x (by have := (List.getElem?_eq_some_iff.1 hj).1; omega) hj
        have hRf := hRa hall
        clear hbefore hRa hRb hR hall
        have hbel0 := hbel
        have hcell1 : ∀ j x, W[j]? = some x → wr.cell? ⟨bW, j, none⟩ = some (.string x) := fun j x hj => by rw [hbel.cell (p := ⟨bW, j, none⟩) hbw]; exact hcell j x hj
        have hkr := known_below hkl hbel
        have hbw1 : bW < wr.heap.size := Nat.lt_of_lt_of_le hbw hsz
        have hblr := hbl.trans (hbel.mono hbl.size)
        clear hcell hbel hbel0
        obtain ⟨wm, hwm⟩ : ∃ wm, wm = wr := ⟨_, rfl⟩
        subst hwm
        go_wp2
        go_loopw [5, 6, 10] (fun q p i wr2 => ∃ (k2 : Nat) (v : BitVec 16) (l : Int), k2 ≤ k ∧ i = .int .i64 k2 ∧ q = .int .u16 (v.toNat : Int) ∧ p = .int .u8 l ∧ 0 ≤ l ∧ fold (W.drop k2) v l = R ∧ Below wm.heap.size wm wr2) (fun _ _ i _ => k - (intOf i).toNat)
        case atStart => exact ⟨0, 0, 0, Nat.zero_le _, rfl, rfl, rfl, Int.le_refl _, hRf, Below.refl _ _⟩
        case round =>
          obtain ⟨k2, v, l, hk2, rfl, rfl, rfl, hl, hfo, hbel⟩ := hrel
          have hsz2 := hbel.size
          by_cases hlt2 : k2 < k
          · obtain ⟨x, hx⟩ : ∃ x, W[k2]? = some x := ⟨W[k2]'(by omega), List.getElem?_eq_getElem (by omega)⟩
            have hc0 := hcell1 k2 x hx
            have hc1 : wr.cell? ⟨bW, k2, none⟩ = some (.string x) := by rw [hbel.cell (p := ⟨bW, k2, none⟩) hbw1, hc0]
            have hdr : W.drop k2 = x :: W.drop (k2 + 1) := by
              rw [List.drop_eq_getElem_cons (by omega)]
              congr 1
              have := List.getElem?_eq_getElem (l := W) (i := k2) (by omega)
              rw [hx] at this
              exact (Option.some.inj this).symm
            rw [hdr] at hfo
            obtain ⟨y, hy⟩ : ∃ y, ofF x = y := ⟨_, rfl⟩
            have hyp := ofF_pos x
            rw [hy] at hyp
            obtain ⟨hy0, hy8⟩ := hyp
            unfold fold at hfo
            rw [hy] at hfo
            clear hcell1 hdr
            by_cases hle : y ≤ l
            · rw [if_pos hle] at hfo
              go_wp2_with fail
              refine (rof_calls x _).mono ?_
              rintro e w3 ⟨rfl, hb3⟩
              rw [hy]
              go_wp2
              go_ret2
              exact ⟨by first | (rw [← hfo]; done) | (rw [← hfo]; rfl), hblr.trans ((hbel.trans (hb3.mono hsz2)).mono hblr.size)⟩
            · rw [if_neg hle] at hfo
              obtain ⟨v2, hv2⟩ : ∃ v2, v ||| ub y = v2 := ⟨_, rfl⟩
              rw [hv2] at hfo
              go_wp2_with fail
              refine (rof_calls x _).mono ?_
              rintro e w3 ⟨rfl, hb3⟩
              rw [hy]
              go_wp2_with fail
              refine (rwith_eq hv2 hy0 _).mono ?_
              rintro e w' ⟨rfl, rfl⟩
              go_wp2
              go_roundw
              case rel => exact ⟨k2 + 1, v2, y, by omega, by go_num, rfl, rfl, hy0, hfo, hbel.trans (hb3.mono hsz2)⟩
              case measure => simp [intOf]; omega
          · have : k2 = k := by omega
            subst this
            rw [List.drop_of_length_le (by omega)] at hfo
            unfold fold at hfo
            go_wp2
            go_ret2
            exact ⟨by first | (rw [← hfo]; done) | (rw [← hfo]; rfl), hblr.trans (hbel.mono hblr.size)⟩

end Go.Proofs.YtaonlobknikbmaaDoor.tt
