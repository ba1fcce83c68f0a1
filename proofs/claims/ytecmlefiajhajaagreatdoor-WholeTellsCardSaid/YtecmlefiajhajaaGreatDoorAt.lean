/- gambitkit.ApartTexts of lists that lie in blocks of their own: true; their blocks alone are written over. -/
import Derived.Test.YtecmlefiajhajaaGreatDoorChecked
import Derived.Test.YtecmlefiajhajaaGreatDoorSim
import Derived.WalkKit
import Derived.ProofKit
import Derived.RegionTactic
import Derived.BigRegion
import Derived.ChangeAlike
import Derived.OwnWalk
import Derived.Maps.AppendAt
import Derived.Deep.QuietTactic
import Derived.BigQuiet
import Derived.StillTailTactics
import Derived.Lib.Hide
import Derived.Deep.RegionHeld3
import Derived.Deep.AppendLies
import Derived.WalkSpells
import Derived.Deep.CutBlock
import Derived.Laws.BytesString
namespace Go.Proofs.YtecmlefiajhajaaGreatDoor.att
open Go.RowKit Go.Sim
set_option linter.unusedVariables false
set_option maxRecDepth 100000

/-- the bytes of a mark -/
def bsI (k q : Nat) : List Int := [(k : Int) % 256, (k : Int) / 256, (q : Int) % 256, (q : Int) / 256 % 256]
def bs (k q : Nat) : ByteArray := (bsI k q).foldl (fun r n => r.push (UInt8.ofNat n.toNat)) ByteArray.empty
def markT (k q : Nat) : ByteArray := (⟨#[109]⟩ : ByteArray) ++ bs k q
def mark (k q : Nat) : List Value := [.string (markT k q)]
theorem conv (k q : Nat) (w : World) : Sem.run Tryz.prog (convert 178 9 (Value.slice (some ⟨w.heap.size, 0, none⟩) 4 4)) (w.alloc (.cells #[.int .u8 ((k : Int) % 256), .int .u8 ((k : Int) / 256), .int .u8 ((q : Int) % 256), .int .u8 ((q : Int) / 256 % 256)] 5)) =
    .ok (.string (bs k q)) (w.alloc (.cells #[.int .u8 ((k : Int) % 256), .int .u8 ((k : Int) / 256), .int .u8 ((q : Int) % 256), .int .u8 ((q : Int) / 256 % 256)] 5)) := by
  obtain ⟨W, hW⟩ : ∃ W, W = w.alloc (.cells #[.int .u8 ((k : Int) % 256), .int .u8 ((k : Int) / 256), .int .u8 ((q : Int) % 256), .int .u8 ((q : Int) / 256 % 256)] 5) := ⟨_, rfl⟩
  have hblk : W.heap[w.heap.size]? = some (.cells #[.int .u8 ((k : Int) % 256), .int .u8 ((k : Int) / 256), .int .u8 ((q : Int) % 256), .int .u8 ((q : Int) / 256 % 256)] 5 (0, 0)) := by rw [hW]; exact heap_alloc_new w _
  rw [← hW]
  have hload : (loadCells ⟨w.heap.size, 0, none⟩ 4).run Tryz.prog W = .ok ((bsI k q).map (Value.int .u8)).toArray W := by
    have := run_loadCells_list (P := Tryz.prog) W ⟨w.heap.size, 0, none⟩ ((bsI k q).map (Value.int .u8)) (fun j u hj => by
      rw [show (⟨w.heap.size, 0, none⟩ : Addr).add j = ⟨w.heap.size, j, none⟩ by unfold Addr.add; split <;> simp_all]
      simp only [World.cell?, hblk]
      rw [if_neg (by simp)]
      rw [← Array.getElem?_toList]
      exact hj)
    exact this
  rw [run_convert_bytes_string W 178 9 5 _ _ _ Tryz.underlying178 Tryz.underlying5 Tryz.underlying9]
  exact run_bytesToString W _ _ _ (bsI k q) hload
set_option maxHeartbeats 1000000 in
theorem c_mark (k q : Nat) (hk : k < 1000) (hq : q ≤ 9223372036854775807) (w : World) : Calls Tryz.prog 82 #[.int .i64 k, .int .i64 q] w fun e w' => e = .returned (.string (markT k q)) ∧ Below w.heap.size w w' := by
  have hcv := conv k q w
  go_enter Tryz.func82, Tryz.ntmps82
  go_wp2
  go_ret
  exact ⟨rfl, (Below.refl _ w).alloc (Nat.le_refl _) _⟩
theorem Ap.grown {w0 w w' : World} {elem : TypeId} {es i k : Nat} {L : List (Nat × Nat × Nat)} {mark : Nat → Nat → List Value} (h : Ap w0 w elem es L mark i k) (hb : Below w.heap.size w w') : Ap w0 w' elem es L mark i k := by
  refine ⟨⟨hb.os.trans h.sp.os, hb.tape.trans h.sp.tape, hb.output.trans h.sp.output, Nat.le_trans h.sp.size hb.size, fun g hg hn => (hb.block g (Nat.lt_of_lt_of_le hg h.sp.size)).trans (h.sp.block g hg hn)⟩, fun x hx => ?_, fun j x q a b c p v d => ?_⟩
  · obtain ⟨cs, h1, h2⟩ := h.blk x hx
    exact ⟨cs, (hb.block _ (Array.getElem?_eq_some_iff.1 h1).1).trans h1, h2⟩
  · have h1 := h.full j x q a b c p v d
    exact (World.cell?_of_block (a := ⟨x.1, q * es + p, none⟩) (hb.block _ (World.block_lt_of_cell? w _ h1))).trans h1
theorem info : (Tryz.prog.info? 86).map (fun i => (i.zero, i.size, i.bytes)) = some (some (.slice none 0 0), 1, 24) := by kernel_rfl
def whole (x : Nat × Nat × Nat) : Nat × Nat × Nat := (x.1, x.2.2, x.2.2)
def vals (L : List (Nat × Nat × Nat)) : List Value := L.map fun x => slv (whole x)
theorem owns_slice {w : World} {base e size n : Nat} {v : Value} {xs : List Value} (h : w.ownsRow base e size v n xs) : ∃ ao c, v = .slice ao n c := by
  rcases h.2 with ⟨rfl, h0⟩ | ⟨g, cap, cur, rfl, _⟩
  · exact ⟨none, 0, by rw [h0]⟩
  · exact ⟨_, _, rfl⟩
set_option maxHeartbeats 8000000 in
theorem apart (w : World) (B O cp : Nat) (L : List (Nat × Nat × Nat)) (hpre : ApartPre w 9 1 B O L) (hB : B < w.heap.size) (hcap : L.length ≤ cp) :
    Calls Tryz.prog 37 #[.slice (some ⟨B, O, none⟩) L.length cp] w fun e w' => e = .returned (.bool true) ∧ Spoils (L.map (·.1)) w w' := by
  obtain ⟨i0, hi, hz0, hz1, hz2⟩ := info_parts info
  have hmany := hpre.many
  go_enter Tryz.func37, Tryz.ntmps37
  go_wp2
  go_loopw [3, 4] (fun v i wr => ∃ k : Nat, k ≤ L.length ∧ i = .int .i64 k ∧ wr.ownsRow w.heap.size 86 1 v (L.take k).length (vals (L.take k)) ∧ Below w.heap.size w wr ∧ w.heap.size ≤ wr.heap.size) (fun _ i _ => L.length - (intOf i).toNat)
  case atStart => exact ⟨0, Nat.zero_le _, rfl, World.ownsRow_nil _ _ _ _, Below.refl _ _, Nat.le_refl _⟩
  case round =>
    obtain ⟨k, hk, rfl, hown, hbel, hsz⟩ := hrel
    obtain ⟨ao, vc, rfl⟩ := owns_slice hown
    by_cases hkl : k < L.length
    · obtain ⟨x, hx⟩ : ∃ x, L[k]? = some x := ⟨L[k], by simp [hkl]⟩
      have hcell0 := hpre.cell k x hx
      have hcell : wr.cell? ⟨B, O + k, none⟩ = some (slv x) := (hbel.cell (p := ⟨B, O + k, none⟩) hB).trans hcell0
      have hblk := hpre.blk _ (List.mem_of_getElem? hx)
      have hlen : (L.take k).length = k := by rw [List.length_take]; omega
      rw [hlen] at hown
      have htk : L.take (k + 1) = L.take k ++ [x] := by rw [List.take_add_one, hx]; rfl
      obtain ⟨b, l, c⟩ := x
      unfold slv at hcell
      obtain ⟨-, -, -, hlc, hcm⟩ := hblk
      have hnew : ∀ W : World, ∀ j u, ([slv (b, c, c)] : List Value)[j]? = some u → (W.alloc (.cells #[slv (b, c, c)] 86)).cell? ((⟨W.heap.size, 0, none⟩ : Addr).add j) = some u := fun W j u hu => by
        match j, hu with
        | 0, hu => cases hu; rw [show (⟨W.heap.size, 0, none⟩ : Addr).add 0 = ⟨W.heap.size, 0, none⟩ from rfl, World.cell?_alloc_new]; rfl
        | n + 1, hu => simp at hu
      have hone : ∀ u ∈ ([slv (b, c, c)] : List Value), u.oneCell' = true := fun u hu => by
        rw [List.mem_singleton.1 hu]; rfl
      clear hcell0 hnew
      have hk0 : (0 : Int) ≤ (k : Int) := Int.natCast_nonneg _
      have hk1 : (k : Int) < (L.length : Int) := by omega
      have hBr : B < wr.heap.size := Nat.lt_of_lt_of_le hB hsz
      have hnB : (Value.slice ao k vc).ownBlock ≠ some B := fun h => by have := (hown.lt B h).1; omega
      have hvl : (vals (L.take k)).length = k * 1 := by simp [vals]; omega
      unfold maxLen at hcm
      have hc0 : (0 : Int) ≤ (c : Int) := Int.natCast_nonneg _
      have hlc : l ≤ c := hlc
      have hcm : c ≤ 2 ^ 63 - 1 := hcm
      have hlc2 : (l : Int) ≤ (c : Int) := by omega
      go_wp2_with fail
      go_region_held3 (fun w' => w'.cell? ⟨B, O + k, none⟩ = some (.slice (some ⟨b, 0, none⟩) l c))
        (first
          | go_keep
          | (rw [hgrow.cell_far _ (by simp; omega) (Ne.symm hnB)]; assumption))
        ((refine step_append_lies _ (by rfl) _ _ _ (by rfl) w.heap.size 86 i0 _ 1 24 Tryz.underlying92 hi hz0 hz1 hz2 rfl (by omega) (.slice ao k vc) k (vals (L.take k)) (by rfl) ((hown.alloc _).drew)
            ⟨wr.heap.size, 0, none⟩ 1 1 [.slice (some ⟨b, 0, none⟩) c c] (by rfl) (by rfl) (World.news_of_block (cs := #[.slice (some ⟨b, 0, none⟩) c c]) (t := 86) (fr := (0, 0)) (heap_alloc_new wr _)) (by simp [Value.oneCell'])
            (by omega) (by unfold maxLen; omega) (by omega) (by simp; omega) (wr.heap.size + 1) (by simp) ?_; intro gg cap w1 hown1 hgrow hat hlt))
      go_wp2
      go_roundw
      case rel =>
        refine ⟨k + 1, by omega, by go_num, ?_, (((hbel.alloc hsz _).drew).grown hgrow (by simp; omega) (fun j hj => (hown.lt j hj).1)), by have := hgrow.size; simp at this; omega⟩
        rw [htk]
        have e1 : (L.take k ++ [(b, l, c)]).length = k + 1 := by simp; omega
        have e2 : vals (L.take k ++ [(b, l, c)]) = vals (L.take k) ++ [.slice (some ⟨b, 0, none⟩) c c] := by simp [vals, slv, whole]
        rw [e1, e2]
        exact hown1
      case measure => simp [intOf]; omega
    · have : k = L.length := by omega
      subst this
      rw [List.take_length] at hown ⊢
      obtain ⟨Gb, hG, hcells⟩ : ∃ Gb, w.heap.size ≤ Gb ∧ ∀ i x, L[i]? = some x → ao = some ⟨Gb, 0, none⟩ ∧ wr.cell? ⟨Gb, 0 + i, none⟩ = some (slv (whole x)) := by
        rcases hown.2 with ⟨h0, h1⟩ | ⟨g, cap, cur, h0, h1, hg, hle, hmax, hsz2, htk⟩
        · refine ⟨w.heap.size, Nat.le_refl _, fun i x hx => ?_⟩
          exfalso
          have := (List.getElem?_eq_some_iff.1 hx).1
          simp only [Value.slice.injEq] at h0
          omega
        · refine ⟨g, h1, fun i x hx => ⟨?_, ?_⟩⟩
          · simp only [Value.slice.injEq] at h0
            exact h0.1
          · have hi : i < L.length := (List.getElem?_eq_some_iff.1 hx).1
            have h3 : (cur.toList.take (L.length * 1))[i]? = (vals L)[i]? := by rw [htk]
            rw [List.getElem?_take, if_pos (by omega)] at h3
            have h4 : (vals L)[i]? = some (slv (whole x)) := by simp [vals, hx]
            rw [h4] at h3
            simp only [World.cell?, hg, Nat.zero_add]
            simpa using h3
      obtain ⟨L', hL'⟩ : ∃ L' : List (Nat × Nat × Nat), L' = L.map whole := ⟨_, rfl⟩
      have hfst : L'.map (·.1) = L.map (·.1) := by rw [hL']; simp [whole]
      have hlen' : L'.length = L.length := by rw [hL']; simp
      have hblkw : ∀ x ∈ L, wr.heap[x.1]? = w.heap[x.1]? := fun x hx => by
        obtain ⟨cs, h1, _⟩ := hpre.blk x hx
        exact hbel.block x.1 (Array.getElem?_eq_some_iff.1 h1).1
      have hpre' : ApartPre wr 9 1 Gb 0 L' := by
        refine ⟨fun i x hx => ?_, fun x hx => ?_, by rw [hfst]; exact hpre.dis, fun x hx hxg => ?_, by rw [hlen']; exact hmany⟩
        · rw [hL', List.getElem?_map] at hx
          cases hxx : L[i]? with
          | none => rw [hxx] at hx; cases hx
          | some y => rw [hxx] at hx; cases hx; exact (hcells i y hxx).2
        · rw [hL'] at hx
          obtain ⟨y, hy, rfl⟩ := List.mem_map.1 hx
          obtain ⟨cs, h1, h2, h3, h4⟩ := hpre.blk y hy
          exact ⟨cs, (hblkw y hy).trans h1, h2, Nat.le_refl _, h4⟩
        · rw [hL'] at hx
          obtain ⟨y, hy, rfl⟩ := List.mem_map.1 hx
          obtain ⟨cs, h1, _⟩ := hpre.blk y hy
          have := (Array.getElem?_eq_some_iff.1 h1).1
          have hxg : y.1 = Gb := hxg
          omega
      have hao : ∀ k, k < L'.length → ao = some ⟨Gb, 0, none⟩ := fun k hk => by
        rw [hlen'] at hk
        exact (hcells k _ (List.getElem?_eq_getElem hk)).1
      have hsm' : ∀ x ∈ L', x.2.2 ≤ 9223372036854775807 := fun x hx => by
        rw [hL'] at hx
        obtain ⟨y, hy, rfl⟩ := List.mem_map.1 hx
        obtain ⟨-, -, -, -, h4⟩ := hpre.blk y hy
        unfold maxLen at h4
        exact h4
      have heq' : ∀ x ∈ L', x.2.1 = x.2.2 := fun x hx => by
        rw [hL'] at hx
        obtain ⟨y, hy, rfl⟩ := List.mem_map.1 hx
        rfl
      have hfin : ∀ w', Ap wr w' 9 1 L' mark L'.length 0 → Spoils (L.map (·.1)) w w' := fun w' h => by
        have h1 := h.sp
        rw [hfst] at h1
        exact (Spoils.of_below (L.map (·.1)) hbel).trans h1
      have hap := hpre'.start mark
      have hmany' := hpre'.many
      obtain ⟨w1, hw1⟩ : ∃ x, x = wr := ⟨_, rfl⟩
      subst hw1
      rw [← hlen'] at hown ⊢
      clear hpre hmany hcells hblkw hL' hown hlen' hfst hcap
      go_wp2
      go_loopw [5] (fun i wr => ∃ (k : Nat), k ≤ L'.length ∧ i = .int .i64 k ∧ Ap w1 wr 9 1 L' mark k 0) (fun i _ => L'.length - (intOf i).toNat)
      case atStart => exact ⟨0, by omega, rfl, hap⟩
      case round =>
        clear hap
        obtain ⟨k, hk, rfl, hap⟩ := hrel
        by_cases hkl : k < L'.length
        · obtain ⟨x, hx⟩ : ∃ x, L'[k]? = some x := ⟨L'[k], by simp [hkl]⟩
          have hblk := hpre'.blk _ (List.mem_of_getElem? hx)
          have hcsm := hsm' _ (List.mem_of_getElem? hx)
          have hcl := hap.cell hpre' hx
          have hlc := heq' _ (List.mem_of_getElem? hx)
          obtain ⟨b, l, c⟩ := x
          obtain rfl : l = c := hlc
          unfold slv at hcl
          rw [Nat.zero_add] at hcl
          obtain ⟨-, -, -, -, hcm⟩ := hblk
          have hao := hao k hkl
          subst hao
          have hkd : decide (k < L'.length) = true := decide_eq_true hkl
          go_wp2
          go_loopw [6] (fun i wr => ∃ (q : Nat), q ≤ l ∧ i = .int .i64 q ∧ Ap w1 wr 9 1 L' mark k q ∧ wr.cell? ⟨Gb, k, none⟩ = some (.slice (some ⟨b, 0, none⟩) l l)) (fun i _ => l - (intOf i).toNat)
          case atStart => exact ⟨0, by omega, rfl, hap, hcl⟩
          case round =>
            clear hap hcl
            obtain ⟨q, hq, rfl, haq, hcl⟩ := hrel
            by_cases hql : q < l
            · have haqD : Ap w1 wr.drew 9 1 L' mark k q := haq.heap rfl rfl rfl rfl
              have hqd : decide (q < l) = true := decide_eq_true hql
              have hclD : wr.drew.cell? ⟨Gb, k, none⟩ = some (.slice (some ⟨b, 0, none⟩) l l) := hcl
              have hGb : Gb < wr.drew.heap.size := World.block_lt_of_cell? _ _ hclD
              have hbG : b ≠ Gb := hpre'.far _ (List.mem_of_getElem? hx)
              have hqI : (q : Int) < (l : Int) := by omega
              go_upto_region 12 with (fail)
              go_region_held3 (fun w' => w'.cell? ⟨Gb, k, none⟩ = some (.slice (some ⟨b, 0, none⟩) l l))
                (first
                  | go_keep
                  | exact hcl2
                  | exact (World.cell?_setCell_other _ _ _ _ (by intro e; injection e with e _ _; exact hbG e)).trans hcl2
                  | exact (World.cell?_setCell_other _ _ _ _ (by intro e; injection e with e _ _; exact hbG e.symm)).trans hcl2)
                (first
                  | (go_at_call 82; refine (c_mark k q (by omega) (by omega) wr.drew).mono ?_; rintro e w2 ⟨rfl, hb2⟩
                     have hap2 := Ap.grown haqD hb2
                     have hcl2 : w2.cell? ⟨Gb, k, none⟩ = some (.slice (some ⟨b, 0, none⟩) l l) := (World.cell?_of_block (a := ⟨Gb, k, none⟩) (hb2.block Gb hGb)).trans hclD
                     obtain ⟨u, hu, hfz⟩ := hap2.there hx hql
                     have hc0 : w2.cell? ⟨b, q, none⟩ = some (u 0) := (by have := hu 0 (by omega); rwa [Nat.mul_one, Nat.add_zero] at this)
                     have hfq := hfz q
                     clear hu))
              obtain ⟨w', hset, hap'⟩ := hap2.step (P := Tryz.prog) hpre'.dis hx hql (fun _ _ => rfl) (by simp [mark, Value.oneCell'])
              have hcl' : w'.cell? ⟨Gb, k, none⟩ = some (.slice (some ⟨b, 0, none⟩) l l) := by have := hap'.cell hpre' hx; rwa [Nat.zero_add] at this
              have hww : w2.setCell ⟨b, q, none⟩ (.string (markT k q)) = w' := by rw [← hset, Nat.mul_one]; rfl
              go_wp2
              go_roundw
              case rel => exact ⟨q + 1, by omega, by go_num, by first | exact hap' | (rw [hww]; exact hap'), by first | exact hcl' | (rw [hww]; exact hcl')⟩
              case measure => simp [intOf]; omega
            · have hqd : decide (q < l) = false := decide_eq_false hql
              have hqc : q = l := by omega
              subst hqc
              go_wp2
              go_roundw
              case rel => exact ⟨k + 1, by omega, by go_num, haq.next hx (Nat.le_refl _)⟩
              case measure => simp [intOf]; omega
        · have hkd : decide (k < L'.length) = false := decide_eq_false hkl
          have : L'.length = k := by omega
          subst this
          go_wp2
          go_loopw [7] (fun i wr => ∃ (k : Nat), k ≤ L'.length ∧ i = .int .i64 k ∧ Ap w1 wr 9 1 L' mark L'.length 0) (fun i _ => L'.length - (intOf i).toNat)
          case atStart => exact ⟨0, by omega, rfl, hap⟩
          case round =>
            clear hap
            obtain ⟨k, hk, rfl, hap⟩ := hrel
            by_cases hkl : k < L'.length
            · obtain ⟨x, hx⟩ : ∃ x, L'[k]? = some x := ⟨L'[k], by simp [hkl]⟩
              have hcsm := hsm' _ (List.mem_of_getElem? hx)
              have hcl := hap.cell hpre' hx
              have hlc := heq' _ (List.mem_of_getElem? hx)
              obtain ⟨b, l, c⟩ := x
              obtain rfl : l = c := hlc
              unfold slv at hcl
              rw [Nat.zero_add] at hcl
              have hao := hao k hkl
              subst hao
              have hkd : decide (k < L'.length) = true := decide_eq_true hkl
              go_wp2
              go_loopw [8] (fun i wr => ∃ (q : Nat), q ≤ l ∧ i = .int .i64 q ∧ Ap w1 wr 9 1 L' mark L'.length 0 ∧ wr.cell? ⟨Gb, k, none⟩ = some (.slice (some ⟨b, 0, none⟩) l l)) (fun i _ => l - (intOf i).toNat)
              case atStart => exact ⟨0, by omega, rfl, hap, hcl⟩
              case round =>
                clear hap hcl
                obtain ⟨q, hq, rfl, haq, hcl⟩ := hrel
                by_cases hql : q < l
                · have hc0 : wr.cell? ⟨b, q, none⟩ = some (.string (markT k q)) := by have := haq.full k _ q hx hql (.inl hkl) 0 _ rfl; rwa [Nat.mul_one, Nat.add_zero] at this
                  have hqd : decide (q < l) = true := decide_eq_true hql
                  have haqD : Ap w1 wr.drew 9 1 L' mark L'.length 0 := haq.heap rfl rfl rfl rfl
                  have hclD : wr.drew.cell? ⟨Gb, k, none⟩ = some (.slice (some ⟨b, 0, none⟩) l l) := hcl
                  have hcD : wr.drew.cell? ⟨b, q, none⟩ = some (.string (markT k q)) := hc0
                  have hGb : Gb < wr.drew.heap.size := World.block_lt_of_cell? _ _ hclD
                  have hbb : b < wr.drew.heap.size := World.block_lt_of_cell? _ _ hcD
                  have hqI : (q : Int) < (l : Int) := by omega
                  go_upto_region 19 with (fail)
                  go_region_held3 (fun w' => w'.cell? ⟨Gb, k, none⟩ = some (.slice (some ⟨b, 0, none⟩) l l) ∧ w'.cell? ⟨b, q, none⟩ = some (.string (markT k q)))
                    (first
                      | go_keep
                      | exact ⟨hcl2, hc2⟩)
                    (first
                      | (go_at_call 82; refine (c_mark k q (by omega) (by omega) wr.drew).mono ?_; rintro e w2 ⟨rfl, hb2⟩
                         have hap2 := Ap.grown haqD hb2
                         have hcl2 : w2.cell? ⟨Gb, k, none⟩ = some (.slice (some ⟨b, 0, none⟩) l l) := (World.cell?_of_block (a := ⟨Gb, k, none⟩) (hb2.block Gb hGb)).trans hclD
                         have hc2 : w2.cell? ⟨b, q, none⟩ = some (.string (markT k q)) := (World.cell?_of_block (a := ⟨b, q, none⟩) (hb2.block b hbb)).trans hcD))
                  go_wp2
                  go_roundw
                  case rel => exact ⟨q + 1, by omega, by go_num, hap2, hcl2⟩
                  case measure => simp [intOf]; omega
                · have hqd : decide (q < l) = false := decide_eq_false hql
                  have hqc : q = l := by omega
                  subst hqc
                  go_wp2
                  go_roundw
                  case rel => exact ⟨k + 1, by omega, by go_num, haq⟩
                  case measure => simp [intOf]; omega
            · have hkd : decide (k < L'.length) = false := decide_eq_false hkl
              have : L'.length = k := by omega
              subst this
              go_wp2
              go_ret
              exact ⟨rfl, hfin _ hap⟩
end Go.Proofs.YtecmlefiajhajaaGreatDoor.att
