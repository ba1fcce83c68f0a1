/- strings.Split at a blank over this translation: the words between the blanks, in a new list; from the shelf's contracts of what it calls. Condition: the text has fewer than 4294967281 bytes. -/
import Derived.Test.YtaonlobknikbmaaDoorChecked
import Derived.Ground.NamesProg
import Derived.Shelf.Lay
import Derived.Shelf.Strings.Split
namespace Go.Proofs
open Go.Shelf Go.RowKit

shelf_lay Lays.n146 Nm 146 at Tryd as Tryd.laysSplit
theorem Tryd.hi9 : (Tryd.prog.info? 9).map (fun i => (i.zero, i.size, i.bytes)) = some (some (.string ByteArray.empty), 1, 16) := by kernel_rfl

namespace YtaonlobknikbmaaDoor.sp
def blank : ByteArray := ⟨#[32]⟩

/-- the words between the blanks -/
def wl : List UInt8 → List (List UInt8)
  | [] => [[]]
  | b :: r => if b = 32 then [] :: wl r else match wl r with
    | x :: t => (b :: x) :: t
    | [] => [[b]]

theorem wl_no : ∀ {p : List UInt8}, 32 ∉ p → wl p = [p]
  | [], _ => rfl
  | b :: r, h => by
    have h1 : ¬ b = 32 := fun e => h (by rw [e]; exact List.mem_cons_self ..)
    have h2 := wl_no (p := r) (fun e => h (List.mem_cons_of_mem _ e))
    rw [wl, if_neg h1, h2]
theorem wl_cut : ∀ {p r : List UInt8}, 32 ∉ p → wl (p ++ 32 :: r) = p :: wl r
  | [], r, _ => by rw [List.nil_append, wl, if_pos rfl]
  | b :: p, r, h => by
    have h1 : ¬ b = 32 := fun e => h (by rw [e]; exact List.mem_cons_self ..)
    have h2 := wl_cut (p := p) (r := r) (fun e => h (List.mem_cons_of_mem _ e))
    rw [List.cons_append, wl, if_neg h1, h2]

theorem occ_at (s : List UInt8) (i : Nat) : Lib.occAt s [32] i = (s[i]? == some 32) := by
  unfold Lib.occAt
  have h : (s.drop i)[0]? = s[i]? := by simp
  cases hd : s.drop i with
  | nil =>
    rw [hd] at h
    rw [← h]
    rfl
  | cons b r =>
    rw [hd] at h
    rw [← h]
    by_cases hb : b = 32
    · subst hb; simp [List.isPrefixOf]
    · have h1 : ¬ (32 : UInt8) = b := fun e => hb e.symm
      rw [show ((b :: r)[0]? == some 32) = (b == 32) from by simp, beq_eq_false_iff_ne.2 hb]
      simp [List.isPrefixOf, h1]

theorem index_cut (s : List UInt8) : (Lib.index s [32] = -1 ∧ 32 ∉ s) ∨ ∃ i : Nat, Lib.index s [32] = i ∧ i < s.length ∧ 32 ∉ s.take i ∧ s = s.take i ++ 32 :: s.drop (i + 1) := by
  rcases Lib.index_spec s [32] with ⟨h1, h2⟩ | ⟨i, h1, h2, h3, h4⟩
  · refine .inl ⟨h1, fun hm => ?_⟩
    obtain ⟨j, hj⟩ := List.getElem?_of_mem hm
    have hjl : j < s.length := (List.getElem?_eq_some_iff.1 hj).1
    have := h2 j (by omega)
    rw [occ_at, hj] at this
    simp at this
  · rw [occ_at] at h3
    have h3 : s[i]? = some 32 := by simpa using h3
    have hil : i < s.length := (List.getElem?_eq_some_iff.1 h3).1
    have hv : s[i] = 32 := by have := List.getElem?_eq_getElem hil; rw [h3] at this; exact (Option.some.inj this).symm
    refine .inr ⟨i, h1, hil, fun hm => ?_, ?_⟩
    · obtain ⟨j, hj⟩ := List.getElem?_of_mem hm
      rw [List.getElem?_take] at hj
      split at hj
      · rename_i hji
        have := h4 j hji
        rw [occ_at, hj] at this
        simp at this
      · cases hj
    · rw [← hv, List.getElem_cons_drop, List.take_append_drop]

theorem split_wl : ∀ (n : Nat) (s : List UInt8), s.length ≤ n → Lib.splitK [32] 0 (Lib.count s [32]) s = wl s
  | n, s, hn => by
    rcases index_cut s with ⟨h1, h2⟩ | ⟨i, h1, h2, h3, h4⟩
    · rw [Lib.count_miss h1, wl_no h2]
      rfl
    · match n with
      | 0 => omega
      | n + 1 =>
        have ih := split_wl n (s.drop (i + 1)) (by rw [List.length_drop]; omega)
        have hc := Lib.count_hit (s := s) (sub := [32]) (i := i) (by simp) h1
        rw [hc, Nat.add_comm 1]
        unfold Lib.splitK
        have hne : ¬ (Lib.index s [32] == -1) = true := by rw [h1]; simp
        rw [if_neg hne, h1]
        have e1 : ((i : Int).toNat + 0) = i := by simp
        have e2 : ((i : Int).toNat + [(32 : UInt8)].length) = i + 1 := by simp
        have e3 : i + [(32 : UInt8)].length = i + 1 := rfl
        rw [e1, e2, e3, ih]
        conv => rhs; rw [h4]
        rw [wl_cut h3]

/-- the words of a text -/
def words (s : ByteArray) : List ByteArray := (wl s.data.toList).map fun l => ⟨l.toArray⟩

theorem splitB_words (s : ByteArray) : Lib.splitB blank 0 (Lib.countB s blank) s = words s := by
  have h := Lib.splitB_data blank 0 (Lib.countB s blank) s
  have h1 : Lib.splitK blank.data.toList 0 (Lib.countB s blank) s.data.toList = wl s.data.toList := split_wl _ _ (Nat.le_refl _)
  rw [h1] at h
  unfold words
  rw [← h, List.map_map]
  conv => lhs; rw [← List.map_id (Lib.splitB blank 0 (Lib.countB s blank) s)]
  refine List.map_congr_left fun x _ => ?_
  exact (Lib.mk_data x).symm
theorem count_words (s : ByteArray) : Lib.countB s blank + 1 = (words s).length := by
  rw [← splitB_words, Lib.splitB_all blank (by decide) 0 _ s rfl]
theorem words_le (s : ByteArray) : (words s).length ≤ s.size + 1 := by
  rw [← count_words]
  have := Lib.countB_le blank (by decide) s.size s (Nat.le_refl _)
  omega

set_option maxHeartbeats 1000000 in
theorem split_calls (s : ByteArray) (w : World) (hs : s.size < 4294967281) :
    Calls Tryd.prog 46 #[.string s, .string ⟨#[32]⟩] w fun e w' =>
      e = .returned (.slice (some ⟨w.heap.size, 0, none⟩) (words s).length (words s).length) ∧ w' = w.alloc (.cells ((words s).map Value.string).toArray 9) := by
  have L := Tryd.laysSplit
  have hidx : ∀ (x : ByteArray) (w : World), Lib.indexByte x.data.toList 32 = Lib.indexB x blank := fun x w => by
    show Lib.indexByte x.data.toList 32 = Lib.index x.data.toList [32]
    rw [Lib.index_one]
  have c := Any.strings_genSplit_core { L with } Tryd.hi9 s blank 0 (-1) (Lib.countB s blank + 1) w hs (by decide) (Nat.zero_le _)
    (fun x c hx => by rw [← hidx x w]; exact Any.strings_Index_one { L with } x 32 _)
    (by
      refine (Any.strings_Count_one { L with } s 32 w).mono fun e w' ⟨he, hw⟩ => ⟨?_, hw⟩
      rw [he]
      show _ = Ending.returned (Value.int .i64 ((Lib.count s.data.toList [32] : Nat) : Int))
      rw [Lib.count_one]
      rfl)
    (by decide) (by decide) (by
      have hle := Lib.countB_le blank (by decide) s.size s (Nat.le_refl _)
      rw [if_pos (by decide)]; omega)
  have hlen := Lib.splitB_all blank (by decide) 0 _ s rfl
  rw [Nat.add_sub_cancel, hlen] at c
  have e2 : Lib.cellsOf (Lib.splitB blank 0 (Lib.countB s blank) s) (Lib.countB s blank + 1) = ((Lib.splitB blank 0 (Lib.countB s blank) s).map Value.string).toArray := by rw [← hlen]; exact Lib.cellsOf_full _
  rw [e2, splitB_words, count_words] at c
  have c' : Calls Tryd.prog 57 #[.string s, .string ⟨#[32]⟩, .int .i64 0, .int .i64 (-1)] w fun e w' =>
      e = .returned (.slice (some ⟨w.heap.size, 0, none⟩) (words s).length (words s).length) ∧ w' = w.alloc (.cells ((words s).map Value.string).toArray 9) := c
  clear c e2 hlen hidx L
  go_enter Tryd.func46, Tryd.ntmps46
  go_wp2_with fail
  refine c'.mono ?_
  rintro e w' ⟨rfl, rfl⟩
  go_wp2
  go_ret
  exact ⟨rfl, rfl⟩
end YtaonlobknikbmaaDoor.sp
end Go.Proofs
