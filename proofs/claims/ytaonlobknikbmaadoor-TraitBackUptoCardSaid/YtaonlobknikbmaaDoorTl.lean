/- Sets of traits and their texts: there and back: what is printed is read, what is read is printed. -/
import Derived.Test.YtaonlobknikbmaaDoorTt
namespace Go.Proofs.YtaonlobknikbmaaDoor.tt
open Go.RowKit tb
set_option linter.unusedVariables false

theorem wl_some : ∀ B : List UInt8, ∃ x t, sp.wl B = x :: t
  | [] => ⟨[], [], rfl⟩
  | b :: r => by
    obtain ⟨x, t, h⟩ := wl_some r
    unfold sp.wl
    split
    · exact ⟨_, _, rfl⟩
    · rw [h]
      exact ⟨_, _, rfl⟩
theorem join_wl : ∀ B : List UInt8, Lib.join (sp.wl B) [32] = B
  | [] => rfl
  | b :: r => by
    have ih := join_wl r
    obtain ⟨x, t, h⟩ := wl_some r
    rw [h, Lib.join_cons] at ih
    unfold sp.wl
    split
    · rename_i hb
      subst hb
      rw [h, Lib.join_cons]
      simp only [Lib.joinTail, List.map_cons, List.flatten_cons, List.cons_append, List.nil_append] at ih ⊢
      rw [ih]
    · rw [h, Lib.join_cons, List.cons_append, ih]
theorem wl_join : ∀ xs : List (List UInt8), xs ≠ [] → (∀ x ∈ xs, 32 ∉ x) → sp.wl (Lib.join xs [32]) = xs
  | [], h, _ => absurd rfl h
  | [x], _, h => by rw [Lib.join_one]; exact sp.wl_no (h x (List.mem_cons_self ..))
  | x :: y :: r, _, h => by
    have ih := wl_join (y :: r) (by simp) (fun z hz => h z (List.mem_cons_of_mem _ hz))
    have e : Lib.join (x :: y :: r) [32] = x ++ 32 :: Lib.join (y :: r) [32] := by
      rw [Lib.join_cons, Lib.join_cons]
      simp [Lib.joinTail]
    rw [e, sp.wl_cut (h x (List.mem_cons_self ..)), ih]

theorem ofGo_name (s : ByteArray) : ∀ f k, ofGo s f k ≠ 0 → nmF (ofGo s f k) = s
  | 0, _, h => absurd rfl h
  | f + 1, k, h => by
    unfold ofGo at h ⊢
    split
    · assumption
    · rename_i hne
      rw [if_neg hne] at h
      exact ofGo_name s f (k + 1) h
theorem ofF_name {x : ByteArray} (h : ofF x ≠ 0) : nmF (ofF x) = x := ofGo_name x 8 0 h
theorem o1 : ofF (nmF 1) = 1 := by kernel_rfl
theorem o2 : ofF (nmF 2) = 2 := by kernel_rfl
theorem o3 : ofF (nmF 3) = 3 := by kernel_rfl
theorem o4 : ofF (nmF 4) = 4 := by kernel_rfl
theorem o5 : ofF (nmF 5) = 5 := by kernel_rfl
theorem o6 : ofF (nmF 6) = 6 := by kernel_rfl
theorem o7 : ofF (nmF 7) = 7 := by kernel_rfl
theorem o8 : ofF (nmF 8) = 8 := by kernel_rfl
theorem ofF_nmF {k : Int} (h : 1 ≤ k ∧ k ≤ 8) : ofF (nmF k) = k := by
  have : k = 1 ∨ k = 2 ∨ k = 3 ∨ k = 4 ∨ k = 5 ∨ k = 6 ∨ k = 7 ∨ k = 8 := by omega
  rcases this with rfl | rfl | rfl | rfl | rfl | rfl | rfl | rfl
  · exact o1
  · exact o2
  · exact o3
  · exact o4
  · exact o5
  · exact o6
  · exact o7
  · exact o8
theorem nmF_blank (k : Int) : 32 ∉ (nmF k).data.toList := by
  unfold nmF
  split <;> decide

theorem tl_congr {v u : BitVec 16} : ∀ n : Nat, (∀ k : Nat, 1 ≤ k → k ≤ n → hasF v k = hasF u k) → tl v n = tl u n
  | 0, _ => rfl
  | n + 1, h => by
    have h1 := h (n + 1) (by omega) (Nat.le_refl _)
    have h1' : hasF v ((n : Int) + 1) = hasF u ((n : Int) + 1) := by simpa using h1
    rw [tl_succ, tl_succ, h1', tl_congr n (fun k a b => h k a (by omega))]
theorem tl_const {v : BitVec 16} (m : Nat) : ∀ d : Nat, (∀ k : Nat, m < k → k ≤ m + d → hasF v k = false) → tl v (m + d) = tl v m
  | 0, _ => rfl
  | d + 1, h => by
    have h1 := h (m + d + 1) (by omega) (by omega)
    have h1' : hasF v (((m + d : Nat) : Int) + 1) = false := by simpa using h1
    rw [show m + (d + 1) = (m + d) + 1 by omega, tl_succ, h1', if_neg (by decide)]
    exact tl_const m d (fun k a b => h k a (by omega))

theorem tl_add {v : BitVec 16} {l y : Int} (hv : ∀ k : Int, l < k → hasF v k = false) (hl : 0 ≤ l) (hy : l < y) (hy8 : y ≤ 8) : tl (v ||| ub y) 8 = tl v 8 ++ [y] ∧ ∀ k : Int, y < k → hasF (v ||| ub y) k = false := by
  obtain ⟨j, rfl⟩ : ∃ j : Nat, y = (j : Int) + 1 := ⟨(y - 1).toNat, by omega⟩
  have far : ∀ k : Int, k ≠ (j : Int) + 1 → hasF (v ||| ub ((j : Int) + 1)) k = hasF v k := fun k hk => with_far v _ k hk
  have h2 : ∀ k : Int, (j : Int) + 1 < k → hasF (v ||| ub ((j : Int) + 1)) k = false := fun k hk => by rw [far k (by omega)]; exact hv k (by omega)
  refine ⟨?_, h2⟩
  have e1 : tl (v ||| ub ((j : Int) + 1)) (j + 1 + (7 - j)) = tl (v ||| ub ((j : Int) + 1)) (j + 1) := tl_const (j + 1) (7 - j) (fun k a b => h2 k (by omega))
  have e2 : tl v (j + (8 - j)) = tl v j := tl_const j (8 - j) (fun k a b => hv k (by omega))
  rw [show j + 1 + (7 - j) = 8 by omega] at e1
  rw [show j + (8 - j) = 8 by omega] at e2
  rw [e1, e2, tl_succ, with_has v _ (by omega), if_pos rfl, tl_congr j (fun k a b => far k (by omega))]

/-- what is read: the words' numbers, one behind the other -/
theorem fold_tl : ∀ (W : List ByteArray) (v : BitVec 16) (l : Int) (u : BitVec 16), 0 ≤ l → (∀ k : Int, l < k → hasF v k = false) → fold W v l = (u, 0) → tl u 8 = tl v 8 ++ W.map ofF ∧ chkF u = chkF v
  | [], v, l, u, _, _, h => by
    have : v = u := by simpa [fold] using h
    subst this
    simp
  | x :: r, v, l, u, hl, hv, h => by
    unfold fold at h
    split at h
    · simp at h
    · rename_i hlt
      have hp := ofF_pos x
      obtain ⟨h1, h2⟩ := tl_add hv hl (by omega : l < ofF x) hp.2
      obtain ⟨h3, h4⟩ := fold_tl r (v ||| ub (ofF x)) (ofF x) u (by omega) h2 h
      rw [h3, h1, h4, with_chk]
      simp
theorem fold_err : ∀ (W : List ByteArray) (v : BitVec 16) (l : Int) (u : BitVec 16) (e : Int), fold W v l = (u, e) → e = 0 ∨ (e = 5 ∧ u = 0)
  | [], v, l, u, e, h => by
    have h : (v, (0 : Int)) = (u, e) := h
    injection h with _ h
    exact .inl h.symm
  | x :: r, v, l, u, e, h => by
    unfold fold at h
    split at h
    · injection h with h1 h2
      exact .inr ⟨h2.symm, h1.symm⟩
    · exact fold_err r _ _ u e h
theorem none_none (k : Int) : hasF 0 k = false := by
  simp [hasF]

theorem words_some (s : ByteArray) : sp.words s ≠ [] := by
  obtain ⟨x, t, h⟩ := wl_some s.data.toList
  unfold sp.words
  rw [h]
  simp
theorem words_back (s : ByteArray) : (⟨(Lib.join ((sp.words s).map (·.data.toList)) [32]).toArray⟩ : ByteArray) = s := by
  apply bytes_eq
  have e : (sp.words s).map (·.data.toList) = sp.wl s.data.toList := by
    unfold sp.words
    rw [List.map_map]
    conv => rhs; rw [← List.map_id (sp.wl s.data.toList)]
    exact List.map_congr_left fun x _ => rfl
  rw [e, join_wl]

/-- WHAT IS READ IS PRINTED -/
theorem read_print (s : ByteArray) (u : BitVec 16) (e : Int) (h : parF s = (u, e)) : (e ≠ 0 ∧ u = 0) ∨ (e = 0 ∧ prF u = s ∧ chkF u = true) := by
  unfold parF at h
  split at h
  · rename_i hs
    injection h with h1 h2
    subst h1
    subst h2
    subst hs
    exact .inr ⟨rfl, by kernel_rfl, by kernel_rfl⟩
  · unfold parW at h
    split at h
    · rename_i hall
      rw [List.all_eq_true] at hall
      rcases fold_err _ _ _ _ _ h with rfl | ⟨rfl, rfl⟩
      · obtain ⟨h1, h2⟩ := fold_tl _ 0 0 u (Int.le_refl _) (fun k _ => none_none k) h
        have h0 : tl 0 8 = [] := by kernel_rfl
        rw [h0, List.nil_append] at h1
        refine .inr ⟨rfl, ?_, by rw [h2]; kernel_rfl⟩
        have hn : nmL u = sp.words s := by
          unfold nmL
          rw [h1, List.map_map]
          conv => rhs; rw [← List.map_id (sp.words s)]
          exact List.map_congr_left fun x hx => ofF_name (of_decide_eq_true (hall x hx))
        have hl : (tl u 8).length = (sp.words s).length := by rw [h1]; simp
        unfold prF
        rw [if_neg (by rw [hl]; exact fun h => words_some s (List.length_eq_zero_iff.1 h)), hn, hl, jn_all]
        exact words_back s
      · exact .inl ⟨by decide, rfl⟩
    · injection h with h1 h2
      exact .inl ⟨by rw [← h2]; decide, h1.symm⟩

/-! ### what is printed is read -/
/-- rising numbers of traits, above l -/
def Rise : List Int → Int → Prop
  | [], _ => True
  | y :: r, l => l < y ∧ y ≤ 8 ∧ Rise r y
theorem rise_fold : ∀ (L : List Int) (v : BitVec 16) (l : Int), 0 ≤ l → Rise L l → ∃ u, fold (L.map nmF) v l = (u, 0)
  | [], v, l, _, _ => ⟨v, rfl⟩
  | y :: r, v, l, hl, ⟨h1, h2, h3⟩ => by
    have ho : ofF (nmF y) = y := ofF_nmF (by omega)
    rw [List.map_cons]
    unfold fold
    rw [ho, if_neg (by omega)]
    exact rise_fold r _ y (by omega) h3
theorem rise_append : ∀ (L : List Int) (l y : Int), Rise L l → (∀ z ∈ L, z < y) → l < y → y ≤ 8 → Rise (L ++ [y]) l
  | [], l, y, _, _, h1, h2 => ⟨h1, h2, trivial⟩
  | z :: r, l, y, ⟨a, b, c⟩, h, h1, h2 => ⟨a, b, rise_append r z y c (fun x hx => h x (List.mem_cons_of_mem _ hx)) (h z (List.mem_cons_self ..)) h2⟩
theorem tl_mem {v : BitVec 16} {n : Nat} {y : Int} (h : y ∈ tl v n) : 1 ≤ y ∧ y ≤ n ∧ hasF v y = true := by
  unfold tl at h
  obtain ⟨h1, h2⟩ := List.mem_filter.1 h
  obtain ⟨i, hi, rfl⟩ := List.mem_map.1 h1
  have := List.mem_range.1 hi
  exact ⟨by omega, by omega, h2⟩
theorem mem_tl {v : BitVec 16} {n : Nat} {k : Nat} (h1 : 1 ≤ k) (h2 : k ≤ n) (h : hasF v k = true) : (k : Int) ∈ tl v n := by
  unfold tl
  refine List.mem_filter.2 ⟨List.mem_map.2 ⟨k - 1, List.mem_range.2 (by omega), by omega⟩, h⟩
theorem tl_rise (v : BitVec 16) : ∀ n : Nat, n ≤ 8 → Rise (tl v n) 0
  | 0, _ => trivial
  | n + 1, h => by
    rw [tl_succ]
    split
    · exact rise_append _ _ _ (tl_rise v n (by omega)) (fun z hz => by have := tl_mem hz; omega) (by omega) (by omega)
    · exact tl_rise v n (by omega)

/-- a set out of what is in it -/
def recon (f : Nat → Bool) : BitVec 16 := (if f 1 then 1 else 0) ||| (if f 2 then 2 else 0) ||| (if f 3 then 4 else 0) ||| (if f 4 then 8 else 0) ||| (if f 5 then 16 else 0) ||| (if f 6 then 32 else 0) ||| (if f 7 then 64 else 0) ||| (if f 8 then 128 else 0)
theorem recon_all : ((List.range 256).all fun n => decide (recon (fun k => hasF (BitVec.ofNat 16 n) k) = BitVec.ofNat 16 n)) = true := by kernel_rfl
theorem recon_eq {v : BitVec 16} (h : chkF v = true) : recon (fun k => hasF v k) = v := by
  have hv : v.toNat < 256 := of_decide_eq_true h
  have h1 := List.all_eq_true.1 recon_all v.toNat (List.mem_range.2 hv)
  have h2 := of_decide_eq_true h1
  have h3 : BitVec.ofNat 16 v.toNat = v := by rw [BitVec.ofNat_toNat, BitVec.setWidth_eq]
  rw [h3] at h2
  exact h2
theorem set_ext {v u : BitVec 16} (hv : chkF v = true) (hu : chkF u = true) (h : tl v 8 = tl u 8) : v = u := by
  have key : ∀ k : Nat, 1 ≤ k → k ≤ 8 → hasF v k = hasF u k := fun k a b => by
    cases h1 : hasF v k with
    | true =>
      have := mem_tl a b h1
      rw [h] at this
      exact (tl_mem this).2.2.symm
    | false =>
      cases h2 : hasF u k with
      | true =>
        have := mem_tl a b h2
        rw [← h] at this
        have := (tl_mem this).2.2
        rw [h1] at this
        cases this
      | false => rfl
  rw [← recon_eq hv, ← recon_eq hu]
  unfold recon
  show ((((((((if hasF v ((1 : Nat) : Int) = true then (1 : BitVec 16) else 0) ||| if hasF v ((2 : Nat) : Int) = true then 2 else 0) ||| if hasF v ((3 : Nat) : Int) = true then 4 else 0) ||| if hasF v ((4 : Nat) : Int) = true then 8 else 0) ||| if hasF v ((5 : Nat) : Int) = true then 16 else 0) ||| if hasF v ((6 : Nat) : Int) = true then 32 else 0) ||| if hasF v ((7 : Nat) : Int) = true then 64 else 0) ||| if hasF v ((8 : Nat) : Int) = true then 128 else 0) = _
  rw [key 1 (by omega) (by omega), key 2 (by omega) (by omega), key 3 (by omega) (by omega), key 4 (by omega) (by omega), key 5 (by omega) (by omega), key 6 (by omega) (by omega), key 7 (by omega) (by omega), key 8 (by omega) (by omega)]

theorem words_jn (v : BitVec 16) (h : tl v 8 ≠ []) : sp.words (jn (nmL v) (tl v 8).length) = nmL v := by
  have h1 : jn (nmL v) (tl v 8).length = ⟨(Lib.join ((nmL v).map (·.data.toList)) [32]).toArray⟩ := by rw [← nmL_len, jn_all]
  rw [h1]
  unfold sp.words
  have h2 : sp.wl (Lib.join ((nmL v).map (·.data.toList)) [32]) = (nmL v).map (·.data.toList) := by
    refine wl_join _ (fun he => h ?_) (fun x hx => ?_)
    · have := congrArg List.length he
      simp [nmL] at this
      exact this
    · obtain ⟨y, hy, rfl⟩ := List.mem_map.1 hx
      obtain ⟨z, -, rfl⟩ := List.mem_map.1 hy
      exact nmF_blank z
  show (sp.wl (Lib.join ((nmL v).map (·.data.toList)) [32])).map _ = _
  rw [h2, List.map_map]
  conv => rhs; rw [← List.map_id (nmL v)]
  exact List.map_congr_left fun x _ => Lib.mk_data x

theorem print_read {v : BitVec 16} (hv : chkF v = true) : parF (prF v) = (v, 0) := by
  by_cases h0 : tl v 8 = []
  · have hz : v = 0 := set_ext hv (by kernel_rfl) (by rw [h0]; kernel_rfl)
    subst hz
    have : prF 0 = ⟨#[45]⟩ := by kernel_rfl
    rw [this]
    unfold parF
    rw [if_pos rfl]
  · have hp : prF v = jn (nmL v) (tl v 8).length := by
      unfold prF
      rw [if_neg (fun h => h0 (List.length_eq_zero_iff.1 h))]
    have hw := words_jn v h0
    rw [← hp] at hw
    have hall : ∀ x ∈ nmL v, ofF x ≠ 0 := fun x hx => by
      obtain ⟨y, hy, rfl⟩ := List.mem_map.1 hx
      have := tl_mem hy
      rw [ofF_nmF (by omega)]
      omega
    have hne : ¬ prF v = ⟨#[45]⟩ := fun he => by
      rw [he] at hw
      have hd : sp.words ⟨#[45]⟩ = [⟨#[45]⟩] := by kernel_rfl
      rw [hd] at hw
      have := hall ⟨#[45]⟩ (by rw [← hw]; exact List.mem_cons_self ..)
      exact this (by kernel_rfl)
    unfold parF
    rw [if_neg hne, hw]
    have hpw := parW_all (nmL v) hall
    rw [← hpw]
    obtain ⟨u, hu⟩ := rise_fold (tl v 8) 0 0 (Int.le_refl _) (tl_rise v 8 (Nat.le_refl _))
    have hu' : fold (nmL v) 0 0 = (u, 0) := hu
    rw [hu']
    obtain ⟨h1, h2⟩ := fold_tl _ 0 0 u (Int.le_refl _) (fun k _ => none_none k) hu'
    have hz : tl 0 8 = [] := by kernel_rfl
    have hm : (nmL v).map ofF = tl v 8 := by
      unfold nmL
      rw [List.map_map]
      conv => rhs; rw [← List.map_id (tl v 8)]
      exact List.map_congr_left fun x hx => by have := tl_mem hx; exact ofF_nmF (by omega)
    rw [hz, List.nil_append, hm] at h1
    rw [set_ext (by rw [h2]; kernel_rfl) hv h1]
theorem pr_size (v : BitVec 16) : (prF v).size ≤ 100 := by
  unfold prF
  split
  · decide
  · exact jn_size v _
end Go.Proofs.YtaonlobknikbmaaDoor.tt
