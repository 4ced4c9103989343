/- The program's EqualSystem returns what the reference's returns, for all systems, and leaves them as they were. -/
import Derived.Test.YtkfllkmhbkmepaaQFnExactEqualSystemx5
namespace Go.Proofs.Ytkfllkmhbkmepaa.Pure
open Go.RowKit Go.Proofs.YtkfllkmhbkmepaaV.PrintWords Go.Proofs.YtkfllkmhbkmepaaV.PrintLast Go.Proofs.YtkfllkmhbkmepaaV.PrintMore Go.Proofs.Ytkfllkmhbkmepaa.QFnExactEqualSystem
set_option linter.unusedVariables false
set_option linter.unusedSimpArgs false

theorem wrap_id {n : Int} (h0 : -9223372036854775808 ≤ n) (h1 : n ≤ 9223372036854775807) : wrap64 n = n := by
  unfold wrap64; omega
theorem wrap_succ {j n : Nat} (h : j < n) (hn : n ≤ 4611686018427387904) : wrap64 ((j : Int) + 1) = ((j + 1 : Nat) : Int) := by
  unfold wrap64; omega
theorem succ_of {d k : Nat} (h : d < k) : ∃ m, k = m + 1 := ⟨k - 1, by omega⟩
theorem lit_int {n : Int} (h : (Lit.int .i64 n).wf = true) : -9223372036854775808 ≤ n ∧ n ≤ 9223372036854775807 := by
  simpa [Lit.wf, IntKind.min, IntKind.max, IntKind.signed, IntKind.bits] using h

/-- What is left behind a slice's length; -1 where it is not enough. -/
def szI (n : Nat) (left : Int) : Int := if left - (n : Int) < 0 then -1 else left - (n : Int)
theorem laws_szIntS_eq (xs : List Int) (l : Int) (hn : xs.length ≤ 9223372036854775807) (h0 : 0 ≤ l) (h1 : l ≤ 1048576) : laws_szIntS.f xs l = some (szI xs.length l) := by
  unfold laws_szIntS.f szI
  rw [wrap_id (by omega) (by omega)]
  split <;> rfl
theorem szI_len {n : Nat} {l : Int} (h : 0 ≤ szI n l) : (n : Int) ≤ l ∧ szI n l ≤ l := by
  unfold szI at h ⊢; split at h
  · omega
  · rename_i h0; rw [if_neg h0]; omega
theorem szI_range {n : Nat} {l : Int} (h0 : 0 ≤ l) (h1 : l ≤ 1048576) : szI n l < 0 ∨ (0 ≤ szI n l ∧ szI n l ≤ 1048576) := by
  unfold szI; split <;> omega

theorem laws_szLin_eq (c : Int) (xs : List Int) (l : Int) (hn : xs.length ≤ 9223372036854775807) (h0 : 0 ≤ l) (h1 : l ≤ 1048576) : laws_szLin.f c xs l = some (szI xs.length l) := by
  unfold laws_szLin.f; rw [laws_szIntS_eq xs l hn h0 h1, Option.bind_some]
  unfold szI; split <;> simp_all

theorem rd_llin (xs : List S59) (j : Nat) (h : j < xs.length) : rd_T59 xs (j : Int) = xs[j] := by
  unfold rd_T59; rw [Int.toNat_natCast, List.getD_eq_getElem?_getD, List.getElem?_eq_getElem h]; rfl

def szLs : List S59 → Int → Int
  | [], l => l
  | x :: xs, l => if szI x.f1.length l < 0 then -1 else szLs xs (szI x.f1.length l)
def szRows (xs : List S59) (l : Int) : Int := if l - (xs.length : Int) < 0 then -1 else szLs xs (l - (xs.length : Int))
theorem szLs_le : ∀ (xs : List S59) (l : Int), 0 ≤ l → szLs xs l ≤ l ∧ -1 ≤ szLs xs l := by
  intro xs
  induction xs with
  | nil => intro l h; simp only [szLs]; omega
  | cons x xs ih =>
    intro l h
    simp only [szLs]
    split
    · omega
    · rename_i hs
      have h1 := szI_len (n := x.f1.length) (l := l) (by omega)
      have := ih (szI x.f1.length l) (by omega); omega
theorem szLs_mem : ∀ (xs : List S59) (l : Int), 0 ≤ szLs xs l → ∀ x ∈ xs, (x.f1.length : Int) ≤ l := by
  intro xs
  induction xs with
  | nil => intro l _ x hx; simp at hx
  | cons y xs ih =>
    intro l h x hx
    simp only [szLs] at h
    split at h
    · omega
    · have h1 := szI_len (n := y.f1.length) (l := l) (by omega)
      rcases List.mem_cons.1 hx with rfl | hx
      · omega
      · have := ih _ h x hx; omega
theorem szRows_len {xs : List S59} {l : Int} (h : 0 ≤ szRows xs l) : (xs.length : Int) ≤ l ∧ (∀ x ∈ xs, (x.f1.length : Int) ≤ l) ∧ szRows xs l ≤ l := by
  unfold szRows at h ⊢
  split at h
  · omega
  · rename_i h0
    have h1 := (szLs_le xs (l - (xs.length : Int)) (by omega)).1
    refine ⟨by omega, fun x hx => ?_, ?_⟩
    · have := szLs_mem xs _ h x hx; omega
    · rw [if_neg h0]; omega
theorem laws_szLinS_l0 (xs : List S59) (hn : xs.length ≤ 4611686018427387904) (hx : ∀ x ∈ xs, x.f1.length ≤ 9223372036854775807) : ∀ (d j k : Nat) (l : Int), j + d = xs.length → d < k → 0 ≤ l → l ≤ 1048576 →
    laws_szLinS.l0 k xs l (j : Int) = some (szLs (xs.drop j) l) := by
  intro d
  induction d with
  | zero =>
    intro j k l hj hk h0 h1
    obtain ⟨k, rfl⟩ := succ_of hk
    simp only [laws_szLinS.l0]
    rw [if_neg (by omega), List.drop_eq_nil_of_le (by omega)]; rfl
  | succ d ih =>
    intro j k l hj hk h0 h1
    obtain ⟨k, rfl⟩ := succ_of hk
    have hlt : j < xs.length := by omega
    simp only [laws_szLinS.l0]
    rw [if_pos (by omega), if_pos (by omega), rd_llin _ _ hlt, laws_szLin_eq _ _ _ (hx _ (List.getElem_mem hlt)) h0 h1, Option.bind_some, wrap_succ hlt hn, List.drop_eq_getElem_cons hlt]
    simp only [szLs]
    by_cases h : szI xs[j].f1.length l < 0
    · rw [if_pos h, if_pos h]
    · have h2 := szI_len (n := xs[j].f1.length) (l := l) (by omega)
      rw [if_neg h, if_neg h, ih (j + 1) k _ (by omega) (by omega) (by omega) (by omega)]
theorem laws_szLinS_eq (xs : List S59) (l : Int) (hn : xs.length ≤ 9223372036854775807) (hx : ∀ x ∈ xs, x.f1.length ≤ 9223372036854775807) (h0 : 0 ≤ l) (h1 : l ≤ 1048576) (k : Nat) (hk : 1048577 < k) :
    laws_szLinS.f k xs l = some (szRows xs l) := by
  unfold laws_szLinS.f szRows
  rw [wrap_id (by omega) (by omega)]
  split
  · rfl
  · have := laws_szLinS_l0 xs (by omega) hx xs.length 0 k (l - (xs.length : Int)) (by omega) (by omega) (by omega) (by omega)
    simpa using this

theorem laws_szSystem_eq (n : Int) (xs : List S59) (l : Int) (hn : xs.length ≤ 9223372036854775807) (hx : ∀ x ∈ xs, x.f1.length ≤ 9223372036854775807) (h0 : 0 ≤ l) (h1 : l ≤ 1048576) (k : Nat) (hk : 1048577 < k) :
    laws_szSystem.f k n xs l = some (szRows xs l) := by
  unfold laws_szSystem.f; rw [laws_szLinS_eq xs l hn hx h0 h1 k hk, Option.bind_some]
  split
  · have := (szLs_le xs (l - (xs.length : Int)))
    unfold szRows at *; split
    · rfl
    · rename_i h2 h3; rw [if_neg h3] at h2; have := (this (by omega)).2; congr 1; omega
  · rfl

theorem rdOf_nat {α : Type} (d : α) (xs : List α) (j : Nat) (h : j < xs.length) : rdOf d xs (j : Int) = xs[j] := by
  unfold rdOf; rw [Int.toNat_natCast, List.getD_eq_getElem?_getD, List.getElem?_eq_getElem h]; rfl
theorem rd_nat (xs : List Int) (j : Nat) (h : j < xs.length) : rd xs (j : Int) = xs[j] := by
  unfold rd; rw [Int.toNat_natCast, List.getD_eq_getElem?_getD, List.getElem?_eq_getElem h]; rfl

theorem set_at_end_int (p : List Int) (x y : Int) (r : List Int) : (p ++ x :: r).set p.length y = (p ++ [y]) ++ r := by simp
theorem laws_toIntS_l0 (xs : List Int) (hn : xs.length ≤ 4611686018427387904) : ∀ (d j k : Nat) (r : List Int), j + d = xs.length → d < k → r.length = d →
    laws_toIntS.l0 k xs (xs.take j ++ r) (j : Int) = some xs := by
  intro d
  induction d with
  | zero =>
    intro j k r hj hk hr
    obtain ⟨k, rfl⟩ := succ_of hk
    have : r = [] := List.length_eq_zero_iff.1 hr
    subst this
    simp only [laws_toIntS.l0]
    rw [if_neg (by omega), List.append_nil, List.take_of_length_le (by omega)]
  | succ d ih =>
    intro j k r hj hk hr
    obtain ⟨k, rfl⟩ := succ_of hk
    have hlt : j < xs.length := by omega
    cases r with
    | nil => simp at hr
    | cons y r =>
      simp only [laws_toIntS.l0]
      have hl : (xs.take j).length = j := by rw [List.length_take]; omega
      rw [if_pos (by omega), if_pos (by omega), if_pos (by simp only [List.length_append, List.length_cons, hl] at *; omega), rd_nat _ _ hlt, wrap_succ hlt hn, Int.toNat_natCast]
      have e : (xs.take j ++ y :: r).set j xs[j] = xs.take (j + 1) ++ r := by
        have := set_at_end_int (xs.take j) y xs[j] r
        rw [hl] at this
        rw [this, List.take_succ_eq_append_getElem hlt]
      rw [e]
      exact ih (j + 1) k r (by omega) (by omega) (by simpa using hr)
theorem laws_toIntS_eq (xs : List Int) (hn : xs.length ≤ 35184372088832) (k : Nat) (hk : xs.length < k) : laws_toIntS.f k xs = some xs := by
  unfold laws_toIntS.f
  rw [if_pos (by omega), if_pos (by omega)]
  have := laws_toIntS_l0 xs (by omega) xs.length 0 k (List.replicate xs.length 0) (by omega) hk (by simp)
  simpa using this

theorem laws_toLin_eq (c : Int) (xs : List Int) (hn : xs.length ≤ 35184372088832) (k : Nat) (hk : xs.length < k) : laws_toLin.f k c xs = some (c, xs) := by
  unfold laws_toLin.f; rw [laws_toIntS_eq xs hn k hk]; rfl

instance linDec : DecidableEq S51 := fun a b => decidable_of_iff (a.f0 = b.f0 ∧ a.f1 = b.f1) ⟨fun h => by cases a; cases b; simp only at h; rw [h.1, h.2], fun h => by rw [h]; exact ⟨rfl, rfl⟩⟩
theorem lin_eq_iff (a b : S51) : a = b ↔ a.f0 = b.f0 ∧ a.f1 = b.f1 := ⟨fun h => by rw [h]; exact ⟨rfl, rfl⟩, fun h => by cases a; cases b; simp only at h; rw [h.1, h.2]⟩
theorem rd_lin (xs : List S51) (j : Nat) (h : j < xs.length) : rd_T51 xs (j : Int) = xs[j] := by
  unfold rd_T51; rw [Int.toNat_natCast, List.getD_eq_getElem?_getD, List.getElem?_eq_getElem h]; rfl

/-- A row of the law's own type, as one of the program's. -/
def conv (x : S59) : S51 := ⟨x.f0, x.f1⟩
theorem laws_toLinS_l0 (xs : List S59) (hn : xs.length ≤ 4611686018427387904) (hx : ∀ x ∈ xs, x.f1.length ≤ 1048576) : ∀ (d j k : Nat) (r : List S51), j + d = xs.length → d + 1048577 < k → r.length = d →
    laws_toLinS.l0 k xs ((xs.map conv).take j ++ r) (j : Int) = some (xs.map conv) := by
  intro d
  induction d with
  | zero =>
    intro j k r hj hk hr
    obtain ⟨k, rfl⟩ := succ_of hk
    have : r = [] := List.length_eq_zero_iff.1 hr
    subst this
    simp only [laws_toLinS.l0]
    rw [if_neg (by omega), List.append_nil, List.take_of_length_le (by rw [List.length_map]; omega)]
  | succ d ih =>
    intro j k r hj hk hr
    obtain ⟨k, rfl⟩ := succ_of hk
    have hlt : j < xs.length := by omega
    cases r with
    | nil => simp at hr
    | cons y r =>
      simp only [laws_toLinS.l0]
      have hl : ((xs.map conv).take j).length = j := by rw [List.length_take, List.length_map]; omega
      have hxj := hx _ (List.getElem_mem hlt)
      rw [if_pos (by omega), if_pos (by omega), rd_llin _ _ hlt, laws_toLin_eq _ _ (by omega) k (by omega), Option.bind_some, if_pos (by simp only [List.length_append, List.length_cons, hl] at *; omega), wrap_succ hlt hn, Int.toNat_natCast]
      have e : ((xs.map conv).take j ++ y :: r).set j (⟨xs[j].f0, xs[j].f1⟩ : S51) = (xs.map conv).take (j + 1) ++ r := by
        have h1 : ((xs.map conv).take j ++ y :: r).set ((xs.map conv).take j).length (conv xs[j]) = ((xs.map conv).take j ++ [conv xs[j]]) ++ r := by simp
        rw [hl] at h1
        rw [show (⟨xs[j].f0, xs[j].f1⟩ : S51) = conv xs[j] from rfl, h1, List.take_succ_eq_append_getElem (by rw [List.length_map]; omega), List.getElem_map]
      rw [e]
      exact ih (j + 1) k r (by omega) (by omega) (by simpa using hr)
theorem laws_toLinS_eq (xs : List S59) (hn : xs.length ≤ 1048576) (hx : ∀ x ∈ xs, x.f1.length ≤ 1048576) (k : Nat) (hk : 2097154 < k) : laws_toLinS.f k xs = some (xs.map conv) := by
  unfold laws_toLinS.f
  rw [if_pos (by omega), if_pos (by omega)]
  have := laws_toLinS_l0 xs (by omega) hx xs.length 0 k (List.replicate xs.length z51) (by omega) (by omega) (by simp)
  simpa using this

theorem laws_toSystem_eq (n : Int) (xs : List S59) (hn : xs.length ≤ 1048576) (hx : ∀ x ∈ xs, x.f1.length ≤ 1048576) (k : Nat) (hk : 2097154 < k) : laws_toSystem.f k n xs = some (n, xs.map conv) := by
  unfold laws_toSystem.f; rw [laws_toLinS_eq xs hn hx k hk]; rfl
theorem conv_len {xs : List S59} {B : Nat} (hx : ∀ x ∈ xs, x.f1.length ≤ B) : ∀ x ∈ xs.map conv, x.f1.length ≤ B := by
  intro x h
  obtain ⟨y, hy, rfl⟩ := List.mem_map.1 h
  exact hx y hy

theorem laws_eqIntS_l0 (a b : List Int) (hab : a.length = b.length) (hn : a.length ≤ 4611686018427387904) : ∀ (d j k : Nat), j + d = a.length → d < k →
    laws_eqIntS.l0 k a b (j : Int) = some (decide (a.drop j = b.drop j)) := by
  intro d
  induction d with
  | zero =>
    intro j k hj hk
    obtain ⟨k, rfl⟩ := succ_of hk
    simp only [laws_eqIntS.l0]
    rw [if_neg (by omega), List.drop_eq_nil_of_le (by omega), List.drop_eq_nil_of_le (by omega)]; simp
  | succ d ih =>
    intro j k hj hk
    obtain ⟨k, rfl⟩ := succ_of hk
    have hlt : j < a.length := by omega
    simp only [laws_eqIntS.l0]
    rw [if_pos (by omega), if_pos (by omega), if_pos (by omega), rd_nat _ _ hlt, rd_nat _ _ (by omega), wrap_succ hlt hn, ih (j + 1) k (by omega) (by omega), List.drop_eq_getElem_cons hlt, List.drop_eq_getElem_cons (hab ▸ hlt : j < b.length)]
    simp only [List.cons.injEq]
    by_cases h : a[j] = b[j]
    · rw [if_pos h]; simp only [h, true_and]
    · rw [if_neg h]; simp only [h, false_and, decide_false]
theorem laws_eqIntS_eq (a b : List Int) (hn : a.length ≤ 4611686018427387904) (k : Nat) (hk : a.length < k) : laws_eqIntS.f k a b = some (decide (a = b)) := by
  unfold laws_eqIntS.f
  by_cases h : a.length = b.length
  · rw [if_pos (by omega)]
    have := laws_eqIntS_l0 a b h hn a.length 0 k (by omega) hk
    simpa using this
  · rw [if_neg (by omega)]; congr 1; symm; rw [decide_eq_false_iff_not]; intro e; exact h (by rw [e])

theorem laws_eqLin_eq (c : Int) (a : List Int) (c' : Int) (b : List Int) (hn : a.length ≤ 4611686018427387904) (k : Nat) (hk : a.length < k) : laws_eqLin.f k c a c' b = some (decide (c = c' ∧ a = b)) := by
  unfold laws_eqLin.f
  rw [laws_eqIntS_eq a b hn k hk]
  by_cases h : c = c' <;> by_cases h2 : a = b <;> simp [h, h2]

theorem laws_eqLinS_l0 (a b : List S51) (hab : a.length = b.length) (hn : a.length ≤ 4611686018427387904) (hx : ∀ x ∈ a, x.f1.length ≤ 1048576) : ∀ (d j k : Nat), j + d = a.length → d + 1048577 < k →
    laws_eqLinS.l0 k a b (j : Int) = some (decide (a.drop j = b.drop j)) := by
  intro d
  induction d with
  | zero =>
    intro j k hj hk
    obtain ⟨k, rfl⟩ := succ_of hk
    simp only [laws_eqLinS.l0]
    rw [if_neg (by omega), List.drop_eq_nil_of_le (by omega), List.drop_eq_nil_of_le (by omega)]; simp
  | succ d ih =>
    intro j k hj hk
    obtain ⟨k, rfl⟩ := succ_of hk
    have hlt : j < a.length := by omega
    have hxj := hx _ (List.getElem_mem hlt)
    simp only [laws_eqLinS.l0]
    rw [if_pos (by omega), if_pos (by omega), if_pos (by omega), rd_lin _ _ hlt, rd_lin _ _ (by omega), laws_eqLin_eq _ _ _ _ (by omega) k (by omega), Option.bind_some, wrap_succ hlt hn, ih (j + 1) k (by omega) (by omega), List.drop_eq_getElem_cons hlt, List.drop_eq_getElem_cons (hab ▸ hlt : j < b.length)]
    simp only [List.cons.injEq, lin_eq_iff, decide_eq_true_eq]
    by_cases h : a[j].f0 = b[j].f0 ∧ a[j].f1 = b[j].f1
    · rw [if_pos h]; simp only [h, true_and, and_self]
    · rw [if_neg h]; simp only [h, false_and, decide_false]
theorem laws_eqLinS_eq (a b : List S51) (hn : a.length ≤ 1048576) (hx : ∀ x ∈ a, x.f1.length ≤ 1048576) (k : Nat) (hk : 2097154 < k) : laws_eqLinS.f k a b = some (decide (a = b)) := by
  unfold laws_eqLinS.f
  by_cases h : a.length = b.length
  · rw [if_pos (by omega)]
    have := laws_eqLinS_l0 a b h (by omega) hx a.length 0 k (by omega) (by omega)
    simpa using this
  · rw [if_neg (by omega)]; congr 1; symm; rw [decide_eq_false_iff_not]; intro e; exact h (by rw [e])

theorem laws_eqSystem_eq (n : Int) (a : List S51) (m : Int) (b : List S51) (hn : a.length ≤ 1048576) (hx : ∀ x ∈ a, x.f1.length ≤ 1048576) (k : Nat) (hk : 2097154 < k) : laws_eqSystem.f k n a m b = some (decide (n = m ∧ a = b)) := by
  unfold laws_eqSystem.f
  rw [laws_eqLinS_eq a b hn hx k hk]
  by_cases h : n = m <;> by_cases h2 : a = b <;> simp [h, h2]

theorem spec_l1Ints_l0 (a b : List Int) (hab : a.length = b.length) (hn : a.length ≤ 4611686018427387904) : ∀ (d j k : Nat), j + d = a.length → d < k →
    spec_l1Ints.l0 k a b (j : Int) = some (decide (a.drop j = b.drop j)) := by
  intro d
  induction d with
  | zero =>
    intro j k hj hk
    obtain ⟨k, rfl⟩ := succ_of hk
    simp only [spec_l1Ints.l0]
    rw [if_neg (by omega), List.drop_eq_nil_of_le (by omega), List.drop_eq_nil_of_le (by omega)]; simp
  | succ d ih =>
    intro j k hj hk
    obtain ⟨k, rfl⟩ := succ_of hk
    have hlt : j < a.length := by omega
    simp only [spec_l1Ints.l0]
    rw [if_pos (by omega), if_pos (by omega), if_pos (by omega), rd_nat _ _ hlt, rd_nat _ _ (by omega), wrap_succ hlt hn, ih (j + 1) k (by omega) (by omega), List.drop_eq_getElem_cons hlt, List.drop_eq_getElem_cons (hab ▸ hlt : j < b.length)]
    simp only [List.cons.injEq]
    by_cases h : a[j] = b[j]
    · rw [if_pos h]; simp only [h, true_and]
    · rw [if_neg h]; simp only [h, false_and, decide_false]
theorem spec_l1Ints_eq (a b : List Int) (hn : a.length ≤ 4611686018427387904) (k : Nat) (hk : a.length < k) : spec_l1Ints.f k a b = some (decide (a = b)) := by
  unfold spec_l1Ints.f
  by_cases h : a.length = b.length
  · rw [if_pos (by omega)]
    have := spec_l1Ints_l0 a b h hn a.length 0 k (by omega) hk
    simpa using this
  · rw [if_neg (by omega)]; congr 1; symm; rw [decide_eq_false_iff_not]; intro e; exact h (by rw [e])

theorem spec_EqualLin_eq (c : Int) (a : List Int) (c' : Int) (b : List Int) (hn : a.length ≤ 4611686018427387904) (k : Nat) (hk : a.length < k) : spec_EqualLin.f k c a c' b = some (decide (c = c' ∧ a = b)) := by
  unfold spec_EqualLin.f
  rw [spec_l1Ints_eq a b hn k hk]
  by_cases h : c = c' <;> by_cases h2 : a = b <;> simp [h, h2]

theorem spec_EqualSystem_l0 (n m : Int) (a b : List S51) (hab : a.length = b.length) (hn : a.length ≤ 4611686018427387904) (hx : ∀ x ∈ a, x.f1.length ≤ 1048576) : ∀ (d j k : Nat), j + d = a.length → d + 1048577 < k →
    spec_EqualSystem.l0 k (j : Int) n a m b = some (decide (a.drop j = b.drop j)) := by
  intro d
  induction d with
  | zero =>
    intro j k hj hk
    obtain ⟨k, rfl⟩ := succ_of hk
    simp only [spec_EqualSystem.l0]
    rw [if_neg (by omega), List.drop_eq_nil_of_le (by omega), List.drop_eq_nil_of_le (by omega)]; simp
  | succ d ih =>
    intro j k hj hk
    obtain ⟨k, rfl⟩ := succ_of hk
    have hlt : j < a.length := by omega
    have hxj := hx _ (List.getElem_mem hlt)
    simp only [spec_EqualSystem.l0]
    rw [if_pos (by omega), if_pos (by omega), if_pos (by omega), rd_lin _ _ hlt, rd_lin _ _ (by omega), spec_EqualLin_eq _ _ _ _ (by omega) k (by omega), Option.bind_some, wrap_succ hlt hn, ih (j + 1) k (by omega) (by omega), List.drop_eq_getElem_cons hlt, List.drop_eq_getElem_cons (hab ▸ hlt : j < b.length)]
    simp only [List.cons.injEq, lin_eq_iff, decide_eq_true_eq]
    by_cases h : a[j].f0 = b[j].f0 ∧ a[j].f1 = b[j].f1
    · rw [if_pos h]; simp only [h, true_and, and_self]
    · rw [if_neg h]; simp only [h, false_and, decide_false]
theorem spec_EqualSystem_eq (n : Int) (a : List S51) (m : Int) (b : List S51) (hn : a.length ≤ 1048577) (hx : ∀ x ∈ a, x.f1.length ≤ 1048576) (k : Nat) (hk : 2097156 < k) : spec_EqualSystem.f k n a m b = some (decide (n = m ∧ a = b)) := by
  unfold spec_EqualSystem.f
  obtain ⟨k, rfl⟩ := succ_of hk
  simp only [spec_EqualSystem.j0]
  by_cases h : n = m
  · rw [if_pos h]
    by_cases h2 : a.length = b.length
    · have := spec_EqualSystem_l0 n m a b h2 (by omega) hx a.length 0 k (by omega) (by omega)
      rw [show ((0 : Nat) : Int) = 0 from rfl, List.drop_zero, List.drop_zero] at this
      rw [if_neg (by simp [h2]), this]; simp [h]
    · rw [if_pos (by simp; omega)]; congr 1; symm; rw [decide_eq_false_iff_not]; rintro ⟨_, e⟩; exact h2 (by rw [e])
  · rw [if_neg h]; simp [h]

theorem slices_Equal_l0 (a b : List Int) (hab : a.length = b.length) (hn : a.length ≤ 4611686018427387904) : ∀ (d j k : Nat), j + d = a.length → d < k →
    slices_Equal_int_int.l0 k a b (a.length : Int) (j : Int) = some (decide (a.drop j = b.drop j)) := by
  intro d
  induction d with
  | zero =>
    intro j k hj hk
    obtain ⟨k, rfl⟩ := succ_of hk
    simp only [slices_Equal_int_int.l0]
    rw [if_neg (by omega), List.drop_eq_nil_of_le (by omega), List.drop_eq_nil_of_le (by omega)]; simp
  | succ d ih =>
    intro j k hj hk
    obtain ⟨k, rfl⟩ := succ_of hk
    have hlt : j < a.length := by omega
    simp only [slices_Equal_int_int.l0]
    rw [if_pos (by omega), if_pos (by omega), if_pos (by omega), if_pos (by omega), rd_nat _ _ hlt, rd_nat _ _ (by omega), wrap_succ hlt hn, ih (j + 1) k (by omega) (by omega), List.drop_eq_getElem_cons hlt, List.drop_eq_getElem_cons (hab ▸ hlt : j < b.length)]
    simp only [List.cons.injEq]
    by_cases h : a[j] = b[j]
    · rw [if_pos h]; simp only [h, true_and]
    · rw [if_neg h]; simp only [h, false_and, decide_false]
theorem slices_Equal_eq (a b : List Int) (hn : a.length ≤ 4611686018427387904) (k : Nat) (hk : a.length < k) : slices_Equal_int_int.f k a b = some (decide (a = b)) := by
  unfold slices_Equal_int_int.f
  by_cases h : a.length = b.length
  · rw [if_pos (by omega)]
    have := slices_Equal_l0 a b h hn a.length 0 k (by omega) hk
    simpa using this
  · rw [if_neg (by omega)]; congr 1; symm; rw [decide_eq_false_iff_not]; intro e; exact h (by rw [e])

theorem impl_EqualLin_eq (c : Int) (a : List Int) (c' : Int) (b : List Int) (hn : a.length ≤ 4611686018427387904) (k : Nat) (hk : a.length < k) : impl_EqualLin.f k c a c' b = some (decide (c = c' ∧ a = b)) := by
  unfold impl_EqualLin.f
  rw [slices_Equal_eq a b hn k hk]
  by_cases h : c = c' <;> by_cases h2 : a = b <;> simp [h, h2]

theorem slices_EqualFunc_l0 (a b : List S51) (hab : a.length = b.length) (hn : a.length ≤ 4611686018427387904) (hx : ∀ x ∈ a, x.f1.length ≤ 1048576) : ∀ (d j k : Nat), j + d = a.length → d + 1048577 < k →
    slices_EqualFunc_impl_Lin_impl_Lin_impl_Lin_impl_Lin__EqualLin.l0 k b a (a.length : Int) (j : Int) = some (decide (a.drop j = b.drop j)) := by
  intro d
  induction d with
  | zero =>
    intro j k hj hk
    obtain ⟨k, rfl⟩ := succ_of hk
    simp only [slices_EqualFunc_impl_Lin_impl_Lin_impl_Lin_impl_Lin__EqualLin.l0]
    rw [if_neg (by omega), List.drop_eq_nil_of_le (by omega), List.drop_eq_nil_of_le (by omega)]; simp
  | succ d ih =>
    intro j k hj hk
    obtain ⟨k, rfl⟩ := succ_of hk
    have hlt : j < a.length := by omega
    have hxj := hx _ (List.getElem_mem hlt)
    simp only [slices_EqualFunc_impl_Lin_impl_Lin_impl_Lin_impl_Lin__EqualLin.l0]
    rw [if_pos (by omega), if_pos (by omega), if_pos (by omega), if_pos (by omega), rd_lin _ _ hlt, rd_lin _ _ (by omega), impl_EqualLin_eq _ _ _ _ (by omega) k (by omega), Option.bind_some, wrap_succ hlt hn, ih (j + 1) k (by omega) (by omega), List.drop_eq_getElem_cons hlt, List.drop_eq_getElem_cons (hab ▸ hlt : j < b.length)]
    simp only [List.cons.injEq, lin_eq_iff, decide_eq_true_eq]
    by_cases h : a[j].f0 = b[j].f0 ∧ a[j].f1 = b[j].f1
    · rw [if_pos h]; simp only [h, true_and, and_self]
    · rw [if_neg h]; simp only [h, false_and, decide_false]
theorem impl_equalLins_eq (a b : List S51) (hn : a.length ≤ 1048577) (hx : ∀ x ∈ a, x.f1.length ≤ 1048576) (k : Nat) (hk : 2097156 < k) : impl_equalLins.f k a b = some (decide (a = b)) := by
  unfold impl_equalLins.f slices_EqualFunc_impl_Lin_impl_Lin_impl_Lin_impl_Lin__EqualLin.f
  by_cases h : a.length = b.length
  · rw [if_pos (by omega)]
    have := slices_EqualFunc_l0 a b h (by omega) hx a.length 0 k (by omega) (by omega)
    rw [show ((0 : Nat) : Int) = 0 from rfl, List.drop_zero, List.drop_zero] at this
    rw [this]; rfl
  · rw [if_neg (by omega), Option.bind_some]; congr 1; symm; rw [decide_eq_false_iff_not]; intro e; exact h (by rw [e])
theorem impl_EqualSystem_eq (n : Int) (a : List S51) (m : Int) (b : List S51) (hn : a.length ≤ 1048577) (hx : ∀ x ∈ a, x.f1.length ≤ 1048576) (k : Nat) (hk : 2097156 < k) : impl_EqualSystem.f k n a m b = some (decide (n = m ∧ a = b)) := by
  unfold impl_EqualSystem.f
  rw [impl_equalLins_eq a b hn hx k hk]
  by_cases h : n = m <;> by_cases h2 : a = b <;> simp [h, h2]

theorem FnExactEqualSystem : laws_FnExactEqualSystem.Pure := by
  intro n rows m qs _ hr _ hq
  have hx : ∀ x ∈ rows, x.f1.length ≤ 9223372036854775807 := fun x h => (hr.2 x h).2.1
  have hy : ∀ x ∈ qs, x.f1.length ≤ 9223372036854775807 := fun x h => (hq.2 x h).2.1
  refine ⟨2097200, ?_⟩
  unfold laws_FnExactEqualSystem.f
  rw [laws_szSystem_eq n rows _ hr.1 hx (by omega) (by omega) _ (by omega), Option.bind_some]
  split
  · rfl
  obtain ⟨b1, b2, b3⟩ := szRows_len (xs := rows) (l := 1048576) (by omega)
  rw [laws_szSystem_eq m qs _ hq.1 hy (by omega) (by omega) _ (by omega), Option.bind_some]
  split
  · rfl
  obtain ⟨d1, d2, _⟩ := szRows_len (xs := qs) (l := szRows rows 1048576) (by omega)
  have b2 : ∀ x ∈ rows, x.f1.length ≤ 1048576 := fun x h => by have := b2 x h; omega
  have d2 : ∀ x ∈ qs, x.f1.length ≤ 1048576 := fun x h => by have := d2 x h; omega
  have c2 := conv_len b2
  have e2 := conv_len d2
  have c1 : (rows.map conv).length ≤ 1048576 := by rw [List.length_map]; omega
  have e1 : (qs.map conv).length ≤ 1048576 := by rw [List.length_map]; omega
  rw [laws_toSystem_eq n rows (by omega) b2 _ (by omega), laws_toSystem_eq m qs (by omega) d2 _ (by omega)]; simp only [Option.bind_some]
  rw [spec_EqualSystem_eq n _ m _ (by omega) c2 _ (by omega), impl_EqualSystem_eq n _ m _ (by omega) c2 _ (by omega)]; simp only [Option.bind_some]
  rw [laws_eqSystem_eq n _ n _ c1 c2 _ (by omega), laws_eqSystem_eq m _ m _ e1 e2 _ (by omega)]
  simp

end Go.Proofs.Ytkfllkmhbkmepaa.Pure
