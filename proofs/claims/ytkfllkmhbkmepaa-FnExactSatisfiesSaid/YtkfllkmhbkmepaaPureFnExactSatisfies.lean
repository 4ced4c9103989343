/- The program's Satisfies returns what the reference's returns, for every system and all values, and leaves them as they were. -/
import Derived.Test.YtkfllkmhbkmepaaQFnExactSatisfiesx7
namespace Go.Proofs.Ytkfllkmhbkmepaa.Pure
open Go.RowKit Go.Proofs.YtkfllkmhbkmepaaV.PrintWords Go.Proofs.YtkfllkmhbkmepaaV.PrintLast Go.Proofs.YtkfllkmhbkmepaaV.PrintMore Go.Proofs.Ytkfllkmhbkmepaa.QFnExactSatisfies
set_option linter.unusedVariables false
set_option linter.unusedSimpArgs false

theorem wrap_id {n : Int} (h0 : -9223372036854775808 ≤ n) (h1 : n ≤ 9223372036854775807) : wrap64 n = n := by
  unfold wrap64; omega
theorem wrap_succ {j n : Nat} (h : j < n) (hn : n ≤ 4611686018427387904) : wrap64 ((j : Int) + 1) = ((j + 1 : Nat) : Int) := by
  unfold wrap64; omega
theorem succ_of {d k : Nat} (h : d < k) : ∃ m, k = m + 1 := ⟨k - 1, by omega⟩
theorem lit_int {n : Int} (h : (Lit.int .i64 n).wf = true) : -9223372036854775808 ≤ n ∧ n ≤ 9223372036854775807 := by
  simpa [Lit.wf, IntKind.min, IntKind.max, IntKind.signed, IntKind.bits] using h

/-- What is left behind a slice's length; -1 where it is not enough. -/
def szI (n : Nat) (left : Int) : Int := if left - (n : Int) < 0 then -1 else left - (n : Int)
theorem laws_szIntS_eq (xs : List Int) (l : Int) (hn : xs.length ≤ 9223372036854775807) (h0 : 0 ≤ l) (h1 : l ≤ 1048576) : laws_szIntS.f xs l = some (szI xs.length l) := by
  unfold laws_szIntS.f szI
  rw [wrap_id (by omega) (by omega)]
  split <;> rfl
theorem szI_len {n : Nat} {l : Int} (h : 0 ≤ szI n l) : (n : Int) ≤ l ∧ szI n l ≤ l := by
  unfold szI at h ⊢; split at h
  · omega
  · rename_i h0; rw [if_neg h0]; omega
theorem szI_range {n : Nat} {l : Int} (h0 : 0 ≤ l) (h1 : l ≤ 1048576) : szI n l < 0 ∨ (0 ≤ szI n l ∧ szI n l ≤ 1048576) := by
  unfold szI; split <;> omega

theorem laws_szLin_eq (c : Int) (xs : List Int) (l : Int) (hn : xs.length ≤ 9223372036854775807) (h0 : 0 ≤ l) (h1 : l ≤ 1048576) : laws_szLin.f c xs l = some (szI xs.length l) := by
  unfold laws_szLin.f; rw [laws_szIntS_eq xs l hn h0 h1, Option.bind_some]
  unfold szI; split <;> simp_all

theorem rd_llin (xs : List S59) (j : Nat) (h : j < xs.length) : rd_T59 xs (j : Int) = xs[j] := by
  unfold rd_T59; rw [Int.toNat_natCast, List.getD_eq_getElem?_getD, List.getElem?_eq_getElem h]; rfl

def szLs : List S59 → Int → Int
  | [], l => l
  | x :: xs, l => if szI x.f1.length l < 0 then -1 else szLs xs (szI x.f1.length l)
def szRows (xs : List S59) (l : Int) : Int := if l - (xs.length : Int) < 0 then -1 else szLs xs (l - (xs.length : Int))
theorem szLs_le : ∀ (xs : List S59) (l : Int), 0 ≤ l → szLs xs l ≤ l ∧ -1 ≤ szLs xs l := by
  intro xs
  induction xs with
  | nil => intro l h; simp only [szLs]; omega
  | cons x xs ih =>
    intro l h
    simp only [szLs]
    split
    · omega
    · rename_i hs
      have h1 := szI_len (n := x.f1.length) (l := l) (by omega)
      have := ih (szI x.f1.length l) (by omega); omega
theorem szLs_mem : ∀ (xs : List S59) (l : Int), 0 ≤ szLs xs l → ∀ x ∈ xs, (x.f1.length : Int) ≤ l := by
  intro xs
  induction xs with
  | nil => intro l _ x hx; simp at hx
  | cons y xs ih =>
    intro l h x hx
    simp only [szLs] at h
    split at h
    · omega
    · have h1 := szI_len (n := y.f1.length) (l := l) (by omega)
      rcases List.mem_cons.1 hx with rfl | hx
      · omega
      · have := ih _ h x hx; omega
theorem szRows_len {xs : List S59} {l : Int} (h : 0 ≤ szRows xs l) : (xs.length : Int) ≤ l ∧ (∀ x ∈ xs, (x.f1.length : Int) ≤ l) ∧ szRows xs l ≤ l := by
  unfold szRows at h ⊢
  split at h
  · omega
  · rename_i h0
    have h1 := (szLs_le xs (l - (xs.length : Int)) (by omega)).1
    refine ⟨by omega, fun x hx => ?_, ?_⟩
    · have := szLs_mem xs _ h x hx; omega
    · rw [if_neg h0]; omega
theorem laws_szLinS_l0 (xs : List S59) (hn : xs.length ≤ 4611686018427387904) (hx : ∀ x ∈ xs, x.f1.length ≤ 9223372036854775807) : ∀ (d j k : Nat) (l : Int), j + d = xs.length → d < k → 0 ≤ l → l ≤ 1048576 →
    laws_szLinS.l0 k xs l (j : Int) = some (szLs (xs.drop j) l) := by
  intro d
  induction d with
  | zero =>
    intro j k l hj hk h0 h1
    obtain ⟨k, rfl⟩ := succ_of hk
    simp only [laws_szLinS.l0]
    rw [if_neg (by omega), List.drop_eq_nil_of_le (by omega)]; rfl
  | succ d ih =>
    intro j k l hj hk h0 h1
    obtain ⟨k, rfl⟩ := succ_of hk
    have hlt : j < xs.length := by omega
    simp only [laws_szLinS.l0]
    rw [if_pos (by omega), if_pos (by omega), rd_llin _ _ hlt, laws_szLin_eq _ _ _ (hx _ (List.getElem_mem hlt)) h0 h1, Option.bind_some, wrap_succ hlt hn, List.drop_eq_getElem_cons hlt]
    simp only [szLs]
    by_cases h : szI xs[j].f1.length l < 0
    · rw [if_pos h, if_pos h]
    · have h2 := szI_len (n := xs[j].f1.length) (l := l) (by omega)
      rw [if_neg h, if_neg h, ih (j + 1) k _ (by omega) (by omega) (by omega) (by omega)]
theorem laws_szLinS_eq (xs : List S59) (l : Int) (hn : xs.length ≤ 9223372036854775807) (hx : ∀ x ∈ xs, x.f1.length ≤ 9223372036854775807) (h0 : 0 ≤ l) (h1 : l ≤ 1048576) (k : Nat) (hk : 1048577 < k) :
    laws_szLinS.f k xs l = some (szRows xs l) := by
  unfold laws_szLinS.f szRows
  rw [wrap_id (by omega) (by omega)]
  split
  · rfl
  · have := laws_szLinS_l0 xs (by omega) hx xs.length 0 k (l - (xs.length : Int)) (by omega) (by omega) (by omega) (by omega)
    simpa using this

theorem laws_szSystem_eq (n : Int) (xs : List S59) (l : Int) (hn : xs.length ≤ 9223372036854775807) (hx : ∀ x ∈ xs, x.f1.length ≤ 9223372036854775807) (h0 : 0 ≤ l) (h1 : l ≤ 1048576) (k : Nat) (hk : 1048577 < k) :
    laws_szSystem.f k n xs l = some (szRows xs l) := by
  unfold laws_szSystem.f; rw [laws_szLinS_eq xs l hn hx h0 h1 k hk, Option.bind_some]
  split
  · have := (szLs_le xs (l - (xs.length : Int)))
    unfold szRows at *; split
    · rfl
    · rename_i h2 h3; rw [if_neg h3] at h2; have := (this (by omega)).2; congr 1; omega
  · rfl

theorem rdOf_nat {α : Type} (d : α) (xs : List α) (j : Nat) (h : j < xs.length) : rdOf d xs (j : Int) = xs[j] := by
  unfold rdOf; rw [Int.toNat_natCast, List.getD_eq_getElem?_getD, List.getElem?_eq_getElem h]; rfl
theorem rd_nat (xs : List Int) (j : Nat) (h : j < xs.length) : rd xs (j : Int) = xs[j] := by
  unfold rd; rw [Int.toNat_natCast, List.getD_eq_getElem?_getD, List.getElem?_eq_getElem h]; rfl

theorem set_at_end_int (p : List Int) (x y : Int) (r : List Int) : (p ++ x :: r).set p.length y = (p ++ [y]) ++ r := by simp
theorem laws_toIntS_l0 (xs : List Int) (hn : xs.length ≤ 4611686018427387904) : ∀ (d j k : Nat) (r : List Int), j + d = xs.length → d < k → r.length = d →
    laws_toIntS.l0 k xs (xs.take j ++ r) (j : Int) = some xs := by
  intro d
  induction d with
  | zero =>
    intro j k r hj hk hr
    obtain ⟨k, rfl⟩ := succ_of hk
    have : r = [] := List.length_eq_zero_iff.1 hr
    subst this
    simp only [laws_toIntS.l0]
    rw [if_neg (by omega), List.append_nil, List.take_of_length_le (by omega)]
  | succ d ih =>
    intro j k r hj hk hr
    obtain ⟨k, rfl⟩ := succ_of hk
    have hlt : j < xs.length := by omega
    cases r with
    | nil => simp at hr
    | cons y r =>
      simp only [laws_toIntS.l0]
      have hl : (xs.take j).length = j := by rw [List.length_take]; omega
      rw [if_pos (by omega), if_pos (by omega), if_pos (by simp only [List.length_append, List.length_cons, hl] at *; omega), rd_nat _ _ hlt, wrap_succ hlt hn, Int.toNat_natCast]
      have e : (xs.take j ++ y :: r).set j xs[j] = xs.take (j + 1) ++ r := by
        have := set_at_end_int (xs.take j) y xs[j] r
        rw [hl] at this
        rw [this, List.take_succ_eq_append_getElem hlt]
      rw [e]
      exact ih (j + 1) k r (by omega) (by omega) (by simpa using hr)
theorem laws_toIntS_eq (xs : List Int) (hn : xs.length ≤ 35184372088832) (k : Nat) (hk : xs.length < k) : laws_toIntS.f k xs = some xs := by
  unfold laws_toIntS.f
  rw [if_pos (by omega), if_pos (by omega)]
  have := laws_toIntS_l0 xs (by omega) xs.length 0 k (List.replicate xs.length 0) (by omega) hk (by simp)
  simpa using this

theorem laws_toLin_eq (c : Int) (xs : List Int) (hn : xs.length ≤ 35184372088832) (k : Nat) (hk : xs.length < k) : laws_toLin.f k c xs = some (c, xs) := by
  unfold laws_toLin.f; rw [laws_toIntS_eq xs hn k hk]; rfl

instance linDec : DecidableEq S51 := fun a b => decidable_of_iff (a.f0 = b.f0 ∧ a.f1 = b.f1) ⟨fun h => by cases a; cases b; simp only at h; rw [h.1, h.2], fun h => by rw [h]; exact ⟨rfl, rfl⟩⟩
theorem lin_eq_iff (a b : S51) : a = b ↔ a.f0 = b.f0 ∧ a.f1 = b.f1 := ⟨fun h => by rw [h]; exact ⟨rfl, rfl⟩, fun h => by cases a; cases b; simp only at h; rw [h.1, h.2]⟩
theorem rd_lin (xs : List S51) (j : Nat) (h : j < xs.length) : rd_T51 xs (j : Int) = xs[j] := by
  unfold rd_T51; rw [Int.toNat_natCast, List.getD_eq_getElem?_getD, List.getElem?_eq_getElem h]; rfl

/-- A row of the law's own type, as one of the program's. -/
def conv (x : S59) : S51 := ⟨x.f0, x.f1⟩
theorem laws_toLinS_l0 (xs : List S59) (hn : xs.length ≤ 4611686018427387904) (hx : ∀ x ∈ xs, x.f1.length ≤ 1048576) : ∀ (d j k : Nat) (r : List S51), j + d = xs.length → d + 1048577 < k → r.length = d →
    laws_toLinS.l0 k xs ((xs.map conv).take j ++ r) (j : Int) = some (xs.map conv) := by
  intro d
  induction d with
  | zero =>
    intro j k r hj hk hr
    obtain ⟨k, rfl⟩ := succ_of hk
    have : r = [] := List.length_eq_zero_iff.1 hr
    subst this
    simp only [laws_toLinS.l0]
    rw [if_neg (by omega), List.append_nil, List.take_of_length_le (by rw [List.length_map]; omega)]
  | succ d ih =>
    intro j k r hj hk hr
    obtain ⟨k, rfl⟩ := succ_of hk
    have hlt : j < xs.length := by omega
    cases r with
    | nil => simp at hr
    | cons y r =>
      simp only [laws_toLinS.l0]
      have hl : ((xs.map conv).take j).length = j := by rw [List.length_take, List.length_map]; omega
      have hxj := hx _ (List.getElem_mem hlt)
      rw [if_pos (by omega), if_pos (by omega), rd_llin _ _ hlt, laws_toLin_eq _ _ (by omega) k (by omega), Option.bind_some, if_pos (by simp only [List.length_append, List.length_cons, hl] at *; omega), wrap_succ hlt hn, Int.toNat_natCast]
      have e : ((xs.map conv).take j ++ y :: r).set j (⟨xs[j].f0, xs[j].f1⟩ : S51) = (xs.map conv).take (j + 1) ++ r := by
        have h1 : ((xs.map conv).take j ++ y :: r).set ((xs.map conv).take j).length (conv xs[j]) = ((xs.map conv).take j ++ [conv xs[j]]) ++ r := by simp
        rw [hl] at h1
        rw [show (⟨xs[j].f0, xs[j].f1⟩ : S51) = conv xs[j] from rfl, h1, List.take_succ_eq_append_getElem (by rw [List.length_map]; omega), List.getElem_map]
      rw [e]
      exact ih (j + 1) k r (by omega) (by omega) (by simpa using hr)
theorem laws_toLinS_eq (xs : List S59) (hn : xs.length ≤ 1048576) (hx : ∀ x ∈ xs, x.f1.length ≤ 1048576) (k : Nat) (hk : 2097154 < k) : laws_toLinS.f k xs = some (xs.map conv) := by
  unfold laws_toLinS.f
  rw [if_pos (by omega), if_pos (by omega)]
  have := laws_toLinS_l0 xs (by omega) hx xs.length 0 k (List.replicate xs.length z51) (by omega) (by omega) (by simp)
  simpa using this

theorem laws_toSystem_eq (n : Int) (xs : List S59) (hn : xs.length ≤ 1048576) (hx : ∀ x ∈ xs, x.f1.length ≤ 1048576) (k : Nat) (hk : 2097154 < k) : laws_toSystem.f k n xs = some (n, xs.map conv) := by
  unfold laws_toSystem.f; rw [laws_toLinS_eq xs hn hx k hk]; rfl
theorem conv_len {xs : List S59} {B : Nat} (hx : ∀ x ∈ xs, x.f1.length ≤ B) : ∀ x ∈ xs.map conv, x.f1.length ≤ B := by
  intro x h
  obtain ⟨y, hy, rfl⟩ := List.mem_map.1 h
  exact hx y hy

theorem laws_eqIntS_l0 (a b : List Int) (hab : a.length = b.length) (hn : a.length ≤ 4611686018427387904) : ∀ (d j k : Nat), j + d = a.length → d < k →
    laws_eqIntS.l0 k a b (j : Int) = some (decide (a.drop j = b.drop j)) := by
  intro d
  induction d with
  | zero =>
    intro j k hj hk
    obtain ⟨k, rfl⟩ := succ_of hk
    simp only [laws_eqIntS.l0]
    rw [if_neg (by omega), List.drop_eq_nil_of_le (by omega), List.drop_eq_nil_of_le (by omega)]; simp
  | succ d ih =>
    intro j k hj hk
    obtain ⟨k, rfl⟩ := succ_of hk
    have hlt : j < a.length := by omega
    simp only [laws_eqIntS.l0]
    rw [if_pos (by omega), if_pos (by omega), if_pos (by omega), rd_nat _ _ hlt, rd_nat _ _ (by omega), wrap_succ hlt hn, ih (j + 1) k (by omega) (by omega), List.drop_eq_getElem_cons hlt, List.drop_eq_getElem_cons (hab ▸ hlt : j < b.length)]
    simp only [List.cons.injEq]
    by_cases h : a[j] = b[j]
    · rw [if_pos h]; simp only [h, true_and]
    · rw [if_neg h]; simp only [h, false_and, decide_false]
theorem laws_eqIntS_eq (a b : List Int) (hn : a.length ≤ 4611686018427387904) (k : Nat) (hk : a.length < k) : laws_eqIntS.f k a b = some (decide (a = b)) := by
  unfold laws_eqIntS.f
  by_cases h : a.length = b.length
  · rw [if_pos (by omega)]
    have := laws_eqIntS_l0 a b h hn a.length 0 k (by omega) hk
    simpa using this
  · rw [if_neg (by omega)]; congr 1; symm; rw [decide_eq_false_iff_not]; intro e; exact h (by rw [e])

theorem laws_eqLin_eq (c : Int) (a : List Int) (c' : Int) (b : List Int) (hn : a.length ≤ 4611686018427387904) (k : Nat) (hk : a.length < k) : laws_eqLin.f k c a c' b = some (decide (c = c' ∧ a = b)) := by
  unfold laws_eqLin.f
  rw [laws_eqIntS_eq a b hn k hk]
  by_cases h : c = c' <;> by_cases h2 : a = b <;> simp [h, h2]

theorem laws_eqLinS_l0 (a b : List S51) (hab : a.length = b.length) (hn : a.length ≤ 4611686018427387904) (hx : ∀ x ∈ a, x.f1.length ≤ 1048576) : ∀ (d j k : Nat), j + d = a.length → d + 1048577 < k →
    laws_eqLinS.l0 k a b (j : Int) = some (decide (a.drop j = b.drop j)) := by
  intro d
  induction d with
  | zero =>
    intro j k hj hk
    obtain ⟨k, rfl⟩ := succ_of hk
    simp only [laws_eqLinS.l0]
    rw [if_neg (by omega), List.drop_eq_nil_of_le (by omega), List.drop_eq_nil_of_le (by omega)]; simp
  | succ d ih =>
    intro j k hj hk
    obtain ⟨k, rfl⟩ := succ_of hk
    have hlt : j < a.length := by omega
    have hxj := hx _ (List.getElem_mem hlt)
    simp only [laws_eqLinS.l0]
    rw [if_pos (by omega), if_pos (by omega), if_pos (by omega), rd_lin _ _ hlt, rd_lin _ _ (by omega), laws_eqLin_eq _ _ _ _ (by omega) k (by omega), Option.bind_some, wrap_succ hlt hn, ih (j + 1) k (by omega) (by omega), List.drop_eq_getElem_cons hlt, List.drop_eq_getElem_cons (hab ▸ hlt : j < b.length)]
    simp only [List.cons.injEq, lin_eq_iff, decide_eq_true_eq]
    by_cases h : a[j].f0 = b[j].f0 ∧ a[j].f1 = b[j].f1
    · rw [if_pos h]; simp only [h, true_and, and_self]
    · rw [if_neg h]; simp only [h, false_and, decide_false]
theorem laws_eqLinS_eq (a b : List S51) (hn : a.length ≤ 1048576) (hx : ∀ x ∈ a, x.f1.length ≤ 1048576) (k : Nat) (hk : 2097154 < k) : laws_eqLinS.f k a b = some (decide (a = b)) := by
  unfold laws_eqLinS.f
  by_cases h : a.length = b.length
  · rw [if_pos (by omega)]
    have := laws_eqLinS_l0 a b h (by omega) hx a.length 0 k (by omega) (by omega)
    simpa using this
  · rw [if_neg (by omega)]; congr 1; symm; rw [decide_eq_false_iff_not]; intro e; exact h (by rw [e])

theorem laws_eqSystem_eq (n : Int) (a : List S51) (m : Int) (b : List S51) (hn : a.length ≤ 1048576) (hx : ∀ x ∈ a, x.f1.length ≤ 1048576) (k : Nat) (hk : 2097154 < k) : laws_eqSystem.f k n a m b = some (decide (n = m ∧ a = b)) := by
  unfold laws_eqSystem.f
  rw [laws_eqLinS_eq a b hn hx k hk]
  by_cases h : n = m <;> by_cases h2 : a = b <;> simp [h, h2]

/-- From -MaxCoeff to MaxCoeff. -/
def okc (n : Int) : Bool := decide (-1000000000 ≤ n ∧ n ≤ 1000000000)
theorem okc_iff (n : Int) : okc n = true ↔ -1000000000 ≤ n ∧ n ≤ 1000000000 := by unfold okc; exact decide_eq_true_iff
theorem okc_false (n : Int) : okc n = false ↔ ¬ (-1000000000 ≤ n ∧ n ≤ 1000000000) := by unfold okc; exact decide_eq_false_iff_not

/-- IsValidLin. -/
def validLin (c : Int) (cs : List Int) (n : Int) : Bool := decide (0 ≤ n ∧ n ≤ 8) && (decide ((cs.length : Int) = n) && (okc c && cs.all okc))
theorem validLin_iff (c : Int) (cs : List Int) (n : Int) : validLin c cs n = true ↔ (0 ≤ n ∧ n ≤ 8) ∧ (cs.length : Int) = n ∧ okc c = true ∧ ∀ x ∈ cs, okc x = true := by
  unfold validLin; simp only [Bool.and_eq_true, decide_eq_true_eq, List.all_eq_true]
theorem any_not_all {α : Type} (p : α → Bool) (xs : List α) : (!(xs.any fun c => !(p c))) = xs.all p := by
  induction xs with
  | nil => rfl
  | cons x xs ih => simp only [List.any_cons, List.all_cons, Bool.not_or, Bool.not_not, ih]

/-- IsValidSystem. -/
def validSys (n : Int) (rows : List S51) : Bool := decide (0 ≤ n ∧ n ≤ 8) && (decide (rows.length ≤ 20) && rows.all fun r => validLin r.f0 r.f1 n)
theorem validSys_iff (n : Int) (rows : List S51) : validSys n rows = true ↔ (0 ≤ n ∧ n ≤ 8) ∧ rows.length ≤ 20 ∧ ∀ r ∈ rows, validLin r.f0 r.f1 n = true := by
  unfold validSys; simp only [Bool.and_eq_true, decide_eq_true_eq, List.all_eq_true]

/-- Fits. -/
def fitsB (n : Int) : Bool := decide (-1000000 ≤ n ∧ n ≤ 1000000)
theorem fitsB_iff (n : Int) : fitsB n = true ↔ -1000000 ≤ n ∧ n ≤ 1000000 := by unfold fitsB; exact decide_eq_true_iff
theorem mul_bound {a b A B : Int} (ha : -A ≤ a ∧ a ≤ A) (hb : -B ≤ b ∧ b ≤ B) : -(A * B) ≤ a * b ∧ a * b ≤ A * B := by
  have h : (a * b).natAbs ≤ A.natAbs * B.natAbs := by rw [Int.natAbs_mul]; exact Nat.mul_le_mul (by omega) (by omega)
  have e : (A.natAbs * B.natAbs : Nat) = (A * B).natAbs := by rw [Int.natAbs_mul]
  have hA : 0 ≤ A := by omega
  have hB : 0 ≤ B := by omega
  have : 0 ≤ A * B := Int.mul_nonneg hA hB
  omega
theorem mul_okc_fits {a b : Int} (ha : -1000000000 ≤ a ∧ a ≤ 1000000000) (hb : -1000000 ≤ b ∧ b ≤ 1000000) : -1000000000000000 ≤ a * b ∧ a * b ≤ 1000000000000000 := by
  have := mul_bound (A := 1000000000) (B := 1000000) ha hb; omega
theorem mul_okc {a b : Int} (ha : -1000000000 ≤ a ∧ a ≤ 1000000000) (hb : -1000000000 ≤ b ∧ b ≤ 1000000000) : -1000000000000000000 ≤ a * b ∧ a * b ≤ 1000000000000000000 := by
  have := mul_bound (A := 1000000000) (B := 1000000000) ha hb; omega

/-- The sum of the products. -/
def dot : List Int → List Int → Int
  | c :: cs, v :: vs => c * v + dot cs vs
  | _, _ => 0
/-- EvalLin. -/
def evalLin (c : Int) (cs vs : List Int) : Int × Bool := if validLin c cs (vs.length : Int) = true ∧ vs.all fitsB = true then (c + dot cs vs, true) else (0, false)
theorem drop_cons {α : Type} (xs : List α) (j : Nat) (h : j < xs.length) : xs.drop j = xs[j] :: xs.drop (j + 1) := List.drop_eq_getElem_cons h

/-- Satisfies. -/
def sat (n : Int) (rows : List S51) (vs : List Int) : Bool := validSys n rows && (decide ((vs.length : Int) = n) && (vs.all fitsB && rows.all fun r => !(decide ((evalLin r.f0 r.f1 vs).1 < 0))))

theorem spec_l1In_eq (a b c : Int) : spec_l1In.f a b c = some (decide (b ≤ a ∧ a ≤ c)) := by
  unfold spec_l1In.f
  by_cases h : a ≥ b
  · rw [if_pos h]; congr 1; rw [decide_eq_decide]; omega
  · rw [if_neg h]; congr 1; symm; rw [decide_eq_false_iff_not]; omega

theorem spec_l3In_eq (n : Int) : spec_l3In.f n = some (okc n) := by unfold spec_l3In.f; rw [spec_l1In_eq]; rfl

theorem spec_IsValidLin_l0 (c : Int) (cs : List Int) (n : Int) (hn : cs.length ≤ 4611686018427387904) : ∀ (d j k : Nat), j + d = cs.length → d < k →
    spec_IsValidLin.l0 k n (j : Int) c cs = some ((cs.drop j).all okc && (decide (0 ≤ n ∧ n ≤ 8) && (decide ((cs.length : Int) = n) && okc c))) := by
  intro d
  induction d with
  | zero =>
    intro j k hj hk
    obtain ⟨k, rfl⟩ := succ_of hk
    simp only [spec_IsValidLin.l0]
    rw [if_neg (by omega), List.drop_eq_nil_of_le (by omega), spec_l1In_eq, spec_l3In_eq]
    simp only [Option.bind_some, List.all_nil, Bool.true_and]
    by_cases h1 : 0 ≤ n ∧ n ≤ 8 <;> by_cases h2 : (cs.length : Int) = n <;> simp [h1, h2]
  | succ d ih =>
    intro j k hj hk
    obtain ⟨k, rfl⟩ := succ_of hk
    have hlt : j < cs.length := by omega
    simp only [spec_IsValidLin.l0]
    rw [if_pos (by omega), if_pos (by omega), rd_nat _ _ hlt, spec_l3In_eq, Option.bind_some, wrap_succ hlt hn, ih (j + 1) k (by omega) (by omega), List.drop_eq_getElem_cons hlt, List.all_cons]
    cases okc cs[j] <;> simp
theorem spec_IsValidLin_eq (c : Int) (cs : List Int) (n : Int) (hn : cs.length ≤ 4611686018427387904) (k : Nat) (hk : cs.length < k) : spec_IsValidLin.f k c cs n = some (validLin c cs n) := by
  unfold spec_IsValidLin.f validLin
  have := spec_IsValidLin_l0 c cs n hn cs.length 0 k (by omega) hk
  rw [show ((0 : Nat) : Int) = 0 from rfl, List.drop_zero] at this
  rw [this]
  cases cs.all okc <;> simp

theorem spec_IsValidSystem_l0 (n : Int) (rows : List S51) (hn : rows.length ≤ 4611686018427387904) (hx : ∀ x ∈ rows, x.f1.length ≤ 1048576) : ∀ (d j k : Nat), j + d = rows.length → d + 1048577 < k →
    spec_IsValidSystem.l0 k (j : Int) n rows = some ((rows.drop j).all (fun r => validLin r.f0 r.f1 n) && (decide (0 ≤ n ∧ n ≤ 8) && decide (rows.length ≤ 20))) := by
  intro d
  induction d with
  | zero =>
    intro j k hj hk
    obtain ⟨k, rfl⟩ := succ_of hk
    simp only [spec_IsValidSystem.l0]
    rw [if_neg (by omega), List.drop_eq_nil_of_le (by omega), spec_l1In_eq]
    simp only [Option.bind_some, List.all_nil, Bool.true_and]
    have e : decide ((rows.length : Int) ≤ 20) = decide (rows.length ≤ 20) := by rw [decide_eq_decide]; omega
    rw [e]
    by_cases h1 : 0 ≤ n ∧ n ≤ 8 <;> simp [h1]
  | succ d ih =>
    intro j k hj hk
    obtain ⟨k, rfl⟩ := succ_of hk
    have hlt : j < rows.length := by omega
    have hxj := hx _ (List.getElem_mem hlt)
    simp only [spec_IsValidSystem.l0]
    rw [if_pos (by omega), if_pos (by omega), rd_lin _ _ hlt, spec_IsValidLin_eq _ _ _ (by omega) k (by omega), Option.bind_some, wrap_succ hlt hn, ih (j + 1) k (by omega) (by omega), List.drop_eq_getElem_cons hlt, List.all_cons]
    cases validLin rows[j].f0 rows[j].f1 n <;> simp
theorem spec_IsValidSystem_eq (n : Int) (rows : List S51) (hn : rows.length ≤ 1048577) (hx : ∀ x ∈ rows, x.f1.length ≤ 1048576) (k : Nat) (hk : 2097155 < k) : spec_IsValidSystem.f k n rows = some (validSys n rows) := by
  unfold spec_IsValidSystem.f validSys
  have := spec_IsValidSystem_l0 n rows (by omega) hx rows.length 0 k (by omega) (by omega)
  rw [show ((0 : Nat) : Int) = 0 from rfl, List.drop_zero] at this
  rw [this]
  cases rows.all fun r => validLin r.f0 r.f1 n <;> simp

theorem spec_Fits_eq (n : Int) : spec_Fits.f n = some (fitsB n) := by unfold spec_Fits.f; rw [spec_l1In_eq]; rfl

theorem spec_EvalLin_l0 (c0 : Int) (cs vs : List Int) (hl : cs.length = vs.length) (h8 : vs.length ≤ 8) (hc : ∀ x ∈ cs, okc x = true) : ∀ (d j k : Nat) (s : Int), j + d = vs.length → d < k → -(1000000000 + 1000000000000000 * (j : Int)) ≤ s → s ≤ 1000000000 + 1000000000000000 * (j : Int) →
    spec_EvalLin.l0 k vs s (j : Int) c0 cs = some (if (vs.drop j).all fitsB = true then (s + dot (cs.drop j) (vs.drop j), true) else (0, false)) := by
  intro d
  induction d with
  | zero =>
    intro j k s hj hk h0 h1
    obtain ⟨k, rfl⟩ := succ_of hk
    simp only [spec_EvalLin.l0]
    rw [if_neg (by omega), List.drop_eq_nil_of_le (by omega : vs.length ≤ j)]; simp [dot]
  | succ d ih =>
    intro j k s hj hk h0 h1
    obtain ⟨k, rfl⟩ := succ_of hk
    have hlt : j < vs.length := by omega
    have hlc : j < cs.length := by omega
    simp only [spec_EvalLin.l0]
    rw [if_pos (by omega), if_pos (by omega), rd_nat _ _ hlt, rd_nat _ _ hlc, spec_Fits_eq, Option.bind_some, drop_cons vs j hlt, drop_cons cs j hlc, List.all_cons]
    cases h : fitsB vs[j] with
    | false => simp
    | true =>
      have hb := mul_okc_fits ((okc_iff _).1 (hc _ (List.getElem_mem hlc))) ((fitsB_iff _).1 h)
      rw [if_pos rfl, if_pos (by omega), wrap_id (n := cs[j] * vs[j]) (by omega) (by omega), wrap_id (by omega) (by omega), wrap_succ hlt (by omega), ih (j + 1) k _ (by omega) (by omega) (by omega) (by omega), Bool.true_and]
      simp only [dot]
      rw [Int.add_assoc]
theorem spec_EvalLin_eq (c : Int) (cs vs : List Int) (hn : cs.length ≤ 4611686018427387904) (k : Nat) (hk : cs.length + 10 < k) : spec_EvalLin.f k c cs vs = some (evalLin c cs vs) := by
  unfold spec_EvalLin.f evalLin
  rw [spec_IsValidLin_eq c cs _ hn k (by omega), Option.bind_some]
  cases h : validLin c cs (vs.length : Int) with
  | false => simp
  | true =>
    obtain ⟨h1, h2, h3, h4⟩ := (validLin_iff _ _ _).1 h
    have h3 := (okc_iff _).1 h3
    have := spec_EvalLin_l0 c cs vs (by omega) (by omega) h4 vs.length 0 k c (by omega) (by omega) (by omega) (by omega)
    rw [show ((0 : Nat) : Int) = 0 from rfl, List.drop_zero, List.drop_zero] at this
    rw [if_pos rfl, this]; simp

theorem spec_Satisfies_l1 (n : Int) (rows : List S51) (vs : List Int) (hn : rows.length ≤ 4611686018427387904) (hx : ∀ x ∈ rows, x.f1.length ≤ 1048576) : ∀ (d j k : Nat), j + d = rows.length → d + 1048587 < k →
    spec_Satisfies.l1 k vs (j : Int) n rows = some ((rows.drop j).all fun r => !(decide ((evalLin r.f0 r.f1 vs).1 < 0))) := by
  intro d
  induction d with
  | zero =>
    intro j k hj hk
    obtain ⟨k, rfl⟩ := succ_of hk
    simp only [spec_Satisfies.l1]
    rw [if_neg (by omega), List.drop_eq_nil_of_le (by omega)]; rfl
  | succ d ih =>
    intro j k hj hk
    obtain ⟨k, rfl⟩ := succ_of hk
    have hlt : j < rows.length := by omega
    have hxj := hx _ (List.getElem_mem hlt)
    simp only [spec_Satisfies.l1]
    rw [if_pos (by omega), if_pos (by omega), rd_lin _ _ hlt, spec_EvalLin_eq _ _ _ (by omega) k (by omega), Option.bind_some, wrap_succ hlt hn, ih (j + 1) k (by omega) (by omega), List.drop_eq_getElem_cons hlt, List.all_cons]
    by_cases h : (evalLin rows[j].f0 rows[j].f1 vs).1 < 0
    · rw [if_pos h]; simp [h]
    · rw [if_neg h]; simp [h]
theorem spec_Satisfies_l0 (n : Int) (rows : List S51) (vs : List Int) (hn : rows.length ≤ 1048577) (hv : vs.length ≤ 4611686018427387904) (hx : ∀ x ∈ rows, x.f1.length ≤ 1048576) : ∀ (d j k : Nat), j + d = vs.length → d + 2097176 < k →
    spec_Satisfies.l0 k vs (j : Int) n rows = some ((vs.drop j).all fitsB && (validSys n rows && (decide ((vs.length : Int) = n) && rows.all fun r => !(decide ((evalLin r.f0 r.f1 vs).1 < 0))))) := by
  intro d
  induction d with
  | zero =>
    intro j k hj hk
    obtain ⟨k, rfl⟩ := succ_of hk
    simp only [spec_Satisfies.l0]
    rw [if_neg (by omega), List.drop_eq_nil_of_le (by omega), spec_IsValidSystem_eq n rows hn hx k (by omega), Option.bind_some]
    obtain ⟨k, rfl⟩ : ∃ m, k = m + 1 := ⟨k - 1, by omega⟩
    simp only [spec_Satisfies.j1, List.all_nil, Bool.true_and]
    have := spec_Satisfies_l1 n rows vs (by omega) hx rows.length 0 k (by omega) (by omega)
    rw [show ((0 : Nat) : Int) = 0 from rfl, List.drop_zero] at this
    rw [this]
    cases validSys n rows
    · simp
    · by_cases h : (vs.length : Int) = n <;> simp [h]
  | succ d ih =>
    intro j k hj hk
    obtain ⟨k, rfl⟩ := succ_of hk
    have hlt : j < vs.length := by omega
    simp only [spec_Satisfies.l0]
    rw [if_pos (by omega), if_pos (by omega), rd_nat _ _ hlt, spec_Fits_eq, Option.bind_some, wrap_succ hlt hv, ih (j + 1) k (by omega) (by omega), List.drop_eq_getElem_cons hlt, List.all_cons]
    cases fitsB vs[j] <;> simp
theorem spec_Satisfies_eq (n : Int) (rows : List S51) (vs : List Int) (hn : rows.length ≤ 1048577) (hv : vs.length ≤ 1048576) (hx : ∀ x ∈ rows, x.f1.length ≤ 1048576) (k : Nat) (hk : 3200000 < k) : spec_Satisfies.f k n rows vs = some (sat n rows vs) := by
  unfold spec_Satisfies.f sat
  have := spec_Satisfies_l0 n rows vs hn (by omega) hx vs.length 0 k (by omega) (by omega)
  rw [show ((0 : Nat) : Int) = 0 from rfl, List.drop_zero] at this
  rw [this]
  cases vs.all fitsB <;> cases validSys n rows <;> simp

/-- The place of the first that p takes, counted from i on; -1 where there is none. -/
def firstBy {α : Type} (p : α → Bool) : List α → Int → Int
  | [], _ => -1
  | x :: xs, i => if p x = true then i else firstBy p xs (i + 1)
theorem firstBy_any {α : Type} (p : α → Bool) : ∀ (xs : List α) (i : Int), 0 ≤ i → decide (firstBy p xs i ≥ 0) = xs.any p := by
  intro xs
  induction xs with
  | nil => intro i _; simp [firstBy]
  | cons x xs ih =>
    intro i hi
    simp only [firstBy, List.any_cons]
    by_cases h : p x = true
    · simp [h]; omega
    · have := ih (i + 1) (by omega)
      simp only [Bool.eq_false_iff.mpr h, Bool.false_eq_true, if_false, Bool.false_or]; exact this

theorem impl_within_eq (a b c : Int) : impl_within.f a b c = some (decide (b ≤ a ∧ a ≤ c)) := by
  unfold impl_within.f
  by_cases h : a ≥ b
  · rw [if_pos h]; congr 1; rw [decide_eq_decide]; omega
  · rw [if_neg h]; congr 1; symm; rw [decide_eq_false_iff_not]; omega

theorem impl_coeffOk_eq (n : Int) : impl_coeffOk.f n = some (okc n) := by unfold impl_coeffOk.f; rw [impl_within_eq]; rfl

theorem slices_IndexFunc_int_int__IsValidLin_1_l0 (p : Int → Bool) (hp : ∀ c, impl_IsValidLin_1.f c = some (p c)) (xs : List Int) (hn : xs.length ≤ 4611686018427387904) : ∀ (d j k : Nat), j + d = xs.length → d < k →
    slices_IndexFunc_int_int__IsValidLin_1.l0 k xs (xs.length : Int) (j : Int) = some (firstBy p (xs.drop j) (j : Int)) := by
  intro d
  induction d with
  | zero =>
    intro j k hj hk
    obtain ⟨k, rfl⟩ := succ_of hk
    simp only [slices_IndexFunc_int_int__IsValidLin_1.l0]
    rw [if_neg (by omega), List.drop_eq_nil_of_le (by omega)]; rfl
  | succ d ih =>
    intro j k hj hk
    obtain ⟨k, rfl⟩ := succ_of hk
    have hlt : j < xs.length := by omega
    simp only [slices_IndexFunc_int_int__IsValidLin_1.l0]
    rw [if_pos (by omega), if_pos (by omega), if_pos (by omega), rd_nat _ _ hlt, hp, Option.bind_some, wrap_succ hlt hn, ih (j + 1) k (by omega) (by omega), List.drop_eq_getElem_cons hlt]
    simp only [firstBy]
    split <;> rfl
theorem slices_ContainsFunc_int_int__IsValidLin_1_eq (p : Int → Bool) (hp : ∀ c, impl_IsValidLin_1.f c = some (p c)) (xs : List Int) (hn : xs.length ≤ 4611686018427387904) (k : Nat) (hk : xs.length < k) :
    slices_ContainsFunc_int_int__IsValidLin_1.f k xs () = some (xs.any p) := by
  unfold slices_ContainsFunc_int_int__IsValidLin_1.f slices_IndexFunc_int_int__IsValidLin_1.f
  have := slices_IndexFunc_int_int__IsValidLin_1_l0 p hp xs hn xs.length 0 k (by omega) hk
  rw [show ((0 : Nat) : Int) = 0 from rfl, List.drop_zero] at this
  rw [this, Option.bind_some, firstBy_any p xs 0 (by omega)]
theorem impl_IsValidLin_eq (c : Int) (cs : List Int) (n : Int) (hn : cs.length ≤ 4611686018427387904) (k : Nat) (hk : cs.length < k) : impl_IsValidLin.f k c cs n = some (validLin c cs n) := by
  unfold impl_IsValidLin.f validLin
  rw [impl_within_eq, impl_coeffOk_eq, slices_ContainsFunc_int_int__IsValidLin_1_eq (fun c => !(okc c)) (fun c => by unfold impl_IsValidLin_1.f; rw [impl_coeffOk_eq]; rfl) cs hn k hk]
  simp only [Option.bind_some, any_not_all]
  by_cases h1 : 0 ≤ n ∧ n ≤ 8 <;> by_cases h2 : (cs.length : Int) = n <;> cases h3 : okc c <;> simp [h1, h2]

theorem impl_IsValidSystem_l0 (n : Int) (rows : List S51) (hn : rows.length ≤ 4611686018427387904) (hx : ∀ x ∈ rows, x.f1.length ≤ 1048576) : ∀ (d j k : Nat), j + d = rows.length → d + 1048577 < k →
    impl_IsValidSystem.l0 k rows (rows.length : Int) (j : Int) n rows = some ((rows.drop j).all (fun r => validLin r.f0 r.f1 n)) := by
  intro d
  induction d with
  | zero =>
    intro j k hj hk
    obtain ⟨k, rfl⟩ := succ_of hk
    simp only [impl_IsValidSystem.l0]
    rw [if_neg (by omega), List.drop_eq_nil_of_le (by omega)]; rfl
  | succ d ih =>
    intro j k hj hk
    obtain ⟨k, rfl⟩ := succ_of hk
    have hlt : j < rows.length := by omega
    have hxj := hx _ (List.getElem_mem hlt)
    simp only [impl_IsValidSystem.l0]
    rw [if_pos (by omega), if_pos (by omega), if_pos (by omega), rd_lin _ _ hlt, impl_IsValidLin_eq _ _ _ (by omega) k (by omega), Option.bind_some, wrap_succ hlt hn, ih (j + 1) k (by omega) (by omega), List.drop_eq_getElem_cons hlt, List.all_cons]
    cases validLin rows[j].f0 rows[j].f1 n <;> simp
theorem impl_IsValidSystem_eq (n : Int) (rows : List S51) (hn : rows.length ≤ 1048577) (hx : ∀ x ∈ rows, x.f1.length ≤ 1048576) (k : Nat) (hk : 2097156 < k) : impl_IsValidSystem.f k n rows = some (validSys n rows) := by
  unfold impl_IsValidSystem.f validSys
  rw [impl_within_eq, Option.bind_some]
  obtain ⟨k, rfl⟩ := succ_of hk
  simp only [impl_IsValidSystem.j0]
  have := impl_IsValidSystem_l0 n rows (by omega) hx rows.length 0 k (by omega) (by omega)
  rw [show ((0 : Nat) : Int) = 0 from rfl, List.drop_zero] at this
  rw [this]
  by_cases h1 : 0 ≤ n ∧ n ≤ 8
  · by_cases h2 : rows.length ≤ 20
    · have : ¬ ((rows.length : Int) > 20) := by omega
      simp [h1, h2, this]
    · have : (rows.length : Int) > 20 := by omega
      simp [h1, h2, this]
  · simp [h1]

theorem impl_Fits_eq (n : Int) : impl_Fits.f n = some (fitsB n) := by unfold impl_Fits.f; rw [impl_within_eq]; rfl

theorem slices_IndexFunc_int_int__EvalLin_1_l0 (p : Int → Bool) (hp : ∀ c, impl_EvalLin_1.f c = some (p c)) (xs : List Int) (hn : xs.length ≤ 4611686018427387904) : ∀ (d j k : Nat), j + d = xs.length → d < k →
    slices_IndexFunc_int_int__EvalLin_1.l0 k xs (xs.length : Int) (j : Int) = some (firstBy p (xs.drop j) (j : Int)) := by
  intro d
  induction d with
  | zero =>
    intro j k hj hk
    obtain ⟨k, rfl⟩ := succ_of hk
    simp only [slices_IndexFunc_int_int__EvalLin_1.l0]
    rw [if_neg (by omega), List.drop_eq_nil_of_le (by omega)]; rfl
  | succ d ih =>
    intro j k hj hk
    obtain ⟨k, rfl⟩ := succ_of hk
    have hlt : j < xs.length := by omega
    simp only [slices_IndexFunc_int_int__EvalLin_1.l0]
    rw [if_pos (by omega), if_pos (by omega), if_pos (by omega), rd_nat _ _ hlt, hp, Option.bind_some, wrap_succ hlt hn, ih (j + 1) k (by omega) (by omega), List.drop_eq_getElem_cons hlt]
    simp only [firstBy]
    split <;> rfl
theorem slices_ContainsFunc_int_int__EvalLin_1_eq (p : Int → Bool) (hp : ∀ c, impl_EvalLin_1.f c = some (p c)) (xs : List Int) (hn : xs.length ≤ 4611686018427387904) (k : Nat) (hk : xs.length < k) :
    slices_ContainsFunc_int_int__EvalLin_1.f k xs () = some (xs.any p) := by
  unfold slices_ContainsFunc_int_int__EvalLin_1.f slices_IndexFunc_int_int__EvalLin_1.f
  have := slices_IndexFunc_int_int__EvalLin_1_l0 p hp xs hn xs.length 0 k (by omega) hk
  rw [show ((0 : Nat) : Int) = 0 from rfl, List.drop_zero] at this
  rw [this, Option.bind_some, firstBy_any p xs 0 (by omega)]
theorem impl_EvalLin_l0 (c0 : Int) (cs vs : List Int) (hl : cs.length = vs.length) (h8 : vs.length ≤ 8) (hc : ∀ x ∈ cs, okc x = true) (hf : ∀ v ∈ vs, fitsB v = true) : ∀ (d j k : Nat) (s : Int), j + d = vs.length → d < k → -(1000000000 + 1000000000000000 * (j : Int)) ≤ s → s ≤ 1000000000 + 1000000000000000 * (j : Int) →
    impl_EvalLin.l0 k s vs (vs.length : Int) (j : Int) c0 cs = some (s + dot (cs.drop j) (vs.drop j), true) := by
  intro d
  induction d with
  | zero =>
    intro j k s hj hk h0 h1
    obtain ⟨k, rfl⟩ := succ_of hk
    simp only [impl_EvalLin.l0]
    rw [if_neg (by omega), List.drop_eq_nil_of_le (by omega : vs.length ≤ j)]; simp [dot]
  | succ d ih =>
    intro j k s hj hk h0 h1
    obtain ⟨k, rfl⟩ := succ_of hk
    have hlt : j < vs.length := by omega
    have hlc : j < cs.length := by omega
    simp only [impl_EvalLin.l0]
    have hb := mul_okc_fits ((okc_iff _).1 (hc _ (List.getElem_mem hlc))) ((fitsB_iff _).1 (hf _ (List.getElem_mem hlt)))
    rw [if_pos (by omega), if_pos (by omega), if_pos (by omega), if_pos (by omega), rd_nat _ _ hlt, rd_nat _ _ hlc, drop_cons vs j hlt, drop_cons cs j hlc, wrap_id (n := cs[j] * vs[j]) (by omega) (by omega), wrap_id (by omega) (by omega), wrap_succ hlt (by omega), ih (j + 1) k _ (by omega) (by omega) (by omega) (by omega)]
    simp only [dot]
    rw [Int.add_assoc]
theorem impl_EvalLin_eq (c : Int) (cs vs : List Int) (hn : cs.length ≤ 4611686018427387904) (hv : vs.length ≤ 4611686018427387904) (k : Nat) (hk : cs.length + vs.length + 10 < k) : impl_EvalLin.f k c cs vs = some (evalLin c cs vs) := by
  unfold impl_EvalLin.f evalLin
  rw [impl_IsValidLin_eq c cs _ hn k (by omega), Option.bind_some, slices_ContainsFunc_int_int__EvalLin_1_eq (fun c => !(fitsB c)) (fun c => by unfold impl_EvalLin_1.f; rw [impl_Fits_eq]; rfl) vs hv k (by omega), Option.bind_some]
  obtain ⟨k, rfl⟩ := succ_of hk
  simp only [impl_EvalLin.j0]
  cases h : validLin c cs (vs.length : Int) with
  | false => simp
  | true =>
    obtain ⟨h1, h2, h3, h4⟩ := (validLin_iff _ _ _).1 h
    have h3 := (okc_iff _).1 h3
    rw [if_pos rfl]
    have ha := any_not_all fitsB vs
    cases hf : vs.all fitsB with
    | false =>
      rw [hf] at ha
      rw [if_pos (by simpa using ha), if_neg (by simp)]
    | true =>
      rw [hf] at ha
      have := impl_EvalLin_l0 c cs vs (by omega) (by omega) h4 (by simpa using hf) vs.length 0 k c (by omega) (by omega) (by omega) (by omega)
      rw [show ((0 : Nat) : Int) = 0 from rfl, List.drop_zero, List.drop_zero] at this
      rw [if_neg (by simpa using ha), if_pos ⟨rfl, rfl⟩, this]

theorem impl_Satisfies_l1 (rows : List S51) (vs : List Int) (hn : rows.length ≤ 4611686018427387904) (hv : vs.length ≤ 1048576) (hx : ∀ x ∈ rows, x.f1.length ≤ 1048576) : ∀ (d j k : Nat), j + d = rows.length → d + 2097187 < k →
    impl_Satisfies.l1 k vs rows (rows.length : Int) (j : Int) = some ((rows.drop j).all fun r => !(decide ((evalLin r.f0 r.f1 vs).1 < 0))) := by
  intro d
  induction d with
  | zero =>
    intro j k hj hk
    obtain ⟨k, rfl⟩ := succ_of hk
    simp only [impl_Satisfies.l1]
    rw [if_neg (by omega), List.drop_eq_nil_of_le (by omega)]; rfl
  | succ d ih =>
    intro j k hj hk
    obtain ⟨k, rfl⟩ := succ_of hk
    have hlt : j < rows.length := by omega
    have hxj := hx _ (List.getElem_mem hlt)
    simp only [impl_Satisfies.l1]
    rw [if_pos (by omega), if_pos (by omega), if_pos (by omega), rd_lin _ _ hlt, impl_EvalLin_eq _ _ _ (by omega) (by omega) k (by omega), Option.bind_some, wrap_succ hlt hn, ih (j + 1) k (by omega) (by omega), List.drop_eq_getElem_cons hlt, List.all_cons]
    by_cases h : (evalLin rows[j].f0 rows[j].f1 vs).1 < 0
    · rw [if_pos h]; simp [h]
    · rw [if_neg h]; simp [h]
theorem impl_Satisfies_l0 (n : Int) (rows : List S51) (vs : List Int) (hn : rows.length ≤ 1048577) (hv : vs.length ≤ 1048576) (hx : ∀ x ∈ rows, x.f1.length ≤ 1048576) : ∀ (d j k : Nat), j + d = vs.length → d + 3145776 < k →
    impl_Satisfies.l0 k vs vs (vs.length : Int) (j : Int) n rows = some ((vs.drop j).all fitsB && (rows.all fun r => !(decide ((evalLin r.f0 r.f1 vs).1 < 0)))) := by
  intro d
  induction d with
  | zero =>
    intro j k hj hk
    obtain ⟨k, rfl⟩ := succ_of hk
    simp only [impl_Satisfies.l0]
    have := impl_Satisfies_l1 rows vs (by omega) hv hx rows.length 0 k (by omega) (by omega)
    rw [show ((0 : Nat) : Int) = 0 from rfl, List.drop_zero] at this
    rw [if_neg (by omega), List.drop_eq_nil_of_le (by omega), this]; simp
  | succ d ih =>
    intro j k hj hk
    obtain ⟨k, rfl⟩ := succ_of hk
    have hlt : j < vs.length := by omega
    simp only [impl_Satisfies.l0]
    rw [if_pos (by omega), if_pos (by omega), if_pos (by omega), rd_nat _ _ hlt, impl_Fits_eq, Option.bind_some, wrap_succ hlt (by omega), ih (j + 1) k (by omega) (by omega), List.drop_eq_getElem_cons hlt, List.all_cons]
    cases fitsB vs[j] <;> simp
theorem impl_Satisfies_eq (n : Int) (rows : List S51) (vs : List Int) (hn : rows.length ≤ 1048577) (hv : vs.length ≤ 1048576) (hx : ∀ x ∈ rows, x.f1.length ≤ 1048576) (k : Nat) (hk : 4200000 < k) : impl_Satisfies.f k n rows vs = some (sat n rows vs) := by
  unfold impl_Satisfies.f sat
  rw [impl_IsValidSystem_eq n rows hn hx k (by omega), Option.bind_some]
  obtain ⟨k, rfl⟩ := succ_of hk
  simp only [impl_Satisfies.j0]
  have := impl_Satisfies_l0 n rows vs hn hv hx vs.length 0 k (by omega) (by omega)
  rw [show ((0 : Nat) : Int) = 0 from rfl, List.drop_zero] at this
  rw [this]
  cases validSys n rows
  · simp
  · by_cases h : (vs.length : Int) = n <;> simp [h]

theorem FnExactSatisfies : laws_FnExactSatisfies.Pure := by
  intro n rows vs _ hr hv
  have hx : ∀ x ∈ rows, x.f1.length ≤ 9223372036854775807 := fun x h => (hr.2 x h).2.1
  refine ⟨4200001, ?_⟩
  unfold laws_FnExactSatisfies.f
  split
  · rfl
  rw [laws_szSystem_eq n rows _ hr.1 hx (by omega) (by omega) _ (by omega), Option.bind_some]
  split
  · rfl
  obtain ⟨b1, b2, _⟩ := szRows_len (xs := rows) (l := 1048576) (by omega)
  have b2 : ∀ x ∈ rows, x.f1.length ≤ 1048576 := fun x h => by have := b2 x h; omega
  have c2 := conv_len b2
  have c1 : (rows.map conv).length ≤ 1048576 := by rw [List.length_map]; omega
  rw [laws_toSystem_eq n rows (by omega) b2 _ (by omega)]; simp only [Option.bind_some]
  rw [laws_toIntS_eq vs (by omega) _ (by omega)]; simp only [Option.bind_some]
  rw [spec_Satisfies_eq n _ vs (by omega) (by omega) c2 _ (by omega), impl_Satisfies_eq n _ vs (by omega) (by omega) c2 _ (by omega)]; simp only [Option.bind_some]
  rw [laws_eqSystem_eq n _ n _ c1 c2 _ (by omega), laws_eqIntS_eq vs vs (by omega) _ (by omega)]
  simp

end Go.Proofs.Ytkfllkmhbkmepaa.Pure
