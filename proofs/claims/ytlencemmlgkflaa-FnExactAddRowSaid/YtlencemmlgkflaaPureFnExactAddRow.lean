/- The program's AddRow returns what the reference's returns, for every system and row, leaves both as they were, and shares no memory with them. -/
import Derived.Test.YtlencemmlgkflaaQFnExactAddRowx9
namespace Go.Proofs.Ytlencemmlgkflaa.Pure
open Go.RowKit Go.Proofs.YtlencemmlgkflaaV.PrintWords Go.Proofs.YtlencemmlgkflaaV.PrintLast Go.Proofs.YtlencemmlgkflaaV.PrintMore Go.Proofs.Ytlencemmlgkflaa.QFnExactAddRow
set_option linter.unusedVariables false
set_option linter.unusedSimpArgs false

theorem wrap_id {n : Int} (h0 : -9223372036854775808 ≤ n) (h1 : n ≤ 9223372036854775807) : wrap64 n = n := by
  unfold wrap64; omega
theorem wrap_succ {j n : Nat} (h : j < n) (hn : n ≤ 4611686018427387904) : wrap64 ((j : Int) + 1) = ((j + 1 : Nat) : Int) := by
  unfold wrap64; omega
theorem succ_of {d k : Nat} (h : d < k) : ∃ m, k = m + 1 := ⟨k - 1, by omega⟩
theorem lit_int {n : Int} (h : (Lit.int .i64 n).wf = true) : -9223372036854775808 ≤ n ∧ n ≤ 9223372036854775807 := by
  simpa [Lit.wf, IntKind.min, IntKind.max, IntKind.signed, IntKind.bits] using h

/-- What is left behind a slice's length; -1 where it is not enough. -/
def szI (n : Nat) (left : Int) : Int := if left - (n : Int) < 0 then -1 else left - (n : Int)
theorem laws_szIntS_eq (xs : List Int) (l : Int) (hn : xs.length ≤ 9223372036854775807) (h0 : 0 ≤ l) (h1 : l ≤ 1048576) : laws_szIntS.f xs l = some (szI xs.length l) := by
  unfold laws_szIntS.f szI
  rw [wrap_id (by omega) (by omega)]
  split <;> rfl
theorem szI_len {n : Nat} {l : Int} (h : 0 ≤ szI n l) : (n : Int) ≤ l ∧ szI n l ≤ l := by
  unfold szI at h ⊢; split at h
  · omega
  · rename_i h0; rw [if_neg h0]; omega
theorem szI_range {n : Nat} {l : Int} (h0 : 0 ≤ l) (h1 : l ≤ 1048576) : szI n l < 0 ∨ (0 ≤ szI n l ∧ szI n l ≤ 1048576) := by
  unfold szI; split <;> omega

theorem laws_szLin_eq (c : Int) (xs : List Int) (l : Int) (hn : xs.length ≤ 9223372036854775807) (h0 : 0 ≤ l) (h1 : l ≤ 1048576) : laws_szLin.f c xs l = some (szI xs.length l) := by
  unfold laws_szLin.f; rw [laws_szIntS_eq xs l hn h0 h1, Option.bind_some]
  unfold szI; split <;> simp_all

theorem rd_llin (xs : List S43) (j : Nat) (h : j < xs.length) : rd_T43 xs (j : Int) = xs[j] := by
  unfold rd_T43; rw [Int.toNat_natCast, List.getD_eq_getElem?_getD, List.getElem?_eq_getElem h]; rfl

def szLs : List S43 → Int → Int
  | [], l => l
  | x :: xs, l => if szI x.f1.length l < 0 then -1 else szLs xs (szI x.f1.length l)
def szRows (xs : List S43) (l : Int) : Int := if l - (xs.length : Int) < 0 then -1 else szLs xs (l - (xs.length : Int))
theorem szLs_le : ∀ (xs : List S43) (l : Int), 0 ≤ l → szLs xs l ≤ l ∧ -1 ≤ szLs xs l := by
  intro xs
  induction xs with
  | nil => intro l h; simp only [szLs]; omega
  | cons x xs ih =>
    intro l h
    simp only [szLs]
    split
    · omega
    · rename_i hs
      have h1 := szI_len (n := x.f1.length) (l := l) (by omega)
      have := ih (szI x.f1.length l) (by omega); omega
theorem szLs_mem : ∀ (xs : List S43) (l : Int), 0 ≤ szLs xs l → ∀ x ∈ xs, (x.f1.length : Int) ≤ l := by
  intro xs
  induction xs with
  | nil => intro l _ x hx; simp at hx
  | cons y xs ih =>
    intro l h x hx
    simp only [szLs] at h
    split at h
    · omega
    · have h1 := szI_len (n := y.f1.length) (l := l) (by omega)
      rcases List.mem_cons.1 hx with rfl | hx
      · omega
      · have := ih _ h x hx; omega
theorem szRows_len {xs : List S43} {l : Int} (h : 0 ≤ szRows xs l) : (xs.length : Int) ≤ l ∧ (∀ x ∈ xs, (x.f1.length : Int) ≤ l) ∧ szRows xs l ≤ l := by
  unfold szRows at h ⊢
  split at h
  · omega
  · rename_i h0
    have h1 := (szLs_le xs (l - (xs.length : Int)) (by omega)).1
    refine ⟨by omega, fun x hx => ?_, ?_⟩
    · have := szLs_mem xs _ h x hx; omega
    · rw [if_neg h0]; omega
theorem laws_szLinS_l0 (xs : List S43) (hn : xs.length ≤ 4611686018427387904) (hx : ∀ x ∈ xs, x.f1.length ≤ 9223372036854775807) : ∀ (d j k : Nat) (l : Int), j + d = xs.length → d < k → 0 ≤ l → l ≤ 1048576 →
    laws_szLinS.l0 k xs l (j : Int) = some (szLs (xs.drop j) l) := by
  intro d
  induction d with
  | zero =>
    intro j k l hj hk h0 h1
    obtain ⟨k, rfl⟩ := succ_of hk
    simp only [laws_szLinS.l0]
    rw [if_neg (by omega), List.drop_eq_nil_of_le (by omega)]; rfl
  | succ d ih =>
    intro j k l hj hk h0 h1
    obtain ⟨k, rfl⟩ := succ_of hk
    have hlt : j < xs.length := by omega
    simp only [laws_szLinS.l0]
    rw [if_pos (by omega), if_pos (by omega), rd_llin _ _ hlt, laws_szLin_eq _ _ _ (hx _ (List.getElem_mem hlt)) h0 h1, Option.bind_some, wrap_succ hlt hn, List.drop_eq_getElem_cons hlt]
    simp only [szLs]
    by_cases h : szI xs[j].f1.length l < 0
    · rw [if_pos h, if_pos h]
    · have h2 := szI_len (n := xs[j].f1.length) (l := l) (by omega)
      rw [if_neg h, if_neg h, ih (j + 1) k _ (by omega) (by omega) (by omega) (by omega)]
theorem laws_szLinS_eq (xs : List S43) (l : Int) (hn : xs.length ≤ 9223372036854775807) (hx : ∀ x ∈ xs, x.f1.length ≤ 9223372036854775807) (h0 : 0 ≤ l) (h1 : l ≤ 1048576) (k : Nat) (hk : 1048577 < k) :
    laws_szLinS.f k xs l = some (szRows xs l) := by
  unfold laws_szLinS.f szRows
  rw [wrap_id (by omega) (by omega)]
  split
  · rfl
  · have := laws_szLinS_l0 xs (by omega) hx xs.length 0 k (l - (xs.length : Int)) (by omega) (by omega) (by omega) (by omega)
    simpa using this

theorem laws_szSystem_eq (n : Int) (xs : List S43) (l : Int) (hn : xs.length ≤ 9223372036854775807) (hx : ∀ x ∈ xs, x.f1.length ≤ 9223372036854775807) (h0 : 0 ≤ l) (h1 : l ≤ 1048576) (k : Nat) (hk : 1048577 < k) :
    laws_szSystem.f k n xs l = some (szRows xs l) := by
  unfold laws_szSystem.f; rw [laws_szLinS_eq xs l hn hx h0 h1 k hk, Option.bind_some]
  split
  · have := (szLs_le xs (l - (xs.length : Int)))
    unfold szRows at *; split
    · rfl
    · rename_i h2 h3; rw [if_neg h3] at h2; have := (this (by omega)).2; congr 1; omega
  · rfl

theorem rdOf_nat {α : Type} (d : α) (xs : List α) (j : Nat) (h : j < xs.length) : rdOf d xs (j : Int) = xs[j] := by
  unfold rdOf; rw [Int.toNat_natCast, List.getD_eq_getElem?_getD, List.getElem?_eq_getElem h]; rfl
theorem rd_nat (xs : List Int) (j : Nat) (h : j < xs.length) : rd xs (j : Int) = xs[j] := by
  unfold rd; rw [Int.toNat_natCast, List.getD_eq_getElem?_getD, List.getElem?_eq_getElem h]; rfl

theorem set_at_end_int (p : List Int) (x y : Int) (r : List Int) : (p ++ x :: r).set p.length y = (p ++ [y]) ++ r := by simp
theorem laws_toIntS_l0 (xs : List Int) (hn : xs.length ≤ 4611686018427387904) : ∀ (d j k : Nat) (r : List Int), j + d = xs.length → d < k → r.length = d →
    laws_toIntS.l0 k xs (xs.take j ++ r) (j : Int) = some xs := by
  intro d
  induction d with
  | zero =>
    intro j k r hj hk hr
    obtain ⟨k, rfl⟩ := succ_of hk
    have : r = [] := List.length_eq_zero_iff.1 hr
    subst this
    simp only [laws_toIntS.l0]
    rw [if_neg (by omega), List.append_nil, List.take_of_length_le (by omega)]
  | succ d ih =>
    intro j k r hj hk hr
    obtain ⟨k, rfl⟩ := succ_of hk
    have hlt : j < xs.length := by omega
    cases r with
    | nil => simp at hr
    | cons y r =>
      simp only [laws_toIntS.l0]
      have hl : (xs.take j).length = j := by rw [List.length_take]; omega
      rw [if_pos (by omega), if_pos (by omega), if_pos (by simp only [List.length_append, List.length_cons, hl] at *; omega), rd_nat _ _ hlt, wrap_succ hlt hn, Int.toNat_natCast]
      have e : (xs.take j ++ y :: r).set j xs[j] = xs.take (j + 1) ++ r := by
        have := set_at_end_int (xs.take j) y xs[j] r
        rw [hl] at this
        rw [this, List.take_succ_eq_append_getElem hlt]
      rw [e]
      exact ih (j + 1) k r (by omega) (by omega) (by simpa using hr)
theorem laws_toIntS_eq (xs : List Int) (hn : xs.length ≤ 35184372088832) (k : Nat) (hk : xs.length < k) : laws_toIntS.f k xs = some xs := by
  unfold laws_toIntS.f
  rw [if_pos (by omega), if_pos (by omega)]
  have := laws_toIntS_l0 xs (by omega) xs.length 0 k (List.replicate xs.length 0) (by omega) hk (by simp)
  simpa using this

theorem laws_toLin_eq (c : Int) (xs : List Int) (hn : xs.length ≤ 35184372088832) (k : Nat) (hk : xs.length < k) : laws_toLin.f k c xs = some (c, xs) := by
  unfold laws_toLin.f; rw [laws_toIntS_eq xs hn k hk]; rfl

instance linDec : DecidableEq S29 := fun a b => decidable_of_iff (a.f0 = b.f0 ∧ a.f1 = b.f1) ⟨fun h => by cases a; cases b; simp only at h; rw [h.1, h.2], fun h => by rw [h]; exact ⟨rfl, rfl⟩⟩
theorem lin_eq_iff (a b : S29) : a = b ↔ a.f0 = b.f0 ∧ a.f1 = b.f1 := ⟨fun h => by rw [h]; exact ⟨rfl, rfl⟩, fun h => by cases a; cases b; simp only at h; rw [h.1, h.2]⟩
theorem rd_lin (xs : List S29) (j : Nat) (h : j < xs.length) : rd_T29 xs (j : Int) = xs[j] := by
  unfold rd_T29; rw [Int.toNat_natCast, List.getD_eq_getElem?_getD, List.getElem?_eq_getElem h]; rfl

/-- A row of the law's own type, as one of the program's. -/
def conv (x : S43) : S29 := ⟨x.f0, x.f1⟩
theorem laws_toLinS_l0 (xs : List S43) (hn : xs.length ≤ 4611686018427387904) (hx : ∀ x ∈ xs, x.f1.length ≤ 1048576) : ∀ (d j k : Nat) (r : List S29), j + d = xs.length → d + 1048577 < k → r.length = d →
    laws_toLinS.l0 k xs ((xs.map conv).take j ++ r) (j : Int) = some (xs.map conv) := by
  intro d
  induction d with
  | zero =>
    intro j k r hj hk hr
    obtain ⟨k, rfl⟩ := succ_of hk
    have : r = [] := List.length_eq_zero_iff.1 hr
    subst this
    simp only [laws_toLinS.l0]
    rw [if_neg (by omega), List.append_nil, List.take_of_length_le (by rw [List.length_map]; omega)]
  | succ d ih =>
    intro j k r hj hk hr
    obtain ⟨k, rfl⟩ := succ_of hk
    have hlt : j < xs.length := by omega
    cases r with
    | nil => simp at hr
    | cons y r =>
      simp only [laws_toLinS.l0]
      have hl : ((xs.map conv).take j).length = j := by rw [List.length_take, List.length_map]; omega
      have hxj := hx _ (List.getElem_mem hlt)
      rw [if_pos (by omega), if_pos (by omega), rd_llin _ _ hlt, laws_toLin_eq _ _ (by omega) k (by omega), Option.bind_some, if_pos (by simp only [List.length_append, List.length_cons, hl] at *; omega), wrap_succ hlt hn, Int.toNat_natCast]
      have e : ((xs.map conv).take j ++ y :: r).set j (⟨xs[j].f0, xs[j].f1⟩ : S29) = (xs.map conv).take (j + 1) ++ r := by
        have h1 : ((xs.map conv).take j ++ y :: r).set ((xs.map conv).take j).length (conv xs[j]) = ((xs.map conv).take j ++ [conv xs[j]]) ++ r := by simp
        rw [hl] at h1
        rw [show (⟨xs[j].f0, xs[j].f1⟩ : S29) = conv xs[j] from rfl, h1, List.take_succ_eq_append_getElem (by rw [List.length_map]; omega), List.getElem_map]
      rw [e]
      exact ih (j + 1) k r (by omega) (by omega) (by simpa using hr)
theorem laws_toLinS_eq (xs : List S43) (hn : xs.length ≤ 1048576) (hx : ∀ x ∈ xs, x.f1.length ≤ 1048576) (k : Nat) (hk : 2097154 < k) : laws_toLinS.f k xs = some (xs.map conv) := by
  unfold laws_toLinS.f
  rw [if_pos (by omega), if_pos (by omega)]
  have := laws_toLinS_l0 xs (by omega) hx xs.length 0 k (List.replicate xs.length z29) (by omega) (by omega) (by simp)
  simpa using this

theorem laws_toSystem_eq (n : Int) (xs : List S43) (hn : xs.length ≤ 1048576) (hx : ∀ x ∈ xs, x.f1.length ≤ 1048576) (k : Nat) (hk : 2097154 < k) : laws_toSystem.f k n xs = some (n, xs.map conv) := by
  unfold laws_toSystem.f; rw [laws_toLinS_eq xs hn hx k hk]; rfl
theorem conv_len {xs : List S43} {B : Nat} (hx : ∀ x ∈ xs, x.f1.length ≤ B) : ∀ x ∈ xs.map conv, x.f1.length ≤ B := by
  intro x h
  obtain ⟨y, hy, rfl⟩ := List.mem_map.1 h
  exact hx y hy

theorem laws_eqIntS_l0 (a b : List Int) (hab : a.length = b.length) (hn : a.length ≤ 4611686018427387904) : ∀ (d j k : Nat), j + d = a.length → d < k →
    laws_eqIntS.l0 k a b (j : Int) = some (decide (a.drop j = b.drop j)) := by
  intro d
  induction d with
  | zero =>
    intro j k hj hk
    obtain ⟨k, rfl⟩ := succ_of hk
    simp only [laws_eqIntS.l0]
    rw [if_neg (by omega), List.drop_eq_nil_of_le (by omega), List.drop_eq_nil_of_le (by omega)]; simp
  | succ d ih =>
    intro j k hj hk
    obtain ⟨k, rfl⟩ := succ_of hk
    have hlt : j < a.length := by omega
    simp only [laws_eqIntS.l0]
    rw [if_pos (by omega), if_pos (by omega), if_pos (by omega), rd_nat _ _ hlt, rd_nat _ _ (by omega), wrap_succ hlt hn, ih (j + 1) k (by omega) (by omega), List.drop_eq_getElem_cons hlt, List.drop_eq_getElem_cons (hab ▸ hlt : j < b.length)]
    simp only [List.cons.injEq]
    by_cases h : a[j] = b[j]
    · rw [if_pos h]; simp only [h, true_and]
    · rw [if_neg h]; simp only [h, false_and, decide_false]
theorem laws_eqIntS_eq (a b : List Int) (hn : a.length ≤ 4611686018427387904) (k : Nat) (hk : a.length < k) : laws_eqIntS.f k a b = some (decide (a = b)) := by
  unfold laws_eqIntS.f
  by_cases h : a.length = b.length
  · rw [if_pos (by omega)]
    have := laws_eqIntS_l0 a b h hn a.length 0 k (by omega) hk
    simpa using this
  · rw [if_neg (by omega)]; congr 1; symm; rw [decide_eq_false_iff_not]; intro e; exact h (by rw [e])

theorem laws_eqLin_eq (c : Int) (a : List Int) (c' : Int) (b : List Int) (hn : a.length ≤ 4611686018427387904) (k : Nat) (hk : a.length < k) : laws_eqLin.f k c a c' b = some (decide (c = c' ∧ a = b)) := by
  unfold laws_eqLin.f
  rw [laws_eqIntS_eq a b hn k hk]
  by_cases h : c = c' <;> by_cases h2 : a = b <;> simp [h, h2]

theorem laws_eqLinS_l0 (a b : List S29) (hab : a.length = b.length) (hn : a.length ≤ 4611686018427387904) (hx : ∀ x ∈ a, x.f1.length ≤ 1048576) : ∀ (d j k : Nat), j + d = a.length → d + 1048577 < k →
    laws_eqLinS.l0 k a b (j : Int) = some (decide (a.drop j = b.drop j)) := by
  intro d
  induction d with
  | zero =>
    intro j k hj hk
    obtain ⟨k, rfl⟩ := succ_of hk
    simp only [laws_eqLinS.l0]
    rw [if_neg (by omega), List.drop_eq_nil_of_le (by omega), List.drop_eq_nil_of_le (by omega)]; simp
  | succ d ih =>
    intro j k hj hk
    obtain ⟨k, rfl⟩ := succ_of hk
    have hlt : j < a.length := by omega
    have hxj := hx _ (List.getElem_mem hlt)
    simp only [laws_eqLinS.l0]
    rw [if_pos (by omega), if_pos (by omega), if_pos (by omega), rd_lin _ _ hlt, rd_lin _ _ (by omega), laws_eqLin_eq _ _ _ _ (by omega) k (by omega), Option.bind_some, wrap_succ hlt hn, ih (j + 1) k (by omega) (by omega), List.drop_eq_getElem_cons hlt, List.drop_eq_getElem_cons (hab ▸ hlt : j < b.length)]
    simp only [List.cons.injEq, lin_eq_iff, decide_eq_true_eq]
    by_cases h : a[j].f0 = b[j].f0 ∧ a[j].f1 = b[j].f1
    · rw [if_pos h]; simp only [h, true_and, and_self]
    · rw [if_neg h]; simp only [h, false_and, decide_false]
theorem laws_eqLinS_eq (a b : List S29) (hn : a.length ≤ 1048576) (hx : ∀ x ∈ a, x.f1.length ≤ 1048576) (k : Nat) (hk : 2097154 < k) : laws_eqLinS.f k a b = some (decide (a = b)) := by
  unfold laws_eqLinS.f
  by_cases h : a.length = b.length
  · rw [if_pos (by omega)]
    have := laws_eqLinS_l0 a b h (by omega) hx a.length 0 k (by omega) (by omega)
    simpa using this
  · rw [if_neg (by omega)]; congr 1; symm; rw [decide_eq_false_iff_not]; intro e; exact h (by rw [e])

theorem laws_eqSystem_eq (n : Int) (a : List S29) (m : Int) (b : List S29) (hn : a.length ≤ 1048576) (hx : ∀ x ∈ a, x.f1.length ≤ 1048576) (k : Nat) (hk : 2097154 < k) : laws_eqSystem.f k n a m b = some (decide (n = m ∧ a = b)) := by
  unfold laws_eqSystem.f
  rw [laws_eqLinS_eq a b hn hx k hk]
  by_cases h : n = m <;> by_cases h2 : a = b <;> simp [h, h2]

/-- d numbers from m on. -/
def iota (m : Int) : Nat → List Int
  | 0 => []
  | d + 1 => m :: iota (m + 1) d
theorem iota_length : ∀ (d : Nat) (m : Int), (iota m d).length = d := by
  intro d; induction d with
  | zero => intro m; rfl
  | succ d ih => intro m; simp [iota, ih]
theorem iota_get : ∀ (d j : Nat) (m : Int) (h : j < (iota m d).length), (iota m d)[j] = m + j := by
  intro d; induction d with
  | zero => intro j m h; simp [iota] at h
  | succ d ih =>
    intro j m h
    cases j with
    | zero => simp [iota]
    | succ j => simp only [iota, List.getElem_cons_succ]; rw [ih]; omega

theorem laws_markIntS_l0 : ∀ (d : Nat) (p xs : List Int) (m : Int) (k : Nat), xs.length = d → d < k → 0 ≤ m → m + d ≤ 4611686018427387904 → p.length + d ≤ 4611686018427387904 →
    laws_markIntS.l0 k (p ++ xs) m (p.length : Int) = some (m + d, p ++ iota m d) := by
  intro d
  induction d with
  | zero =>
    intro p xs m k hx hk h0 hm hp
    obtain ⟨k, rfl⟩ := succ_of hk
    have : xs = [] := List.length_eq_zero_iff.1 hx
    subst this
    simp only [laws_markIntS.l0]
    rw [if_neg (by simp)]; simp [iota]
  | succ d ih =>
    intro p xs m k hx hk h0 hm hp
    obtain ⟨k, rfl⟩ := succ_of hk
    cases xs with
    | nil => simp at hx
    | cons x xs =>
      simp only [laws_markIntS.l0]
      rw [if_pos (by simp only [List.length_append, List.length_cons]; omega), if_pos (by omega), wrap_id (by omega) (by omega), wrap_id (by omega) (by omega), Int.toNat_natCast]
      have e : (p ++ x :: xs).set p.length m = (p ++ [m]) ++ xs := by simp
      have := ih (p ++ [m]) xs (m + 1) k (by simpa using hx) (by omega) (by omega) (by omega) (by simp; omega)
      rw [e, show ((p.length : Int) + 1) = ((p ++ [m]).length : Int) by simp, this]
      simp [iota]; omega
theorem laws_markIntS_eq (xs : List Int) (m : Int) (k : Nat) (hk : xs.length < k) (h0 : 0 ≤ m) (hm : m + xs.length ≤ 4611686018427387904) :
    laws_markIntS.f k xs m = some (m + xs.length, iota m xs.length) := by
  unfold laws_markIntS.f
  have := laws_markIntS_l0 xs.length [] xs m k rfl hk h0 hm (by simp; omega)
  simpa using this

theorem laws_markLin_eq (c : Int) (xs : List Int) (m : Int) (k : Nat) (hk : xs.length < k) (h0 : 0 ≤ m) (hm : m + xs.length ≤ 4611686018427387904) :
    laws_markLin.f k c xs m = some (m + xs.length, iota m xs.length) := by
  unfold laws_markLin.f; rw [laws_markIntS_eq xs m k hk h0 hm]; rfl

/-- How many numbers stand in rows; rows with marks from m on. -/
def rowsLen : List S29 → Nat
  | [] => 0
  | x :: xs => 1 + x.f1.length + rowsLen xs
def markRows : Int → List S29 → List S29
  | _, [] => []
  | m, x :: xs => ⟨m, iota (m + 1) x.f1.length⟩ :: markRows (m + 1 + x.f1.length) xs
theorem rowsLen_le : ∀ xs : List S29, (∀ x ∈ xs, x.f1.length ≤ 1048576) → rowsLen xs ≤ xs.length * 1048577 := by
  intro xs
  induction xs with
  | nil => intro _; exact Nat.le_refl _
  | cons x xs ih =>
    intro h
    have h1 := h x (by simp)
    have h2 := ih (fun y hy => h y (by simp [hy]))
    simp only [rowsLen, List.length_cons, Nat.succ_mul]; omega
theorem markRows_length : ∀ (xs : List S29) (m : Int), (markRows m xs).length = xs.length := by
  intro xs
  induction xs with
  | nil => intro m; rfl
  | cons x xs ih => intro m; simp [markRows, ih]

theorem laws_markLinS_l0 : ∀ (d : Nat) (p xs : List S29) (m : Int) (k : Nat), xs.length = d → d + 1048577 < k → (∀ x ∈ xs, x.f1.length ≤ 1048576) → 0 ≤ m → m + rowsLen xs ≤ 4611686018427387904 → p.length + d ≤ 4611686018427387904 →
    laws_markLinS.l0 k (p ++ xs) m (p.length : Int) = some (m + rowsLen xs, p ++ markRows m xs) := by
  intro d
  induction d with
  | zero =>
    intro p xs m k hx hk hl h0 hm hp
    obtain ⟨k, rfl⟩ := succ_of hk
    have : xs = [] := List.length_eq_zero_iff.1 hx
    subst this
    simp only [laws_markLinS.l0]
    rw [if_neg (by simp)]; simp [markRows, rowsLen]
  | succ d ih =>
    intro p xs m k hx hk hl h0 hm hp
    obtain ⟨k, rfl⟩ := succ_of hk
    cases xs with
    | nil => simp at hx
    | cons x xs =>
      have hx1 := hl x (by simp)
      simp only [rowsLen] at hm
      simp only [laws_markLinS.l0]
      rw [if_pos (by simp only [List.length_append, List.length_cons]; omega), if_pos (by omega), rd_lin _ p.length (by simp), List.getElem_append_right (Nat.le_refl _)]
      simp only [Nat.sub_self, List.getElem_cons_zero]
      rw [wrap_id (n := m + 1) (by omega) (by omega), laws_markIntS_eq x.f1 (m + 1) k (by omega) (by omega) (by omega), Option.bind_some, Int.toNat_natCast, wrap_id (by omega) (by omega)]
      have e : (p ++ x :: xs).set p.length ⟨m, iota (m + 1) x.f1.length⟩ = (p ++ [⟨m, iota (m + 1) x.f1.length⟩]) ++ xs := by simp
      have := ih (p ++ [⟨m, iota (m + 1) x.f1.length⟩]) xs (m + 1 + x.f1.length) k (by simpa using hx) (by omega) (fun y hy => hl y (by simp [hy])) (by omega) (by omega) (by simp; omega)
      simp only [e]
      rw [show ((p.length : Int) + 1) = ((p ++ [(⟨m, iota (m + 1) x.f1.length⟩ : S29)]).length : Int) by simp, this]
      simp [markRows, rowsLen]; omega
theorem laws_markSystem_eq (n : Int) (xs : List S29) (m : Int) (hn : xs.length ≤ 1048577) (hl : ∀ x ∈ xs, x.f1.length ≤ 1048576) (h0 : 0 ≤ m) (hm : m ≤ 1000000000000000) (k : Nat) (hk : 2097160 < k) :
    laws_markSystem.f k n xs m = some (m + rowsLen xs, markRows m xs) := by
  have hle := rowsLen_le xs hl
  unfold laws_markSystem.f laws_markLinS.f
  have := laws_markLinS_l0 xs.length [] xs m k rfl (by omega) hl h0 (by omega) (by simp; omega)
  rw [show (([] : List S29).length : Int) = 0 from rfl, List.nil_append] at this
  rw [this]; rfl

theorem laws_heldIntS_l0 (m : Int) (n : Nat) (h0 : 0 ≤ m) (hm : m + n ≤ 4611686018427387904) : ∀ (d j k : Nat), j + d = n → d < k →
    laws_heldIntS.l0 k (iota m n) (m + j) (j : Int) = some (m + n) := by
  intro d
  induction d with
  | zero =>
    intro j k hj hk
    obtain ⟨k, rfl⟩ := succ_of hk
    simp only [laws_heldIntS.l0]
    rw [if_neg (by rw [iota_length]; omega)]; congr 1; omega
  | succ d ih =>
    intro j k hj hk
    obtain ⟨k, rfl⟩ := succ_of hk
    simp only [laws_heldIntS.l0]
    rw [if_pos (by rw [iota_length]; omega), if_pos (by omega), rd_nat _ _ (by rw [iota_length]; omega), iota_get, if_pos rfl, wrap_id (by omega) (by omega), wrap_id (by omega) (by omega)]
    have := ih (j + 1) k (by omega) (by omega)
    rw [← this]; congr 1 <;> omega
theorem laws_heldIntS_eq (m : Int) (n : Nat) (k : Nat) (hk : n < k) (h0 : 0 ≤ m) (hm : m + n ≤ 4611686018427387904) : laws_heldIntS.f k (iota m n) m = some (m + n) := by
  unfold laws_heldIntS.f
  have := laws_heldIntS_l0 m n h0 hm n 0 k (by omega) hk
  simpa using this

theorem laws_heldLinS_l0 : ∀ (d : Nat) (p xs : List S29) (m : Int) (k : Nat), xs.length = d → d + 1048577 < k → (∀ x ∈ xs, x.f1.length ≤ 1048576) → 0 ≤ m → m + rowsLen xs ≤ 4611686018427387904 → p.length + d ≤ 4611686018427387904 →
    laws_heldLinS.l0 k (p ++ markRows m xs) m (p.length : Int) = some (m + rowsLen xs) := by
  intro d
  induction d with
  | zero =>
    intro p xs m k hx hk hl h0 hm hp
    obtain ⟨k, rfl⟩ := succ_of hk
    have : xs = [] := List.length_eq_zero_iff.1 hx
    subst this
    simp only [laws_heldLinS.l0]
    rw [if_neg (by simp [markRows])]; simp [rowsLen]
  | succ d ih =>
    intro p xs m k hx hk hl h0 hm hp
    obtain ⟨k, rfl⟩ := succ_of hk
    cases xs with
    | nil => simp at hx
    | cons x xs =>
      have hx1 := hl x (by simp)
      simp only [rowsLen] at hm
      have hlt : (p.length : Int) < ((p ++ markRows m (x :: xs)).length : Int) := by simp [markRows]; omega
      rw [laws_heldLinS.l0, if_pos hlt, if_pos (by omega), rd_lin _ p.length (by simp [markRows]), List.getElem_append_right (Nat.le_refl _)]
      simp only [Nat.sub_self, markRows, List.getElem_cons_zero]
      rw [if_pos trivial, wrap_id (n := m + 1) (by omega) (by omega), laws_heldIntS_eq (m + 1) x.f1.length k (by omega) (by omega) (by omega), Option.bind_some, if_neg (by omega), wrap_id (by omega) (by omega)]
      have := ih (p ++ [⟨m, iota (m + 1) x.f1.length⟩]) xs (m + 1 + x.f1.length) k (by simpa using hx) (by omega) (fun y hy => hl y (by simp [hy])) (by omega) (by omega) (by simp; omega)
      rw [show ((p.length : Int) + 1) = ((p ++ [(⟨m, iota (m + 1) x.f1.length⟩ : S29)]).length : Int) by simp]
      rw [List.append_assoc] at this
      rw [show p ++ (⟨m, iota (m + 1) x.f1.length⟩ : S29) :: markRows (m + 1 + x.f1.length) xs = p ++ ([⟨m, iota (m + 1) x.f1.length⟩] ++ markRows (m + 1 + x.f1.length) xs) from rfl, this]
      simp only [rowsLen]; congr 1; omega
theorem laws_heldSystem_eq (n : Int) (xs : List S29) (m : Int) (hn : xs.length ≤ 1048577) (hl : ∀ x ∈ xs, x.f1.length ≤ 1048576) (h0 : 0 ≤ m) (hm : m ≤ 1000000000000000) (k : Nat) (hk : 2097160 < k) :
    laws_heldSystem.f k n (markRows m xs) m = some (m + rowsLen xs) := by
  have hle := rowsLen_le xs hl
  unfold laws_heldSystem.f laws_heldLinS.f
  have := laws_heldLinS_l0 xs.length [] xs m k rfl (by omega) hl h0 (by omega) (by simp; omega)
  rw [show (([] : List S29).length : Int) = 0 from rfl, List.nil_append] at this
  rw [this]; simp only [Option.bind_some]; rw [if_neg (by omega)]

/-- From -MaxCoeff to MaxCoeff. -/
def okc (n : Int) : Bool := decide (-1000000000 ≤ n ∧ n ≤ 1000000000)
theorem okc_iff (n : Int) : okc n = true ↔ -1000000000 ≤ n ∧ n ≤ 1000000000 := by unfold okc; exact decide_eq_true_iff
theorem okc_false (n : Int) : okc n = false ↔ ¬ (-1000000000 ≤ n ∧ n ≤ 1000000000) := by unfold okc; exact decide_eq_false_iff_not

/-- IsValidLin. -/
def validLin (c : Int) (cs : List Int) (n : Int) : Bool := decide (0 ≤ n ∧ n ≤ 8) && (decide ((cs.length : Int) = n) && (okc c && cs.all okc))
theorem validLin_iff (c : Int) (cs : List Int) (n : Int) : validLin c cs n = true ↔ (0 ≤ n ∧ n ≤ 8) ∧ (cs.length : Int) = n ∧ okc c = true ∧ ∀ x ∈ cs, okc x = true := by
  unfold validLin; simp only [Bool.and_eq_true, decide_eq_true_eq, List.all_eq_true]
theorem any_not_all {α : Type} (p : α → Bool) (xs : List α) : (!(xs.any fun c => !(p c))) = xs.all p := by
  induction xs with
  | nil => rfl
  | cons x xs ih => simp only [List.any_cons, List.all_cons, Bool.not_or, Bool.not_not, ih]

/-- IsValidSystem. -/
def validSys (n : Int) (rows : List S29) : Bool := decide (0 ≤ n ∧ n ≤ 8) && (decide (rows.length ≤ 20) && rows.all fun r => validLin r.f0 r.f1 n)
theorem validSys_iff (n : Int) (rows : List S29) : validSys n rows = true ↔ (0 ≤ n ∧ n ≤ 8) ∧ rows.length ≤ 20 ∧ ∀ r ∈ rows, validLin r.f0 r.f1 n = true := by
  unfold validSys; simp only [Bool.and_eq_true, decide_eq_true_eq, List.all_eq_true]

/-- AddRow. -/
def addRow (n : Int) (rows : List S29) (c : Int) (cs : List Int) : Int × List S29 × Bool := if validSys n rows = true ∧ validSys n (rows ++ [⟨c, cs⟩]) = true then (n, rows ++ [⟨c, cs⟩], true) else (n, rows, false)
theorem more_rows {rows : List S29} {c : Int} {cs : List Int} (hx : ∀ x ∈ rows, x.f1.length ≤ 1048576) (hc : cs.length ≤ 1048576) : ∀ x ∈ rows ++ [⟨c, cs⟩], x.f1.length ≤ 1048576 := by
  intro x h
  rcases List.mem_append.1 h with h | h
  · exact hx x h
  · rw [List.mem_singleton.1 h]; exact hc

theorem spec_l4Copy_eq (c : Int) (xs : List Int) (hn : xs.length ≤ 10000000000000) : spec_l4Copy.f c xs = some (c, xs) := by
  unfold spec_l4Copy.f
  simp only [Option.bind_some, List.length_nil, List.nil_append]
  rw [if_pos (by omega)]

theorem spec_l6Copy_l0 (n m : Int) (rows : List S29) (hn : rows.length ≤ 1048576) (hx : ∀ x ∈ rows, x.f1.length ≤ 1048576) : ∀ (d j k : Nat) (acc : List S29), j + d = rows.length → d < k → acc.length = j →
    spec_l6Copy.l0 k (j : Int) n rows m acc = some (m, acc ++ rows.drop j) := by
  intro d
  induction d with
  | zero =>
    intro j k acc hj hk ha
    obtain ⟨k, rfl⟩ := succ_of hk
    simp only [spec_l6Copy.l0]
    rw [if_neg (by omega), List.drop_eq_nil_of_le (by omega), List.append_nil]
  | succ d ih =>
    intro j k acc hj hk ha
    obtain ⟨k, rfl⟩ := succ_of hk
    have hlt : j < rows.length := by omega
    have hxj := hx _ (List.getElem_mem hlt)
    simp only [spec_l6Copy.l0]
    rw [if_pos (by omega), if_pos (by omega), rd_lin _ _ hlt, spec_l4Copy_eq _ _ (by omega), Option.bind_some, if_pos (by omega), wrap_succ (n := rows.length) hlt (by omega), ih (j + 1) k _ (by omega) (by omega) (by simp; omega), List.drop_eq_getElem_cons hlt, List.append_assoc]
    rfl
theorem spec_l6Copy_eq (n : Int) (rows : List S29) (hn : rows.length ≤ 1048576) (hx : ∀ x ∈ rows, x.f1.length ≤ 1048576) (k : Nat) (hk : 1048577 < k) : spec_l6Copy.f k n rows = some (n, rows) := by
  unfold spec_l6Copy.f
  have := spec_l6Copy_l0 n n rows hn hx rows.length 0 k [] (by omega) (by omega) rfl
  simpa using this

theorem spec_l1In_eq (a b c : Int) : spec_l1In.f a b c = some (decide (b ≤ a ∧ a ≤ c)) := by
  unfold spec_l1In.f
  by_cases h : a ≥ b
  · rw [if_pos h]; congr 1; rw [decide_eq_decide]; omega
  · rw [if_neg h]; congr 1; symm; rw [decide_eq_false_iff_not]; omega

theorem spec_l3In_eq (n : Int) : spec_l3In.f n = some (okc n) := by unfold spec_l3In.f; rw [spec_l1In_eq]; rfl

theorem spec_IsValidLin_l0 (c : Int) (cs : List Int) (n : Int) (hn : cs.length ≤ 4611686018427387904) : ∀ (d j k : Nat), j + d = cs.length → d < k →
    spec_IsValidLin.l0 k n (j : Int) c cs = some ((cs.drop j).all okc && (decide (0 ≤ n ∧ n ≤ 8) && (decide ((cs.length : Int) = n) && okc c))) := by
  intro d
  induction d with
  | zero =>
    intro j k hj hk
    obtain ⟨k, rfl⟩ := succ_of hk
    simp only [spec_IsValidLin.l0]
    rw [if_neg (by omega), List.drop_eq_nil_of_le (by omega), spec_l1In_eq, spec_l3In_eq]
    simp only [Option.bind_some, List.all_nil, Bool.true_and]
    by_cases h1 : 0 ≤ n ∧ n ≤ 8 <;> by_cases h2 : (cs.length : Int) = n <;> simp [h1, h2]
  | succ d ih =>
    intro j k hj hk
    obtain ⟨k, rfl⟩ := succ_of hk
    have hlt : j < cs.length := by omega
    simp only [spec_IsValidLin.l0]
    rw [if_pos (by omega), if_pos (by omega), rd_nat _ _ hlt, spec_l3In_eq, Option.bind_some, wrap_succ hlt hn, ih (j + 1) k (by omega) (by omega), List.drop_eq_getElem_cons hlt, List.all_cons]
    cases okc cs[j] <;> simp
theorem spec_IsValidLin_eq (c : Int) (cs : List Int) (n : Int) (hn : cs.length ≤ 4611686018427387904) (k : Nat) (hk : cs.length < k) : spec_IsValidLin.f k c cs n = some (validLin c cs n) := by
  unfold spec_IsValidLin.f validLin
  have := spec_IsValidLin_l0 c cs n hn cs.length 0 k (by omega) hk
  rw [show ((0 : Nat) : Int) = 0 from rfl, List.drop_zero] at this
  rw [this]
  cases cs.all okc <;> simp

theorem spec_IsValidSystem_l0 (n : Int) (rows : List S29) (hn : rows.length ≤ 4611686018427387904) (hx : ∀ x ∈ rows, x.f1.length ≤ 1048576) : ∀ (d j k : Nat), j + d = rows.length → d + 1048577 < k →
    spec_IsValidSystem.l0 k (j : Int) n rows = some ((rows.drop j).all (fun r => validLin r.f0 r.f1 n) && (decide (0 ≤ n ∧ n ≤ 8) && decide (rows.length ≤ 20))) := by
  intro d
  induction d with
  | zero =>
    intro j k hj hk
    obtain ⟨k, rfl⟩ := succ_of hk
    simp only [spec_IsValidSystem.l0]
    rw [if_neg (by omega), List.drop_eq_nil_of_le (by omega), spec_l1In_eq]
    simp only [Option.bind_some, List.all_nil, Bool.true_and]
    have e : decide ((rows.length : Int) ≤ 20) = decide (rows.length ≤ 20) := by rw [decide_eq_decide]; omega
    rw [e]
    by_cases h1 : 0 ≤ n ∧ n ≤ 8 <;> simp [h1]
  | succ d ih =>
    intro j k hj hk
    obtain ⟨k, rfl⟩ := succ_of hk
    have hlt : j < rows.length := by omega
    have hxj := hx _ (List.getElem_mem hlt)
    simp only [spec_IsValidSystem.l0]
    rw [if_pos (by omega), if_pos (by omega), rd_lin _ _ hlt, spec_IsValidLin_eq _ _ _ (by omega) k (by omega), Option.bind_some, wrap_succ hlt hn, ih (j + 1) k (by omega) (by omega), List.drop_eq_getElem_cons hlt, List.all_cons]
    cases validLin rows[j].f0 rows[j].f1 n <;> simp
theorem spec_IsValidSystem_eq (n : Int) (rows : List S29) (hn : rows.length ≤ 1048577) (hx : ∀ x ∈ rows, x.f1.length ≤ 1048576) (k : Nat) (hk : 2097155 < k) : spec_IsValidSystem.f k n rows = some (validSys n rows) := by
  unfold spec_IsValidSystem.f validSys
  have := spec_IsValidSystem_l0 n rows (by omega) hx rows.length 0 k (by omega) (by omega)
  rw [show ((0 : Nat) : Int) = 0 from rfl, List.drop_zero] at this
  rw [this]
  cases rows.all fun r => validLin r.f0 r.f1 n <;> simp

theorem spec_AddRow_eq (n : Int) (rows : List S29) (c : Int) (cs : List Int) (hn : rows.length ≤ 1048576) (hx : ∀ x ∈ rows, x.f1.length ≤ 1048576) (hc : cs.length ≤ 1048576) (k : Nat) (hk : 2097160 < k) : spec_AddRow.f k n rows c cs = some (addRow n rows c cs) := by
  unfold spec_AddRow.f addRow
  rw [spec_l6Copy_eq n rows hn hx k (by omega), spec_l4Copy_eq c cs (by omega)]; simp only [Option.bind_some]
  rw [if_pos (by omega), spec_IsValidSystem_eq n rows (by omega) hx k (by omega), spec_IsValidSystem_eq n _ (by simp; omega) (more_rows hx hc) k (by omega)]; simp only [Option.bind_some]
  cases validSys n rows <;> cases validSys n (rows ++ [⟨c, cs⟩]) <;> simp

theorem slices_Clone_eq (xs : List Int) (hn : xs.length ≤ 10000000000000) : slices_Clone_int_int.f xs = some xs := by
  unfold slices_Clone_int_int.f
  simp only [Option.bind_some, List.length_nil, List.nil_append]
  rw [if_pos (by omega)]
theorem impl_copyLin_eq (c : Int) (xs : List Int) (hn : xs.length ≤ 10000000000000) : impl_copyLin.f c xs = some (c, xs) := by
  unfold impl_copyLin.f; rw [slices_Clone_eq xs hn]; rfl

theorem impl_copyLins_l0 (rows : List S29) (hn : rows.length ≤ 1048576) (hx : ∀ x ∈ rows, x.f1.length ≤ 1048576) : ∀ (d j k : Nat) (acc : List S29), j + d = rows.length → d < k → acc.length = j →
    impl_copyLins.l0 k acc rows (rows.length : Int) (j : Int) = some (acc ++ rows.drop j) := by
  intro d
  induction d with
  | zero =>
    intro j k acc hj hk ha
    obtain ⟨k, rfl⟩ := succ_of hk
    simp only [impl_copyLins.l0]
    rw [if_neg (by omega), List.drop_eq_nil_of_le (by omega), List.append_nil]
  | succ d ih =>
    intro j k acc hj hk ha
    obtain ⟨k, rfl⟩ := succ_of hk
    have hlt : j < rows.length := by omega
    have hxj := hx _ (List.getElem_mem hlt)
    simp only [impl_copyLins.l0]
    rw [if_pos (by omega), if_pos (by omega), if_pos (by omega), rd_lin _ _ hlt, impl_copyLin_eq _ _ (by omega), Option.bind_some, if_pos (by omega), wrap_succ (n := rows.length) hlt (by omega), ih (j + 1) k _ (by omega) (by omega) (by simp; omega), List.drop_eq_getElem_cons hlt, List.append_assoc]
    rfl
theorem impl_copySystem_eq (n : Int) (rows : List S29) (hn : rows.length ≤ 1048576) (hx : ∀ x ∈ rows, x.f1.length ≤ 1048576) (k : Nat) (hk : 1048577 < k) : impl_copySystem.f k n rows = some (n, rows) := by
  unfold impl_copySystem.f impl_copyLins.f
  have := impl_copyLins_l0 rows hn hx rows.length 0 k [] (by omega) (by omega) rfl
  rw [show ((0 : Nat) : Int) = 0 from rfl, List.drop_zero, List.nil_append] at this
  rw [this]; rfl

/-- The place of the first that p takes, counted from i on; -1 where there is none. -/
def firstBy {α : Type} (p : α → Bool) : List α → Int → Int
  | [], _ => -1
  | x :: xs, i => if p x = true then i else firstBy p xs (i + 1)
theorem firstBy_any {α : Type} (p : α → Bool) : ∀ (xs : List α) (i : Int), 0 ≤ i → decide (firstBy p xs i ≥ 0) = xs.any p := by
  intro xs
  induction xs with
  | nil => intro i _; simp [firstBy]
  | cons x xs ih =>
    intro i hi
    simp only [firstBy, List.any_cons]
    by_cases h : p x = true
    · simp [h]; omega
    · have := ih (i + 1) (by omega)
      simp only [Bool.eq_false_iff.mpr h, Bool.false_eq_true, if_false, Bool.false_or]; exact this

theorem impl_within_eq (a b c : Int) : impl_within.f a b c = some (decide (b ≤ a ∧ a ≤ c)) := by
  unfold impl_within.f
  by_cases h : a ≥ b
  · rw [if_pos h]; congr 1; rw [decide_eq_decide]; omega
  · rw [if_neg h]; congr 1; symm; rw [decide_eq_false_iff_not]; omega

theorem impl_coeffOk_eq (n : Int) : impl_coeffOk.f n = some (okc n) := by unfold impl_coeffOk.f; rw [impl_within_eq]; rfl

theorem slices_IndexFunc_int_int__IsValidLin_1_l0 (p : Int → Bool) (hp : ∀ c, impl_IsValidLin_1.f c = some (p c)) (xs : List Int) (hn : xs.length ≤ 4611686018427387904) : ∀ (d j k : Nat), j + d = xs.length → d < k →
    slices_IndexFunc_int_int__IsValidLin_1.l0 k xs (xs.length : Int) (j : Int) = some (firstBy p (xs.drop j) (j : Int)) := by
  intro d
  induction d with
  | zero =>
    intro j k hj hk
    obtain ⟨k, rfl⟩ := succ_of hk
    simp only [slices_IndexFunc_int_int__IsValidLin_1.l0]
    rw [if_neg (by omega), List.drop_eq_nil_of_le (by omega)]; rfl
  | succ d ih =>
    intro j k hj hk
    obtain ⟨k, rfl⟩ := succ_of hk
    have hlt : j < xs.length := by omega
    simp only [slices_IndexFunc_int_int__IsValidLin_1.l0]
    rw [if_pos (by omega), if_pos (by omega), if_pos (by omega), rd_nat _ _ hlt, hp, Option.bind_some, wrap_succ hlt hn, ih (j + 1) k (by omega) (by omega), List.drop_eq_getElem_cons hlt]
    simp only [firstBy]
    split <;> rfl
theorem slices_ContainsFunc_int_int__IsValidLin_1_eq (p : Int → Bool) (hp : ∀ c, impl_IsValidLin_1.f c = some (p c)) (xs : List Int) (hn : xs.length ≤ 4611686018427387904) (k : Nat) (hk : xs.length < k) :
    slices_ContainsFunc_int_int__IsValidLin_1.f k xs () = some (xs.any p) := by
  unfold slices_ContainsFunc_int_int__IsValidLin_1.f slices_IndexFunc_int_int__IsValidLin_1.f
  have := slices_IndexFunc_int_int__IsValidLin_1_l0 p hp xs hn xs.length 0 k (by omega) hk
  rw [show ((0 : Nat) : Int) = 0 from rfl, List.drop_zero] at this
  rw [this, Option.bind_some, firstBy_any p xs 0 (by omega)]
theorem impl_IsValidLin_eq (c : Int) (cs : List Int) (n : Int) (hn : cs.length ≤ 4611686018427387904) (k : Nat) (hk : cs.length < k) : impl_IsValidLin.f k c cs n = some (validLin c cs n) := by
  unfold impl_IsValidLin.f validLin
  rw [impl_within_eq, impl_coeffOk_eq, slices_ContainsFunc_int_int__IsValidLin_1_eq (fun c => !(okc c)) (fun c => by unfold impl_IsValidLin_1.f; rw [impl_coeffOk_eq]; rfl) cs hn k hk]
  simp only [Option.bind_some, any_not_all]
  by_cases h1 : 0 ≤ n ∧ n ≤ 8 <;> by_cases h2 : (cs.length : Int) = n <;> cases h3 : okc c <;> simp [h1, h2]

theorem impl_IsValidSystem_l0 (n : Int) (rows : List S29) (hn : rows.length ≤ 4611686018427387904) (hx : ∀ x ∈ rows, x.f1.length ≤ 1048576) : ∀ (d j k : Nat), j + d = rows.length → d + 1048577 < k →
    impl_IsValidSystem.l0 k rows (rows.length : Int) (j : Int) n rows = some ((rows.drop j).all (fun r => validLin r.f0 r.f1 n)) := by
  intro d
  induction d with
  | zero =>
    intro j k hj hk
    obtain ⟨k, rfl⟩ := succ_of hk
    simp only [impl_IsValidSystem.l0]
    rw [if_neg (by omega), List.drop_eq_nil_of_le (by omega)]; rfl
  | succ d ih =>
    intro j k hj hk
    obtain ⟨k, rfl⟩ := succ_of hk
    have hlt : j < rows.length := by omega
    have hxj := hx _ (List.getElem_mem hlt)
    simp only [impl_IsValidSystem.l0]
    rw [if_pos (by omega), if_pos (by omega), if_pos (by omega), rd_lin _ _ hlt, impl_IsValidLin_eq _ _ _ (by omega) k (by omega), Option.bind_some, wrap_succ hlt hn, ih (j + 1) k (by omega) (by omega), List.drop_eq_getElem_cons hlt, List.all_cons]
    cases validLin rows[j].f0 rows[j].f1 n <;> simp
theorem impl_IsValidSystem_eq (n : Int) (rows : List S29) (hn : rows.length ≤ 1048577) (hx : ∀ x ∈ rows, x.f1.length ≤ 1048576) (k : Nat) (hk : 2097156 < k) : impl_IsValidSystem.f k n rows = some (validSys n rows) := by
  unfold impl_IsValidSystem.f validSys
  rw [impl_within_eq, Option.bind_some]
  obtain ⟨k, rfl⟩ := succ_of hk
  simp only [impl_IsValidSystem.j0]
  have := impl_IsValidSystem_l0 n rows (by omega) hx rows.length 0 k (by omega) (by omega)
  rw [show ((0 : Nat) : Int) = 0 from rfl, List.drop_zero] at this
  rw [this]
  by_cases h1 : 0 ≤ n ∧ n ≤ 8
  · by_cases h2 : rows.length ≤ 20
    · have : ¬ ((rows.length : Int) > 20) := by omega
      simp [h1, h2, this]
    · have : (rows.length : Int) > 20 := by omega
      simp [h1, h2, this]
  · simp [h1]

theorem impl_AddRow_eq (n : Int) (rows : List S29) (c : Int) (cs : List Int) (hn : rows.length ≤ 1048576) (hx : ∀ x ∈ rows, x.f1.length ≤ 1048576) (hc : cs.length ≤ 1048576) (k : Nat) (hk : 2097160 < k) : impl_AddRow.f k n rows c cs = some (addRow n rows c cs) := by
  unfold impl_AddRow.f addRow
  rw [impl_copySystem_eq n rows hn hx k (by omega), impl_copyLin_eq c cs (by omega)]; simp only [Option.bind_some]
  rw [if_pos (by omega), impl_IsValidSystem_eq n rows (by omega) hx k (by omega), impl_IsValidSystem_eq n _ (by simp; omega) (more_rows hx hc) k (by omega)]; simp only [Option.bind_some]
  cases validSys n rows <;> cases validSys n (rows ++ [⟨c, cs⟩]) <;> simp

theorem addRow_len {n : Int} {rows : List S29} {c : Int} {cs : List Int} (hn : rows.length ≤ 1048576) (hx : ∀ x ∈ rows, x.f1.length ≤ 1048576) (hc : cs.length ≤ 1048576) : (addRow n rows c cs).2.1.length ≤ 1048577 ∧ (∀ x ∈ (addRow n rows c cs).2.1, x.f1.length ≤ 1048576) ∧ ((addRow n rows c cs).2.1.length ≤ 1048576) := by
  unfold addRow
  split
  · rename_i h
    have := ((validSys_iff _ _).1 h.2).2.1
    exact ⟨by simp only; omega, more_rows hx hc, by simp only; omega⟩
  · exact ⟨by simp only; omega, hx, hn⟩
theorem FnExactAddRow : laws_FnExactAddRow.Pure := by
  intro n xs c a _ hxs _ ha
  refine ⟨2097170, ?_⟩
  unfold laws_FnExactAddRow.f
  rw [laws_szSystem_eq n xs _ hxs.1 (fun x hx => (hxs.2 x hx).2.1) (by omega) (by omega) _ (by omega), Option.bind_some]
  by_cases z1 : szRows xs 1048576 < 0
  · rw [if_pos z1]
  rw [if_neg z1]
  have h1 := szRows_len (xs := xs) (l := 1048576) (by omega)
  rw [laws_szLin_eq c a _ ha.1 (by omega) (by omega), Option.bind_some]
  by_cases z2 : szI a.length (szRows xs 1048576) < 0
  · rw [if_pos z2]
  rw [if_neg z2]
  have h2 := szI_len (n := a.length) (l := szRows xs 1048576) (by omega)
  have hl : ∀ x ∈ xs, x.f1.length ≤ 1048576 := fun x hx => by have := h1.2.1 x hx; omega
  have hcl := conv_len hl
  have hcn : (xs.map conv).length ≤ 1048576 := by rw [List.length_map]; omega
  have hr := addRow_len (n := n) (c := c) (cs := a) hcn hcl (by omega)
  have e1 := spec_AddRow_eq n _ c a hcn hcl (by omega) 2097170 (by omega)
  have e2 := impl_AddRow_eq n _ c a hcn hcl (by omega) 2097170 (by omega)
  generalize addRow n (xs.map conv) c a = R at hr e1 e2
  obtain ⟨rn, rr, rb⟩ := R
  simp only at hr
  have e3 := laws_toSystem_eq n xs (by omega) hl 2097170 (by omega)
  generalize xs.map conv = ys at hcl hcn e1 e2 e3
  rw [e3]; simp only [Option.bind_some]
  rw [laws_toLin_eq c a (by omega) _ (by omega)]; simp only [Option.bind_some]
  rw [e1, e2]; simp only [Option.bind_some]
  rw [laws_eqSystem_eq _ _ _ _ hr.2.2 hr.2.1 _ (by omega)]; simp only [Option.bind_some, and_self, decide_true, if_true]
  rw [if_neg (by simp)]
  rw [laws_eqSystem_eq _ _ _ _ hcn hcl _ (by omega)]; simp only [Option.bind_some, and_self, decide_true, if_true]
  rw [laws_eqLin_eq c a c a (by omega) _ (by omega)]; simp only [Option.bind_some, and_self, decide_true, if_true]
  have q1 := rowsLen_le _ hcl
  have q2 := rowsLen_le _ hr.2.1
  rw [laws_markSystem_eq _ _ _ (by omega) hcl (by omega) (by omega) _ (by omega)]; simp only [Option.bind_some]
  rw [laws_markLin_eq c a _ _ (by omega) (by omega) (by omega)]; simp only [Option.bind_some]
  rw [if_neg (by omega)]
  rw [laws_markSystem_eq _ _ _ (by omega) hr.2.1 (by omega) (by omega) _ (by omega)]; simp only [Option.bind_some]
  rw [laws_heldSystem_eq _ _ _ (by omega) hr.2.1 (by omega) (by omega) _ (by omega)]; simp only [Option.bind_some]
  rw [if_neg (by omega)]; simp only [if_true]
  rw [if_neg (by simp), if_neg (by omega)]

end Go.Proofs.Ytlencemmlgkflaa.Pure
