/- The program's CombineRows returns what the reference's returns, for all systems and multipliers, leaves them as they were, and shares no memory with them. -/
import Derived.Test.YtlencemmlgkflaaQFnExactCombineRowsx9
namespace Go.Proofs.Ytlencemmlgkflaa.Pure
open Go.RowKit Go.Proofs.YtlencemmlgkflaaV.PrintWords Go.Proofs.YtlencemmlgkflaaV.PrintLast Go.Proofs.YtlencemmlgkflaaV.PrintMore Go.Proofs.Ytlencemmlgkflaa.QFnExactCombineRows
set_option linter.unusedVariables false
set_option linter.unusedSimpArgs false

theorem wrap_id {n : Int} (h0 : -9223372036854775808 ≤ n) (h1 : n ≤ 9223372036854775807) : wrap64 n = n := by
  unfold wrap64; omega
theorem wrap_succ {j n : Nat} (h : j < n) (hn : n ≤ 4611686018427387904) : wrap64 ((j : Int) + 1) = ((j + 1 : Nat) : Int) := by
  unfold wrap64; omega
theorem succ_of {d k : Nat} (h : d < k) : ∃ m, k = m + 1 := ⟨k - 1, by omega⟩
theorem lit_int {n : Int} (h : (Lit.int .i64 n).wf = true) : -9223372036854775808 ≤ n ∧ n ≤ 9223372036854775807 := by
  simpa [Lit.wf, IntKind.min, IntKind.max, IntKind.signed, IntKind.bits] using h

/-- What is left behind a slice's length; -1 where it is not enough. -/
def szI (n : Nat) (left : Int) : Int := if left - (n : Int) < 0 then -1 else left - (n : Int)
theorem laws_szIntS_eq (xs : List Int) (l : Int) (hn : xs.length ≤ 9223372036854775807) (h0 : 0 ≤ l) (h1 : l ≤ 1048576) : laws_szIntS.f xs l = some (szI xs.length l) := by
  unfold laws_szIntS.f szI
  rw [wrap_id (by omega) (by omega)]
  split <;> rfl
theorem szI_len {n : Nat} {l : Int} (h : 0 ≤ szI n l) : (n : Int) ≤ l ∧ szI n l ≤ l := by
  unfold szI at h ⊢; split at h
  · omega
  · rename_i h0; rw [if_neg h0]; omega
theorem szI_range {n : Nat} {l : Int} (h0 : 0 ≤ l) (h1 : l ≤ 1048576) : szI n l < 0 ∨ (0 ≤ szI n l ∧ szI n l ≤ 1048576) := by
  unfold szI; split <;> omega

theorem laws_szLin_eq (c : Int) (xs : List Int) (l : Int) (hn : xs.length ≤ 9223372036854775807) (h0 : 0 ≤ l) (h1 : l ≤ 1048576) : laws_szLin.f c xs l = some (szI xs.length l) := by
  unfold laws_szLin.f; rw [laws_szIntS_eq xs l hn h0 h1, Option.bind_some]
  unfold szI; split <;> simp_all

theorem rd_llin (xs : List S43) (j : Nat) (h : j < xs.length) : rd_T43 xs (j : Int) = xs[j] := by
  unfold rd_T43; rw [Int.toNat_natCast, List.getD_eq_getElem?_getD, List.getElem?_eq_getElem h]; rfl

def szLs : List S43 → Int → Int
  | [], l => l
  | x :: xs, l => if szI x.f1.length l < 0 then -1 else szLs xs (szI x.f1.length l)
def szRows (xs : List S43) (l : Int) : Int := if l - (xs.length : Int) < 0 then -1 else szLs xs (l - (xs.length : Int))
theorem szLs_le : ∀ (xs : List S43) (l : Int), 0 ≤ l → szLs xs l ≤ l ∧ -1 ≤ szLs xs l := by
  intro xs
  induction xs with
  | nil => intro l h; simp only [szLs]; omega
  | cons x xs ih =>
    intro l h
    simp only [szLs]
    split
    · omega
    · rename_i hs
      have h1 := szI_len (n := x.f1.length) (l := l) (by omega)
      have := ih (szI x.f1.length l) (by omega); omega
theorem szLs_mem : ∀ (xs : List S43) (l : Int), 0 ≤ szLs xs l → ∀ x ∈ xs, (x.f1.length : Int) ≤ l := by
  intro xs
  induction xs with
  | nil => intro l _ x hx; simp at hx
  | cons y xs ih =>
    intro l h x hx
    simp only [szLs] at h
    split at h
    · omega
    · have h1 := szI_len (n := y.f1.length) (l := l) (by omega)
      rcases List.mem_cons.1 hx with rfl | hx
      · omega
      · have := ih _ h x hx; omega
theorem szRows_len {xs : List S43} {l : Int} (h : 0 ≤ szRows xs l) : (xs.length : Int) ≤ l ∧ (∀ x ∈ xs, (x.f1.length : Int) ≤ l) ∧ szRows xs l ≤ l := by
  unfold szRows at h ⊢
  split at h
  · omega
  · rename_i h0
    have h1 := (szLs_le xs (l - (xs.length : Int)) (by omega)).1
    refine ⟨by omega, fun x hx => ?_, ?_⟩
    · have := szLs_mem xs _ h x hx; omega
    · rw [if_neg h0]; omega
theorem laws_szLinS_l0 (xs : List S43) (hn : xs.length ≤ 4611686018427387904) (hx : ∀ x ∈ xs, x.f1.length ≤ 9223372036854775807) : ∀ (d j k : Nat) (l : Int), j + d = xs.length → d < k → 0 ≤ l → l ≤ 1048576 →
    laws_szLinS.l0 k xs l (j : Int) = some (szLs (xs.drop j) l) := by
  intro d
  induction d with
  | zero =>
    intro j k l hj hk h0 h1
    obtain ⟨k, rfl⟩ := succ_of hk
    simp only [laws_szLinS.l0]
    rw [if_neg (by omega), List.drop_eq_nil_of_le (by omega)]; rfl
  | succ d ih =>
    intro j k l hj hk h0 h1
    obtain ⟨k, rfl⟩ := succ_of hk
    have hlt : j < xs.length := by omega
    simp only [laws_szLinS.l0]
    rw [if_pos (by omega), if_pos (by omega), rd_llin _ _ hlt, laws_szLin_eq _ _ _ (hx _ (List.getElem_mem hlt)) h0 h1, Option.bind_some, wrap_succ hlt hn, List.drop_eq_getElem_cons hlt]
    simp only [szLs]
    by_cases h : szI xs[j].f1.length l < 0
    · rw [if_pos h, if_pos h]
    · have h2 := szI_len (n := xs[j].f1.length) (l := l) (by omega)
      rw [if_neg h, if_neg h, ih (j + 1) k _ (by omega) (by omega) (by omega) (by omega)]
theorem laws_szLinS_eq (xs : List S43) (l : Int) (hn : xs.length ≤ 9223372036854775807) (hx : ∀ x ∈ xs, x.f1.length ≤ 9223372036854775807) (h0 : 0 ≤ l) (h1 : l ≤ 1048576) (k : Nat) (hk : 1048577 < k) :
    laws_szLinS.f k xs l = some (szRows xs l) := by
  unfold laws_szLinS.f szRows
  rw [wrap_id (by omega) (by omega)]
  split
  · rfl
  · have := laws_szLinS_l0 xs (by omega) hx xs.length 0 k (l - (xs.length : Int)) (by omega) (by omega) (by omega) (by omega)
    simpa using this

theorem laws_szSystem_eq (n : Int) (xs : List S43) (l : Int) (hn : xs.length ≤ 9223372036854775807) (hx : ∀ x ∈ xs, x.f1.length ≤ 9223372036854775807) (h0 : 0 ≤ l) (h1 : l ≤ 1048576) (k : Nat) (hk : 1048577 < k) :
    laws_szSystem.f k n xs l = some (szRows xs l) := by
  unfold laws_szSystem.f; rw [laws_szLinS_eq xs l hn hx h0 h1 k hk, Option.bind_some]
  split
  · have := (szLs_le xs (l - (xs.length : Int)))
    unfold szRows at *; split
    · rfl
    · rename_i h2 h3; rw [if_neg h3] at h2; have := (this (by omega)).2; congr 1; omega
  · rfl

theorem rdOf_nat {α : Type} (d : α) (xs : List α) (j : Nat) (h : j < xs.length) : rdOf d xs (j : Int) = xs[j] := by
  unfold rdOf; rw [Int.toNat_natCast, List.getD_eq_getElem?_getD, List.getElem?_eq_getElem h]; rfl
theorem rd_nat (xs : List Int) (j : Nat) (h : j < xs.length) : rd xs (j : Int) = xs[j] := by
  unfold rd; rw [Int.toNat_natCast, List.getD_eq_getElem?_getD, List.getElem?_eq_getElem h]; rfl

theorem set_at_end_int (p : List Int) (x y : Int) (r : List Int) : (p ++ x :: r).set p.length y = (p ++ [y]) ++ r := by simp
theorem laws_toIntS_l0 (xs : List Int) (hn : xs.length ≤ 4611686018427387904) : ∀ (d j k : Nat) (r : List Int), j + d = xs.length → d < k → r.length = d →
    laws_toIntS.l0 k xs (xs.take j ++ r) (j : Int) = some xs := by
  intro d
  induction d with
  | zero =>
    intro j k r hj hk hr
    obtain ⟨k, rfl⟩ := succ_of hk
    have : r = [] := List.length_eq_zero_iff.1 hr
    subst this
    simp only [laws_toIntS.l0]
    rw [if_neg (by omega), List.append_nil, List.take_of_length_le (by omega)]
  | succ d ih =>
    intro j k r hj hk hr
    obtain ⟨k, rfl⟩ := succ_of hk
    have hlt : j < xs.length := by omega
    cases r with
    | nil => simp at hr
    | cons y r =>
      simp only [laws_toIntS.l0]
      have hl : (xs.take j).length = j := by rw [List.length_take]; omega
      rw [if_pos (by omega), if_pos (by omega), if_pos (by simp only [List.length_append, List.length_cons, hl] at *; omega), rd_nat _ _ hlt, wrap_succ hlt hn, Int.toNat_natCast]
      have e : (xs.take j ++ y :: r).set j xs[j] = xs.take (j + 1) ++ r := by
        have := set_at_end_int (xs.take j) y xs[j] r
        rw [hl] at this
        rw [this, List.take_succ_eq_append_getElem hlt]
      rw [e]
      exact ih (j + 1) k r (by omega) (by omega) (by simpa using hr)
theorem laws_toIntS_eq (xs : List Int) (hn : xs.length ≤ 35184372088832) (k : Nat) (hk : xs.length < k) : laws_toIntS.f k xs = some xs := by
  unfold laws_toIntS.f
  rw [if_pos (by omega), if_pos (by omega)]
  have := laws_toIntS_l0 xs (by omega) xs.length 0 k (List.replicate xs.length 0) (by omega) hk (by simp)
  simpa using this

theorem laws_toLin_eq (c : Int) (xs : List Int) (hn : xs.length ≤ 35184372088832) (k : Nat) (hk : xs.length < k) : laws_toLin.f k c xs = some (c, xs) := by
  unfold laws_toLin.f; rw [laws_toIntS_eq xs hn k hk]; rfl

instance linDec : DecidableEq S29 := fun a b => decidable_of_iff (a.f0 = b.f0 ∧ a.f1 = b.f1) ⟨fun h => by cases a; cases b; simp only at h; rw [h.1, h.2], fun h => by rw [h]; exact ⟨rfl, rfl⟩⟩
theorem lin_eq_iff (a b : S29) : a = b ↔ a.f0 = b.f0 ∧ a.f1 = b.f1 := ⟨fun h => by rw [h]; exact ⟨rfl, rfl⟩, fun h => by cases a; cases b; simp only at h; rw [h.1, h.2]⟩
theorem rd_lin (xs : List S29) (j : Nat) (h : j < xs.length) : rd_T29 xs (j : Int) = xs[j] := by
  unfold rd_T29; rw [Int.toNat_natCast, List.getD_eq_getElem?_getD, List.getElem?_eq_getElem h]; rfl

/-- A row of the law's own type, as one of the program's. -/
def conv (x : S43) : S29 := ⟨x.f0, x.f1⟩
theorem laws_toLinS_l0 (xs : List S43) (hn : xs.length ≤ 4611686018427387904) (hx : ∀ x ∈ xs, x.f1.length ≤ 1048576) : ∀ (d j k : Nat) (r : List S29), j + d = xs.length → d + 1048577 < k → r.length = d →
    laws_toLinS.l0 k xs ((xs.map conv).take j ++ r) (j : Int) = some (xs.map conv) := by
  intro d
  induction d with
  | zero =>
    intro j k r hj hk hr
    obtain ⟨k, rfl⟩ := succ_of hk
    have : r = [] := List.length_eq_zero_iff.1 hr
    subst this
    simp only [laws_toLinS.l0]
    rw [if_neg (by omega), List.append_nil, List.take_of_length_le (by rw [List.length_map]; omega)]
  | succ d ih =>
    intro j k r hj hk hr
    obtain ⟨k, rfl⟩ := succ_of hk
    have hlt : j < xs.length := by omega
    cases r with
    | nil => simp at hr
    | cons y r =>
      simp only [laws_toLinS.l0]
      have hl : ((xs.map conv).take j).length = j := by rw [List.length_take, List.length_map]; omega
      have hxj := hx _ (List.getElem_mem hlt)
      rw [if_pos (by omega), if_pos (by omega), rd_llin _ _ hlt, laws_toLin_eq _ _ (by omega) k (by omega), Option.bind_some, if_pos (by simp only [List.length_append, List.length_cons, hl] at *; omega), wrap_succ hlt hn, Int.toNat_natCast]
      have e : ((xs.map conv).take j ++ y :: r).set j (⟨xs[j].f0, xs[j].f1⟩ : S29) = (xs.map conv).take (j + 1) ++ r := by
        have h1 : ((xs.map conv).take j ++ y :: r).set ((xs.map conv).take j).length (conv xs[j]) = ((xs.map conv).take j ++ [conv xs[j]]) ++ r := by simp
        rw [hl] at h1
        rw [show (⟨xs[j].f0, xs[j].f1⟩ : S29) = conv xs[j] from rfl, h1, List.take_succ_eq_append_getElem (by rw [List.length_map]; omega), List.getElem_map]
      rw [e]
      exact ih (j + 1) k r (by omega) (by omega) (by simpa using hr)
theorem laws_toLinS_eq (xs : List S43) (hn : xs.length ≤ 1048576) (hx : ∀ x ∈ xs, x.f1.length ≤ 1048576) (k : Nat) (hk : 2097154 < k) : laws_toLinS.f k xs = some (xs.map conv) := by
  unfold laws_toLinS.f
  rw [if_pos (by omega), if_pos (by omega)]
  have := laws_toLinS_l0 xs (by omega) hx xs.length 0 k (List.replicate xs.length z29) (by omega) (by omega) (by simp)
  simpa using this

theorem laws_toSystem_eq (n : Int) (xs : List S43) (hn : xs.length ≤ 1048576) (hx : ∀ x ∈ xs, x.f1.length ≤ 1048576) (k : Nat) (hk : 2097154 < k) : laws_toSystem.f k n xs = some (n, xs.map conv) := by
  unfold laws_toSystem.f; rw [laws_toLinS_eq xs hn hx k hk]; rfl
theorem conv_len {xs : List S43} {B : Nat} (hx : ∀ x ∈ xs, x.f1.length ≤ B) : ∀ x ∈ xs.map conv, x.f1.length ≤ B := by
  intro x h
  obtain ⟨y, hy, rfl⟩ := List.mem_map.1 h
  exact hx y hy

theorem laws_eqIntS_l0 (a b : List Int) (hab : a.length = b.length) (hn : a.length ≤ 4611686018427387904) : ∀ (d j k : Nat), j + d = a.length → d < k →
    laws_eqIntS.l0 k a b (j : Int) = some (decide (a.drop j = b.drop j)) := by
  intro d
  induction d with
  | zero =>
    intro j k hj hk
    obtain ⟨k, rfl⟩ := succ_of hk
    simp only [laws_eqIntS.l0]
    rw [if_neg (by omega), List.drop_eq_nil_of_le (by omega), List.drop_eq_nil_of_le (by omega)]; simp
  | succ d ih =>
    intro j k hj hk
    obtain ⟨k, rfl⟩ := succ_of hk
    have hlt : j < a.length := by omega
    simp only [laws_eqIntS.l0]
    rw [if_pos (by omega), if_pos (by omega), if_pos (by omega), rd_nat _ _ hlt, rd_nat _ _ (by omega), wrap_succ hlt hn, ih (j + 1) k (by omega) (by omega), List.drop_eq_getElem_cons hlt, List.drop_eq_getElem_cons (hab ▸ hlt : j < b.length)]
    simp only [List.cons.injEq]
    by_cases h : a[j] = b[j]
    · rw [if_pos h]; simp only [h, true_and]
    · rw [if_neg h]; simp only [h, false_and, decide_false]
theorem laws_eqIntS_eq (a b : List Int) (hn : a.length ≤ 4611686018427387904) (k : Nat) (hk : a.length < k) : laws_eqIntS.f k a b = some (decide (a = b)) := by
  unfold laws_eqIntS.f
  by_cases h : a.length = b.length
  · rw [if_pos (by omega)]
    have := laws_eqIntS_l0 a b h hn a.length 0 k (by omega) hk
    simpa using this
  · rw [if_neg (by omega)]; congr 1; symm; rw [decide_eq_false_iff_not]; intro e; exact h (by rw [e])

theorem laws_eqLin_eq (c : Int) (a : List Int) (c' : Int) (b : List Int) (hn : a.length ≤ 4611686018427387904) (k : Nat) (hk : a.length < k) : laws_eqLin.f k c a c' b = some (decide (c = c' ∧ a = b)) := by
  unfold laws_eqLin.f
  rw [laws_eqIntS_eq a b hn k hk]
  by_cases h : c = c' <;> by_cases h2 : a = b <;> simp [h, h2]

theorem laws_eqLinS_l0 (a b : List S29) (hab : a.length = b.length) (hn : a.length ≤ 4611686018427387904) (hx : ∀ x ∈ a, x.f1.length ≤ 1048576) : ∀ (d j k : Nat), j + d = a.length → d + 1048577 < k →
    laws_eqLinS.l0 k a b (j : Int) = some (decide (a.drop j = b.drop j)) := by
  intro d
  induction d with
  | zero =>
    intro j k hj hk
    obtain ⟨k, rfl⟩ := succ_of hk
    simp only [laws_eqLinS.l0]
    rw [if_neg (by omega), List.drop_eq_nil_of_le (by omega), List.drop_eq_nil_of_le (by omega)]; simp
  | succ d ih =>
    intro j k hj hk
    obtain ⟨k, rfl⟩ := succ_of hk
    have hlt : j < a.length := by omega
    have hxj := hx _ (List.getElem_mem hlt)
    simp only [laws_eqLinS.l0]
    rw [if_pos (by omega), if_pos (by omega), if_pos (by omega), rd_lin _ _ hlt, rd_lin _ _ (by omega), laws_eqLin_eq _ _ _ _ (by omega) k (by omega), Option.bind_some, wrap_succ hlt hn, ih (j + 1) k (by omega) (by omega), List.drop_eq_getElem_cons hlt, List.drop_eq_getElem_cons (hab ▸ hlt : j < b.length)]
    simp only [List.cons.injEq, lin_eq_iff, decide_eq_true_eq]
    by_cases h : a[j].f0 = b[j].f0 ∧ a[j].f1 = b[j].f1
    · rw [if_pos h]; simp only [h, true_and, and_self]
    · rw [if_neg h]; simp only [h, false_and, decide_false]
theorem laws_eqLinS_eq (a b : List S29) (hn : a.length ≤ 1048576) (hx : ∀ x ∈ a, x.f1.length ≤ 1048576) (k : Nat) (hk : 2097154 < k) : laws_eqLinS.f k a b = some (decide (a = b)) := by
  unfold laws_eqLinS.f
  by_cases h : a.length = b.length
  · rw [if_pos (by omega)]
    have := laws_eqLinS_l0 a b h (by omega) hx a.length 0 k (by omega) (by omega)
    simpa using this
  · rw [if_neg (by omega)]; congr 1; symm; rw [decide_eq_false_iff_not]; intro e; exact h (by rw [e])

theorem laws_eqSystem_eq (n : Int) (a : List S29) (m : Int) (b : List S29) (hn : a.length ≤ 1048576) (hx : ∀ x ∈ a, x.f1.length ≤ 1048576) (k : Nat) (hk : 2097154 < k) : laws_eqSystem.f k n a m b = some (decide (n = m ∧ a = b)) := by
  unfold laws_eqSystem.f
  rw [laws_eqLinS_eq a b hn hx k hk]
  by_cases h : n = m <;> by_cases h2 : a = b <;> simp [h, h2]

/-- d numbers from m on. -/
def iota (m : Int) : Nat → List Int
  | 0 => []
  | d + 1 => m :: iota (m + 1) d
theorem iota_length : ∀ (d : Nat) (m : Int), (iota m d).length = d := by
  intro d; induction d with
  | zero => intro m; rfl
  | succ d ih => intro m; simp [iota, ih]
theorem iota_get : ∀ (d j : Nat) (m : Int) (h : j < (iota m d).length), (iota m d)[j] = m + j := by
  intro d; induction d with
  | zero => intro j m h; simp [iota] at h
  | succ d ih =>
    intro j m h
    cases j with
    | zero => simp [iota]
    | succ j => simp only [iota, List.getElem_cons_succ]; rw [ih]; omega

theorem laws_markIntS_l0 : ∀ (d : Nat) (p xs : List Int) (m : Int) (k : Nat), xs.length = d → d < k → 0 ≤ m → m + d ≤ 4611686018427387904 → p.length + d ≤ 4611686018427387904 →
    laws_markIntS.l0 k (p ++ xs) m (p.length : Int) = some (m + d, p ++ iota m d) := by
  intro d
  induction d with
  | zero =>
    intro p xs m k hx hk h0 hm hp
    obtain ⟨k, rfl⟩ := succ_of hk
    have : xs = [] := List.length_eq_zero_iff.1 hx
    subst this
    simp only [laws_markIntS.l0]
    rw [if_neg (by simp)]; simp [iota]
  | succ d ih =>
    intro p xs m k hx hk h0 hm hp
    obtain ⟨k, rfl⟩ := succ_of hk
    cases xs with
    | nil => simp at hx
    | cons x xs =>
      simp only [laws_markIntS.l0]
      rw [if_pos (by simp only [List.length_append, List.length_cons]; omega), if_pos (by omega), wrap_id (by omega) (by omega), wrap_id (by omega) (by omega), Int.toNat_natCast]
      have e : (p ++ x :: xs).set p.length m = (p ++ [m]) ++ xs := by simp
      have := ih (p ++ [m]) xs (m + 1) k (by simpa using hx) (by omega) (by omega) (by omega) (by simp; omega)
      rw [e, show ((p.length : Int) + 1) = ((p ++ [m]).length : Int) by simp, this]
      simp [iota]; omega
theorem laws_markIntS_eq (xs : List Int) (m : Int) (k : Nat) (hk : xs.length < k) (h0 : 0 ≤ m) (hm : m + xs.length ≤ 4611686018427387904) :
    laws_markIntS.f k xs m = some (m + xs.length, iota m xs.length) := by
  unfold laws_markIntS.f
  have := laws_markIntS_l0 xs.length [] xs m k rfl hk h0 hm (by simp; omega)
  simpa using this

theorem laws_markLin_eq (c : Int) (xs : List Int) (m : Int) (k : Nat) (hk : xs.length < k) (h0 : 0 ≤ m) (hm : m + xs.length ≤ 4611686018427387904) :
    laws_markLin.f k c xs m = some (m + xs.length, iota m xs.length) := by
  unfold laws_markLin.f; rw [laws_markIntS_eq xs m k hk h0 hm]; rfl

theorem laws_heldIntS_l0 (m : Int) (n : Nat) (h0 : 0 ≤ m) (hm : m + n ≤ 4611686018427387904) : ∀ (d j k : Nat), j + d = n → d < k →
    laws_heldIntS.l0 k (iota m n) (m + j) (j : Int) = some (m + n) := by
  intro d
  induction d with
  | zero =>
    intro j k hj hk
    obtain ⟨k, rfl⟩ := succ_of hk
    simp only [laws_heldIntS.l0]
    rw [if_neg (by rw [iota_length]; omega)]; congr 1; omega
  | succ d ih =>
    intro j k hj hk
    obtain ⟨k, rfl⟩ := succ_of hk
    simp only [laws_heldIntS.l0]
    rw [if_pos (by rw [iota_length]; omega), if_pos (by omega), rd_nat _ _ (by rw [iota_length]; omega), iota_get, if_pos rfl, wrap_id (by omega) (by omega), wrap_id (by omega) (by omega)]
    have := ih (j + 1) k (by omega) (by omega)
    rw [← this]; congr 1 <;> omega
theorem laws_heldIntS_eq (m : Int) (n : Nat) (k : Nat) (hk : n < k) (h0 : 0 ≤ m) (hm : m + n ≤ 4611686018427387904) : laws_heldIntS.f k (iota m n) m = some (m + n) := by
  unfold laws_heldIntS.f
  have := laws_heldIntS_l0 m n h0 hm n 0 k (by omega) hk
  simpa using this

theorem laws_heldLin_eq (c : Int) (m : Int) (n : Nat) (k : Nat) (hk : n < k) (h0 : 0 ≤ m) (hm : m + n ≤ 4611686018427387904) : laws_heldLin.f k c (iota m n) m = some (m + n) := by
  unfold laws_heldLin.f; rw [laws_heldIntS_eq m n k hk h0 hm]; simp only [Option.bind_some]; rw [if_neg (by omega)]

/-- How many numbers stand in rows; rows with marks from m on. -/
def rowsLen : List S29 → Nat
  | [] => 0
  | x :: xs => 1 + x.f1.length + rowsLen xs
def markRows : Int → List S29 → List S29
  | _, [] => []
  | m, x :: xs => ⟨m, iota (m + 1) x.f1.length⟩ :: markRows (m + 1 + x.f1.length) xs
theorem rowsLen_le : ∀ xs : List S29, (∀ x ∈ xs, x.f1.length ≤ 1048576) → rowsLen xs ≤ xs.length * 1048577 := by
  intro xs
  induction xs with
  | nil => intro _; exact Nat.le_refl _
  | cons x xs ih =>
    intro h
    have h1 := h x (by simp)
    have h2 := ih (fun y hy => h y (by simp [hy]))
    simp only [rowsLen, List.length_cons, Nat.succ_mul]; omega
theorem markRows_length : ∀ (xs : List S29) (m : Int), (markRows m xs).length = xs.length := by
  intro xs
  induction xs with
  | nil => intro m; rfl
  | cons x xs ih => intro m; simp [markRows, ih]

theorem laws_markLinS_l0 : ∀ (d : Nat) (p xs : List S29) (m : Int) (k : Nat), xs.length = d → d + 1048577 < k → (∀ x ∈ xs, x.f1.length ≤ 1048576) → 0 ≤ m → m + rowsLen xs ≤ 4611686018427387904 → p.length + d ≤ 4611686018427387904 →
    laws_markLinS.l0 k (p ++ xs) m (p.length : Int) = some (m + rowsLen xs, p ++ markRows m xs) := by
  intro d
  induction d with
  | zero =>
    intro p xs m k hx hk hl h0 hm hp
    obtain ⟨k, rfl⟩ := succ_of hk
    have : xs = [] := List.length_eq_zero_iff.1 hx
    subst this
    simp only [laws_markLinS.l0]
    rw [if_neg (by simp)]; simp [markRows, rowsLen]
  | succ d ih =>
    intro p xs m k hx hk hl h0 hm hp
    obtain ⟨k, rfl⟩ := succ_of hk
    cases xs with
    | nil => simp at hx
    | cons x xs =>
      have hx1 := hl x (by simp)
      simp only [rowsLen] at hm
      simp only [laws_markLinS.l0]
      rw [if_pos (by simp only [List.length_append, List.length_cons]; omega), if_pos (by omega), rd_lin _ p.length (by simp), List.getElem_append_right (Nat.le_refl _)]
      simp only [Nat.sub_self, List.getElem_cons_zero]
      rw [wrap_id (n := m + 1) (by omega) (by omega), laws_markIntS_eq x.f1 (m + 1) k (by omega) (by omega) (by omega), Option.bind_some, Int.toNat_natCast, wrap_id (by omega) (by omega)]
      have e : (p ++ x :: xs).set p.length ⟨m, iota (m + 1) x.f1.length⟩ = (p ++ [⟨m, iota (m + 1) x.f1.length⟩]) ++ xs := by simp
      have := ih (p ++ [⟨m, iota (m + 1) x.f1.length⟩]) xs (m + 1 + x.f1.length) k (by simpa using hx) (by omega) (fun y hy => hl y (by simp [hy])) (by omega) (by omega) (by simp; omega)
      simp only [e]
      rw [show ((p.length : Int) + 1) = ((p ++ [(⟨m, iota (m + 1) x.f1.length⟩ : S29)]).length : Int) by simp, this]
      simp [markRows, rowsLen]; omega
theorem laws_markSystem_eq (n : Int) (xs : List S29) (m : Int) (hn : xs.length ≤ 1048577) (hl : ∀ x ∈ xs, x.f1.length ≤ 1048576) (h0 : 0 ≤ m) (hm : m ≤ 1000000000000000) (k : Nat) (hk : 2097160 < k) :
    laws_markSystem.f k n xs m = some (m + rowsLen xs, markRows m xs) := by
  have hle := rowsLen_le xs hl
  unfold laws_markSystem.f laws_markLinS.f
  have := laws_markLinS_l0 xs.length [] xs m k rfl (by omega) hl h0 (by omega) (by simp; omega)
  rw [show (([] : List S29).length : Int) = 0 from rfl, List.nil_append] at this
  rw [this]; rfl

/-- From -MaxCoeff to MaxCoeff. -/
def okc (n : Int) : Bool := decide (-1000000000 ≤ n ∧ n ≤ 1000000000)
theorem okc_iff (n : Int) : okc n = true ↔ -1000000000 ≤ n ∧ n ≤ 1000000000 := by unfold okc; exact decide_eq_true_iff
theorem okc_false (n : Int) : okc n = false ↔ ¬ (-1000000000 ≤ n ∧ n ≤ 1000000000) := by unfold okc; exact decide_eq_false_iff_not

/-- IsValidLin. -/
def validLin (c : Int) (cs : List Int) (n : Int) : Bool := decide (0 ≤ n ∧ n ≤ 8) && (decide ((cs.length : Int) = n) && (okc c && cs.all okc))
theorem validLin_iff (c : Int) (cs : List Int) (n : Int) : validLin c cs n = true ↔ (0 ≤ n ∧ n ≤ 8) ∧ (cs.length : Int) = n ∧ okc c = true ∧ ∀ x ∈ cs, okc x = true := by
  unfold validLin; simp only [Bool.and_eq_true, decide_eq_true_eq, List.all_eq_true]
theorem any_not_all {α : Type} (p : α → Bool) (xs : List α) : (!(xs.any fun c => !(p c))) = xs.all p := by
  induction xs with
  | nil => rfl
  | cons x xs ih => simp only [List.any_cons, List.all_cons, Bool.not_or, Bool.not_not, ih]

/-- IsValidSystem. -/
def validSys (n : Int) (rows : List S29) : Bool := decide (0 ≤ n ∧ n ≤ 8) && (decide (rows.length ≤ 20) && rows.all fun r => validLin r.f0 r.f1 n)
theorem validSys_iff (n : Int) (rows : List S29) : validSys n rows = true ↔ (0 ≤ n ∧ n ≤ 8) ∧ rows.length ≤ 20 ∧ ∀ r ∈ rows, validLin r.f0 r.f1 n = true := by
  unfold validSys; simp only [Bool.and_eq_true, decide_eq_true_eq, List.all_eq_true]

/-- AddLimited. -/
def addLim (x y : Int) : Int × Bool := if okc x = true then (if okc y = true then (if okc (wrap64 (x + y)) = true then (wrap64 (x + y), true) else (0, false)) else (0, false)) else (0, false)

/-- MulLimited. -/
def mulLim (x y : Int) : Int × Bool := if okc x = true then (if okc y = true then (if okc (wrap64 (x * y)) = true then (wrap64 (x * y), true) else (0, false)) else (0, false)) else (0, false)

/-- Fits. -/
def fitsB (n : Int) : Bool := decide (-1000000 ≤ n ∧ n ≤ 1000000)
theorem fitsB_iff (n : Int) : fitsB n = true ↔ -1000000 ≤ n ∧ n ≤ 1000000 := by unfold fitsB; exact decide_eq_true_iff
theorem mul_bound {a b A B : Int} (ha : -A ≤ a ∧ a ≤ A) (hb : -B ≤ b ∧ b ≤ B) : -(A * B) ≤ a * b ∧ a * b ≤ A * B := by
  have h : (a * b).natAbs ≤ A.natAbs * B.natAbs := by rw [Int.natAbs_mul]; exact Nat.mul_le_mul (by omega) (by omega)
  have e : (A.natAbs * B.natAbs : Nat) = (A * B).natAbs := by rw [Int.natAbs_mul]
  have hA : 0 ≤ A := by omega
  have hB : 0 ≤ B := by omega
  have : 0 ≤ A * B := Int.mul_nonneg hA hB
  omega
theorem mul_okc_fits {a b : Int} (ha : -1000000000 ≤ a ∧ a ≤ 1000000000) (hb : -1000000 ≤ b ∧ b ≤ 1000000) : -1000000000000000 ≤ a * b ∧ a * b ≤ 1000000000000000 := by
  have := mul_bound (A := 1000000000) (B := 1000000) ha hb; omega
theorem mul_okc {a b : Int} (ha : -1000000000 ≤ a ∧ a ≤ 1000000000) (hb : -1000000000 ≤ b ∧ b ≤ 1000000000) : -1000000000000000000 ≤ a * b ∧ a * b ≤ 1000000000000000000 := by
  have := mul_bound (A := 1000000000) (B := 1000000000) ha hb; omega

/-- x + k * y: is it in limits, and its value. -/
def scOk (x k y : Int) : Bool := (mulLim k y).2 && (addLim x (mulLim k y).1).2
def scVal (x k y : Int) : Int := (addLim x (mulLim k y).1).1
def scVal' (x k y : Int) : Int := if (mulLim k y).2 = true then scVal x k y else 0
theorem mulLim_iff (x y : Int) : (mulLim x y).2 = true ↔ okc x = true ∧ okc y = true ∧ okc (x * y) = true := by
  unfold mulLim
  by_cases h1 : okc x = true
  · by_cases h2 : okc y = true
    · have b := mul_okc ((okc_iff _).1 h1) ((okc_iff _).1 h2)
      rw [wrap_id (by omega) (by omega)]
      by_cases h3 : okc (x * y) = true <;> simp [h1, h2, h3]
    · simp [h1, h2]
  · simp [h1]
theorem mulLim_val {x y : Int} (h : (mulLim x y).2 = true) : (mulLim x y).1 = x * y := by
  obtain ⟨h1, h2, h3⟩ := (mulLim_iff x y).1 h
  have b := mul_okc ((okc_iff _).1 h1) ((okc_iff _).1 h2)
  unfold mulLim
  rw [wrap_id (by omega) (by omega), if_pos h1, if_pos h2, if_pos h3]
theorem addLim_iff (x y : Int) : (addLim x y).2 = true ↔ okc x = true ∧ okc y = true ∧ okc (x + y) = true := by
  unfold addLim
  by_cases h1 : okc x = true
  · by_cases h2 : okc y = true
    · have b1 := (okc_iff _).1 h1
      have b2 := (okc_iff _).1 h2
      rw [wrap_id (by omega) (by omega)]
      by_cases h3 : okc (x + y) = true <;> simp [h1, h2, h3]
    · simp [h1, h2]
  · simp [h1]
theorem addLim_val {x y : Int} (h : (addLim x y).2 = true) : (addLim x y).1 = x + y := by
  obtain ⟨h1, h2, h3⟩ := (addLim_iff x y).1 h
  have b1 := (okc_iff _).1 h1
  have b2 := (okc_iff _).1 h2
  unfold addLim
  rw [wrap_id (by omega) (by omega), if_pos h1, if_pos h2, if_pos h3]
theorem scOk_iff (x k y : Int) : scOk x k y = true ↔ (okc k = true ∧ okc y = true ∧ okc (k * y) = true) ∧ (okc x = true ∧ okc (x + k * y) = true) := by
  unfold scOk
  rw [Bool.and_eq_true, mulLim_iff]
  constructor
  · rintro ⟨h1, h2⟩
    rw [mulLim_val ((mulLim_iff _ _).2 h1), addLim_iff] at h2
    exact ⟨h1, h2.1, h2.2.2⟩
  · rintro ⟨h1, h2, h3⟩
    refine ⟨h1, ?_⟩
    rw [mulLim_val ((mulLim_iff _ _).2 h1), addLim_iff]
    exact ⟨h2, h1.2.2, h3⟩
theorem scVal_val {x k y : Int} (h : scOk x k y = true) : scVal x k y = x + k * y := by
  unfold scOk at h
  rw [Bool.and_eq_true] at h
  unfold scVal
  rw [addLim_val h.2, mulLim_val h.1]
theorem scVal'_val {x k y : Int} (h : scOk x k y = true) : scVal' x k y = scVal x k y := by
  unfold scOk at h
  rw [Bool.and_eq_true] at h
  unfold scVal'; rw [if_pos h.1]

/-- AddScaled. -/
def okAll (k : Int) : List Int → List Int → Bool
  | x :: xs, y :: ys => scOk x k y && okAll k xs ys
  | _, _ => true
def vals (k : Int) : List Int → List Int → List Int := List.zipWith fun x y => scVal x k y
def vals' (k : Int) : List Int → List Int → List Int := List.zipWith fun x y => scVal' x k y
theorem vals'_vals (k : Int) : ∀ xs ys : List Int, okAll k xs ys = true → vals' k xs ys = vals k xs ys := by
  intro xs
  induction xs with
  | nil => intro ys _; simp [vals, vals']
  | cons x xs ih =>
    intro ys h
    cases ys with
    | nil => simp [vals, vals']
    | cons y ys =>
      simp only [okAll, Bool.and_eq_true] at h
      have := ih ys h.2
      unfold vals vals' at this ⊢
      rw [List.zipWith_cons_cons, List.zipWith_cons_cons, scVal'_val h.1, this]
def addSc (c : Int) (cs : List Int) (k : Int) (d : Int) (ds : List Int) : Int × List Int × Bool :=
  if validLin c cs (cs.length : Int) = true ∧ validLin d ds (cs.length : Int) = true ∧ okc k = true ∧ okAll k cs ds = true ∧ scOk c k d = true then (scVal c k d, vals k cs ds, true) else (0, [], false)
theorem addSc_length (c : Int) (cs : List Int) (k : Int) (d : Int) (ds : List Int) : (addSc c cs k d ds).2.1.length ≤ 8 := by
  unfold addSc
  split
  · rename_i h
    have h1 := (validLin_iff _ _ _).1 h.1
    simp only [vals, List.length_zipWith]; omega
  · simp
theorem drop_zip (f : Int → Int → Int) (xs ys : List Int) (j : Nat) (h1 : j < xs.length) (h2 : j < ys.length) : List.zipWith f (xs.drop j) (ys.drop j) = f xs[j] ys[j] :: List.zipWith f (xs.drop (j + 1)) (ys.drop (j + 1)) := by
  rw [List.drop_eq_getElem_cons h1, List.drop_eq_getElem_cons h2, List.zipWith_cons_cons]
theorem drop_okAll (k : Int) (xs ys : List Int) (j : Nat) (h1 : j < xs.length) (h2 : j < ys.length) : okAll k (xs.drop j) (ys.drop j) = (scOk xs[j] k ys[j] && okAll k (xs.drop (j + 1)) (ys.drop (j + 1))) := by
  rw [List.drop_eq_getElem_cons h1, List.drop_eq_getElem_cons h2]; rfl

/-- ConstLin. -/
def constLin (k n : Int) : Int × List Int := if (0 ≤ n ∧ n ≤ 8) ∧ okc k = true then (k, List.replicate n.toNat 0) else (0, [])

/-- The sum of the rows, each taken as often as it is told. -/
def combF : Int × List Int → List S29 → List Int → Int × List Int × Bool
  | a, r :: rs, m :: ms => if m < 0 then (0, [], false) else (if (addSc a.1 a.2 m r.f0 r.f1).2.2 = true then combF ((addSc a.1 a.2 m r.f0 r.f1).1, (addSc a.1 a.2 m r.f0 r.f1).2.1) rs ms else (0, [], false))
  | a, _, _ => (a.1, a.2, true)
/-- CombineRows. -/
def combine (n : Int) (rows : List S29) (ms : List Int) : Int × List Int × Bool := if validSys n rows = true ∧ ms.length = rows.length then combF (constLin 0 n) rows ms else (0, [], false)
theorem combF_length : ∀ (rows : List S29) (ms : List Int) (a : Int × List Int), a.2.length ≤ 8 → (combF a rows ms).2.1.length ≤ 8 := by
  intro rows
  induction rows with
  | nil => intro ms a h; simpa [combF] using h
  | cons r rs ih =>
    intro ms a h
    cases ms with
    | nil => simpa [combF] using h
    | cons m ms =>
      simp only [combF]
      split
      · simp
      · split
        · exact ih ms _ (addSc_length _ _ _ _ _)
        · simp
theorem constLin_length (k n : Int) : (constLin k n).2.length ≤ 8 := by
  unfold constLin; split
  · simp; omega
  · simp
theorem combine_length (n : Int) (rows : List S29) (ms : List Int) : (combine n rows ms).2.1.length ≤ 8 := by
  unfold combine; split
  · exact combF_length rows ms _ (constLin_length 0 n)
  · simp
def multOk (c : Int) : Bool := decide (0 ≤ c ∧ c ≤ 1000000000)
theorem addSc_okc {c : Int} {cs : List Int} {k d : Int} {ds : List Int} (h : (addSc c cs k d ds).2.2 = true) : okc k = true := by
  unfold addSc at h
  split at h
  · rename_i h2; exact h2.2.2.1
  · simp at h
theorem combF_bad : ∀ (rows : List S29) (ms : List Int) (a : Int × List Int), ms.length = rows.length → ms.all multOk = false → combF a rows ms = (0, [], false) := by
  intro rows
  induction rows with
  | nil => intro ms a h hb; have : ms = [] := List.length_eq_zero_iff.1 (by simpa using h); subst this; simp at hb
  | cons r rs ih =>
    intro ms a h hb
    cases ms with
    | nil => simp at h
    | cons m ms =>
      simp only [combF]
      split
      · rfl
      · split
        · rename_i h1 h2
          have h3 := (okc_iff _).1 (addSc_okc h2)
          have h4 : multOk m = true := by unfold multOk; rw [decide_eq_true_eq]; omega
          rw [List.all_cons, h4, Bool.true_and] at hb
          exact ih ms _ (by simpa using h) hb
        · rfl

theorem spec_l1In_eq (a b c : Int) : spec_l1In.f a b c = some (decide (b ≤ a ∧ a ≤ c)) := by
  unfold spec_l1In.f
  by_cases h : a ≥ b
  · rw [if_pos h]; congr 1; rw [decide_eq_decide]; omega
  · rw [if_neg h]; congr 1; symm; rw [decide_eq_false_iff_not]; omega

theorem spec_l3In_eq (n : Int) : spec_l3In.f n = some (okc n) := by unfold spec_l3In.f; rw [spec_l1In_eq]; rfl

theorem spec_IsValidLin_l0 (c : Int) (cs : List Int) (n : Int) (hn : cs.length ≤ 4611686018427387904) : ∀ (d j k : Nat), j + d = cs.length → d < k →
    spec_IsValidLin.l0 k n (j : Int) c cs = some ((cs.drop j).all okc && (decide (0 ≤ n ∧ n ≤ 8) && (decide ((cs.length : Int) = n) && okc c))) := by
  intro d
  induction d with
  | zero =>
    intro j k hj hk
    obtain ⟨k, rfl⟩ := succ_of hk
    simp only [spec_IsValidLin.l0]
    rw [if_neg (by omega), List.drop_eq_nil_of_le (by omega), spec_l1In_eq, spec_l3In_eq]
    simp only [Option.bind_some, List.all_nil, Bool.true_and]
    by_cases h1 : 0 ≤ n ∧ n ≤ 8 <;> by_cases h2 : (cs.length : Int) = n <;> simp [h1, h2]
  | succ d ih =>
    intro j k hj hk
    obtain ⟨k, rfl⟩ := succ_of hk
    have hlt : j < cs.length := by omega
    simp only [spec_IsValidLin.l0]
    rw [if_pos (by omega), if_pos (by omega), rd_nat _ _ hlt, spec_l3In_eq, Option.bind_some, wrap_succ hlt hn, ih (j + 1) k (by omega) (by omega), List.drop_eq_getElem_cons hlt, List.all_cons]
    cases okc cs[j] <;> simp
theorem spec_IsValidLin_eq (c : Int) (cs : List Int) (n : Int) (hn : cs.length ≤ 4611686018427387904) (k : Nat) (hk : cs.length < k) : spec_IsValidLin.f k c cs n = some (validLin c cs n) := by
  unfold spec_IsValidLin.f validLin
  have := spec_IsValidLin_l0 c cs n hn cs.length 0 k (by omega) hk
  rw [show ((0 : Nat) : Int) = 0 from rfl, List.drop_zero] at this
  rw [this]
  cases cs.all okc <;> simp

theorem spec_IsValidSystem_l0 (n : Int) (rows : List S29) (hn : rows.length ≤ 4611686018427387904) (hx : ∀ x ∈ rows, x.f1.length ≤ 1048576) : ∀ (d j k : Nat), j + d = rows.length → d + 1048577 < k →
    spec_IsValidSystem.l0 k (j : Int) n rows = some ((rows.drop j).all (fun r => validLin r.f0 r.f1 n) && (decide (0 ≤ n ∧ n ≤ 8) && decide (rows.length ≤ 20))) := by
  intro d
  induction d with
  | zero =>
    intro j k hj hk
    obtain ⟨k, rfl⟩ := succ_of hk
    simp only [spec_IsValidSystem.l0]
    rw [if_neg (by omega), List.drop_eq_nil_of_le (by omega), spec_l1In_eq]
    simp only [Option.bind_some, List.all_nil, Bool.true_and]
    have e : decide ((rows.length : Int) ≤ 20) = decide (rows.length ≤ 20) := by rw [decide_eq_decide]; omega
    rw [e]
    by_cases h1 : 0 ≤ n ∧ n ≤ 8 <;> simp [h1]
  | succ d ih =>
    intro j k hj hk
    obtain ⟨k, rfl⟩ := succ_of hk
    have hlt : j < rows.length := by omega
    have hxj := hx _ (List.getElem_mem hlt)
    simp only [spec_IsValidSystem.l0]
    rw [if_pos (by omega), if_pos (by omega), rd_lin _ _ hlt, spec_IsValidLin_eq _ _ _ (by omega) k (by omega), Option.bind_some, wrap_succ hlt hn, ih (j + 1) k (by omega) (by omega), List.drop_eq_getElem_cons hlt, List.all_cons]
    cases validLin rows[j].f0 rows[j].f1 n <;> simp
theorem spec_IsValidSystem_eq (n : Int) (rows : List S29) (hn : rows.length ≤ 1048577) (hx : ∀ x ∈ rows, x.f1.length ≤ 1048576) (k : Nat) (hk : 2097155 < k) : spec_IsValidSystem.f k n rows = some (validSys n rows) := by
  unfold spec_IsValidSystem.f validSys
  have := spec_IsValidSystem_l0 n rows (by omega) hx rows.length 0 k (by omega) (by omega)
  rw [show ((0 : Nat) : Int) = 0 from rfl, List.drop_zero] at this
  rw [this]
  cases rows.all fun r => validLin r.f0 r.f1 n <;> simp

theorem spec_ConstLin_eq (k n : Int) : spec_ConstLin.f k n = some (constLin k n) := by
  unfold spec_ConstLin.f constLin
  rw [spec_l1In_eq, spec_l3In_eq]; simp only [Option.bind_some, decide_eq_true_eq]
  by_cases h : 0 ≤ n ∧ n ≤ 8
  · have h3 : n.toNat ≤ 35184372088832 := by omega
    rw [if_pos h, if_pos h.1, if_pos h3]; cases h2 : okc k
    · rw [if_neg (by simp), if_neg (by simp)]
    · rw [if_pos rfl, if_pos ⟨h, rfl⟩]
  · rw [if_neg h, if_neg (fun e => h e.1)]

theorem spec_AddLimited_eq (x y : Int) : spec_AddLimited.f x y = some (addLim x y) := by
  unfold spec_AddLimited.f addLim; simp only [spec_l3In_eq, Option.bind_some]; repeat (split <;> try rfl)

theorem spec_MulLimited_eq (x y : Int) : spec_MulLimited.f x y = some (mulLim x y) := by
  unfold spec_MulLimited.f mulLim; simp only [spec_l3In_eq, Option.bind_some]; repeat (split <;> try rfl)

theorem spec_l4Sum_eq (x k y : Int) : spec_l4Sum.f x k y = some (scVal' x k y, scOk x k y) := by
  unfold spec_l4Sum.f scVal' scOk scVal
  rw [spec_MulLimited_eq, Option.bind_some]
  cases h : (mulLim k y).2 with
  | false => simp
  | true => rw [if_pos rfl, if_pos rfl, spec_AddLimited_eq]; simp

theorem spec_AddScaled_l0 (kk : Int) (n : Nat) (c : Int) (cs : List Int) (d : Int) (ds : List Int) (oc : Int) (h1 : cs.length = n) (h2 : ds.length = n) (hn : n ≤ 4611686018427387904) : ∀ (e j k : Nat) (p r : List Int) (all : Bool), j + e = n → e < k → p.length = j → r.length = e →
    spec_AddScaled.l0 k kk (n : Int) all (j : Int) c cs d ds oc (p ++ r) = some (if (all && okAll kk (cs.drop j) (ds.drop j)) = true ∧ scOk c kk d = true then (scVal' c kk d, p ++ vals' kk (cs.drop j) (ds.drop j), true) else (0, [], false)) := by
  intro e
  induction e with
  | zero =>
    intro j k p r all hj hk hp hr
    obtain ⟨k, rfl⟩ := succ_of hk
    have : r = [] := List.length_eq_zero_iff.1 hr
    subst this
    simp only [spec_AddScaled.l0]
    rw [if_neg (by omega), spec_l4Sum_eq, Option.bind_some, List.drop_eq_nil_of_le (by omega), List.drop_eq_nil_of_le (by omega)]
    cases all <;> cases scOk c kk d <;> simp [okAll, vals']
  | succ e ih =>
    intro j k p r all hj hk hp hr
    obtain ⟨k, rfl⟩ := succ_of hk
    cases r with
    | nil => simp at hr
    | cons y r =>
      have hj1 : j < cs.length := by omega
      have hj2 : j < ds.length := by omega
      simp only [spec_AddScaled.l0]
      rw [if_pos (by omega), if_pos (by omega), if_pos (by omega), if_pos (by omega), rd_nat _ _ hj1, rd_nat _ _ hj2, spec_l4Sum_eq, Option.bind_some, if_pos (by simp only [List.length_append, List.length_cons]; omega), Option.bind_some, wrap_succ (n := n) (by omega) hn, Int.toNat_natCast]
      have es : (p ++ y :: r).set j (scVal' cs[j] kk ds[j]) = (p ++ [scVal' cs[j] kk ds[j]]) ++ r := by generalize scVal' cs[j] kk ds[j] = z; rw [← hp]; simp
      have hi := ih (j + 1) k (p ++ [scVal' cs[j] kk ds[j]]) r
      have hz : vals' kk (cs.drop j) (ds.drop j) = scVal' cs[j] kk ds[j] :: vals' kk (cs.drop (j + 1)) (ds.drop (j + 1)) := by unfold vals'; exact drop_zip _ _ _ _ hj1 hj2
      rw [es, hi (scOk cs[j] kk ds[j]) (by omega) (by omega) (by simp; omega) (by simpa using hr), hi false (by omega) (by omega) (by simp; omega) (by simpa using hr), drop_okAll _ _ _ _ hj1 hj2, hz]
      cases all <;> simp
theorem spec_AddScaled_eq (c : Int) (cs : List Int) (kk : Int) (d : Int) (ds : List Int) (hn : cs.length ≤ 1048577) (hm : ds.length ≤ 1048577) (k : Nat) (hk : 1048600 < k) : spec_AddScaled.f k c cs kk d ds = some (addSc c cs kk d ds) := by
  unfold spec_AddScaled.f addSc
  rw [spec_IsValidLin_eq c cs _ (by omega) k (by omega), spec_IsValidLin_eq d ds _ (by omega) k (by omega), spec_l3In_eq]
  simp only [Option.bind_some]
  obtain ⟨k, rfl⟩ := succ_of hk
  simp only [spec_AddScaled.j0]
  cases hv : validLin c cs (cs.length : Int) with
  | false => simp
  | true =>
    cases hw : validLin d ds (cs.length : Int) with
    | false => simp
    | true =>
      cases ho : okc kk with
      | false => simp
      | true =>
        have h1 := (validLin_iff _ _ _).1 hv
        have h2 := (validLin_iff _ _ _).1 hw
        have h3 : ((cs.length : Int)).toNat ≤ 35184372088832 := by omega
        have hl := spec_AddScaled_l0 kk cs.length c cs d ds 0 rfl (by omega) (by omega) cs.length 0 k [] (List.replicate cs.length 0) true (by omega) (by omega) rfl (by simp)
        rw [if_pos rfl, if_pos rfl, if_neg (by simp), if_pos (by omega), if_pos h3, Int.toNat_natCast]
        rw [show ((0 : Nat) : Int) = 0 from rfl, List.nil_append, List.drop_zero, List.drop_zero, List.nil_append] at hl
        rw [hl]
        simp only [Bool.true_and, true_and]
        by_cases ha : okAll kk cs ds = true ∧ scOk c kk d = true
        · rw [if_pos ha, if_pos ha, vals'_vals _ _ _ ha.1, scVal'_val ha.2]
        · rw [if_neg ha, if_neg ha]

theorem spec_CombineRows_l0 (n : Int) (rows : List S29) (ms : List Int) (hl : ms.length = rows.length) (hn : rows.length ≤ 4611686018427387904) (hx : ∀ x ∈ rows, x.f1.length ≤ 1048576) : ∀ (d j k : Nat) (a : Int × List Int), j + d = rows.length → d + 1048600 < k → a.2.length ≤ 8 →
    spec_CombineRows.l0 k ms (j : Int) n rows a.1 a.2 = some (combF a (rows.drop j) (ms.drop j)) := by
  intro d
  induction d with
  | zero =>
    intro j k a hj hk ha
    obtain ⟨k, rfl⟩ := succ_of hk
    simp only [spec_CombineRows.l0]
    rw [if_neg (by omega), List.drop_eq_nil_of_le (by omega)]
    simp [combF]
  | succ d ih =>
    intro j k a hj hk ha
    obtain ⟨k, rfl⟩ := succ_of hk
    have hlt : j < rows.length := by omega
    have hlm : j < ms.length := by omega
    have hxj := hx _ (List.getElem_mem hlt)
    simp only [spec_CombineRows.l0]
    rw [if_pos (by omega), if_pos (by omega), if_pos (by omega), rd_lin _ _ hlt, rd_nat _ _ hlm, spec_AddScaled_eq _ _ _ _ _ (by omega) (by omega) k (by omega), Option.bind_some, wrap_succ hlt hn, List.drop_eq_getElem_cons hlt, List.drop_eq_getElem_cons hlm]
    simp only [combF]
    have hi := ih (j + 1) k ((addSc a.1 a.2 ms[j] rows[j].f0 rows[j].f1).1, (addSc a.1 a.2 ms[j] rows[j].f0 rows[j].f1).2.1) (by omega) (by omega) (addSc_length _ _ _ _ _)
    simp only at hi
    rw [hi]
    by_cases h1 : ms[j] < 0 <;> by_cases h2 : (addSc a.1 a.2 ms[j] rows[j].f0 rows[j].f1).2.2 = true <;> simp [h1, h2]
theorem spec_CombineRows_eq (n : Int) (rows : List S29) (ms : List Int) (hn : rows.length ≤ 1048576) (hx : ∀ x ∈ rows, x.f1.length ≤ 1048576) (k : Nat) (hk : 2097200 < k) : spec_CombineRows.f k n rows ms = some (combine n rows ms) := by
  unfold spec_CombineRows.f combine
  rw [spec_IsValidSystem_eq n rows (by omega) hx k (by omega), Option.bind_some]
  obtain ⟨k, rfl⟩ := succ_of hk
  simp only [spec_CombineRows.j0]
  by_cases hl : ms.length = rows.length
  · have h0 := spec_CombineRows_l0 n rows ms hl (by omega) hx rows.length 0 k (constLin 0 n) (by omega) (by omega) (constLin_length 0 n)
    rw [show ((0 : Nat) : Int) = 0 from rfl, List.drop_zero, List.drop_zero] at h0
    rw [spec_ConstLin_eq]; simp only [Option.bind_some]
    rw [h0]
    cases hv : validSys n rows <;> simp [hl]
  · have h2 : ¬ ((ms.length : Int) = (rows.length : Int)) := by omega
    cases hv : validSys n rows <;> simp [hl, h2]

/-- The place of the first that p takes, counted from i on; -1 where there is none. -/
def firstBy {α : Type} (p : α → Bool) : List α → Int → Int
  | [], _ => -1
  | x :: xs, i => if p x = true then i else firstBy p xs (i + 1)
theorem firstBy_any {α : Type} (p : α → Bool) : ∀ (xs : List α) (i : Int), 0 ≤ i → decide (firstBy p xs i ≥ 0) = xs.any p := by
  intro xs
  induction xs with
  | nil => intro i _; simp [firstBy]
  | cons x xs ih =>
    intro i hi
    simp only [firstBy, List.any_cons]
    by_cases h : p x = true
    · simp [h]; omega
    · have := ih (i + 1) (by omega)
      simp only [Bool.eq_false_iff.mpr h, Bool.false_eq_true, if_false, Bool.false_or]; exact this

theorem impl_within_eq (a b c : Int) : impl_within.f a b c = some (decide (b ≤ a ∧ a ≤ c)) := by
  unfold impl_within.f
  by_cases h : a ≥ b
  · rw [if_pos h]; congr 1; rw [decide_eq_decide]; omega
  · rw [if_neg h]; congr 1; symm; rw [decide_eq_false_iff_not]; omega

theorem impl_coeffOk_eq (n : Int) : impl_coeffOk.f n = some (okc n) := by unfold impl_coeffOk.f; rw [impl_within_eq]; rfl

theorem slices_IndexFunc_int_int__IsValidLin_1_l0 (p : Int → Bool) (hp : ∀ c, impl_IsValidLin_1.f c = some (p c)) (xs : List Int) (hn : xs.length ≤ 4611686018427387904) : ∀ (d j k : Nat), j + d = xs.length → d < k →
    slices_IndexFunc_int_int__IsValidLin_1.l0 k xs (xs.length : Int) (j : Int) = some (firstBy p (xs.drop j) (j : Int)) := by
  intro d
  induction d with
  | zero =>
    intro j k hj hk
    obtain ⟨k, rfl⟩ := succ_of hk
    simp only [slices_IndexFunc_int_int__IsValidLin_1.l0]
    rw [if_neg (by omega), List.drop_eq_nil_of_le (by omega)]; rfl
  | succ d ih =>
    intro j k hj hk
    obtain ⟨k, rfl⟩ := succ_of hk
    have hlt : j < xs.length := by omega
    simp only [slices_IndexFunc_int_int__IsValidLin_1.l0]
    rw [if_pos (by omega), if_pos (by omega), if_pos (by omega), rd_nat _ _ hlt, hp, Option.bind_some, wrap_succ hlt hn, ih (j + 1) k (by omega) (by omega), List.drop_eq_getElem_cons hlt]
    simp only [firstBy]
    split <;> rfl
theorem slices_ContainsFunc_int_int__IsValidLin_1_eq (p : Int → Bool) (hp : ∀ c, impl_IsValidLin_1.f c = some (p c)) (xs : List Int) (hn : xs.length ≤ 4611686018427387904) (k : Nat) (hk : xs.length < k) :
    slices_ContainsFunc_int_int__IsValidLin_1.f k xs () = some (xs.any p) := by
  unfold slices_ContainsFunc_int_int__IsValidLin_1.f slices_IndexFunc_int_int__IsValidLin_1.f
  have := slices_IndexFunc_int_int__IsValidLin_1_l0 p hp xs hn xs.length 0 k (by omega) hk
  rw [show ((0 : Nat) : Int) = 0 from rfl, List.drop_zero] at this
  rw [this, Option.bind_some, firstBy_any p xs 0 (by omega)]
theorem impl_IsValidLin_eq (c : Int) (cs : List Int) (n : Int) (hn : cs.length ≤ 4611686018427387904) (k : Nat) (hk : cs.length < k) : impl_IsValidLin.f k c cs n = some (validLin c cs n) := by
  unfold impl_IsValidLin.f validLin
  rw [impl_within_eq, impl_coeffOk_eq, slices_ContainsFunc_int_int__IsValidLin_1_eq (fun c => !(okc c)) (fun c => by unfold impl_IsValidLin_1.f; rw [impl_coeffOk_eq]; rfl) cs hn k hk]
  simp only [Option.bind_some, any_not_all]
  by_cases h1 : 0 ≤ n ∧ n ≤ 8 <;> by_cases h2 : (cs.length : Int) = n <;> cases h3 : okc c <;> simp [h1, h2]

theorem impl_IsValidSystem_l0 (n : Int) (rows : List S29) (hn : rows.length ≤ 4611686018427387904) (hx : ∀ x ∈ rows, x.f1.length ≤ 1048576) : ∀ (d j k : Nat), j + d = rows.length → d + 1048577 < k →
    impl_IsValidSystem.l0 k rows (rows.length : Int) (j : Int) n rows = some ((rows.drop j).all (fun r => validLin r.f0 r.f1 n)) := by
  intro d
  induction d with
  | zero =>
    intro j k hj hk
    obtain ⟨k, rfl⟩ := succ_of hk
    simp only [impl_IsValidSystem.l0]
    rw [if_neg (by omega), List.drop_eq_nil_of_le (by omega)]; rfl
  | succ d ih =>
    intro j k hj hk
    obtain ⟨k, rfl⟩ := succ_of hk
    have hlt : j < rows.length := by omega
    have hxj := hx _ (List.getElem_mem hlt)
    simp only [impl_IsValidSystem.l0]
    rw [if_pos (by omega), if_pos (by omega), if_pos (by omega), rd_lin _ _ hlt, impl_IsValidLin_eq _ _ _ (by omega) k (by omega), Option.bind_some, wrap_succ hlt hn, ih (j + 1) k (by omega) (by omega), List.drop_eq_getElem_cons hlt, List.all_cons]
    cases validLin rows[j].f0 rows[j].f1 n <;> simp
theorem impl_IsValidSystem_eq (n : Int) (rows : List S29) (hn : rows.length ≤ 1048577) (hx : ∀ x ∈ rows, x.f1.length ≤ 1048576) (k : Nat) (hk : 2097156 < k) : impl_IsValidSystem.f k n rows = some (validSys n rows) := by
  unfold impl_IsValidSystem.f validSys
  rw [impl_within_eq, Option.bind_some]
  obtain ⟨k, rfl⟩ := succ_of hk
  simp only [impl_IsValidSystem.j0]
  have := impl_IsValidSystem_l0 n rows (by omega) hx rows.length 0 k (by omega) (by omega)
  rw [show ((0 : Nat) : Int) = 0 from rfl, List.drop_zero] at this
  rw [this]
  by_cases h1 : 0 ≤ n ∧ n ≤ 8
  · by_cases h2 : rows.length ≤ 20
    · have : ¬ ((rows.length : Int) > 20) := by omega
      simp [h1, h2, this]
    · have : (rows.length : Int) > 20 := by omega
      simp [h1, h2, this]
  · simp [h1]

theorem impl_ConstLin_eq (k n : Int) : impl_ConstLin.f k n = some (constLin k n) := by
  unfold impl_ConstLin.f constLin
  rw [impl_within_eq, impl_coeffOk_eq]; simp only [Option.bind_some, decide_eq_true_eq]
  by_cases h : 0 ≤ n ∧ n ≤ 8
  · have h3 : n.toNat ≤ 35184372088832 := by omega
    rw [if_pos h, if_pos h.1, if_pos h3]; cases h2 : okc k
    · rw [if_neg (by simp), if_neg (by simp)]
    · rw [if_pos rfl, if_pos ⟨h, rfl⟩]
  · rw [if_neg h, if_neg (fun e => h e.1)]

theorem impl_AddLimited_eq (x y : Int) : impl_AddLimited.f x y = some (addLim x y) := by
  unfold impl_AddLimited.f addLim; simp only [impl_coeffOk_eq, Option.bind_some]; repeat (split <;> try rfl)

theorem impl_MulLimited_eq (x y : Int) : impl_MulLimited.f x y = some (mulLim x y) := by
  unfold impl_MulLimited.f mulLim; simp only [impl_coeffOk_eq, Option.bind_some]; repeat (split <;> try rfl)

theorem impl_scaled_eq (x k y : Int) : impl_scaled.f x k y = some (scVal x k y, scOk x k y) := by
  unfold impl_scaled.f scOk scVal
  rw [impl_MulLimited_eq, Option.bind_some, impl_AddLimited_eq, Option.bind_some]
  cases h : (mulLim k y).2 with
  | false => simp
  | true => simp

theorem impl_AddScaled_l0 (kk : Int) (n : Nat) (c : Int) (cs : List Int) (d : Int) (ds : List Int) (oc : Int) (h1 : cs.length = n) (h2 : ds.length = n) (hn : n ≤ 4611686018427387904) : ∀ (e j k : Nat) (p r : List Int) (all : Bool), j + e = n → e < k → p.length = j → r.length = e →
    impl_AddScaled.l0 k kk all (n : Int) (j : Int) c cs d ds oc (p ++ r) = some (if (all && okAll kk (cs.drop j) (ds.drop j)) = true then (oc, p ++ vals kk (cs.drop j) (ds.drop j), true) else (0, [], false)) := by
  intro e
  induction e with
  | zero =>
    intro j k p r all hj hk hp hr
    obtain ⟨k, rfl⟩ := succ_of hk
    have : r = [] := List.length_eq_zero_iff.1 hr
    subst this
    simp only [impl_AddScaled.l0]
    rw [if_neg (by omega), List.drop_eq_nil_of_le (by omega), List.drop_eq_nil_of_le (by omega)]
    cases all <;> simp [okAll, vals]
  | succ e ih =>
    intro j k p r all hj hk hp hr
    obtain ⟨k, rfl⟩ := succ_of hk
    cases r with
    | nil => simp at hr
    | cons y r =>
      have hj1 : j < cs.length := by omega
      have hj2 : j < ds.length := by omega
      simp only [impl_AddScaled.l0]
      rw [if_pos (by omega), if_pos (by omega), if_pos (by omega), if_pos (by omega), rd_nat _ _ hj1, rd_nat _ _ hj2, impl_scaled_eq, Option.bind_some, if_pos (by simp only [List.length_append, List.length_cons]; omega), Option.bind_some, wrap_succ (n := n) (by omega) hn, Int.toNat_natCast]
      have es : (p ++ y :: r).set j (scVal cs[j] kk ds[j]) = (p ++ [scVal cs[j] kk ds[j]]) ++ r := by generalize scVal cs[j] kk ds[j] = z; rw [← hp]; simp
      have hi := ih (j + 1) k (p ++ [scVal cs[j] kk ds[j]]) r
      have hz : vals kk (cs.drop j) (ds.drop j) = scVal cs[j] kk ds[j] :: vals kk (cs.drop (j + 1)) (ds.drop (j + 1)) := by unfold vals; exact drop_zip _ _ _ _ hj1 hj2
      rw [es, hi (scOk cs[j] kk ds[j]) (by omega) (by omega) (by simp; omega) (by simpa using hr), hi false (by omega) (by omega) (by simp; omega) (by simpa using hr), drop_okAll _ _ _ _ hj1 hj2, hz]
      cases all <;> simp
theorem impl_AddScaled_eq (c : Int) (cs : List Int) (kk : Int) (d : Int) (ds : List Int) (hn : cs.length ≤ 1048577) (hm : ds.length ≤ 1048577) (k : Nat) (hk : 1048600 < k) : impl_AddScaled.f k c cs kk d ds = some (addSc c cs kk d ds) := by
  unfold impl_AddScaled.f addSc
  rw [impl_IsValidLin_eq c cs _ (by omega) k (by omega), impl_IsValidLin_eq d ds _ (by omega) k (by omega), impl_coeffOk_eq]
  simp only [Option.bind_some]
  obtain ⟨k, rfl⟩ := succ_of hk
  simp only [impl_AddScaled.j0]
  cases hv : validLin c cs (cs.length : Int) with
  | false => simp
  | true =>
    cases hw : validLin d ds (cs.length : Int) with
    | false => simp
    | true =>
      cases ho : okc kk with
      | false => simp
      | true =>
        have h1 := (validLin_iff _ _ _).1 hv
        have h2 := (validLin_iff _ _ _).1 hw
        have hc : constLin 0 (cs.length : Int) = (0, List.replicate cs.length 0) := by unfold constLin; rw [if_pos ⟨h1.1, by rw [okc_iff]; omega⟩, Int.toNat_natCast]
        have hl := impl_AddScaled_l0 kk cs.length c cs d ds (scVal c kk d) rfl (by omega) (by omega) cs.length 0 k [] (List.replicate cs.length 0) (scOk c kk d) (by omega) (by omega) rfl (by simp)
        rw [show ((0 : Nat) : Int) = 0 from rfl, List.nil_append, List.drop_zero, List.drop_zero, List.nil_append] at hl
        rw [if_pos rfl, if_pos rfl, if_neg (by simp), impl_ConstLin_eq, Option.bind_some, hc, impl_scaled_eq, Option.bind_some, hl]
        simp only [true_and]
        cases scOk c kk d <;> cases okAll kk cs ds <;> simp

theorem slices_IndexFunc_int_int__CombineRows_1_l0 (p : Int → Bool) (hp : ∀ c, impl_CombineRows_1.f c = some (p c)) (xs : List Int) (hn : xs.length ≤ 4611686018427387904) : ∀ (d j k : Nat), j + d = xs.length → d < k →
    slices_IndexFunc_int_int__CombineRows_1.l0 k xs (xs.length : Int) (j : Int) = some (firstBy p (xs.drop j) (j : Int)) := by
  intro d
  induction d with
  | zero =>
    intro j k hj hk
    obtain ⟨k, rfl⟩ := succ_of hk
    simp only [slices_IndexFunc_int_int__CombineRows_1.l0]
    rw [if_neg (by omega), List.drop_eq_nil_of_le (by omega)]; rfl
  | succ d ih =>
    intro j k hj hk
    obtain ⟨k, rfl⟩ := succ_of hk
    have hlt : j < xs.length := by omega
    simp only [slices_IndexFunc_int_int__CombineRows_1.l0]
    rw [if_pos (by omega), if_pos (by omega), if_pos (by omega), rd_nat _ _ hlt, hp, Option.bind_some, wrap_succ hlt hn, ih (j + 1) k (by omega) (by omega), List.drop_eq_getElem_cons hlt]
    simp only [firstBy]
    split <;> rfl
theorem slices_ContainsFunc_int_int__CombineRows_1_eq (p : Int → Bool) (hp : ∀ c, impl_CombineRows_1.f c = some (p c)) (xs : List Int) (hn : xs.length ≤ 4611686018427387904) (k : Nat) (hk : xs.length < k) :
    slices_ContainsFunc_int_int__CombineRows_1.f k xs () = some (xs.any p) := by
  unfold slices_ContainsFunc_int_int__CombineRows_1.f slices_IndexFunc_int_int__CombineRows_1.f
  have := slices_IndexFunc_int_int__CombineRows_1_l0 p hp xs hn xs.length 0 k (by omega) hk
  rw [show ((0 : Nat) : Int) = 0 from rfl, List.drop_zero] at this
  rw [this, Option.bind_some, firstBy_any p xs 0 (by omega)]
theorem impl_CombineRows_l0 (n : Int) (rows : List S29) (ms : List Int) (hl : ms.length = rows.length) (hn : rows.length ≤ 4611686018427387904) (hx : ∀ x ∈ rows, x.f1.length ≤ 1048576) (hm : ∀ m ∈ ms, multOk m = true) : ∀ (d j k : Nat) (a : Int × List Int), j + d = rows.length → d + 1048600 < k → a.2.length ≤ 8 →
    impl_CombineRows.l0 k ms (ms.length : Int) (j : Int) n rows a.1 a.2 = some (combF a (rows.drop j) (ms.drop j)) := by
  intro d
  induction d with
  | zero =>
    intro j k a hj hk ha
    obtain ⟨k, rfl⟩ := succ_of hk
    simp only [impl_CombineRows.l0]
    rw [if_neg (by omega), List.drop_eq_nil_of_le (by omega)]
    simp [combF]
  | succ d ih =>
    intro j k a hj hk ha
    obtain ⟨k, rfl⟩ := succ_of hk
    have hlt : j < rows.length := by omega
    have hlm : j < ms.length := by omega
    have hxj := hx _ (List.getElem_mem hlt)
    have hmj := hm _ (List.getElem_mem hlm)
    have h1 : ¬ ms[j] < 0 := by unfold multOk at hmj; rw [decide_eq_true_eq] at hmj; omega
    simp only [impl_CombineRows.l0]
    rw [if_pos (by omega), if_pos (by omega), if_pos (by omega), if_pos (by omega), rd_lin _ _ hlt, rd_nat _ _ hlm, impl_AddScaled_eq _ _ _ _ _ (by omega) (by omega) k (by omega), Option.bind_some, wrap_succ hlt hn, List.drop_eq_getElem_cons hlt, List.drop_eq_getElem_cons hlm]
    simp only [combF]
    have hi := ih (j + 1) k ((addSc a.1 a.2 ms[j] rows[j].f0 rows[j].f1).1, (addSc a.1 a.2 ms[j] rows[j].f0 rows[j].f1).2.1) (by omega) (by omega) (addSc_length _ _ _ _ _)
    simp only at hi
    rw [hi, if_neg h1]
    split <;> rfl
theorem impl_CombineRows_eq (n : Int) (rows : List S29) (ms : List Int) (hn : rows.length ≤ 1048576) (hm : ms.length ≤ 1048576) (hx : ∀ x ∈ rows, x.f1.length ≤ 1048576) (k : Nat) (hk : 2097200 < k) : impl_CombineRows.f k n rows ms = some (combine n rows ms) := by
  unfold impl_CombineRows.f combine
  rw [impl_IsValidSystem_eq n rows (by omega) hx k (by omega), Option.bind_some]
  rw [slices_ContainsFunc_int_int__CombineRows_1_eq (fun c => !(multOk c)) (fun c => by unfold impl_CombineRows_1.f; rw [impl_within_eq]; rfl) ms (by omega) k (by omega), Option.bind_some]
  obtain ⟨k, rfl⟩ := succ_of hk
  simp only [impl_CombineRows.j0]
  by_cases hl : ms.length = rows.length
  · have e : (ms.any fun c => !(multOk c)) = !(ms.all multOk) := by rw [← any_not_all, Bool.not_not]
    rw [e]
    have hl2 : (ms.length : Int) = (rows.length : Int) := by omega
    cases ha : ms.all multOk
    · have h0 := combF_bad rows ms (constLin 0 n) hl ha
      rw [h0]
      cases hv : validSys n rows <;> simp [hl2]
    · have h0 := impl_CombineRows_l0 n rows ms hl (by omega) hx (by simpa using ha) rows.length 0 k (constLin 0 n) (by omega) (by omega) (constLin_length 0 n)
      rw [show ((0 : Nat) : Int) = 0 from rfl, List.drop_zero, List.drop_zero] at h0
      rw [impl_ConstLin_eq]; simp only [Option.bind_some]
      rw [h0]
      cases hv : validSys n rows <;> simp [hl]
  · have h2 : ¬ ((ms.length : Int) = (rows.length : Int)) := by omega
    cases hv : validSys n rows <;> simp [hl, h2]

theorem FnExactCombineRows : laws_FnExactCombineRows.Pure := by
  intro n rows ms _ hr hm
  have hx : ∀ x ∈ rows, x.f1.length ≤ 9223372036854775807 := fun x h => (hr.2 x h).2.1
  refine ⟨3000000, ?_⟩
  unfold laws_FnExactCombineRows.f
  by_cases hml : (ms.length : Int) > 1048576
  · rw [if_pos hml]
  rw [if_neg hml]
  rw [laws_szSystem_eq n rows _ hr.1 hx (by omega) (by omega) _ (by omega), Option.bind_some]
  by_cases z1 : szRows rows 1048576 < 0
  · rw [if_pos z1]
  rw [if_neg z1]
  obtain ⟨b1, b2, b3⟩ := szRows_len (xs := rows) (l := 1048576) (by omega)
  have b2 : ∀ x ∈ rows, x.f1.length ≤ 1048576 := fun x h => by have := b2 x h; omega
  have c2 := conv_len b2
  have c1 : (rows.map conv).length ≤ 1048576 := by rw [List.length_map]; omega
  have e1 := spec_CombineRows_eq n _ ms c1 c2 3000000 (by omega)
  have e2 := impl_CombineRows_eq n _ ms c1 (by omega) c2 3000000 (by omega)
  have hl := combine_length n (rows.map conv) ms
  have e3 := laws_toSystem_eq n rows (by omega) b2 3000000 (by omega)
  have e4 := laws_toIntS_eq ms (by omega) 3000000 (by omega)
  generalize combine n (rows.map conv) ms = R at e1 e2 hl
  generalize rows.map conv = ys at c1 c2 e1 e2 e3
  obtain ⟨c, cs, b⟩ := R
  simp only at hl
  rw [e3]; simp only [Option.bind_some]
  rw [e4]; simp only [Option.bind_some]
  rw [e1, e2]; simp only [Option.bind_some]
  rw [laws_eqLin_eq _ _ _ _ (by omega) _ (by omega)]; simp only [Option.bind_some, and_self, decide_true, if_true]
  rw [if_neg (by simp)]
  rw [laws_eqSystem_eq _ _ _ _ c1 c2 _ (by omega)]; simp only [Option.bind_some, and_self, decide_true, if_true]
  rw [laws_eqIntS_eq ms ms (by omega) _ (by omega)]; simp only [Option.bind_some, and_self, decide_true, if_true]
  have q1 := rowsLen_le _ c2
  rw [laws_markSystem_eq _ _ _ (by omega) c2 (by omega) (by omega) _ (by omega)]; simp only [Option.bind_some]
  rw [laws_markIntS_eq ms _ _ (by omega) (by omega) (by omega)]; simp only [Option.bind_some]
  rw [if_neg (by omega)]
  rw [laws_markLin_eq _ _ _ _ (by omega) (by omega) (by omega)]; simp only [Option.bind_some]
  rw [laws_heldLin_eq _ _ _ _ (by omega) (by omega) (by omega)]; simp only [Option.bind_some]
  rw [if_neg (by omega)]; simp only [if_true]
  rw [if_neg (by simp), if_neg (by omega)]

end Go.Proofs.Ytlencemmlgkflaa.Pure
