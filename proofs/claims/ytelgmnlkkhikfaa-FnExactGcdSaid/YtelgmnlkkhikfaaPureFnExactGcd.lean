/- The program's Gcd returns what the reference's returns, for all ints. -/
import Derived.Test.YtelgmnlkkhikfaaPFnExactGcdx1
namespace Go.Proofs.Ytelgmnlkkhikfaa.Pure
open Go.RowKit Go.Proofs.Ytelgmnlkkhikfaa.PFnExactGcd Go.Proofs.YtelgmnlkkhikfaaW.PrintWords Go.Proofs.YtelgmnlkkhikfaaW.PrintLast Go.Proofs.YtelgmnlkkhikfaaW.PrintMore
set_option linter.unusedVariables false
set_option linter.unusedSimpArgs false

/-- From -MaxCoeff to MaxCoeff. -/
def okc (n : Int) : Bool := decide (-1000000000 ≤ n ∧ n ≤ 1000000000)
theorem okc_iff (n : Int) : okc n = true ↔ -1000000000 ≤ n ∧ n ≤ 1000000000 := by unfold okc; exact decide_eq_true_iff
theorem okc_false (n : Int) : okc n = false ↔ ¬ (-1000000000 ≤ n ∧ n ≤ 1000000000) := by unfold okc; exact decide_eq_false_iff_not

/-- Gcd. -/
def gcdOf (x y : Int) : Int := if okc x = true ∧ okc y = true then (Int.gcd x y : Int) else 0
theorem gcd_step (x y : Int) : Int.gcd y (Int.tmod x y) = Int.gcd x y := by
  unfold Int.gcd
  rw [Int.natAbs_tmod, Nat.gcd_comm x.natAbs, Nat.gcd_rec y.natAbs x.natAbs, Nat.gcd_comm]

theorem spec_l1In_eq (a b c : Int) : spec_l1In.f a b c = some (decide (b ≤ a ∧ a ≤ c)) := by
  unfold spec_l1In.f
  by_cases h : a ≥ b
  · rw [if_pos h]; congr 1; rw [decide_eq_decide]; omega
  · rw [if_neg h]; congr 1; symm; rw [decide_eq_false_iff_not]; omega

theorem spec_l3In_eq (n : Int) : spec_l3In.f n = some (okc n) := by unfold spec_l3In.f; rw [spec_l1In_eq]; rfl

theorem wrap_id {n : Int} (h0 : -9223372036854775808 ≤ n) (h1 : n ≤ 9223372036854775807) : wrap64 n = n := by
  unfold wrap64; omega
theorem wrap_succ {j n : Nat} (h : j < n) (hn : n ≤ 4611686018427387904) : wrap64 ((j : Int) + 1) = ((j + 1 : Nat) : Int) := by
  unfold wrap64; omega
theorem succ_of {d k : Nat} (h : d < k) : ∃ m, k = m + 1 := ⟨k - 1, by omega⟩
theorem lit_int {n : Int} (h : (Lit.int .i64 n).wf = true) : -9223372036854775808 ≤ n ∧ n ≤ 9223372036854775807 := by
  simpa [Lit.wf, IntKind.min, IntKind.max, IntKind.signed, IntKind.bits] using h

theorem spec_l3Size_eq (n : Int) (h : okc n = true) : spec_l3Size.f n = some (n.natAbs : Int) := by
  rw [okc_iff] at h
  unfold spec_l3Size.f
  split
  · rw [wrap_id (by omega) (by omega)]; congr 1; omega
  · congr 1; omega
theorem spec_Gcd_l0 : ∀ (n k : Nat) (a b : Int), 0 ≤ a → 0 ≤ b → b.toNat ≤ n → n < k → spec_Gcd.l0 k a b = some (Int.gcd a b : Int) := by
  intro n
  induction n with
  | zero =>
    intro k a b ha hb hn hk
    obtain ⟨k, rfl⟩ := succ_of hk
    have : b = 0 := by omega
    subst this
    simp only [spec_Gcd.l0]
    rw [if_neg (by omega)]; congr 1; simp [Int.gcd]; omega
  | succ n ih =>
    intro k a b ha hb hn hk
    obtain ⟨k, rfl⟩ := succ_of hk
    simp only [spec_Gcd.l0]
    by_cases h : b > 0
    · have h1 : 0 ≤ Int.tmod a b := Int.tmod_nonneg _ ha
      have h2 : Int.tmod a b < b := Int.tmod_lt_of_pos _ h
      rw [if_pos h, if_neg (by omega), ih k b (Int.tmod a b) hb h1 (by omega) (by omega), gcd_step]
    · have : b = 0 := by omega
      subst this
      rw [if_neg (by omega)]; congr 1; simp [Int.gcd]; omega
theorem spec_Gcd_eq (x y : Int) (k : Nat) (hk : 1000000001 < k) : spec_Gcd.f k x y = some (gcdOf x y) := by
  obtain ⟨k, rfl⟩ := succ_of hk
  unfold spec_Gcd.f gcdOf
  rw [spec_l3In_eq, spec_l3In_eq]; simp only [Option.bind_some, spec_Gcd.j0]
  cases hx : okc x with
  | false => simp
  | true =>
    cases hy : okc y with
    | false => simp
    | true =>
      have hx' := (okc_iff x).1 hx
      have hy' := (okc_iff y).1 hy
      simp only [Bool.not_true, if_true, and_self, Bool.false_eq_true, if_false]
      rw [spec_l3Size_eq x hx, spec_l3Size_eq y hy]; simp only [Option.bind_some]
      rw [spec_Gcd_l0 1000000000 k _ _ (by omega) (by omega) (by omega) (by omega)]
      simp [Int.gcd]

theorem impl_within_eq (a b c : Int) : impl_within.f a b c = some (decide (b ≤ a ∧ a ≤ c)) := by
  unfold impl_within.f
  by_cases h : a ≥ b
  · rw [if_pos h]; congr 1; rw [decide_eq_decide]; omega
  · rw [if_neg h]; congr 1; symm; rw [decide_eq_false_iff_not]; omega

theorem impl_coeffOk_eq (n : Int) : impl_coeffOk.f n = some (okc n) := by unfold impl_coeffOk.f; rw [impl_within_eq]; rfl

theorem impl_Gcd_l0 : ∀ (n k : Nat) (a b : Int), okc a = true → okc b = true → b.natAbs ≤ n → n < k → impl_Gcd.l0 k a b = some (Int.gcd a b : Int) := by
  intro n
  induction n with
  | zero =>
    intro k a b ha hb hn hk
    obtain ⟨k, rfl⟩ := succ_of hk
    have : b = 0 := by omega
    subst this
    have := (okc_iff a).1 ha
    unfold impl_Gcd.l0
    rw [if_pos rfl, wrap_id (by omega) (by omega)]; congr 1; unfold mx; simp only [Int.gcd, Int.natAbs_zero, Nat.gcd_zero_right]; split <;> omega
  | succ n ih =>
    intro k a b ha hb hn hk
    obtain ⟨k, rfl⟩ := succ_of hk
    have ha' := (okc_iff a).1 ha
    have hb' := (okc_iff b).1 hb
    unfold impl_Gcd.l0
    by_cases h : b = 0
    · subst h
      rw [if_pos rfl, wrap_id (by omega) (by omega)]; congr 1; unfold mx; simp only [Int.gcd, Int.natAbs_zero, Nat.gcd_zero_right]; split <;> omega
    · have h1 : (Int.tmod a b).natAbs = a.natAbs % b.natAbs := Int.natAbs_tmod a b
      have h2 : a.natAbs % b.natAbs < b.natAbs := Nat.mod_lt _ (by omega)
      rw [if_neg h, ih k b (Int.tmod a b) hb ((okc_iff _).2 (by omega)) (by omega) (by omega), gcd_step]
theorem impl_Gcd_eq (x y : Int) (k : Nat) (hk : 1000000001 < k) : impl_Gcd.f k x y = some (gcdOf x y) := by
  obtain ⟨k, rfl⟩ := succ_of hk
  unfold impl_Gcd.f gcdOf
  rw [impl_coeffOk_eq, impl_coeffOk_eq]; simp only [Option.bind_some, impl_Gcd.j0]
  cases hx : okc x with
  | false => simp
  | true =>
    cases hy : okc y with
    | false => simp
    | true =>
      have hx' := (okc_iff x).1 hx
      have hy' := (okc_iff y).1 hy
      simp only [Bool.not_true, if_true, and_self, Bool.false_eq_true, if_false]
      rw [impl_Gcd_l0 1000000000 k _ _ hx hy (by omega) (by omega)]

theorem FnExactGcd : laws_FnExactGcd.Pure := by
  intro x y _ _
  refine ⟨1000000002, ?_⟩
  unfold laws_FnExactGcd.f
  rw [spec_Gcd_eq x y _ (by omega), impl_Gcd_eq x y _ (by omega)]
  simp

end Go.Proofs.Ytelgmnlkkhikfaa.Pure
