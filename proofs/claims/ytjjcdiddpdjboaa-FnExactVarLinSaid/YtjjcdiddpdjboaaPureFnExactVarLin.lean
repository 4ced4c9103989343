/- The program's VarLin returns what the reference's returns, for all ints, in memory of its own. -/
import Derived.Test.YtjjcdiddpdjboaaQFnExactVarLinx2
namespace Go.Proofs.Ytjjcdiddpdjboaa.Pure
open Go.RowKit Go.Proofs.YtjjcdiddpdjboaaV.PrintWords Go.Proofs.YtjjcdiddpdjboaaV.PrintLast Go.Proofs.YtjjcdiddpdjboaaV.PrintMore Go.Proofs.Ytjjcdiddpdjboaa.QFnExactVarLin
set_option linter.unusedVariables false
set_option linter.unusedSimpArgs false

/-- From -MaxCoeff to MaxCoeff. -/
def okc (n : Int) : Bool := decide (-1000000000 ≤ n ∧ n ≤ 1000000000)
theorem okc_iff (n : Int) : okc n = true ↔ -1000000000 ≤ n ∧ n ≤ 1000000000 := by unfold okc; exact decide_eq_true_iff
theorem okc_false (n : Int) : okc n = false ↔ ¬ (-1000000000 ≤ n ∧ n ≤ 1000000000) := by unfold okc; exact decide_eq_false_iff_not

/-- VarLin. -/
def varLin (i n : Int) : Int × List Int := if (0 ≤ n ∧ n ≤ 8) ∧ (0 ≤ i ∧ i ≤ n - 1) then (0, (List.replicate n.toNat 0).set i.toNat 1) else (0, [])

theorem spec_l1In_eq (a b c : Int) : spec_l1In.f a b c = some (decide (b ≤ a ∧ a ≤ c)) := by
  unfold spec_l1In.f
  by_cases h : a ≥ b
  · rw [if_pos h]; congr 1; rw [decide_eq_decide]; omega
  · rw [if_neg h]; congr 1; symm; rw [decide_eq_false_iff_not]; omega

theorem wrap_id {n : Int} (h0 : -9223372036854775808 ≤ n) (h1 : n ≤ 9223372036854775807) : wrap64 n = n := by
  unfold wrap64; omega
theorem wrap_succ {j n : Nat} (h : j < n) (hn : n ≤ 4611686018427387904) : wrap64 ((j : Int) + 1) = ((j + 1 : Nat) : Int) := by
  unfold wrap64; omega
theorem succ_of {d k : Nat} (h : d < k) : ∃ m, k = m + 1 := ⟨k - 1, by omega⟩
theorem lit_int {n : Int} (h : (Lit.int .i64 n).wf = true) : -9223372036854775808 ≤ n ∧ n ≤ 9223372036854775807 := by
  simpa [Lit.wf, IntKind.min, IntKind.max, IntKind.signed, IntKind.bits] using h

theorem spec_VarLin_eq (i n : Int) (hn : -9223372036854775808 ≤ n ∧ n ≤ 9223372036854775807) : spec_VarLin.f i n = some (varLin i n) := by
  unfold spec_VarLin.f varLin
  rw [spec_l1In_eq, spec_l1In_eq]; simp only [Option.bind_some, decide_eq_true_eq]
  by_cases h : 0 ≤ n ∧ n ≤ 8
  · rw [if_pos h, wrap_id (by omega) (by omega)]
    by_cases h2 : 0 ≤ i ∧ i ≤ n - 1
    · have h3 : n.toNat ≤ 35184372088832 := by omega
      rw [if_pos h2, if_pos h.1, if_pos h3, if_pos h2.1, if_pos (by rw [List.length_replicate]; omega), if_pos ⟨h, h2⟩]
    · rw [if_neg h2, if_neg (fun e => h2 e.2)]
  · rw [if_neg h, if_neg (fun e => h e.1)]

theorem impl_within_eq (a b c : Int) : impl_within.f a b c = some (decide (b ≤ a ∧ a ≤ c)) := by
  unfold impl_within.f
  by_cases h : a ≥ b
  · rw [if_pos h]; congr 1; rw [decide_eq_decide]; omega
  · rw [if_neg h]; congr 1; symm; rw [decide_eq_false_iff_not]; omega

/-- ConstLin. -/
def constLin (k n : Int) : Int × List Int := if (0 ≤ n ∧ n ≤ 8) ∧ okc k = true then (k, List.replicate n.toNat 0) else (0, [])

theorem impl_coeffOk_eq (n : Int) : impl_coeffOk.f n = some (okc n) := by unfold impl_coeffOk.f; rw [impl_within_eq]; rfl

theorem impl_ConstLin_eq (k n : Int) : impl_ConstLin.f k n = some (constLin k n) := by
  unfold impl_ConstLin.f constLin
  rw [impl_within_eq, impl_coeffOk_eq]; simp only [Option.bind_some, decide_eq_true_eq]
  by_cases h : 0 ≤ n ∧ n ≤ 8
  · have h3 : n.toNat ≤ 35184372088832 := by omega
    rw [if_pos h, if_pos h.1, if_pos h3]; cases h2 : okc k
    · rw [if_neg (by simp), if_neg (by simp)]
    · rw [if_pos rfl, if_pos ⟨h, rfl⟩]
  · rw [if_neg h, if_neg (fun e => h e.1)]

theorem impl_VarLin_eq (i n : Int) (hn : -9223372036854775808 ≤ n ∧ n ≤ 9223372036854775807) : impl_VarLin.f i n = some (varLin i n) := by
  unfold impl_VarLin.f varLin
  rw [impl_within_eq, impl_within_eq, impl_ConstLin_eq]; simp only [Option.bind_some, decide_eq_true_eq]
  by_cases h : 0 ≤ n ∧ n ≤ 8
  · rw [if_pos h, wrap_id (by omega) (by omega)]
    have hc : constLin 0 n = (0, List.replicate n.toNat 0) := by unfold constLin; rw [if_pos ⟨h, by rw [okc_iff]; omega⟩]
    by_cases h2 : 0 ≤ i ∧ i ≤ n - 1
    · rw [if_pos h2, hc, if_pos h2.1, if_pos (by rw [List.length_replicate]; omega), if_pos ⟨h, h2⟩]
    · rw [if_neg h2, if_neg (fun e => h2 e.2)]
  · rw [if_neg h, if_neg (fun e => h e.1)]

theorem rdOf_nat {α : Type} (d : α) (xs : List α) (j : Nat) (h : j < xs.length) : rdOf d xs (j : Int) = xs[j] := by
  unfold rdOf; rw [Int.toNat_natCast, List.getD_eq_getElem?_getD, List.getElem?_eq_getElem h]; rfl
theorem rd_nat (xs : List Int) (j : Nat) (h : j < xs.length) : rd xs (j : Int) = xs[j] := by
  unfold rd; rw [Int.toNat_natCast, List.getD_eq_getElem?_getD, List.getElem?_eq_getElem h]; rfl

theorem laws_eqIntS_l0 (a b : List Int) (hab : a.length = b.length) (hn : a.length ≤ 4611686018427387904) : ∀ (d j k : Nat), j + d = a.length → d < k →
    laws_eqIntS.l0 k a b (j : Int) = some (decide (a.drop j = b.drop j)) := by
  intro d
  induction d with
  | zero =>
    intro j k hj hk
    obtain ⟨k, rfl⟩ := succ_of hk
    simp only [laws_eqIntS.l0]
    rw [if_neg (by omega), List.drop_eq_nil_of_le (by omega), List.drop_eq_nil_of_le (by omega)]; simp
  | succ d ih =>
    intro j k hj hk
    obtain ⟨k, rfl⟩ := succ_of hk
    have hlt : j < a.length := by omega
    simp only [laws_eqIntS.l0]
    rw [if_pos (by omega), if_pos (by omega), if_pos (by omega), rd_nat _ _ hlt, rd_nat _ _ (by omega), wrap_succ hlt hn, ih (j + 1) k (by omega) (by omega), List.drop_eq_getElem_cons hlt, List.drop_eq_getElem_cons (hab ▸ hlt : j < b.length)]
    simp only [List.cons.injEq]
    by_cases h : a[j] = b[j]
    · rw [if_pos h]; simp only [h, true_and]
    · rw [if_neg h]; simp only [h, false_and, decide_false]
theorem laws_eqIntS_eq (a b : List Int) (hn : a.length ≤ 4611686018427387904) (k : Nat) (hk : a.length < k) : laws_eqIntS.f k a b = some (decide (a = b)) := by
  unfold laws_eqIntS.f
  by_cases h : a.length = b.length
  · rw [if_pos (by omega)]
    have := laws_eqIntS_l0 a b h hn a.length 0 k (by omega) hk
    simpa using this
  · rw [if_neg (by omega)]; congr 1; symm; rw [decide_eq_false_iff_not]; intro e; exact h (by rw [e])

theorem laws_eqLin_eq (c : Int) (a : List Int) (c' : Int) (b : List Int) (hn : a.length ≤ 4611686018427387904) (k : Nat) (hk : a.length < k) : laws_eqLin.f k c a c' b = some (decide (c = c' ∧ a = b)) := by
  unfold laws_eqLin.f
  rw [laws_eqIntS_eq a b hn k hk]
  by_cases h : c = c' <;> by_cases h2 : a = b <;> simp [h, h2]

/-- d numbers from m on. -/
def iota (m : Int) : Nat → List Int
  | 0 => []
  | d + 1 => m :: iota (m + 1) d
theorem iota_length : ∀ (d : Nat) (m : Int), (iota m d).length = d := by
  intro d; induction d with
  | zero => intro m; rfl
  | succ d ih => intro m; simp [iota, ih]
theorem iota_get : ∀ (d j : Nat) (m : Int) (h : j < (iota m d).length), (iota m d)[j] = m + j := by
  intro d; induction d with
  | zero => intro j m h; simp [iota] at h
  | succ d ih =>
    intro j m h
    cases j with
    | zero => simp [iota]
    | succ j => simp only [iota, List.getElem_cons_succ]; rw [ih]; omega

theorem laws_markIntS_l0 : ∀ (d : Nat) (p xs : List Int) (m : Int) (k : Nat), xs.length = d → d < k → 0 ≤ m → m + d ≤ 4611686018427387904 → p.length + d ≤ 4611686018427387904 →
    laws_markIntS.l0 k (p ++ xs) m (p.length : Int) = some (m + d, p ++ iota m d) := by
  intro d
  induction d with
  | zero =>
    intro p xs m k hx hk h0 hm hp
    obtain ⟨k, rfl⟩ := succ_of hk
    have : xs = [] := List.length_eq_zero_iff.1 hx
    subst this
    simp only [laws_markIntS.l0]
    rw [if_neg (by simp)]; simp [iota]
  | succ d ih =>
    intro p xs m k hx hk h0 hm hp
    obtain ⟨k, rfl⟩ := succ_of hk
    cases xs with
    | nil => simp at hx
    | cons x xs =>
      simp only [laws_markIntS.l0]
      rw [if_pos (by simp only [List.length_append, List.length_cons]; omega), if_pos (by omega), wrap_id (by omega) (by omega), wrap_id (by omega) (by omega), Int.toNat_natCast]
      have e : (p ++ x :: xs).set p.length m = (p ++ [m]) ++ xs := by simp
      have := ih (p ++ [m]) xs (m + 1) k (by simpa using hx) (by omega) (by omega) (by omega) (by simp; omega)
      rw [e, show ((p.length : Int) + 1) = ((p ++ [m]).length : Int) by simp, this]
      simp [iota]; omega
theorem laws_markIntS_eq (xs : List Int) (m : Int) (k : Nat) (hk : xs.length < k) (h0 : 0 ≤ m) (hm : m + xs.length ≤ 4611686018427387904) :
    laws_markIntS.f k xs m = some (m + xs.length, iota m xs.length) := by
  unfold laws_markIntS.f
  have := laws_markIntS_l0 xs.length [] xs m k rfl hk h0 hm (by simp; omega)
  simpa using this

theorem laws_markLin_eq (c : Int) (xs : List Int) (m : Int) (k : Nat) (hk : xs.length < k) (h0 : 0 ≤ m) (hm : m + xs.length ≤ 4611686018427387904) :
    laws_markLin.f k c xs m = some (m + xs.length, iota m xs.length) := by
  unfold laws_markLin.f; rw [laws_markIntS_eq xs m k hk h0 hm]; rfl

theorem laws_heldIntS_l0 (m : Int) (n : Nat) (h0 : 0 ≤ m) (hm : m + n ≤ 4611686018427387904) : ∀ (d j k : Nat), j + d = n → d < k →
    laws_heldIntS.l0 k (iota m n) (m + j) (j : Int) = some (m + n) := by
  intro d
  induction d with
  | zero =>
    intro j k hj hk
    obtain ⟨k, rfl⟩ := succ_of hk
    simp only [laws_heldIntS.l0]
    rw [if_neg (by rw [iota_length]; omega)]; congr 1; omega
  | succ d ih =>
    intro j k hj hk
    obtain ⟨k, rfl⟩ := succ_of hk
    simp only [laws_heldIntS.l0]
    rw [if_pos (by rw [iota_length]; omega), if_pos (by omega), rd_nat _ _ (by rw [iota_length]; omega), iota_get, if_pos rfl, wrap_id (by omega) (by omega), wrap_id (by omega) (by omega)]
    have := ih (j + 1) k (by omega) (by omega)
    rw [← this]; congr 1 <;> omega
theorem laws_heldIntS_eq (m : Int) (n : Nat) (k : Nat) (hk : n < k) (h0 : 0 ≤ m) (hm : m + n ≤ 4611686018427387904) : laws_heldIntS.f k (iota m n) m = some (m + n) := by
  unfold laws_heldIntS.f
  have := laws_heldIntS_l0 m n h0 hm n 0 k (by omega) hk
  simpa using this

theorem laws_heldLin_eq (c : Int) (m : Int) (n : Nat) (k : Nat) (hk : n < k) (h0 : 0 ≤ m) (hm : m + n ≤ 4611686018427387904) : laws_heldLin.f k c (iota m n) m = some (m + n) := by
  unfold laws_heldLin.f; rw [laws_heldIntS_eq m n k hk h0 hm]; simp only [Option.bind_some]; rw [if_neg (by omega)]

theorem FnExactVarLin : laws_FnExactVarLin.Pure := by
  intro i n _ hn
  have hn := lit_int hn
  refine ⟨100, ?_⟩
  have hl : (varLin i n).2.length ≤ 8 := by
    unfold varLin; split
    · simp; omega
    · simp
  unfold laws_FnExactVarLin.f
  rw [spec_VarLin_eq i n hn, impl_VarLin_eq i n hn]; simp only [Option.bind_some]
  rw [laws_eqLin_eq _ _ _ _ (by omega) _ (by omega)]
  rw [laws_markLin_eq _ _ _ _ (by omega) (by omega) (by omega)]
  simp only [Option.bind_some]
  rw [laws_heldLin_eq _ _ _ _ (by omega) (by omega) (by omega)]
  simp only [Option.bind_some, and_self, decide_true, if_true]
  rw [if_neg (by omega), if_neg (by omega)]

end Go.Proofs.Ytjjcdiddpdjboaa.Pure
