/- Limited sums and products are exact, divisions are rounded down, and divisors divide: the law FnArithmetic returns true at every draw. -/
import Derived.Test.YtjjcdiddpdjboaaQFnArithmeticx3
namespace Go.Proofs.Ytjjcdiddpdjboaa.Pure
open Go.RowKit Go.Proofs.YtjjcdiddpdjboaaV.PrintWords Go.Proofs.YtjjcdiddpdjboaaV.PrintLast Go.Proofs.YtjjcdiddpdjboaaV.PrintMore Go.Proofs.Ytjjcdiddpdjboaa.QFnArithmetic
set_option linter.unusedVariables false
set_option linter.unusedSimpArgs false

theorem wrap_id {n : Int} (h0 : -9223372036854775808 ≤ n) (h1 : n ≤ 9223372036854775807) : wrap64 n = n := by
  unfold wrap64; omega
theorem wrap_succ {j n : Nat} (h : j < n) (hn : n ≤ 4611686018427387904) : wrap64 ((j : Int) + 1) = ((j + 1 : Nat) : Int) := by
  unfold wrap64; omega
theorem succ_of {d k : Nat} (h : d < k) : ∃ m, k = m + 1 := ⟨k - 1, by omega⟩
theorem lit_int {n : Int} (h : (Lit.int .i64 n).wf = true) : -9223372036854775808 ≤ n ∧ n ≤ 9223372036854775807 := by
  simpa [Lit.wf, IntKind.min, IntKind.max, IntKind.signed, IntKind.bits] using h

theorem rdOf_nat {α : Type} (d : α) (xs : List α) (j : Nat) (h : j < xs.length) : rdOf d xs (j : Int) = xs[j] := by
  unfold rdOf; rw [Int.toNat_natCast, List.getD_eq_getElem?_getD, List.getElem?_eq_getElem h]; rfl
theorem rd_nat (xs : List Int) (j : Nat) (h : j < xs.length) : rd xs (j : Int) = xs[j] := by
  unfold rd; rw [Int.toNat_natCast, List.getD_eq_getElem?_getD, List.getElem?_eq_getElem h]; rfl

/-- A cursor: the place lies in the bytes. -/
def Cur (b : List Int) (i : Int) : Prop := 0 ≤ i ∧ i ≤ (b.length : Int) ∧ b.length ≤ 140737488351232
theorem and255 (x : Int) : 0 ≤ Go.bits .and .i64 x 255 ∧ Go.bits .and .i64 x 255 ≤ 255 := by
  have h : (BitVec.ofInt 64 x &&& BitVec.ofInt 64 255).toNat ≤ 255 := by rw [BitVec.toNat_and]; exact Nat.le_trans Nat.and_le_right (by decide)
  have e : Go.bits .and .i64 x 255 = IntKind.i64.wrap (((BitVec.ofInt 64 x &&& BitVec.ofInt 64 255).toNat : Nat) : Int) := rfl
  rw [e, IntKind.wrap_i64]
  omega

theorem spec_l1New_l0 (b : List Int) (hb : b.length ≤ 140737488351232) : ∀ (d j k : Nat) (h : Int), j + d = b.length → d < k → ∃ h', spec_l1New.l0 k b h (j : Int) = some (b, 0, h') := by
  intro d
  induction d with
  | zero =>
    intro j k h hj hk
    obtain ⟨k, rfl⟩ := succ_of hk
    simp only [spec_l1New.l0]
    rw [if_neg (by omega)]
    exact ⟨_, rfl⟩
  | succ d ih =>
    intro j k h hj hk
    obtain ⟨k, rfl⟩ := succ_of hk
    have hlt : j < b.length := by omega
    simp only [spec_l1New.l0]
    rw [if_pos (by omega)]
    by_cases h4 : (j : Int) < 4000
    · rw [if_pos h4, if_pos (by omega), wrap_succ hlt (by omega)]
      exact ih (j + 1) k _ (by omega) (by omega)
    · rw [if_neg h4]; exact ⟨_, rfl⟩
theorem spec_l1New_ex (b : List Int) (hb : b.length ≤ 140737488351232) (k : Nat) (hk : b.length < k) : ∃ h', spec_l1New.f k b = some (b, 0, h') := by
  unfold spec_l1New.f
  exact spec_l1New_l0 b hb b.length 0 k _ (by omega) hk
theorem cur_zero (b : List Int) (hb : b.length ≤ 140737488351232) : Cur b 0 := ⟨Int.le_refl _, by omega, hb⟩

theorem spec_l1Byte_ex (b : List Int) (i h : Int) (hc : Cur b i) : ∃ r i' h', spec_l1Byte.f b i h = some (r, i', h') ∧ 0 ≤ r ∧ r ≤ 255 ∧ Cur b i' := by
  obtain ⟨h0, h1, h2⟩ := hc
  unfold spec_l1Byte.f
  by_cases hlt : i < (b.length : Int)
  · rw [if_pos hlt, if_pos h0]
    refine ⟨_, _, _, rfl, (and255 _).1, (and255 _).2, ?_⟩
    rw [wrap_id (by omega) (by omega)]
    exact ⟨by omega, by omega, h2⟩
  · rw [if_neg hlt]
    exact ⟨_, _, _, rfl, (and255 _).1, (and255 _).2, h0, h1, h2⟩

theorem spec_l1Below_ex (b : List Int) (i h n : Int) (hc : Cur b i) : ∃ r i' h', spec_l1Below.f b i h n = some (r, i', h') ∧ 0 ≤ r ∧ (0 < n → r < n) ∧ (n ≤ 0 → r = 0) ∧ Cur b i' := by
  unfold spec_l1Below.f
  by_cases h0 : n ≤ 0
  · rw [if_pos h0]; exact ⟨0, _, _, rfl, by omega, by omega, fun _ => rfl, hc⟩
  rw [if_neg h0]
  by_cases h1 : n ≤ 256
  · rw [if_pos h1]
    obtain ⟨r, i', h', e, r0, r1, c1⟩ := spec_l1Byte_ex b i h hc
    rw [e]; simp only [Option.bind_some]
    rw [if_neg (by omega)]
    exact ⟨_, _, _, rfl, Int.tmod_nonneg _ r0, fun _ => Int.tmod_lt_of_pos _ (by omega), by omega, c1⟩
  · rw [if_neg h1]
    obtain ⟨x, i1, g1, e1, x0, x1, c1⟩ := spec_l1Byte_ex b i h hc
    rw [e1]; simp only [Option.bind_some]
    obtain ⟨y, i2, g2, e2, y0, y1, c2⟩ := spec_l1Byte_ex b i1 g1 c1
    rw [e2]; simp only [Option.bind_some]
    obtain ⟨z, i3, g3, e3, z0, z1, c3⟩ := spec_l1Byte_ex b i2 g2 c2
    rw [e3]; simp only [Option.bind_some]
    obtain ⟨u, i4, g4, e4, u0, u1, c4⟩ := spec_l1Byte_ex b i3 g3 c3
    rw [e4]; simp only [Option.bind_some]
    rw [if_neg (by omega)]
    refine ⟨_, _, _, rfl, Int.tmod_nonneg _ ?_, fun _ => Int.tmod_lt_of_pos _ (by omega), by omega, c4⟩
    unfold wrap64; omega

theorem spec_l1PickInt_ex (b : List Int) (i h : Int) (l : List Int) (hl : 0 < l.length) (hc : Cur b i) : ∃ r i' h', spec_l1PickInt.f b i h l = some (r, i', h') ∧ r ∈ l ∧ Cur b i' := by
  unfold spec_l1PickInt.f
  obtain ⟨r, i', h', e, r0, r1, _, c1⟩ := spec_l1Below_ex b i h (l.length : Int) hc
  have r1 := r1 (by omega)
  rw [e]; simp only [Option.bind_some]
  rw [if_pos r0, if_pos r1]
  refine ⟨_, _, _, rfl, ?_, c1⟩
  have hlt : r.toNat < l.length := by omega
  have := rd_nat l r.toNat hlt
  rw [Int.toNat_of_nonneg r0] at this
  rw [this]; exact List.getElem_mem hlt

theorem spec_l3Any_ex (b : List Int) (i h : Int) (hc : Cur b i) : ∃ r i' h', spec_l3Any.f b i h = some (r, i', h') ∧ (-9223372036854775808 ≤ r ∧ r ≤ 9223372036854775807) ∧ Cur b i' := by
  unfold spec_l3Any.f
  obtain ⟨r, i', h', e, hm, c1⟩ := spec_l1PickInt_ex b i h [0, 1, (-1), 2, 5, (-6), 12, 1000000, (-1000001), 1000000000, (-1000000000), 1000000001, 40000, 9223372036854775807, (-9223372036854775808)] (by simp) hc
  rw [e]; simp only [Option.bind_some]
  refine ⟨_, _, _, rfl, ?_, c1⟩
  simp only [List.mem_cons, List.not_mem_nil, or_false] at hm
  omega

theorem spec_l3Two_ex (b : List Int) (hb : b.length ≤ 140737488351232) (k : Nat) (hk : b.length < k) : ∃ x y, spec_l3Two.f k b = some (x, y) ∧ (-9223372036854775808 ≤ x ∧ x ≤ 9223372036854775807) ∧ (-9223372036854775808 ≤ y ∧ y ≤ 9223372036854775807) := by
  unfold spec_l3Two.f
  obtain ⟨h0, e0⟩ := spec_l1New_ex b hb k hk
  rw [e0]; simp only [Option.bind_some]
  obtain ⟨x, i1, h1, e1, hx, c1⟩ := spec_l3Any_ex b 0 h0 (cur_zero b hb)
  rw [e1]; simp only [Option.bind_some]
  obtain ⟨y, i2, h2, e2, hy, c2⟩ := spec_l3Any_ex b i1 h1 c1
  rw [e2]; simp only [Option.bind_some]
  exact ⟨x, y, rfl, hx, hy⟩

/-- From -MaxCoeff to MaxCoeff. -/
def okc (n : Int) : Bool := decide (-1000000000 ≤ n ∧ n ≤ 1000000000)
theorem okc_iff (n : Int) : okc n = true ↔ -1000000000 ≤ n ∧ n ≤ 1000000000 := by unfold okc; exact decide_eq_true_iff
theorem okc_false (n : Int) : okc n = false ↔ ¬ (-1000000000 ≤ n ∧ n ≤ 1000000000) := by unfold okc; exact decide_eq_false_iff_not

/-- AddLimited. -/
def addLim (x y : Int) : Int × Bool := if okc x = true then (if okc y = true then (if okc (wrap64 (x + y)) = true then (wrap64 (x + y), true) else (0, false)) else (0, false)) else (0, false)

theorem spec_l1In_eq (a b c : Int) : spec_l1In.f a b c = some (decide (b ≤ a ∧ a ≤ c)) := by
  unfold spec_l1In.f
  by_cases h : a ≥ b
  · rw [if_pos h]; congr 1; rw [decide_eq_decide]; omega
  · rw [if_neg h]; congr 1; symm; rw [decide_eq_false_iff_not]; omega

theorem spec_l3In_eq (n : Int) : spec_l3In.f n = some (okc n) := by unfold spec_l3In.f; rw [spec_l1In_eq]; rfl

theorem spec_AddLimited_eq (x y : Int) : spec_AddLimited.f x y = some (addLim x y) := by
  unfold spec_AddLimited.f addLim; simp only [spec_l3In_eq, Option.bind_some]; repeat (split <;> try rfl)

theorem impl_within_eq (a b c : Int) : impl_within.f a b c = some (decide (b ≤ a ∧ a ≤ c)) := by
  unfold impl_within.f
  by_cases h : a ≥ b
  · rw [if_pos h]; congr 1; rw [decide_eq_decide]; omega
  · rw [if_neg h]; congr 1; symm; rw [decide_eq_false_iff_not]; omega

theorem impl_coeffOk_eq (n : Int) : impl_coeffOk.f n = some (okc n) := by unfold impl_coeffOk.f; rw [impl_within_eq]; rfl

theorem impl_AddLimited_eq (x y : Int) : impl_AddLimited.f x y = some (addLim x y) := by
  unfold impl_AddLimited.f addLim; simp only [impl_coeffOk_eq, Option.bind_some]; repeat (split <;> try rfl)

/-- MulLimited. -/
def mulLim (x y : Int) : Int × Bool := if okc x = true then (if okc y = true then (if okc (wrap64 (x * y)) = true then (wrap64 (x * y), true) else (0, false)) else (0, false)) else (0, false)

theorem spec_MulLimited_eq (x y : Int) : spec_MulLimited.f x y = some (mulLim x y) := by
  unfold spec_MulLimited.f mulLim; simp only [spec_l3In_eq, Option.bind_some]; repeat (split <;> try rfl)

theorem impl_MulLimited_eq (x y : Int) : impl_MulLimited.f x y = some (mulLim x y) := by
  unfold impl_MulLimited.f mulLim; simp only [impl_coeffOk_eq, Option.bind_some]; repeat (split <;> try rfl)

/-- Fits. -/
def fitsB (n : Int) : Bool := decide (-1000000 ≤ n ∧ n ≤ 1000000)
theorem fitsB_iff (n : Int) : fitsB n = true ↔ -1000000 ≤ n ∧ n ≤ 1000000 := by unfold fitsB; exact decide_eq_true_iff
theorem mul_bound {a b A B : Int} (ha : -A ≤ a ∧ a ≤ A) (hb : -B ≤ b ∧ b ≤ B) : -(A * B) ≤ a * b ∧ a * b ≤ A * B := by
  have h : (a * b).natAbs ≤ A.natAbs * B.natAbs := by rw [Int.natAbs_mul]; exact Nat.mul_le_mul (by omega) (by omega)
  have e : (A.natAbs * B.natAbs : Nat) = (A * B).natAbs := by rw [Int.natAbs_mul]
  have hA : 0 ≤ A := by omega
  have hB : 0 ≤ B := by omega
  have : 0 ≤ A * B := Int.mul_nonneg hA hB
  omega
theorem mul_okc_fits {a b : Int} (ha : -1000000000 ≤ a ∧ a ≤ 1000000000) (hb : -1000000 ≤ b ∧ b ≤ 1000000) : -1000000000000000 ≤ a * b ∧ a * b ≤ 1000000000000000 := by
  have := mul_bound (A := 1000000000) (B := 1000000) ha hb; omega
theorem mul_okc {a b : Int} (ha : -1000000000 ≤ a ∧ a ≤ 1000000000) (hb : -1000000000 ≤ b ∧ b ≤ 1000000000) : -1000000000000000000 ≤ a * b ∧ a * b ≤ 1000000000000000000 := by
  have := mul_bound (A := 1000000000) (B := 1000000000) ha hb; omega

theorem spec_Fits_eq (n : Int) : spec_Fits.f n = some (fitsB n) := by unfold spec_Fits.f; rw [spec_l1In_eq]; rfl

theorem impl_Fits_eq (n : Int) : impl_Fits.f n = some (fitsB n) := by unfold impl_Fits.f; rw [impl_within_eq]; rfl

/-- Gcd. -/
def gcdOf (x y : Int) : Int := if okc x = true ∧ okc y = true then (Int.gcd x y : Int) else 0
theorem gcd_step (x y : Int) : Int.gcd y (Int.tmod x y) = Int.gcd x y := by
  unfold Int.gcd
  rw [Int.natAbs_tmod, Nat.gcd_comm x.natAbs, Nat.gcd_rec y.natAbs x.natAbs, Nat.gcd_comm]

theorem spec_l3Size_eq (n : Int) (h : okc n = true) : spec_l3Size.f n = some (n.natAbs : Int) := by
  rw [okc_iff] at h
  unfold spec_l3Size.f
  split
  · rw [wrap_id (by omega) (by omega)]; congr 1; omega
  · congr 1; omega
theorem spec_Gcd_l0 : ∀ (n k : Nat) (a b : Int), 0 ≤ a → 0 ≤ b → b.toNat ≤ n → n < k → spec_Gcd.l0 k a b = some (Int.gcd a b : Int) := by
  intro n
  induction n with
  | zero =>
    intro k a b ha hb hn hk
    obtain ⟨k, rfl⟩ := succ_of hk
    have : b = 0 := by omega
    subst this
    simp only [spec_Gcd.l0]
    rw [if_neg (by omega)]; congr 1; simp [Int.gcd]; omega
  | succ n ih =>
    intro k a b ha hb hn hk
    obtain ⟨k, rfl⟩ := succ_of hk
    simp only [spec_Gcd.l0]
    by_cases h : b > 0
    · have h1 : 0 ≤ Int.tmod a b := Int.tmod_nonneg _ ha
      have h2 : Int.tmod a b < b := Int.tmod_lt_of_pos _ h
      rw [if_pos h, if_neg (by omega), ih k b (Int.tmod a b) hb h1 (by omega) (by omega), gcd_step]
    · have : b = 0 := by omega
      subst this
      rw [if_neg (by omega)]; congr 1; simp [Int.gcd]; omega
theorem spec_Gcd_eq (x y : Int) (k : Nat) (hk : 1000000001 < k) : spec_Gcd.f k x y = some (gcdOf x y) := by
  obtain ⟨k, rfl⟩ := succ_of hk
  unfold spec_Gcd.f gcdOf
  rw [spec_l3In_eq, spec_l3In_eq]; simp only [Option.bind_some, spec_Gcd.j0]
  cases hx : okc x with
  | false => simp
  | true =>
    cases hy : okc y with
    | false => simp
    | true =>
      have hx' := (okc_iff x).1 hx
      have hy' := (okc_iff y).1 hy
      simp only [Bool.not_true, if_true, and_self, Bool.false_eq_true, if_false]
      rw [spec_l3Size_eq x hx, spec_l3Size_eq y hy]; simp only [Option.bind_some]
      rw [spec_Gcd_l0 1000000000 k _ _ (by omega) (by omega) (by omega) (by omega)]
      simp [Int.gcd]

theorem impl_Gcd_l0 : ∀ (n k : Nat) (a b : Int), okc a = true → okc b = true → b.natAbs ≤ n → n < k → impl_Gcd.l0 k a b = some (Int.gcd a b : Int) := by
  intro n
  induction n with
  | zero =>
    intro k a b ha hb hn hk
    obtain ⟨k, rfl⟩ := succ_of hk
    have : b = 0 := by omega
    subst this
    have := (okc_iff a).1 ha
    unfold impl_Gcd.l0
    rw [if_pos rfl, wrap_id (by omega) (by omega)]; congr 1; unfold mx; simp only [Int.gcd, Int.natAbs_zero, Nat.gcd_zero_right]; split <;> omega
  | succ n ih =>
    intro k a b ha hb hn hk
    obtain ⟨k, rfl⟩ := succ_of hk
    have ha' := (okc_iff a).1 ha
    have hb' := (okc_iff b).1 hb
    unfold impl_Gcd.l0
    by_cases h : b = 0
    · subst h
      rw [if_pos rfl, wrap_id (by omega) (by omega)]; congr 1; unfold mx; simp only [Int.gcd, Int.natAbs_zero, Nat.gcd_zero_right]; split <;> omega
    · have h1 : (Int.tmod a b).natAbs = a.natAbs % b.natAbs := Int.natAbs_tmod a b
      have h2 : a.natAbs % b.natAbs < b.natAbs := Nat.mod_lt _ (by omega)
      rw [if_neg h, ih k b (Int.tmod a b) hb ((okc_iff _).2 (by omega)) (by omega) (by omega), gcd_step]
theorem impl_Gcd_eq (x y : Int) (k : Nat) (hk : 1000000001 < k) : impl_Gcd.f k x y = some (gcdOf x y) := by
  obtain ⟨k, rfl⟩ := succ_of hk
  unfold impl_Gcd.f gcdOf
  rw [impl_coeffOk_eq, impl_coeffOk_eq]; simp only [Option.bind_some, impl_Gcd.j0]
  cases hx : okc x with
  | false => simp
  | true =>
    cases hy : okc y with
    | false => simp
    | true =>
      have hx' := (okc_iff x).1 hx
      have hy' := (okc_iff y).1 hy
      simp only [Bool.not_true, if_true, and_self, Bool.false_eq_true, if_false]
      rw [impl_Gcd_l0 1000000000 k _ _ hx hy (by omega) (by omega)]

/-- FloorDiv. -/
def floorDiv (x y : Int) : Int := if y ≤ 0 then 0 else if Int.tmod x y < 0 then wrap64 (wrap64 (Int.tdiv x y) - 1) else wrap64 (Int.tdiv x y)

theorem spec_FloorDiv_eq (x y : Int) : spec_FloorDiv.f x y = some (floorDiv x y) := by
  unfold spec_FloorDiv.f floorDiv
  by_cases h : y ≤ 0
  · rw [if_pos h, if_pos h]
  · rw [if_neg h, if_neg h, if_neg (by omega)]; split <;> rfl

theorem impl_FloorDiv_eq (x y : Int) : impl_FloorDiv.f x y = some (floorDiv x y) := by
  unfold impl_FloorDiv.f floorDiv
  by_cases h : y ≤ 0
  · rw [if_pos h, if_pos h]
  · rw [if_neg h, if_neg h, if_neg (by omega)]; split <;> rfl

theorem floorDiv_exact (x y : Int) (hx : -9223372036854775808 ≤ x ∧ x ≤ 9223372036854775807) (hy : 0 < y) : 0 ≤ x - floorDiv x y * y ∧ x - floorDiv x y * y < y := by
  have e : y * Int.tdiv x y + Int.tmod x y = x := Int.mul_tdiv_add_tmod x y
  have hm : (Int.tmod x y).natAbs < y.natAbs := by rw [Int.natAbs_tmod]; exact Nat.mod_lt _ (by omega)
  have hd : (Int.tdiv x y).natAbs ≤ x.natAbs := by rw [Int.natAbs_tdiv]; exact Nat.div_le_self _ _
  unfold floorDiv
  rw [if_neg (by omega)]
  generalize hq : Int.tdiv x y = q at *
  generalize hr : Int.tmod x y = r at *
  have ec : y * q = q * y := Int.mul_comm y q
  by_cases h : r < 0
  · rw [if_pos h]
    have h2 : q.natAbs * 2 ≤ x.natAbs := by
      have h3 : (y * q).natAbs ≤ x.natAbs := by
        rw [← hq, Int.natAbs_mul, Int.natAbs_tdiv]; exact Nat.mul_div_le _ _
      rw [Int.natAbs_mul] at h3
      have h4 : 2 ≤ y.natAbs := by omega
      exact Nat.le_trans (by rw [Nat.mul_comm]; exact Nat.mul_le_mul_right _ h4) h3
    rw [wrap_id (n := q) (by omega) (by omega), wrap_id (by omega) (by omega), Int.sub_mul]
    omega
  · rw [if_neg h]
    by_cases hq2 : q = 9223372036854775808
    · exfalso; rw [hq2] at e; omega
    · rw [wrap_id (by omega) (by omega)]; omega
theorem wrap_sub_mul (x z : Int) : wrap64 (x - wrap64 z) = wrap64 (x - z) := by unfold wrap64; omega

theorem arith_j1 (x y : Int) (hx : -9223372036854775808 ≤ x ∧ x ≤ 9223372036854775807) (hy' : y ≤ 9223372036854775807) (k : Nat) : laws_FnArithmetic.j1 (k + 1) x y false = some true := by
  simp only [laws_FnArithmetic.j1]
  rw [if_neg (by simp), impl_FloorDiv_eq, spec_FloorDiv_eq]
  simp only [Option.bind_some, if_true]
  by_cases hy : y ≤ 0
  · have : floorDiv x y = 0 := by unfold floorDiv; rw [if_pos hy]
    rw [if_pos hy, if_pos this]
  · have h := floorDiv_exact x y hx (by omega)
    rw [if_neg hy, if_pos (by omega), wrap_sub_mul, wrap_id (n := x - floorDiv x y * y) (by omega) (by omega), if_pos (by omega)]
    simp only [Option.some.injEq, decide_eq_true_eq]; omega
theorem FnArithmetic : laws_FnArithmetic.Pure := by
  intro b hb hb2 _
  refine ⟨1000000000 + b.length + 10, ?_⟩
  unfold laws_FnArithmetic.f laws_big.f
  rw [Option.bind_some]
  split
  · rfl
  unfold spec_DrawAddLimited.f
  obtain ⟨x, y, e, hx, hy⟩ := spec_l3Two_ex b (by omega) (1000000000 + b.length + 10) (by omega)
  rw [e]; simp only [Option.bind_some]
  rw [impl_AddLimited_eq, impl_MulLimited_eq, spec_AddLimited_eq, spec_MulLimited_eq, impl_Fits_eq, spec_Fits_eq]
  simp only [Option.bind_some, if_true, bne_self_eq_false, Bool.false_eq_true, if_false]
  rw [show 1000000000 + b.length + 10 = (1000000000 + b.length + 8) + 1 + 1 by omega]
  simp only [laws_FnArithmetic.j0]
  rw [if_neg (by simp), impl_Gcd_eq _ _ _ (by omega), spec_Gcd_eq _ _ _ (by omega)]
  simp only [Option.bind_some, if_true]
  by_cases hg : gcdOf x y > 0
  · have hd : gcdOf x y = (Int.gcd x y : Int) := by
      unfold gcdOf at hg ⊢; split
      · rfl
      · rename_i hn; rw [if_neg hn] at hg; omega
    have d1 : Int.tmod x (gcdOf x y) = 0 := by rw [hd]; exact Int.tmod_eq_zero_of_dvd (Int.gcd_dvd_left ..)
    have d2 : Int.tmod y (gcdOf x y) = 0 := by rw [hd]; exact Int.tmod_eq_zero_of_dvd (Int.gcd_dvd_right ..)
    rw [if_pos hg, if_neg (by omega), if_pos d1, d2]
    simp only [bne_self_eq_false]
    exact arith_j1 x y hx hy.2 _
  · rw [if_neg hg]
    exact arith_j1 x y hx hy.2 _

end Go.Proofs.Ytjjcdiddpdjboaa.Pure
