/- The scaled sum is the reference's, and its value at every point is the scaled sum of the values: the law FnLinear returns true at every draw. -/
import Derived.Test.YtkfllkmhbkmepaaQFnLinearx9
namespace Go.Proofs.Ytkfllkmhbkmepaa.Pure
open Go.RowKit Go.Proofs.YtkfllkmhbkmepaaV.PrintWords Go.Proofs.YtkfllkmhbkmepaaV.PrintLast Go.Proofs.YtkfllkmhbkmepaaV.PrintMore Go.Proofs.Ytkfllkmhbkmepaa.QFnLinear
set_option linter.unusedVariables false
set_option linter.unusedSimpArgs false

theorem wrap_id {n : Int} (h0 : -9223372036854775808 ≤ n) (h1 : n ≤ 9223372036854775807) : wrap64 n = n := by
  unfold wrap64; omega
theorem wrap_succ {j n : Nat} (h : j < n) (hn : n ≤ 4611686018427387904) : wrap64 ((j : Int) + 1) = ((j + 1 : Nat) : Int) := by
  unfold wrap64; omega
theorem succ_of {d k : Nat} (h : d < k) : ∃ m, k = m + 1 := ⟨k - 1, by omega⟩
theorem lit_int {n : Int} (h : (Lit.int .i64 n).wf = true) : -9223372036854775808 ≤ n ∧ n ≤ 9223372036854775807 := by
  simpa [Lit.wf, IntKind.min, IntKind.max, IntKind.signed, IntKind.bits] using h

theorem rdOf_nat {α : Type} (d : α) (xs : List α) (j : Nat) (h : j < xs.length) : rdOf d xs (j : Int) = xs[j] := by
  unfold rdOf; rw [Int.toNat_natCast, List.getD_eq_getElem?_getD, List.getElem?_eq_getElem h]; rfl
theorem rd_nat (xs : List Int) (j : Nat) (h : j < xs.length) : rd xs (j : Int) = xs[j] := by
  unfold rd; rw [Int.toNat_natCast, List.getD_eq_getElem?_getD, List.getElem?_eq_getElem h]; rfl

/-- A cursor: the place lies in the bytes. -/
def Cur (b : List Int) (i : Int) : Prop := 0 ≤ i ∧ i ≤ (b.length : Int) ∧ b.length ≤ 140737488351232
theorem and255 (x : Int) : 0 ≤ Go.bits .and .i64 x 255 ∧ Go.bits .and .i64 x 255 ≤ 255 := by
  have h : (BitVec.ofInt 64 x &&& BitVec.ofInt 64 255).toNat ≤ 255 := by rw [BitVec.toNat_and]; exact Nat.le_trans Nat.and_le_right (by decide)
  have e : Go.bits .and .i64 x 255 = IntKind.i64.wrap (((BitVec.ofInt 64 x &&& BitVec.ofInt 64 255).toNat : Nat) : Int) := rfl
  rw [e, IntKind.wrap_i64]
  omega

theorem spec_l1New_l0 (b : List Int) (hb : b.length ≤ 140737488351232) : ∀ (d j k : Nat) (h : Int), j + d = b.length → d < k → ∃ h', spec_l1New.l0 k b h (j : Int) = some (b, 0, h') := by
  intro d
  induction d with
  | zero =>
    intro j k h hj hk
    obtain ⟨k, rfl⟩ := succ_of hk
    simp only [spec_l1New.l0]
    rw [if_neg (by omega)]
    exact ⟨_, rfl⟩
  | succ d ih =>
    intro j k h hj hk
    obtain ⟨k, rfl⟩ := succ_of hk
    have hlt : j < b.length := by omega
    simp only [spec_l1New.l0]
    rw [if_pos (by omega)]
    by_cases h4 : (j : Int) < 4000
    · rw [if_pos h4, if_pos (by omega), wrap_succ hlt (by omega)]
      exact ih (j + 1) k _ (by omega) (by omega)
    · rw [if_neg h4]; exact ⟨_, rfl⟩
theorem spec_l1New_ex (b : List Int) (hb : b.length ≤ 140737488351232) (k : Nat) (hk : b.length < k) : ∃ h', spec_l1New.f k b = some (b, 0, h') := by
  unfold spec_l1New.f
  exact spec_l1New_l0 b hb b.length 0 k _ (by omega) hk
theorem cur_zero (b : List Int) (hb : b.length ≤ 140737488351232) : Cur b 0 := ⟨Int.le_refl _, by omega, hb⟩

theorem spec_l1Byte_ex (b : List Int) (i h : Int) (hc : Cur b i) : ∃ r i' h', spec_l1Byte.f b i h = some (r, i', h') ∧ 0 ≤ r ∧ r ≤ 255 ∧ Cur b i' := by
  obtain ⟨h0, h1, h2⟩ := hc
  unfold spec_l1Byte.f
  by_cases hlt : i < (b.length : Int)
  · rw [if_pos hlt, if_pos h0]
    refine ⟨_, _, _, rfl, (and255 _).1, (and255 _).2, ?_⟩
    rw [wrap_id (by omega) (by omega)]
    exact ⟨by omega, by omega, h2⟩
  · rw [if_neg hlt]
    exact ⟨_, _, _, rfl, (and255 _).1, (and255 _).2, h0, h1, h2⟩

theorem spec_l1Below_ex (b : List Int) (i h n : Int) (hc : Cur b i) : ∃ r i' h', spec_l1Below.f b i h n = some (r, i', h') ∧ 0 ≤ r ∧ (0 < n → r < n) ∧ (n ≤ 0 → r = 0) ∧ Cur b i' := by
  unfold spec_l1Below.f
  by_cases h0 : n ≤ 0
  · rw [if_pos h0]; exact ⟨0, _, _, rfl, by omega, by omega, fun _ => rfl, hc⟩
  rw [if_neg h0]
  by_cases h1 : n ≤ 256
  · rw [if_pos h1]
    obtain ⟨r, i', h', e, r0, r1, c1⟩ := spec_l1Byte_ex b i h hc
    rw [e]; simp only [Option.bind_some]
    rw [if_neg (by omega)]
    exact ⟨_, _, _, rfl, Int.tmod_nonneg _ r0, fun _ => Int.tmod_lt_of_pos _ (by omega), by omega, c1⟩
  · rw [if_neg h1]
    obtain ⟨x, i1, g1, e1, x0, x1, c1⟩ := spec_l1Byte_ex b i h hc
    rw [e1]; simp only [Option.bind_some]
    obtain ⟨y, i2, g2, e2, y0, y1, c2⟩ := spec_l1Byte_ex b i1 g1 c1
    rw [e2]; simp only [Option.bind_some]
    obtain ⟨z, i3, g3, e3, z0, z1, c3⟩ := spec_l1Byte_ex b i2 g2 c2
    rw [e3]; simp only [Option.bind_some]
    obtain ⟨u, i4, g4, e4, u0, u1, c4⟩ := spec_l1Byte_ex b i3 g3 c3
    rw [e4]; simp only [Option.bind_some]
    rw [if_neg (by omega)]
    refine ⟨_, _, _, rfl, Int.tmod_nonneg _ ?_, fun _ => Int.tmod_lt_of_pos _ (by omega), by omega, c4⟩
    unfold wrap64; omega

theorem spec_l1PickInt_ex (b : List Int) (i h : Int) (l : List Int) (hl : 0 < l.length) (hc : Cur b i) : ∃ r i' h', spec_l1PickInt.f b i h l = some (r, i', h') ∧ r ∈ l ∧ Cur b i' := by
  unfold spec_l1PickInt.f
  obtain ⟨r, i', h', e, r0, r1, _, c1⟩ := spec_l1Below_ex b i h (l.length : Int) hc
  have r1 := r1 (by omega)
  rw [e]; simp only [Option.bind_some]
  rw [if_pos r0, if_pos r1]
  refine ⟨_, _, _, rfl, ?_, c1⟩
  have hlt : r.toNat < l.length := by omega
  have := rd_nat l r.toNat hlt
  rw [Int.toNat_of_nonneg r0] at this
  rw [this]; exact List.getElem_mem hlt

theorem spec_l4Small_ex (b : List Int) (i h : Int) (hc : Cur b i) : ∃ r i' h', spec_l4Small.f b i h = some (r, i', h') ∧ (-2 ≤ r ∧ r ≤ 3) ∧ Cur b i' := by
  unfold spec_l4Small.f
  obtain ⟨r, i', h', e, hm, c1⟩ := spec_l1PickInt_ex b i h [0, 0, 1, (-1), 1, 2, (-2), 3] (by simp) hc
  rw [e]; simp only [Option.bind_some]
  refine ⟨_, _, _, rfl, ?_, c1⟩
  simp only [List.mem_cons, List.not_mem_nil, or_false] at hm
  omega

theorem spec_l4Draw_l0 (b : List Int) (n : Nat) (hn : n ≤ 4611686018427387904) (c : Int) : ∀ (d j k : Nat) (i h : Int) (r : List Int), j + d = n → d < k → r.length = n → Cur b i → (∀ x ∈ r, -2 ≤ x ∧ x ≤ 3) →
    ∃ r' i' h', spec_l4Draw.l0 k (n : Int) (j : Int) b i h c r = some (c, r', i', h') ∧ r'.length = n ∧ Cur b i' ∧ (∀ x ∈ r', -2 ≤ x ∧ x ≤ 3) := by
  intro d
  induction d with
  | zero =>
    intro j k i h r hj hk hr hc hx
    obtain ⟨k, rfl⟩ := succ_of hk
    simp only [spec_l4Draw.l0]
    rw [if_neg (by omega)]
    exact ⟨_, _, _, rfl, hr, hc, hx⟩
  | succ d ih =>
    intro j k i h r hj hk hr hc hx
    obtain ⟨k, rfl⟩ := succ_of hk
    simp only [spec_l4Draw.l0]
    obtain ⟨x, i1, h1, e1, hb1, c1⟩ := spec_l4Small_ex b i h hc
    rw [if_pos (by omega), e1]; simp only [Option.bind_some]
    rw [if_pos (by omega), if_pos (by omega), wrap_succ (n := n) (by omega) hn]
    refine ih (j + 1) k _ _ _ (by omega) (by omega) (by simpa using hr) c1 ?_
    intro y hy
    rcases List.mem_or_eq_of_mem_set hy with h | rfl
    · exact hx y h
    · exact hb1
theorem spec_l4Draw_ex (b : List Int) (i h n : Int) (hc : Cur b i) (h0 : 0 ≤ n) (h1 : n ≤ 35184372088832) (k : Nat) (hk : n < k) :
    ∃ c r i' h', spec_l4Draw.f k b i h n = some (c, r, i', h') ∧ (r.length : Int) = n ∧ Cur b i' ∧ (∀ x ∈ r, -2 ≤ x ∧ x ≤ 3) ∧ (-4 ≤ c ∧ c ≤ 4) := by
  unfold spec_l4Draw.f
  obtain ⟨x, i1, g1, e1, x0, x1, _, c1⟩ := spec_l1Below_ex b i h 9 hc
  have x1 := x1 (by omega)
  rw [e1]; simp only [Option.bind_some]
  rw [if_pos h0, if_pos (by omega), wrap_id (by omega) (by omega)]
  obtain ⟨r, i2, g2, e2, hl, c2, hx⟩ := spec_l4Draw_l0 b n.toNat (by omega) (x - 4) n.toNat 0 k i1 g1 (List.replicate n.toNat 0) (by omega) (by omega) (by simp) c1 (by intro y hy; rw [(List.mem_replicate.1 hy).2]; omega)
  rw [show ((n.toNat : Nat) : Int) = n by omega, show ((0 : Nat) : Int) = 0 from rfl] at e2
  rw [e2]
  exact ⟨_, _, _, _, rfl, by omega, c2, hx, by omega⟩

theorem spec_l3Any_ex (b : List Int) (i h : Int) (hc : Cur b i) : ∃ r i' h', spec_l3Any.f b i h = some (r, i', h') ∧ (-9223372036854775808 ≤ r ∧ r ≤ 9223372036854775807) ∧ Cur b i' := by
  unfold spec_l3Any.f
  obtain ⟨r, i', h', e, hm, c1⟩ := spec_l1PickInt_ex b i h [0, 1, (-1), 2, 5, (-6), 12, 1000000, (-1000001), 1000000000, (-1000000000), 1000000001, 40000, 9223372036854775807, (-9223372036854775808)] (by simp) hc
  rw [e]; simp only [Option.bind_some]
  refine ⟨_, _, _, rfl, ?_, c1⟩
  simp only [List.mem_cons, List.not_mem_nil, or_false] at hm
  omega

theorem spec_l4Bent_ex (b : List Int) (i h : Int) (hc : Cur b i) (k : Nat) (hk : 20 < k) :
    ∃ c r i' h', spec_l4Bent.f k b i h = some (c, r, i', h') ∧ r.length ≤ 9 ∧ Cur b i' := by
  unfold spec_l4Bent.f
  obtain ⟨n, i1, g1, e1, n0, n1, _, c1⟩ := spec_l1Below_ex b i h 4 hc
  have n1 := n1 (by omega)
  rw [e1]; simp only [Option.bind_some]
  obtain ⟨c, r, i2, g2, e2, hl, c2, _, _⟩ := spec_l4Draw_ex b i1 g1 n c1 n0 (by omega) k (by omega)
  rw [e2]; simp only [Option.bind_some]
  obtain ⟨m, i3, g3, e3, _, _, _, c3⟩ := spec_l1Below_ex b i2 g2 10 c2
  rw [e3]; simp only [Option.bind_some]
  obtain ⟨x, i4, g4, e4, _, c4⟩ := spec_l3Any_ex b i3 g3 c3
  split
  · rw [e4]; simp only [Option.bind_some]
    exact ⟨_, _, _, _, rfl, by omega, c4⟩
  split
  · rw [e4]; simp only [Option.bind_some]
    rw [if_pos (by omega)]
    exact ⟨_, _, _, _, rfl, by simp; omega, c4⟩
  split
  · rw [if_pos (by omega)]
    exact ⟨_, _, _, _, rfl, by simp, c3⟩
  · exact ⟨_, _, _, _, rfl, by omega, c3⟩

theorem spec_l1Once_ex (b : List Int) (i h n : Int) (hc : Cur b i) : ∃ r i' h', spec_l1Once.f b i h n = some (r, i', h') ∧ Cur b i' := by
  unfold spec_l1Once.f
  obtain ⟨r, i', h', e, _, _, _, c1⟩ := spec_l1Below_ex b i h n hc
  rw [e]; simp only [Option.bind_some]
  exact ⟨_, _, _, rfl, c1⟩

theorem spec_DrawAddScaled_ex (b : List Int) (hb : b.length ≤ 140737488351232) (k : Nat) (hk : b.length < k) (h2 : 20 < k) :
    ∃ c cs kk d ds, spec_DrawAddScaled.f k b = some (c, cs, kk, d, ds) ∧ cs.length ≤ 9 ∧ ds.length ≤ 9 := by
  unfold spec_DrawAddScaled.f
  obtain ⟨h0, e0⟩ := spec_l1New_ex b hb k hk
  rw [e0]; simp only [Option.bind_some]
  obtain ⟨c, cs, i1, h1, e1, hl, c1⟩ := spec_l4Bent_ex b 0 h0 (cur_zero b hb) k h2
  rw [e1]; simp only [Option.bind_some]
  obtain ⟨r, i2, g2, e2, c2⟩ := spec_l1Once_ex b i1 h1 5 c1
  rw [e2]; simp only [Option.bind_some]
  cases r
  · rw [if_neg (by simp)]
    obtain ⟨m, i3, g3, e3, _, _, _, c3⟩ := spec_l1Below_ex b i2 g2 9 c2
    rw [e3]; simp only [Option.bind_some]
    obtain ⟨d, ds, i4, g4, e4, hl2, c4, _, _⟩ := spec_l4Draw_ex b i3 g3 (cs.length : Int) c3 (by omega) (by omega) k (by omega)
    rw [e4]; simp only [Option.bind_some]
    exact ⟨_, _, _, _, _, rfl, hl, by omega⟩
  · rw [if_pos rfl]
    obtain ⟨m, i3, g3, e3, _, c3⟩ := spec_l3Any_ex b i2 g2 c2
    rw [e3]; simp only [Option.bind_some]
    obtain ⟨d, ds, i4, g4, e4, hl2, c4⟩ := spec_l4Bent_ex b i3 g3 c3 k h2
    rw [e4]; simp only [Option.bind_some]
    exact ⟨_, _, _, _, _, rfl, hl, hl2⟩

/-- The law's reading of byte a1, or a stand-in. -/
theorem laws_at0_ex (b : List Int) (j : Nat) (hb : b.length ≤ 140737488351232) (hx : ∀ x ∈ b, 0 ≤ x ∧ x ≤ 255) (hj : j ≤ 1000) : ∃ r, laws_at0.f b (j : Int) = some r ∧ 0 ≤ r ∧ r ≤ 255 := by
  unfold laws_at0.f
  by_cases h : (j : Int) < (b.length : Int)
  · rw [if_pos h, if_pos (by omega)]
    have hm : 0 ≤ rd b (j : Int) ∧ rd b (j : Int) ≤ 255 := by
      unfold rd; rw [Int.toNat_natCast, List.getD_eq_getElem?_getD, List.getElem?_eq_getElem (by omega)]; exact hx _ (List.getElem_mem _)
    rw [wrap_id (by omega) (by omega)]
    exact ⟨_, rfl, hm⟩
  · rw [if_neg h, wrap_id (n := (j : Int) * 7) (by omega) (by omega), wrap_id (by omega) (by omega)]
    refine ⟨_, rfl, Int.tmod_nonneg _ (by omega), ?_⟩
    have := Int.tmod_lt_of_pos ((j : Int) * 7 + (b.length : Int)) (b := 256) (by omega)
    omega
theorem lit_u8 {n : Int} (h : (Lit.int .u8 n).wf = true) : 0 ≤ n ∧ n ≤ 255 := by
  simpa [Lit.wf, IntKind.min, IntKind.max, IntKind.signed, IntKind.bits] using h

theorem mod_bound (t m : Int) (h0 : 0 ≤ t) (hm : 0 < m) : 0 ≤ Int.tmod t m ∧ Int.tmod t m < m := ⟨Int.tmod_nonneg _ h0, Int.tmod_lt_of_pos _ hm⟩

/-- From -MaxCoeff to MaxCoeff. -/
def okc (n : Int) : Bool := decide (-1000000000 ≤ n ∧ n ≤ 1000000000)
theorem okc_iff (n : Int) : okc n = true ↔ -1000000000 ≤ n ∧ n ≤ 1000000000 := by unfold okc; exact decide_eq_true_iff
theorem okc_false (n : Int) : okc n = false ↔ ¬ (-1000000000 ≤ n ∧ n ≤ 1000000000) := by unfold okc; exact decide_eq_false_iff_not

/-- IsValidLin. -/
def validLin (c : Int) (cs : List Int) (n : Int) : Bool := decide (0 ≤ n ∧ n ≤ 8) && (decide ((cs.length : Int) = n) && (okc c && cs.all okc))
theorem validLin_iff (c : Int) (cs : List Int) (n : Int) : validLin c cs n = true ↔ (0 ≤ n ∧ n ≤ 8) ∧ (cs.length : Int) = n ∧ okc c = true ∧ ∀ x ∈ cs, okc x = true := by
  unfold validLin; simp only [Bool.and_eq_true, decide_eq_true_eq, List.all_eq_true]
theorem any_not_all {α : Type} (p : α → Bool) (xs : List α) : (!(xs.any fun c => !(p c))) = xs.all p := by
  induction xs with
  | nil => rfl
  | cons x xs ih => simp only [List.any_cons, List.all_cons, Bool.not_or, Bool.not_not, ih]

/-- Fits. -/
def fitsB (n : Int) : Bool := decide (-1000000 ≤ n ∧ n ≤ 1000000)
theorem fitsB_iff (n : Int) : fitsB n = true ↔ -1000000 ≤ n ∧ n ≤ 1000000 := by unfold fitsB; exact decide_eq_true_iff
theorem mul_bound {a b A B : Int} (ha : -A ≤ a ∧ a ≤ A) (hb : -B ≤ b ∧ b ≤ B) : -(A * B) ≤ a * b ∧ a * b ≤ A * B := by
  have h : (a * b).natAbs ≤ A.natAbs * B.natAbs := by rw [Int.natAbs_mul]; exact Nat.mul_le_mul (by omega) (by omega)
  have e : (A.natAbs * B.natAbs : Nat) = (A * B).natAbs := by rw [Int.natAbs_mul]
  have hA : 0 ≤ A := by omega
  have hB : 0 ≤ B := by omega
  have : 0 ≤ A * B := Int.mul_nonneg hA hB
  omega
theorem mul_okc_fits {a b : Int} (ha : -1000000000 ≤ a ∧ a ≤ 1000000000) (hb : -1000000 ≤ b ∧ b ≤ 1000000) : -1000000000000000 ≤ a * b ∧ a * b ≤ 1000000000000000 := by
  have := mul_bound (A := 1000000000) (B := 1000000) ha hb; omega
theorem mul_okc {a b : Int} (ha : -1000000000 ≤ a ∧ a ≤ 1000000000) (hb : -1000000000 ≤ b ∧ b ≤ 1000000000) : -1000000000000000000 ≤ a * b ∧ a * b ≤ 1000000000000000000 := by
  have := mul_bound (A := 1000000000) (B := 1000000000) ha hb; omega

/-- The sum of the products. -/
def dot : List Int → List Int → Int
  | c :: cs, v :: vs => c * v + dot cs vs
  | _, _ => 0
/-- EvalLin. -/
def evalLin (c : Int) (cs vs : List Int) : Int × Bool := if validLin c cs (vs.length : Int) = true ∧ vs.all fitsB = true then (c + dot cs vs, true) else (0, false)
theorem drop_cons {α : Type} (xs : List α) (j : Nat) (h : j < xs.length) : xs.drop j = xs[j] :: xs.drop (j + 1) := List.drop_eq_getElem_cons h

/-- AddLimited. -/
def addLim (x y : Int) : Int × Bool := if okc x = true then (if okc y = true then (if okc (wrap64 (x + y)) = true then (wrap64 (x + y), true) else (0, false)) else (0, false)) else (0, false)

/-- MulLimited. -/
def mulLim (x y : Int) : Int × Bool := if okc x = true then (if okc y = true then (if okc (wrap64 (x * y)) = true then (wrap64 (x * y), true) else (0, false)) else (0, false)) else (0, false)

/-- x + k * y: is it in limits, and its value. -/
def scOk (x k y : Int) : Bool := (mulLim k y).2 && (addLim x (mulLim k y).1).2
def scVal (x k y : Int) : Int := (addLim x (mulLim k y).1).1
def scVal' (x k y : Int) : Int := if (mulLim k y).2 = true then scVal x k y else 0
theorem mulLim_iff (x y : Int) : (mulLim x y).2 = true ↔ okc x = true ∧ okc y = true ∧ okc (x * y) = true := by
  unfold mulLim
  by_cases h1 : okc x = true
  · by_cases h2 : okc y = true
    · have b := mul_okc ((okc_iff _).1 h1) ((okc_iff _).1 h2)
      rw [wrap_id (by omega) (by omega)]
      by_cases h3 : okc (x * y) = true <;> simp [h1, h2, h3]
    · simp [h1, h2]
  · simp [h1]
theorem mulLim_val {x y : Int} (h : (mulLim x y).2 = true) : (mulLim x y).1 = x * y := by
  obtain ⟨h1, h2, h3⟩ := (mulLim_iff x y).1 h
  have b := mul_okc ((okc_iff _).1 h1) ((okc_iff _).1 h2)
  unfold mulLim
  rw [wrap_id (by omega) (by omega), if_pos h1, if_pos h2, if_pos h3]
theorem addLim_iff (x y : Int) : (addLim x y).2 = true ↔ okc x = true ∧ okc y = true ∧ okc (x + y) = true := by
  unfold addLim
  by_cases h1 : okc x = true
  · by_cases h2 : okc y = true
    · have b1 := (okc_iff _).1 h1
      have b2 := (okc_iff _).1 h2
      rw [wrap_id (by omega) (by omega)]
      by_cases h3 : okc (x + y) = true <;> simp [h1, h2, h3]
    · simp [h1, h2]
  · simp [h1]
theorem addLim_val {x y : Int} (h : (addLim x y).2 = true) : (addLim x y).1 = x + y := by
  obtain ⟨h1, h2, h3⟩ := (addLim_iff x y).1 h
  have b1 := (okc_iff _).1 h1
  have b2 := (okc_iff _).1 h2
  unfold addLim
  rw [wrap_id (by omega) (by omega), if_pos h1, if_pos h2, if_pos h3]
theorem scOk_iff (x k y : Int) : scOk x k y = true ↔ (okc k = true ∧ okc y = true ∧ okc (k * y) = true) ∧ (okc x = true ∧ okc (x + k * y) = true) := by
  unfold scOk
  rw [Bool.and_eq_true, mulLim_iff]
  constructor
  · rintro ⟨h1, h2⟩
    rw [mulLim_val ((mulLim_iff _ _).2 h1), addLim_iff] at h2
    exact ⟨h1, h2.1, h2.2.2⟩
  · rintro ⟨h1, h2, h3⟩
    refine ⟨h1, ?_⟩
    rw [mulLim_val ((mulLim_iff _ _).2 h1), addLim_iff]
    exact ⟨h2, h1.2.2, h3⟩
theorem scVal_val {x k y : Int} (h : scOk x k y = true) : scVal x k y = x + k * y := by
  unfold scOk at h
  rw [Bool.and_eq_true] at h
  unfold scVal
  rw [addLim_val h.2, mulLim_val h.1]
theorem scVal'_val {x k y : Int} (h : scOk x k y = true) : scVal' x k y = scVal x k y := by
  unfold scOk at h
  rw [Bool.and_eq_true] at h
  unfold scVal'; rw [if_pos h.1]

/-- AddScaled. -/
def okAll (k : Int) : List Int → List Int → Bool
  | x :: xs, y :: ys => scOk x k y && okAll k xs ys
  | _, _ => true
def vals (k : Int) : List Int → List Int → List Int := List.zipWith fun x y => scVal x k y
def vals' (k : Int) : List Int → List Int → List Int := List.zipWith fun x y => scVal' x k y
theorem vals'_vals (k : Int) : ∀ xs ys : List Int, okAll k xs ys = true → vals' k xs ys = vals k xs ys := by
  intro xs
  induction xs with
  | nil => intro ys _; simp [vals, vals']
  | cons x xs ih =>
    intro ys h
    cases ys with
    | nil => simp [vals, vals']
    | cons y ys =>
      simp only [okAll, Bool.and_eq_true] at h
      have := ih ys h.2
      unfold vals vals' at this ⊢
      rw [List.zipWith_cons_cons, List.zipWith_cons_cons, scVal'_val h.1, this]
def addSc (c : Int) (cs : List Int) (k : Int) (d : Int) (ds : List Int) : Int × List Int × Bool :=
  if validLin c cs (cs.length : Int) = true ∧ validLin d ds (cs.length : Int) = true ∧ okc k = true ∧ okAll k cs ds = true ∧ scOk c k d = true then (scVal c k d, vals k cs ds, true) else (0, [], false)
theorem addSc_length (c : Int) (cs : List Int) (k : Int) (d : Int) (ds : List Int) : (addSc c cs k d ds).2.1.length ≤ 8 := by
  unfold addSc
  split
  · rename_i h
    have h1 := (validLin_iff _ _ _).1 h.1
    simp only [vals, List.length_zipWith]; omega
  · simp
theorem drop_zip (f : Int → Int → Int) (xs ys : List Int) (j : Nat) (h1 : j < xs.length) (h2 : j < ys.length) : List.zipWith f (xs.drop j) (ys.drop j) = f xs[j] ys[j] :: List.zipWith f (xs.drop (j + 1)) (ys.drop (j + 1)) := by
  rw [List.drop_eq_getElem_cons h1, List.drop_eq_getElem_cons h2, List.zipWith_cons_cons]
theorem drop_okAll (k : Int) (xs ys : List Int) (j : Nat) (h1 : j < xs.length) (h2 : j < ys.length) : okAll k (xs.drop j) (ys.drop j) = (scOk xs[j] k ys[j] && okAll k (xs.drop (j + 1)) (ys.drop (j + 1))) := by
  rw [List.drop_eq_getElem_cons h1, List.drop_eq_getElem_cons h2]; rfl

theorem dot_bound : ∀ cs vs : List Int, (∀ x ∈ cs, okc x = true) → (∀ v ∈ vs, fitsB v = true) → -(1000000000000000 * (cs.length : Int)) ≤ dot cs vs ∧ dot cs vs ≤ 1000000000000000 * (cs.length : Int) := by
  intro cs
  induction cs with
  | nil => intro vs _ _; simp [dot]
  | cons x xs ih =>
    intro vs hc hf
    cases vs with
    | nil => simp only [dot, List.length_cons]; omega
    | cons v vs =>
      have h1 := ih vs (fun y h => hc y (List.mem_cons_of_mem _ h)) (fun y h => hf y (List.mem_cons_of_mem _ h))
      have h2 := mul_okc_fits ((okc_iff _).1 (hc x List.mem_cons_self)) ((fitsB_iff _).1 (hf v List.mem_cons_self))
      simp only [dot, List.length_cons]; omega
theorem dot_vals (k : Int) : ∀ cs ds vs : List Int, okAll k cs ds = true → cs.length = ds.length → dot (vals k cs ds) vs = dot cs vs + k * dot ds vs := by
  intro cs
  induction cs with
  | nil =>
    intro ds vs _ hl
    have : ds = [] := List.length_eq_zero_iff.1 (by simpa using hl.symm)
    subst this
    simp [vals, dot]
  | cons x xs ih =>
    intro ds vs h hl
    cases ds with
    | nil => simp at hl
    | cons y ys =>
      simp only [okAll, Bool.and_eq_true] at h
      cases vs with
      | nil => simp [vals, dot]
      | cons v vs =>
        have hi := ih ys vs h.2 (by simpa using hl)
        unfold vals at hi ⊢
        rw [List.zipWith_cons_cons]
        simp only [dot]
        rw [hi, scVal_val h.1, Int.add_mul, Int.mul_add, Int.mul_assoc]; omega
theorem vals_okc (k : Int) : ∀ cs ds : List Int, okAll k cs ds = true → ∀ x ∈ vals k cs ds, okc x = true := by
  intro cs
  induction cs with
  | nil => intro ds _ x hx; simp [vals] at hx
  | cons y ys ih =>
    intro ds h x hx
    cases ds with
    | nil => simp [vals] at hx
    | cons z zs =>
      simp only [okAll, Bool.and_eq_true] at h
      unfold vals at hx
      rw [List.zipWith_cons_cons] at hx
      rcases List.mem_cons.1 hx with rfl | hx
      · rw [scVal_val h.1]; exact ((scOk_iff _ _ _).1 h.1).2.2
      · exact ih zs h.2 x hx
theorem evalLin_val {c : Int} {cs vs : List Int} (h : validLin c cs (vs.length : Int) = true) (hf : ∀ v ∈ vs, fitsB v = true) : evalLin c cs vs = (c + dot cs vs, true) := by
  unfold evalLin; rw [if_pos ⟨h, List.all_eq_true.2 hf⟩]
theorem wrap_add_wrap (x y : Int) : wrap64 (x + wrap64 y) = wrap64 (x + y) := by unfold wrap64; omega
theorem linear_law (c : Int) (cs : List Int) (k d : Int) (ds vs : List Int) (r : Int) (rs : List Int) (hr : (r, rs, true) = addSc c cs k d ds) (hl : vs.length = cs.length) (hf : ∀ v ∈ vs, fitsB v = true) :
    (evalLin r rs vs).2 = true ∧ (evalLin r rs vs).1 = wrap64 ((evalLin c cs vs).1 + wrap64 (k * (evalLin d ds vs).1)) := by
  unfold addSc at hr
  split at hr
  · rename_i h
    obtain ⟨h1, h2, h3, h4, h5⟩ := h
    simp only [Prod.mk.injEq, and_true] at hr
    obtain ⟨rfl, rfl⟩ := hr
    have v1 := (validLin_iff _ _ _).1 h1
    have v2 := (validLin_iff _ _ _).1 h2
    have hv : (vals k cs ds).length = cs.length := by simp only [vals, List.length_zipWith]; omega
    have h6 := vals_okc k cs ds h4
    have h7 : okc (scVal c k d) = true := by rw [scVal_val h5]; exact ((scOk_iff _ _ _).1 h5).2.2
    have b := dot_bound (vals k cs ds) vs h6 hf
    have b2 := (okc_iff _).1 h7
    rw [evalLin_val (c := scVal c k d) (cs := vals k cs ds) ((validLin_iff _ _ _).2 ⟨by omega, by omega, h7, h6⟩) hf, evalLin_val (by rw [hl]; exact h1) hf, evalLin_val (by rw [hl]; exact h2) hf]
    refine ⟨rfl, ?_⟩
    simp only
    rw [wrap_add_wrap]
    have e : c + dot cs vs + k * (d + dot ds vs) = scVal c k d + dot (vals k cs ds) vs := by
      rw [dot_vals k cs ds vs h4 (by omega), scVal_val h5, Int.mul_add]; omega
    rw [e, wrap_id (by omega) (by omega)]
  · simp at hr

theorem spec_l1In_eq (a b c : Int) : spec_l1In.f a b c = some (decide (b ≤ a ∧ a ≤ c)) := by
  unfold spec_l1In.f
  by_cases h : a ≥ b
  · rw [if_pos h]; congr 1; rw [decide_eq_decide]; omega
  · rw [if_neg h]; congr 1; symm; rw [decide_eq_false_iff_not]; omega

theorem spec_l3In_eq (n : Int) : spec_l3In.f n = some (okc n) := by unfold spec_l3In.f; rw [spec_l1In_eq]; rfl

theorem spec_AddLimited_eq (x y : Int) : spec_AddLimited.f x y = some (addLim x y) := by
  unfold spec_AddLimited.f addLim; simp only [spec_l3In_eq, Option.bind_some]; repeat (split <;> try rfl)

theorem spec_MulLimited_eq (x y : Int) : spec_MulLimited.f x y = some (mulLim x y) := by
  unfold spec_MulLimited.f mulLim; simp only [spec_l3In_eq, Option.bind_some]; repeat (split <;> try rfl)

theorem spec_l4Sum_eq (x k y : Int) : spec_l4Sum.f x k y = some (scVal' x k y, scOk x k y) := by
  unfold spec_l4Sum.f scVal' scOk scVal
  rw [spec_MulLimited_eq, Option.bind_some]
  cases h : (mulLim k y).2 with
  | false => simp
  | true => rw [if_pos rfl, if_pos rfl, spec_AddLimited_eq]; simp

theorem spec_IsValidLin_l0 (c : Int) (cs : List Int) (n : Int) (hn : cs.length ≤ 4611686018427387904) : ∀ (d j k : Nat), j + d = cs.length → d < k →
    spec_IsValidLin.l0 k n (j : Int) c cs = some ((cs.drop j).all okc && (decide (0 ≤ n ∧ n ≤ 8) && (decide ((cs.length : Int) = n) && okc c))) := by
  intro d
  induction d with
  | zero =>
    intro j k hj hk
    obtain ⟨k, rfl⟩ := succ_of hk
    simp only [spec_IsValidLin.l0]
    rw [if_neg (by omega), List.drop_eq_nil_of_le (by omega), spec_l1In_eq, spec_l3In_eq]
    simp only [Option.bind_some, List.all_nil, Bool.true_and]
    by_cases h1 : 0 ≤ n ∧ n ≤ 8 <;> by_cases h2 : (cs.length : Int) = n <;> simp [h1, h2]
  | succ d ih =>
    intro j k hj hk
    obtain ⟨k, rfl⟩ := succ_of hk
    have hlt : j < cs.length := by omega
    simp only [spec_IsValidLin.l0]
    rw [if_pos (by omega), if_pos (by omega), rd_nat _ _ hlt, spec_l3In_eq, Option.bind_some, wrap_succ hlt hn, ih (j + 1) k (by omega) (by omega), List.drop_eq_getElem_cons hlt, List.all_cons]
    cases okc cs[j] <;> simp
theorem spec_IsValidLin_eq (c : Int) (cs : List Int) (n : Int) (hn : cs.length ≤ 4611686018427387904) (k : Nat) (hk : cs.length < k) : spec_IsValidLin.f k c cs n = some (validLin c cs n) := by
  unfold spec_IsValidLin.f validLin
  have := spec_IsValidLin_l0 c cs n hn cs.length 0 k (by omega) hk
  rw [show ((0 : Nat) : Int) = 0 from rfl, List.drop_zero] at this
  rw [this]
  cases cs.all okc <;> simp

theorem spec_AddScaled_l0 (kk : Int) (n : Nat) (c : Int) (cs : List Int) (d : Int) (ds : List Int) (oc : Int) (h1 : cs.length = n) (h2 : ds.length = n) (hn : n ≤ 4611686018427387904) : ∀ (e j k : Nat) (p r : List Int) (all : Bool), j + e = n → e < k → p.length = j → r.length = e →
    spec_AddScaled.l0 k kk (n : Int) all (j : Int) c cs d ds oc (p ++ r) = some (if (all && okAll kk (cs.drop j) (ds.drop j)) = true ∧ scOk c kk d = true then (scVal' c kk d, p ++ vals' kk (cs.drop j) (ds.drop j), true) else (0, [], false)) := by
  intro e
  induction e with
  | zero =>
    intro j k p r all hj hk hp hr
    obtain ⟨k, rfl⟩ := succ_of hk
    have : r = [] := List.length_eq_zero_iff.1 hr
    subst this
    simp only [spec_AddScaled.l0]
    rw [if_neg (by omega), spec_l4Sum_eq, Option.bind_some, List.drop_eq_nil_of_le (by omega), List.drop_eq_nil_of_le (by omega)]
    cases all <;> cases scOk c kk d <;> simp [okAll, vals']
  | succ e ih =>
    intro j k p r all hj hk hp hr
    obtain ⟨k, rfl⟩ := succ_of hk
    cases r with
    | nil => simp at hr
    | cons y r =>
      have hj1 : j < cs.length := by omega
      have hj2 : j < ds.length := by omega
      simp only [spec_AddScaled.l0]
      rw [if_pos (by omega), if_pos (by omega), if_pos (by omega), if_pos (by omega), rd_nat _ _ hj1, rd_nat _ _ hj2, spec_l4Sum_eq, Option.bind_some, if_pos (by simp only [List.length_append, List.length_cons]; omega), Option.bind_some, wrap_succ (n := n) (by omega) hn, Int.toNat_natCast]
      have es : (p ++ y :: r).set j (scVal' cs[j] kk ds[j]) = (p ++ [scVal' cs[j] kk ds[j]]) ++ r := by generalize scVal' cs[j] kk ds[j] = z; rw [← hp]; simp
      have hi := ih (j + 1) k (p ++ [scVal' cs[j] kk ds[j]]) r
      have hz : vals' kk (cs.drop j) (ds.drop j) = scVal' cs[j] kk ds[j] :: vals' kk (cs.drop (j + 1)) (ds.drop (j + 1)) := by unfold vals'; exact drop_zip _ _ _ _ hj1 hj2
      rw [es, hi (scOk cs[j] kk ds[j]) (by omega) (by omega) (by simp; omega) (by simpa using hr), hi false (by omega) (by omega) (by simp; omega) (by simpa using hr), drop_okAll _ _ _ _ hj1 hj2, hz]
      cases all <;> simp
theorem spec_AddScaled_eq (c : Int) (cs : List Int) (kk : Int) (d : Int) (ds : List Int) (hn : cs.length ≤ 1048577) (hm : ds.length ≤ 1048577) (k : Nat) (hk : 1048600 < k) : spec_AddScaled.f k c cs kk d ds = some (addSc c cs kk d ds) := by
  unfold spec_AddScaled.f addSc
  rw [spec_IsValidLin_eq c cs _ (by omega) k (by omega), spec_IsValidLin_eq d ds _ (by omega) k (by omega), spec_l3In_eq]
  simp only [Option.bind_some]
  obtain ⟨k, rfl⟩ := succ_of hk
  simp only [spec_AddScaled.j0]
  cases hv : validLin c cs (cs.length : Int) with
  | false => simp
  | true =>
    cases hw : validLin d ds (cs.length : Int) with
    | false => simp
    | true =>
      cases ho : okc kk with
      | false => simp
      | true =>
        have h1 := (validLin_iff _ _ _).1 hv
        have h2 := (validLin_iff _ _ _).1 hw
        have h3 : ((cs.length : Int)).toNat ≤ 35184372088832 := by omega
        have hl := spec_AddScaled_l0 kk cs.length c cs d ds 0 rfl (by omega) (by omega) cs.length 0 k [] (List.replicate cs.length 0) true (by omega) (by omega) rfl (by simp)
        rw [if_pos rfl, if_pos rfl, if_neg (by simp), if_pos (by omega), if_pos h3, Int.toNat_natCast]
        rw [show ((0 : Nat) : Int) = 0 from rfl, List.nil_append, List.drop_zero, List.drop_zero, List.nil_append] at hl
        rw [hl]
        simp only [Bool.true_and, true_and]
        by_cases ha : okAll kk cs ds = true ∧ scOk c kk d = true
        · rw [if_pos ha, if_pos ha, vals'_vals _ _ _ ha.1, scVal'_val ha.2]
        · rw [if_neg ha, if_neg ha]

theorem impl_within_eq (a b c : Int) : impl_within.f a b c = some (decide (b ≤ a ∧ a ≤ c)) := by
  unfold impl_within.f
  by_cases h : a ≥ b
  · rw [if_pos h]; congr 1; rw [decide_eq_decide]; omega
  · rw [if_neg h]; congr 1; symm; rw [decide_eq_false_iff_not]; omega

theorem impl_coeffOk_eq (n : Int) : impl_coeffOk.f n = some (okc n) := by unfold impl_coeffOk.f; rw [impl_within_eq]; rfl

theorem impl_AddLimited_eq (x y : Int) : impl_AddLimited.f x y = some (addLim x y) := by
  unfold impl_AddLimited.f addLim; simp only [impl_coeffOk_eq, Option.bind_some]; repeat (split <;> try rfl)

theorem impl_MulLimited_eq (x y : Int) : impl_MulLimited.f x y = some (mulLim x y) := by
  unfold impl_MulLimited.f mulLim; simp only [impl_coeffOk_eq, Option.bind_some]; repeat (split <;> try rfl)

theorem impl_scaled_eq (x k y : Int) : impl_scaled.f x k y = some (scVal x k y, scOk x k y) := by
  unfold impl_scaled.f scOk scVal
  rw [impl_MulLimited_eq, Option.bind_some, impl_AddLimited_eq, Option.bind_some]
  cases h : (mulLim k y).2 with
  | false => simp
  | true => simp

/-- The place of the first that p takes, counted from i on; -1 where there is none. -/
def firstBy {α : Type} (p : α → Bool) : List α → Int → Int
  | [], _ => -1
  | x :: xs, i => if p x = true then i else firstBy p xs (i + 1)
theorem firstBy_any {α : Type} (p : α → Bool) : ∀ (xs : List α) (i : Int), 0 ≤ i → decide (firstBy p xs i ≥ 0) = xs.any p := by
  intro xs
  induction xs with
  | nil => intro i _; simp [firstBy]
  | cons x xs ih =>
    intro i hi
    simp only [firstBy, List.any_cons]
    by_cases h : p x = true
    · simp [h]; omega
    · have := ih (i + 1) (by omega)
      simp only [Bool.eq_false_iff.mpr h, Bool.false_eq_true, if_false, Bool.false_or]; exact this

theorem slices_IndexFunc_int_int__IsValidLin_1_l0 (p : Int → Bool) (hp : ∀ c, impl_IsValidLin_1.f c = some (p c)) (xs : List Int) (hn : xs.length ≤ 4611686018427387904) : ∀ (d j k : Nat), j + d = xs.length → d < k →
    slices_IndexFunc_int_int__IsValidLin_1.l0 k xs (xs.length : Int) (j : Int) = some (firstBy p (xs.drop j) (j : Int)) := by
  intro d
  induction d with
  | zero =>
    intro j k hj hk
    obtain ⟨k, rfl⟩ := succ_of hk
    simp only [slices_IndexFunc_int_int__IsValidLin_1.l0]
    rw [if_neg (by omega), List.drop_eq_nil_of_le (by omega)]; rfl
  | succ d ih =>
    intro j k hj hk
    obtain ⟨k, rfl⟩ := succ_of hk
    have hlt : j < xs.length := by omega
    simp only [slices_IndexFunc_int_int__IsValidLin_1.l0]
    rw [if_pos (by omega), if_pos (by omega), if_pos (by omega), rd_nat _ _ hlt, hp, Option.bind_some, wrap_succ hlt hn, ih (j + 1) k (by omega) (by omega), List.drop_eq_getElem_cons hlt]
    simp only [firstBy]
    split <;> rfl
theorem slices_ContainsFunc_int_int__IsValidLin_1_eq (p : Int → Bool) (hp : ∀ c, impl_IsValidLin_1.f c = some (p c)) (xs : List Int) (hn : xs.length ≤ 4611686018427387904) (k : Nat) (hk : xs.length < k) :
    slices_ContainsFunc_int_int__IsValidLin_1.f k xs () = some (xs.any p) := by
  unfold slices_ContainsFunc_int_int__IsValidLin_1.f slices_IndexFunc_int_int__IsValidLin_1.f
  have := slices_IndexFunc_int_int__IsValidLin_1_l0 p hp xs hn xs.length 0 k (by omega) hk
  rw [show ((0 : Nat) : Int) = 0 from rfl, List.drop_zero] at this
  rw [this, Option.bind_some, firstBy_any p xs 0 (by omega)]
theorem impl_IsValidLin_eq (c : Int) (cs : List Int) (n : Int) (hn : cs.length ≤ 4611686018427387904) (k : Nat) (hk : cs.length < k) : impl_IsValidLin.f k c cs n = some (validLin c cs n) := by
  unfold impl_IsValidLin.f validLin
  rw [impl_within_eq, impl_coeffOk_eq, slices_ContainsFunc_int_int__IsValidLin_1_eq (fun c => !(okc c)) (fun c => by unfold impl_IsValidLin_1.f; rw [impl_coeffOk_eq]; rfl) cs hn k hk]
  simp only [Option.bind_some, any_not_all]
  by_cases h1 : 0 ≤ n ∧ n ≤ 8 <;> by_cases h2 : (cs.length : Int) = n <;> cases h3 : okc c <;> simp [h1, h2]

/-- ConstLin. -/
def constLin (k n : Int) : Int × List Int := if (0 ≤ n ∧ n ≤ 8) ∧ okc k = true then (k, List.replicate n.toNat 0) else (0, [])

theorem impl_ConstLin_eq (k n : Int) : impl_ConstLin.f k n = some (constLin k n) := by
  unfold impl_ConstLin.f constLin
  rw [impl_within_eq, impl_coeffOk_eq]; simp only [Option.bind_some, decide_eq_true_eq]
  by_cases h : 0 ≤ n ∧ n ≤ 8
  · have h3 : n.toNat ≤ 35184372088832 := by omega
    rw [if_pos h, if_pos h.1, if_pos h3]; cases h2 : okc k
    · rw [if_neg (by simp), if_neg (by simp)]
    · rw [if_pos rfl, if_pos ⟨h, rfl⟩]
  · rw [if_neg h, if_neg (fun e => h e.1)]

theorem impl_AddScaled_l0 (kk : Int) (n : Nat) (c : Int) (cs : List Int) (d : Int) (ds : List Int) (oc : Int) (h1 : cs.length = n) (h2 : ds.length = n) (hn : n ≤ 4611686018427387904) : ∀ (e j k : Nat) (p r : List Int) (all : Bool), j + e = n → e < k → p.length = j → r.length = e →
    impl_AddScaled.l0 k kk all (n : Int) (j : Int) c cs d ds oc (p ++ r) = some (if (all && okAll kk (cs.drop j) (ds.drop j)) = true then (oc, p ++ vals kk (cs.drop j) (ds.drop j), true) else (0, [], false)) := by
  intro e
  induction e with
  | zero =>
    intro j k p r all hj hk hp hr
    obtain ⟨k, rfl⟩ := succ_of hk
    have : r = [] := List.length_eq_zero_iff.1 hr
    subst this
    simp only [impl_AddScaled.l0]
    rw [if_neg (by omega), List.drop_eq_nil_of_le (by omega), List.drop_eq_nil_of_le (by omega)]
    cases all <;> simp [okAll, vals]
  | succ e ih =>
    intro j k p r all hj hk hp hr
    obtain ⟨k, rfl⟩ := succ_of hk
    cases r with
    | nil => simp at hr
    | cons y r =>
      have hj1 : j < cs.length := by omega
      have hj2 : j < ds.length := by omega
      simp only [impl_AddScaled.l0]
      rw [if_pos (by omega), if_pos (by omega), if_pos (by omega), if_pos (by omega), rd_nat _ _ hj1, rd_nat _ _ hj2, impl_scaled_eq, Option.bind_some, if_pos (by simp only [List.length_append, List.length_cons]; omega), Option.bind_some, wrap_succ (n := n) (by omega) hn, Int.toNat_natCast]
      have es : (p ++ y :: r).set j (scVal cs[j] kk ds[j]) = (p ++ [scVal cs[j] kk ds[j]]) ++ r := by generalize scVal cs[j] kk ds[j] = z; rw [← hp]; simp
      have hi := ih (j + 1) k (p ++ [scVal cs[j] kk ds[j]]) r
      have hz : vals kk (cs.drop j) (ds.drop j) = scVal cs[j] kk ds[j] :: vals kk (cs.drop (j + 1)) (ds.drop (j + 1)) := by unfold vals; exact drop_zip _ _ _ _ hj1 hj2
      rw [es, hi (scOk cs[j] kk ds[j]) (by omega) (by omega) (by simp; omega) (by simpa using hr), hi false (by omega) (by omega) (by simp; omega) (by simpa using hr), drop_okAll _ _ _ _ hj1 hj2, hz]
      cases all <;> simp
theorem impl_AddScaled_eq (c : Int) (cs : List Int) (kk : Int) (d : Int) (ds : List Int) (hn : cs.length ≤ 1048577) (hm : ds.length ≤ 1048577) (k : Nat) (hk : 1048600 < k) : impl_AddScaled.f k c cs kk d ds = some (addSc c cs kk d ds) := by
  unfold impl_AddScaled.f addSc
  rw [impl_IsValidLin_eq c cs _ (by omega) k (by omega), impl_IsValidLin_eq d ds _ (by omega) k (by omega), impl_coeffOk_eq]
  simp only [Option.bind_some]
  obtain ⟨k, rfl⟩ := succ_of hk
  simp only [impl_AddScaled.j0]
  cases hv : validLin c cs (cs.length : Int) with
  | false => simp
  | true =>
    cases hw : validLin d ds (cs.length : Int) with
    | false => simp
    | true =>
      cases ho : okc kk with
      | false => simp
      | true =>
        have h1 := (validLin_iff _ _ _).1 hv
        have h2 := (validLin_iff _ _ _).1 hw
        have hc : constLin 0 (cs.length : Int) = (0, List.replicate cs.length 0) := by unfold constLin; rw [if_pos ⟨h1.1, by rw [okc_iff]; omega⟩, Int.toNat_natCast]
        have hl := impl_AddScaled_l0 kk cs.length c cs d ds (scVal c kk d) rfl (by omega) (by omega) cs.length 0 k [] (List.replicate cs.length 0) (scOk c kk d) (by omega) (by omega) rfl (by simp)
        rw [show ((0 : Nat) : Int) = 0 from rfl, List.nil_append, List.drop_zero, List.drop_zero, List.nil_append] at hl
        rw [if_pos rfl, if_pos rfl, if_neg (by simp), impl_ConstLin_eq, Option.bind_some, hc, impl_scaled_eq, Option.bind_some, hl]
        simp only [true_and]
        cases scOk c kk d <;> cases okAll kk cs ds <;> simp

theorem slices_Equal_l0 (a b : List Int) (hab : a.length = b.length) (hn : a.length ≤ 4611686018427387904) : ∀ (d j k : Nat), j + d = a.length → d < k →
    slices_Equal_int_int.l0 k a b (a.length : Int) (j : Int) = some (decide (a.drop j = b.drop j)) := by
  intro d
  induction d with
  | zero =>
    intro j k hj hk
    obtain ⟨k, rfl⟩ := succ_of hk
    simp only [slices_Equal_int_int.l0]
    rw [if_neg (by omega), List.drop_eq_nil_of_le (by omega), List.drop_eq_nil_of_le (by omega)]; simp
  | succ d ih =>
    intro j k hj hk
    obtain ⟨k, rfl⟩ := succ_of hk
    have hlt : j < a.length := by omega
    simp only [slices_Equal_int_int.l0]
    rw [if_pos (by omega), if_pos (by omega), if_pos (by omega), if_pos (by omega), rd_nat _ _ hlt, rd_nat _ _ (by omega), wrap_succ hlt hn, ih (j + 1) k (by omega) (by omega), List.drop_eq_getElem_cons hlt, List.drop_eq_getElem_cons (hab ▸ hlt : j < b.length)]
    simp only [List.cons.injEq]
    by_cases h : a[j] = b[j]
    · rw [if_pos h]; simp only [h, true_and]
    · rw [if_neg h]; simp only [h, false_and, decide_false]
theorem slices_Equal_eq (a b : List Int) (hn : a.length ≤ 4611686018427387904) (k : Nat) (hk : a.length < k) : slices_Equal_int_int.f k a b = some (decide (a = b)) := by
  unfold slices_Equal_int_int.f
  by_cases h : a.length = b.length
  · rw [if_pos (by omega)]
    have := slices_Equal_l0 a b h hn a.length 0 k (by omega) hk
    simpa using this
  · rw [if_neg (by omega)]; congr 1; symm; rw [decide_eq_false_iff_not]; intro e; exact h (by rw [e])

theorem impl_EqualLin_eq (c : Int) (a : List Int) (c' : Int) (b : List Int) (hn : a.length ≤ 4611686018427387904) (k : Nat) (hk : a.length < k) : impl_EqualLin.f k c a c' b = some (decide (c = c' ∧ a = b)) := by
  unfold impl_EqualLin.f
  rw [slices_Equal_eq a b hn k hk]
  by_cases h : c = c' <;> by_cases h2 : a = b <;> simp [h, h2]

theorem impl_Fits_eq (n : Int) : impl_Fits.f n = some (fitsB n) := by unfold impl_Fits.f; rw [impl_within_eq]; rfl

theorem slices_IndexFunc_int_int__EvalLin_1_l0 (p : Int → Bool) (hp : ∀ c, impl_EvalLin_1.f c = some (p c)) (xs : List Int) (hn : xs.length ≤ 4611686018427387904) : ∀ (d j k : Nat), j + d = xs.length → d < k →
    slices_IndexFunc_int_int__EvalLin_1.l0 k xs (xs.length : Int) (j : Int) = some (firstBy p (xs.drop j) (j : Int)) := by
  intro d
  induction d with
  | zero =>
    intro j k hj hk
    obtain ⟨k, rfl⟩ := succ_of hk
    simp only [slices_IndexFunc_int_int__EvalLin_1.l0]
    rw [if_neg (by omega), List.drop_eq_nil_of_le (by omega)]; rfl
  | succ d ih =>
    intro j k hj hk
    obtain ⟨k, rfl⟩ := succ_of hk
    have hlt : j < xs.length := by omega
    simp only [slices_IndexFunc_int_int__EvalLin_1.l0]
    rw [if_pos (by omega), if_pos (by omega), if_pos (by omega), rd_nat _ _ hlt, hp, Option.bind_some, wrap_succ hlt hn, ih (j + 1) k (by omega) (by omega), List.drop_eq_getElem_cons hlt]
    simp only [firstBy]
    split <;> rfl
theorem slices_ContainsFunc_int_int__EvalLin_1_eq (p : Int → Bool) (hp : ∀ c, impl_EvalLin_1.f c = some (p c)) (xs : List Int) (hn : xs.length ≤ 4611686018427387904) (k : Nat) (hk : xs.length < k) :
    slices_ContainsFunc_int_int__EvalLin_1.f k xs () = some (xs.any p) := by
  unfold slices_ContainsFunc_int_int__EvalLin_1.f slices_IndexFunc_int_int__EvalLin_1.f
  have := slices_IndexFunc_int_int__EvalLin_1_l0 p hp xs hn xs.length 0 k (by omega) hk
  rw [show ((0 : Nat) : Int) = 0 from rfl, List.drop_zero] at this
  rw [this, Option.bind_some, firstBy_any p xs 0 (by omega)]
theorem impl_EvalLin_l0 (c0 : Int) (cs vs : List Int) (hl : cs.length = vs.length) (h8 : vs.length ≤ 8) (hc : ∀ x ∈ cs, okc x = true) (hf : ∀ v ∈ vs, fitsB v = true) : ∀ (d j k : Nat) (s : Int), j + d = vs.length → d < k → -(1000000000 + 1000000000000000 * (j : Int)) ≤ s → s ≤ 1000000000 + 1000000000000000 * (j : Int) →
    impl_EvalLin.l0 k s vs (vs.length : Int) (j : Int) c0 cs = some (s + dot (cs.drop j) (vs.drop j), true) := by
  intro d
  induction d with
  | zero =>
    intro j k s hj hk h0 h1
    obtain ⟨k, rfl⟩ := succ_of hk
    simp only [impl_EvalLin.l0]
    rw [if_neg (by omega), List.drop_eq_nil_of_le (by omega : vs.length ≤ j)]; simp [dot]
  | succ d ih =>
    intro j k s hj hk h0 h1
    obtain ⟨k, rfl⟩ := succ_of hk
    have hlt : j < vs.length := by omega
    have hlc : j < cs.length := by omega
    simp only [impl_EvalLin.l0]
    have hb := mul_okc_fits ((okc_iff _).1 (hc _ (List.getElem_mem hlc))) ((fitsB_iff _).1 (hf _ (List.getElem_mem hlt)))
    rw [if_pos (by omega), if_pos (by omega), if_pos (by omega), if_pos (by omega), rd_nat _ _ hlt, rd_nat _ _ hlc, drop_cons vs j hlt, drop_cons cs j hlc, wrap_id (n := cs[j] * vs[j]) (by omega) (by omega), wrap_id (by omega) (by omega), wrap_succ hlt (by omega), ih (j + 1) k _ (by omega) (by omega) (by omega) (by omega)]
    simp only [dot]
    rw [Int.add_assoc]
theorem impl_EvalLin_eq (c : Int) (cs vs : List Int) (hn : cs.length ≤ 4611686018427387904) (hv : vs.length ≤ 4611686018427387904) (k : Nat) (hk : cs.length + vs.length + 10 < k) : impl_EvalLin.f k c cs vs = some (evalLin c cs vs) := by
  unfold impl_EvalLin.f evalLin
  rw [impl_IsValidLin_eq c cs _ hn k (by omega), Option.bind_some, slices_ContainsFunc_int_int__EvalLin_1_eq (fun c => !(fitsB c)) (fun c => by unfold impl_EvalLin_1.f; rw [impl_Fits_eq]; rfl) vs hv k (by omega), Option.bind_some]
  obtain ⟨k, rfl⟩ := succ_of hk
  simp only [impl_EvalLin.j0]
  cases h : validLin c cs (vs.length : Int) with
  | false => simp
  | true =>
    obtain ⟨h1, h2, h3, h4⟩ := (validLin_iff _ _ _).1 h
    have h3 := (okc_iff _).1 h3
    rw [if_pos rfl]
    have ha := any_not_all fitsB vs
    cases hf : vs.all fitsB with
    | false =>
      rw [hf] at ha
      rw [if_pos (by simpa using ha), if_neg (by simp)]
    | true =>
      rw [hf] at ha
      have := impl_EvalLin_l0 c cs vs (by omega) (by omega) h4 (by simpa using hf) vs.length 0 k c (by omega) (by omega) (by omega) (by omega)
      rw [show ((0 : Nat) : Int) = 0 from rfl, List.drop_zero, List.drop_zero] at this
      rw [if_neg (by simpa using ha), if_pos ⟨rfl, rfl⟩, this]

theorem linear_l0 (b : List Int) (hb : b.length ≤ 1048576) (hx : ∀ x ∈ b, 0 ≤ x ∧ x ≤ 255) (c : Int) (cs : List Int) (kk d : Int) (ds : List Int) (r : Int) (rs : List Int) (ok : Bool) (hr : (r, rs, ok) = addSc c cs kk d ds) (h9 : cs.length ≤ 9) (hd9 : ds.length ≤ 9) : ∀ (e j k : Nat) (vs : List Int), j + e = cs.length → e + b.length + 1000 < k → vs.length = j → (∀ x ∈ vs, -5 ≤ x ∧ x ≤ 14) →
    laws_FnLinear.l0 k b kk ok vs (j : Int) c cs d ds r rs = some true := by
  have h8 : rs.length ≤ 8 := by
    have := addSc_length c cs kk d ds
    rwa [← hr] at this
  intro e
  induction e with
  | zero =>
    intro j k vs hj hk hvs hs
    obtain ⟨k, rfl⟩ := succ_of hk
    simp only [laws_FnLinear.l0]
    rw [if_neg (by omega)]
    cases ok
    · rfl
    · have hf : ∀ v ∈ vs, fitsB v = true := fun v h => by rw [fitsB_iff]; have := hs v h; omega
      obtain ⟨l1, l2⟩ := linear_law c cs kk d ds vs r rs hr (by omega) hf
      rw [if_pos rfl, impl_EvalLin_eq _ _ _ (by omega) (by omega) k (by omega), impl_EvalLin_eq _ _ _ (by omega) (by omega) k (by omega), impl_EvalLin_eq _ _ _ (by omega) (by omega) k (by omega)]
      simp only [Option.bind_some]
      rw [if_pos l1, l2]; simp
  | succ e ih =>
    intro j k vs hj hk hvs hs
    obtain ⟨k, rfl⟩ := succ_of hk
    simp only [laws_FnLinear.l0]
    obtain ⟨t, er, r0, r1⟩ := laws_at0_ex b j (by omega) hx (by omega)
    have hm := mod_bound t 20 r0 (by omega)
    rw [if_pos (by omega), er, Option.bind_some, if_pos (by omega), wrap_succ (n := cs.length) (by omega) (by omega), wrap_id (n := Int.tmod t 20 - 5) (by omega) (by omega)]
    refine ih (j + 1) k _ (by omega) (by omega) (by simp; omega) ?_
    intro x hx
    rcases List.mem_append.1 hx with h | h
    · exact hs x h
    · rw [List.mem_singleton.1 h]; omega
theorem FnLinear : laws_FnLinear.Pure := by
  intro b hb hb2 hu
  have hx : ∀ x ∈ b, 0 ≤ x ∧ x ≤ 255 := fun x h => lit_u8 (hu x h)
  refine ⟨2999999 + b.length + 1, ?_⟩
  unfold laws_FnLinear.f laws_big.f
  rw [Option.bind_some]
  split
  · rfl
  rename_i hbig
  simp only [decide_eq_true_eq] at hbig
  obtain ⟨c, cs, kk, d, ds, e1, h1, h2⟩ := spec_DrawAddScaled_ex b (by omega) (2999999 + b.length + 1) (by omega) (by omega)
  have hl := addSc_length c cs kk d ds
  rw [e1]; simp only [Option.bind_some]
  rw [impl_AddScaled_eq c cs kk d ds (by omega) (by omega) _ (by omega), spec_AddScaled_eq c cs kk d ds (by omega) (by omega) _ (by omega)]; simp only [Option.bind_some]
  rw [impl_EqualLin_eq _ _ _ _ (by omega) _ (by omega), impl_IsValidLin_eq _ _ _ (by omega) _ (by omega), spec_IsValidLin_eq _ _ _ (by omega) _ (by omega)]
  simp only [Option.bind_some, and_self, decide_true, if_true, bne_self_eq_false, Bool.false_eq_true, if_false]
  simp only [laws_FnLinear.j0]
  rw [if_neg (by simp)]
  exact linear_l0 b (by omega) hx c cs kk d ds _ _ _ rfl h1 h2 cs.length 0 (2999999 + b.length) [] (by omega) (by omega) rfl (by simp)

end Go.Proofs.Ytkfllkmhbkmepaa.Pure
