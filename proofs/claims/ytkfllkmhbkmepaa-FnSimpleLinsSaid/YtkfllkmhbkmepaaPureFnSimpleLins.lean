/- Constants and single variables are the reference's, a variable's value at a point is the point's entry, and values are the reference's: the law FnSimpleLins returns true at every draw. -/
import Derived.Test.YtkfllkmhbkmepaaQFnSimpleLinsx7
namespace Go.Proofs.Ytkfllkmhbkmepaa.Pure
open Go.RowKit Go.Proofs.YtkfllkmhbkmepaaV.PrintWords Go.Proofs.YtkfllkmhbkmepaaV.PrintLast Go.Proofs.YtkfllkmhbkmepaaV.PrintMore Go.Proofs.Ytkfllkmhbkmepaa.QFnSimpleLins
set_option linter.unusedVariables false
set_option linter.unusedSimpArgs false

theorem wrap_id {n : Int} (h0 : -9223372036854775808 ≤ n) (h1 : n ≤ 9223372036854775807) : wrap64 n = n := by
  unfold wrap64; omega
theorem wrap_succ {j n : Nat} (h : j < n) (hn : n ≤ 4611686018427387904) : wrap64 ((j : Int) + 1) = ((j + 1 : Nat) : Int) := by
  unfold wrap64; omega
theorem succ_of {d k : Nat} (h : d < k) : ∃ m, k = m + 1 := ⟨k - 1, by omega⟩
theorem lit_int {n : Int} (h : (Lit.int .i64 n).wf = true) : -9223372036854775808 ≤ n ∧ n ≤ 9223372036854775807 := by
  simpa [Lit.wf, IntKind.min, IntKind.max, IntKind.signed, IntKind.bits] using h

theorem rdOf_nat {α : Type} (d : α) (xs : List α) (j : Nat) (h : j < xs.length) : rdOf d xs (j : Int) = xs[j] := by
  unfold rdOf; rw [Int.toNat_natCast, List.getD_eq_getElem?_getD, List.getElem?_eq_getElem h]; rfl
theorem rd_nat (xs : List Int) (j : Nat) (h : j < xs.length) : rd xs (j : Int) = xs[j] := by
  unfold rd; rw [Int.toNat_natCast, List.getD_eq_getElem?_getD, List.getElem?_eq_getElem h]; rfl

/-- A cursor: the place lies in the bytes. -/
def Cur (b : List Int) (i : Int) : Prop := 0 ≤ i ∧ i ≤ (b.length : Int) ∧ b.length ≤ 140737488351232
theorem and255 (x : Int) : 0 ≤ Go.bits .and .i64 x 255 ∧ Go.bits .and .i64 x 255 ≤ 255 := by
  have h : (BitVec.ofInt 64 x &&& BitVec.ofInt 64 255).toNat ≤ 255 := by rw [BitVec.toNat_and]; exact Nat.le_trans Nat.and_le_right (by decide)
  have e : Go.bits .and .i64 x 255 = IntKind.i64.wrap (((BitVec.ofInt 64 x &&& BitVec.ofInt 64 255).toNat : Nat) : Int) := rfl
  rw [e, IntKind.wrap_i64]
  omega

theorem spec_l1New_l0 (b : List Int) (hb : b.length ≤ 140737488351232) : ∀ (d j k : Nat) (h : Int), j + d = b.length → d < k → ∃ h', spec_l1New.l0 k b h (j : Int) = some (b, 0, h') := by
  intro d
  induction d with
  | zero =>
    intro j k h hj hk
    obtain ⟨k, rfl⟩ := succ_of hk
    simp only [spec_l1New.l0]
    rw [if_neg (by omega)]
    exact ⟨_, rfl⟩
  | succ d ih =>
    intro j k h hj hk
    obtain ⟨k, rfl⟩ := succ_of hk
    have hlt : j < b.length := by omega
    simp only [spec_l1New.l0]
    rw [if_pos (by omega)]
    by_cases h4 : (j : Int) < 4000
    · rw [if_pos h4, if_pos (by omega), wrap_succ hlt (by omega)]
      exact ih (j + 1) k _ (by omega) (by omega)
    · rw [if_neg h4]; exact ⟨_, rfl⟩
theorem spec_l1New_ex (b : List Int) (hb : b.length ≤ 140737488351232) (k : Nat) (hk : b.length < k) : ∃ h', spec_l1New.f k b = some (b, 0, h') := by
  unfold spec_l1New.f
  exact spec_l1New_l0 b hb b.length 0 k _ (by omega) hk
theorem cur_zero (b : List Int) (hb : b.length ≤ 140737488351232) : Cur b 0 := ⟨Int.le_refl _, by omega, hb⟩

theorem spec_l1Byte_ex (b : List Int) (i h : Int) (hc : Cur b i) : ∃ r i' h', spec_l1Byte.f b i h = some (r, i', h') ∧ 0 ≤ r ∧ r ≤ 255 ∧ Cur b i' := by
  obtain ⟨h0, h1, h2⟩ := hc
  unfold spec_l1Byte.f
  by_cases hlt : i < (b.length : Int)
  · rw [if_pos hlt, if_pos h0]
    refine ⟨_, _, _, rfl, (and255 _).1, (and255 _).2, ?_⟩
    rw [wrap_id (by omega) (by omega)]
    exact ⟨by omega, by omega, h2⟩
  · rw [if_neg hlt]
    exact ⟨_, _, _, rfl, (and255 _).1, (and255 _).2, h0, h1, h2⟩

theorem spec_l1Below_ex (b : List Int) (i h n : Int) (hc : Cur b i) : ∃ r i' h', spec_l1Below.f b i h n = some (r, i', h') ∧ 0 ≤ r ∧ (0 < n → r < n) ∧ (n ≤ 0 → r = 0) ∧ Cur b i' := by
  unfold spec_l1Below.f
  by_cases h0 : n ≤ 0
  · rw [if_pos h0]; exact ⟨0, _, _, rfl, by omega, by omega, fun _ => rfl, hc⟩
  rw [if_neg h0]
  by_cases h1 : n ≤ 256
  · rw [if_pos h1]
    obtain ⟨r, i', h', e, r0, r1, c1⟩ := spec_l1Byte_ex b i h hc
    rw [e]; simp only [Option.bind_some]
    rw [if_neg (by omega)]
    exact ⟨_, _, _, rfl, Int.tmod_nonneg _ r0, fun _ => Int.tmod_lt_of_pos _ (by omega), by omega, c1⟩
  · rw [if_neg h1]
    obtain ⟨x, i1, g1, e1, x0, x1, c1⟩ := spec_l1Byte_ex b i h hc
    rw [e1]; simp only [Option.bind_some]
    obtain ⟨y, i2, g2, e2, y0, y1, c2⟩ := spec_l1Byte_ex b i1 g1 c1
    rw [e2]; simp only [Option.bind_some]
    obtain ⟨z, i3, g3, e3, z0, z1, c3⟩ := spec_l1Byte_ex b i2 g2 c2
    rw [e3]; simp only [Option.bind_some]
    obtain ⟨u, i4, g4, e4, u0, u1, c4⟩ := spec_l1Byte_ex b i3 g3 c3
    rw [e4]; simp only [Option.bind_some]
    rw [if_neg (by omega)]
    refine ⟨_, _, _, rfl, Int.tmod_nonneg _ ?_, fun _ => Int.tmod_lt_of_pos _ (by omega), by omega, c4⟩
    unfold wrap64; omega

theorem spec_l1PickInt_ex (b : List Int) (i h : Int) (l : List Int) (hl : 0 < l.length) (hc : Cur b i) : ∃ r i' h', spec_l1PickInt.f b i h l = some (r, i', h') ∧ r ∈ l ∧ Cur b i' := by
  unfold spec_l1PickInt.f
  obtain ⟨r, i', h', e, r0, r1, _, c1⟩ := spec_l1Below_ex b i h (l.length : Int) hc
  have r1 := r1 (by omega)
  rw [e]; simp only [Option.bind_some]
  rw [if_pos r0, if_pos r1]
  refine ⟨_, _, _, rfl, ?_, c1⟩
  have hlt : r.toNat < l.length := by omega
  have := rd_nat l r.toNat hlt
  rw [Int.toNat_of_nonneg r0] at this
  rw [this]; exact List.getElem_mem hlt

theorem spec_l3Any_ex (b : List Int) (i h : Int) (hc : Cur b i) : ∃ r i' h', spec_l3Any.f b i h = some (r, i', h') ∧ (-9223372036854775808 ≤ r ∧ r ≤ 9223372036854775807) ∧ Cur b i' := by
  unfold spec_l3Any.f
  obtain ⟨r, i', h', e, hm, c1⟩ := spec_l1PickInt_ex b i h [0, 1, (-1), 2, 5, (-6), 12, 1000000, (-1000001), 1000000000, (-1000000000), 1000000001, 40000, 9223372036854775807, (-9223372036854775808)] (by simp) hc
  rw [e]; simp only [Option.bind_some]
  refine ⟨_, _, _, rfl, ?_, c1⟩
  simp only [List.mem_cons, List.not_mem_nil, or_false] at hm
  omega

theorem spec_DrawConstLin_ex (b : List Int) (hb : b.length ≤ 140737488351232) (k : Nat) (hk : b.length < k) : ∃ x n, spec_DrawConstLin.f k b = some (x, n) := by
  unfold spec_DrawConstLin.f
  obtain ⟨h0, e0⟩ := spec_l1New_ex b hb k hk
  rw [e0]; simp only [Option.bind_some]
  obtain ⟨x, i1, h1, e1, _, c1⟩ := spec_l3Any_ex b 0 h0 (cur_zero b hb)
  rw [e1]; simp only [Option.bind_some]
  obtain ⟨n, i2, h2, e2, _, _⟩ := spec_l1PickInt_ex b i1 h1 [0, 2, 8, 9, (-1)] (by simp) c1
  rw [e2]; simp only [Option.bind_some]
  exact ⟨x, n, rfl⟩

theorem spec_DrawVarLin_ex (b : List Int) (hb : b.length ≤ 140737488351232) (k : Nat) (hk : b.length < k) : ∃ x n, spec_DrawVarLin.f k b = some (x, n) ∧ (-1 ≤ x ∧ x ≤ 3) ∧ (-1 ≤ n ∧ n ≤ 9) := by
  unfold spec_DrawVarLin.f
  obtain ⟨h0, e0⟩ := spec_l1New_ex b hb k hk
  rw [e0]; simp only [Option.bind_some]
  obtain ⟨x, i1, h1, e1, x0, x1, _, c1⟩ := spec_l1Below_ex b 0 h0 5 (cur_zero b hb)
  rw [e1]; simp only [Option.bind_some]
  obtain ⟨n, i2, h2, e2, hm, _⟩ := spec_l1PickInt_ex b i1 h1 [0, 2, 3, 8, 9, (-1)] (by simp) c1
  rw [e2]; simp only [Option.bind_some]
  have x1 := x1 (by omega)
  rw [wrap_id (by omega) (by omega)]
  refine ⟨_, _, rfl, by omega, ?_⟩
  simp only [List.mem_cons, List.not_mem_nil, or_false] at hm
  omega

theorem spec_l4Small_ex (b : List Int) (i h : Int) (hc : Cur b i) : ∃ r i' h', spec_l4Small.f b i h = some (r, i', h') ∧ (-2 ≤ r ∧ r ≤ 3) ∧ Cur b i' := by
  unfold spec_l4Small.f
  obtain ⟨r, i', h', e, hm, c1⟩ := spec_l1PickInt_ex b i h [0, 0, 1, (-1), 1, 2, (-2), 3] (by simp) hc
  rw [e]; simp only [Option.bind_some]
  refine ⟨_, _, _, rfl, ?_, c1⟩
  simp only [List.mem_cons, List.not_mem_nil, or_false] at hm
  omega

theorem spec_l4Draw_l0 (b : List Int) (n : Nat) (hn : n ≤ 4611686018427387904) (c : Int) : ∀ (d j k : Nat) (i h : Int) (r : List Int), j + d = n → d < k → r.length = n → Cur b i → (∀ x ∈ r, -2 ≤ x ∧ x ≤ 3) →
    ∃ r' i' h', spec_l4Draw.l0 k (n : Int) (j : Int) b i h c r = some (c, r', i', h') ∧ r'.length = n ∧ Cur b i' ∧ (∀ x ∈ r', -2 ≤ x ∧ x ≤ 3) := by
  intro d
  induction d with
  | zero =>
    intro j k i h r hj hk hr hc hx
    obtain ⟨k, rfl⟩ := succ_of hk
    simp only [spec_l4Draw.l0]
    rw [if_neg (by omega)]
    exact ⟨_, _, _, rfl, hr, hc, hx⟩
  | succ d ih =>
    intro j k i h r hj hk hr hc hx
    obtain ⟨k, rfl⟩ := succ_of hk
    simp only [spec_l4Draw.l0]
    obtain ⟨x, i1, h1, e1, hb1, c1⟩ := spec_l4Small_ex b i h hc
    rw [if_pos (by omega), e1]; simp only [Option.bind_some]
    rw [if_pos (by omega), if_pos (by omega), wrap_succ (n := n) (by omega) hn]
    refine ih (j + 1) k _ _ _ (by omega) (by omega) (by simpa using hr) c1 ?_
    intro y hy
    rcases List.mem_or_eq_of_mem_set hy with h | rfl
    · exact hx y h
    · exact hb1
theorem spec_l4Draw_ex (b : List Int) (i h n : Int) (hc : Cur b i) (h0 : 0 ≤ n) (h1 : n ≤ 35184372088832) (k : Nat) (hk : n < k) :
    ∃ c r i' h', spec_l4Draw.f k b i h n = some (c, r, i', h') ∧ (r.length : Int) = n ∧ Cur b i' ∧ (∀ x ∈ r, -2 ≤ x ∧ x ≤ 3) ∧ (-4 ≤ c ∧ c ≤ 4) := by
  unfold spec_l4Draw.f
  obtain ⟨x, i1, g1, e1, x0, x1, _, c1⟩ := spec_l1Below_ex b i h 9 hc
  have x1 := x1 (by omega)
  rw [e1]; simp only [Option.bind_some]
  rw [if_pos h0, if_pos (by omega), wrap_id (by omega) (by omega)]
  obtain ⟨r, i2, g2, e2, hl, c2, hx⟩ := spec_l4Draw_l0 b n.toNat (by omega) (x - 4) n.toNat 0 k i1 g1 (List.replicate n.toNat 0) (by omega) (by omega) (by simp) c1 (by intro y hy; rw [(List.mem_replicate.1 hy).2]; omega)
  rw [show ((n.toNat : Nat) : Int) = n by omega, show ((0 : Nat) : Int) = 0 from rfl] at e2
  rw [e2]
  exact ⟨_, _, _, _, rfl, by omega, c2, hx, by omega⟩

theorem spec_l4Bent_ex (b : List Int) (i h : Int) (hc : Cur b i) (k : Nat) (hk : 20 < k) :
    ∃ c r i' h', spec_l4Bent.f k b i h = some (c, r, i', h') ∧ r.length ≤ 9 ∧ Cur b i' := by
  unfold spec_l4Bent.f
  obtain ⟨n, i1, g1, e1, n0, n1, _, c1⟩ := spec_l1Below_ex b i h 4 hc
  have n1 := n1 (by omega)
  rw [e1]; simp only [Option.bind_some]
  obtain ⟨c, r, i2, g2, e2, hl, c2, _, _⟩ := spec_l4Draw_ex b i1 g1 n c1 n0 (by omega) k (by omega)
  rw [e2]; simp only [Option.bind_some]
  obtain ⟨m, i3, g3, e3, _, _, _, c3⟩ := spec_l1Below_ex b i2 g2 10 c2
  rw [e3]; simp only [Option.bind_some]
  obtain ⟨x, i4, g4, e4, _, c4⟩ := spec_l3Any_ex b i3 g3 c3
  split
  · rw [e4]; simp only [Option.bind_some]
    exact ⟨_, _, _, _, rfl, by omega, c4⟩
  split
  · rw [e4]; simp only [Option.bind_some]
    rw [if_pos (by omega)]
    exact ⟨_, _, _, _, rfl, by simp; omega, c4⟩
  split
  · rw [if_pos (by omega)]
    exact ⟨_, _, _, _, rfl, by simp, c3⟩
  · exact ⟨_, _, _, _, rfl, by omega, c3⟩

theorem spec_l1Once_ex (b : List Int) (i h n : Int) (hc : Cur b i) : ∃ r i' h', spec_l1Once.f b i h n = some (r, i', h') ∧ Cur b i' := by
  unfold spec_l1Once.f
  obtain ⟨r, i', h', e, _, _, _, c1⟩ := spec_l1Below_ex b i h n hc
  rw [e]; simp only [Option.bind_some]
  exact ⟨_, _, _, rfl, c1⟩

theorem spec_DrawEvalLin_l0 (b : List Int) (c : Int) (cs : List Int) (hn : cs.length ≤ 9) : ∀ (d j k : Nat) (i h : Int) (vs : List Int), j + d = cs.length → d < k → vs.length = j → Cur b i →
    ∃ vs', spec_DrawEvalLin.l0 k vs (j : Int) b i h c cs = some (c, cs, vs') ∧ vs'.length = cs.length := by
  intro d
  induction d with
  | zero =>
    intro j k i h vs hj hk hv hc
    obtain ⟨k, rfl⟩ := succ_of hk
    simp only [spec_DrawEvalLin.l0]
    rw [if_neg (by omega)]
    obtain ⟨r, i1, h1, e1, c1⟩ := spec_l1Once_ex b i h 8 hc
    obtain ⟨x, i2, h2, e2, _, c2⟩ := spec_l3Any_ex b i1 h1 c1
    by_cases h0 : (vs.length : Int) > 0
    · rw [if_pos h0, e1]; simp only [Option.bind_some]
      cases r
      · exact ⟨_, rfl, by omega⟩
      · rw [if_pos rfl, e2]; simp only [Option.bind_some]
        rw [if_pos (by omega)]
        exact ⟨_, rfl, by simp; omega⟩
    · rw [if_neg h0]
      exact ⟨_, rfl, by omega⟩
  | succ d ih =>
    intro j k i h vs hj hk hv hc
    obtain ⟨k, rfl⟩ := succ_of hk
    simp only [spec_DrawEvalLin.l0]
    obtain ⟨r, i1, h1, e1, _, _, _, c1⟩ := spec_l1Below_ex b i h 20 hc
    rw [if_pos (by omega), e1]; simp only [Option.bind_some]
    rw [if_pos (by omega), wrap_succ (n := cs.length) (by omega) (by omega)]
    exact ih (j + 1) k _ _ _ (by omega) (by omega) (by simp; omega) c1
theorem spec_DrawEvalLin_ex (b : List Int) (hb : b.length ≤ 140737488351232) (k : Nat) (hk : b.length < k) (h2 : 20 < k) :
    ∃ c cs vs, spec_DrawEvalLin.f k b = some (c, cs, vs) ∧ cs.length ≤ 9 ∧ vs.length = cs.length := by
  unfold spec_DrawEvalLin.f
  obtain ⟨h0, e0⟩ := spec_l1New_ex b hb k hk
  rw [e0]; simp only [Option.bind_some]
  obtain ⟨c, cs, i1, h1, e1, hl, c1⟩ := spec_l4Bent_ex b 0 h0 (cur_zero b hb) k h2
  rw [e1]; simp only [Option.bind_some]
  obtain ⟨vs, e2, hv⟩ := spec_DrawEvalLin_l0 b c cs hl cs.length 0 k i1 h1 [] (by omega) (by omega) rfl c1
  rw [show ((0 : Nat) : Int) = 0 from rfl] at e2
  rw [e2]
  exact ⟨_, _, _, rfl, hl, hv⟩

/-- The law's reading of byte a1, or a stand-in. -/
theorem laws_at0_ex (b : List Int) (j : Nat) (hb : b.length ≤ 140737488351232) (hx : ∀ x ∈ b, 0 ≤ x ∧ x ≤ 255) (hj : j ≤ 1000) : ∃ r, laws_at0.f b (j : Int) = some r ∧ 0 ≤ r ∧ r ≤ 255 := by
  unfold laws_at0.f
  by_cases h : (j : Int) < (b.length : Int)
  · rw [if_pos h, if_pos (by omega)]
    have hm : 0 ≤ rd b (j : Int) ∧ rd b (j : Int) ≤ 255 := by
      unfold rd; rw [Int.toNat_natCast, List.getD_eq_getElem?_getD, List.getElem?_eq_getElem (by omega)]; exact hx _ (List.getElem_mem _)
    rw [wrap_id (by omega) (by omega)]
    exact ⟨_, rfl, hm⟩
  · rw [if_neg h, wrap_id (n := (j : Int) * 7) (by omega) (by omega), wrap_id (by omega) (by omega)]
    refine ⟨_, rfl, Int.tmod_nonneg _ (by omega), ?_⟩
    have := Int.tmod_lt_of_pos ((j : Int) * 7 + (b.length : Int)) (b := 256) (by omega)
    omega
theorem lit_u8 {n : Int} (h : (Lit.int .u8 n).wf = true) : 0 ≤ n ∧ n ≤ 255 := by
  simpa [Lit.wf, IntKind.min, IntKind.max, IntKind.signed, IntKind.bits] using h

theorem mod_bound (t m : Int) (h0 : 0 ≤ t) (hm : 0 < m) : 0 ≤ Int.tmod t m ∧ Int.tmod t m < m := ⟨Int.tmod_nonneg _ h0, Int.tmod_lt_of_pos _ hm⟩

/-- From -MaxCoeff to MaxCoeff. -/
def okc (n : Int) : Bool := decide (-1000000000 ≤ n ∧ n ≤ 1000000000)
theorem okc_iff (n : Int) : okc n = true ↔ -1000000000 ≤ n ∧ n ≤ 1000000000 := by unfold okc; exact decide_eq_true_iff
theorem okc_false (n : Int) : okc n = false ↔ ¬ (-1000000000 ≤ n ∧ n ≤ 1000000000) := by unfold okc; exact decide_eq_false_iff_not

/-- IsValidLin. -/
def validLin (c : Int) (cs : List Int) (n : Int) : Bool := decide (0 ≤ n ∧ n ≤ 8) && (decide ((cs.length : Int) = n) && (okc c && cs.all okc))
theorem validLin_iff (c : Int) (cs : List Int) (n : Int) : validLin c cs n = true ↔ (0 ≤ n ∧ n ≤ 8) ∧ (cs.length : Int) = n ∧ okc c = true ∧ ∀ x ∈ cs, okc x = true := by
  unfold validLin; simp only [Bool.and_eq_true, decide_eq_true_eq, List.all_eq_true]
theorem any_not_all {α : Type} (p : α → Bool) (xs : List α) : (!(xs.any fun c => !(p c))) = xs.all p := by
  induction xs with
  | nil => rfl
  | cons x xs ih => simp only [List.any_cons, List.all_cons, Bool.not_or, Bool.not_not, ih]

/-- Fits. -/
def fitsB (n : Int) : Bool := decide (-1000000 ≤ n ∧ n ≤ 1000000)
theorem fitsB_iff (n : Int) : fitsB n = true ↔ -1000000 ≤ n ∧ n ≤ 1000000 := by unfold fitsB; exact decide_eq_true_iff
theorem mul_bound {a b A B : Int} (ha : -A ≤ a ∧ a ≤ A) (hb : -B ≤ b ∧ b ≤ B) : -(A * B) ≤ a * b ∧ a * b ≤ A * B := by
  have h : (a * b).natAbs ≤ A.natAbs * B.natAbs := by rw [Int.natAbs_mul]; exact Nat.mul_le_mul (by omega) (by omega)
  have e : (A.natAbs * B.natAbs : Nat) = (A * B).natAbs := by rw [Int.natAbs_mul]
  have hA : 0 ≤ A := by omega
  have hB : 0 ≤ B := by omega
  have : 0 ≤ A * B := Int.mul_nonneg hA hB
  omega
theorem mul_okc_fits {a b : Int} (ha : -1000000000 ≤ a ∧ a ≤ 1000000000) (hb : -1000000 ≤ b ∧ b ≤ 1000000) : -1000000000000000 ≤ a * b ∧ a * b ≤ 1000000000000000 := by
  have := mul_bound (A := 1000000000) (B := 1000000) ha hb; omega
theorem mul_okc {a b : Int} (ha : -1000000000 ≤ a ∧ a ≤ 1000000000) (hb : -1000000000 ≤ b ∧ b ≤ 1000000000) : -1000000000000000000 ≤ a * b ∧ a * b ≤ 1000000000000000000 := by
  have := mul_bound (A := 1000000000) (B := 1000000000) ha hb; omega

/-- The sum of the products. -/
def dot : List Int → List Int → Int
  | c :: cs, v :: vs => c * v + dot cs vs
  | _, _ => 0
/-- EvalLin. -/
def evalLin (c : Int) (cs vs : List Int) : Int × Bool := if validLin c cs (vs.length : Int) = true ∧ vs.all fitsB = true then (c + dot cs vs, true) else (0, false)
theorem drop_cons {α : Type} (xs : List α) (j : Nat) (h : j < xs.length) : xs.drop j = xs[j] :: xs.drop (j + 1) := List.drop_eq_getElem_cons h

/-- VarLin. -/
def varLin (i n : Int) : Int × List Int := if (0 ≤ n ∧ n ≤ 8) ∧ (0 ≤ i ∧ i ≤ n - 1) then (0, (List.replicate n.toNat 0).set i.toNat 1) else (0, [])

theorem dot_zero (n : Nat) (vs : List Int) : dot (List.replicate n 0) vs = 0 := by
  induction n generalizing vs with
  | zero => cases vs <;> rfl
  | succ n ih => cases vs with
    | nil => rfl
    | cons v vs => rw [List.replicate_succ, dot, ih]; simp
theorem dot_unit (n i : Nat) (vs : List Int) (hi : i < n) (hv : vs.length = n) : dot ((List.replicate n 0).set i 1) vs = rd vs (i : Int) := by
  induction n generalizing vs i with
  | zero => omega
  | succ n ih => cases vs with
    | nil => simp at hv
    | cons v vs =>
      cases i with
      | zero => rw [List.replicate_succ, List.set_cons_zero, dot, dot_zero]; simp [rd]
      | succ i =>
        rw [List.replicate_succ, List.set_cons_succ, dot, ih i vs (by omega) (by simpa using hv)]
        simp [rd]

/-- ConstLin. -/
def constLin (k n : Int) : Int × List Int := if (0 ≤ n ∧ n ≤ 8) ∧ okc k = true then (k, List.replicate n.toNat 0) else (0, [])

theorem spec_l1In_eq (a b c : Int) : spec_l1In.f a b c = some (decide (b ≤ a ∧ a ≤ c)) := by
  unfold spec_l1In.f
  by_cases h : a ≥ b
  · rw [if_pos h]; congr 1; rw [decide_eq_decide]; omega
  · rw [if_neg h]; congr 1; symm; rw [decide_eq_false_iff_not]; omega

theorem spec_l3In_eq (n : Int) : spec_l3In.f n = some (okc n) := by unfold spec_l3In.f; rw [spec_l1In_eq]; rfl

theorem spec_ConstLin_eq (k n : Int) : spec_ConstLin.f k n = some (constLin k n) := by
  unfold spec_ConstLin.f constLin
  rw [spec_l1In_eq, spec_l3In_eq]; simp only [Option.bind_some, decide_eq_true_eq]
  by_cases h : 0 ≤ n ∧ n ≤ 8
  · have h3 : n.toNat ≤ 35184372088832 := by omega
    rw [if_pos h, if_pos h.1, if_pos h3]; cases h2 : okc k
    · rw [if_neg (by simp), if_neg (by simp)]
    · rw [if_pos rfl, if_pos ⟨h, rfl⟩]
  · rw [if_neg h, if_neg (fun e => h e.1)]

theorem impl_within_eq (a b c : Int) : impl_within.f a b c = some (decide (b ≤ a ∧ a ≤ c)) := by
  unfold impl_within.f
  by_cases h : a ≥ b
  · rw [if_pos h]; congr 1; rw [decide_eq_decide]; omega
  · rw [if_neg h]; congr 1; symm; rw [decide_eq_false_iff_not]; omega

theorem impl_coeffOk_eq (n : Int) : impl_coeffOk.f n = some (okc n) := by unfold impl_coeffOk.f; rw [impl_within_eq]; rfl

theorem impl_ConstLin_eq (k n : Int) : impl_ConstLin.f k n = some (constLin k n) := by
  unfold impl_ConstLin.f constLin
  rw [impl_within_eq, impl_coeffOk_eq]; simp only [Option.bind_some, decide_eq_true_eq]
  by_cases h : 0 ≤ n ∧ n ≤ 8
  · have h3 : n.toNat ≤ 35184372088832 := by omega
    rw [if_pos h, if_pos h.1, if_pos h3]; cases h2 : okc k
    · rw [if_neg (by simp), if_neg (by simp)]
    · rw [if_pos rfl, if_pos ⟨h, rfl⟩]
  · rw [if_neg h, if_neg (fun e => h e.1)]

theorem spec_VarLin_eq (i n : Int) (hn : -9223372036854775808 ≤ n ∧ n ≤ 9223372036854775807) : spec_VarLin.f i n = some (varLin i n) := by
  unfold spec_VarLin.f varLin
  rw [spec_l1In_eq, spec_l1In_eq]; simp only [Option.bind_some, decide_eq_true_eq]
  by_cases h : 0 ≤ n ∧ n ≤ 8
  · rw [if_pos h, wrap_id (by omega) (by omega)]
    by_cases h2 : 0 ≤ i ∧ i ≤ n - 1
    · have h3 : n.toNat ≤ 35184372088832 := by omega
      rw [if_pos h2, if_pos h.1, if_pos h3, if_pos h2.1, if_pos (by rw [List.length_replicate]; omega), if_pos ⟨h, h2⟩]
    · rw [if_neg h2, if_neg (fun e => h2 e.2)]
  · rw [if_neg h, if_neg (fun e => h e.1)]

theorem impl_VarLin_eq (i n : Int) (hn : -9223372036854775808 ≤ n ∧ n ≤ 9223372036854775807) : impl_VarLin.f i n = some (varLin i n) := by
  unfold impl_VarLin.f varLin
  rw [impl_within_eq, impl_within_eq, impl_ConstLin_eq]; simp only [Option.bind_some, decide_eq_true_eq]
  by_cases h : 0 ≤ n ∧ n ≤ 8
  · rw [if_pos h, wrap_id (by omega) (by omega)]
    have hc : constLin 0 n = (0, List.replicate n.toNat 0) := by unfold constLin; rw [if_pos ⟨h, by rw [okc_iff]; omega⟩]
    by_cases h2 : 0 ≤ i ∧ i ≤ n - 1
    · rw [if_pos h2, hc, if_pos h2.1, if_pos (by rw [List.length_replicate]; omega), if_pos ⟨h, h2⟩]
    · rw [if_neg h2, if_neg (fun e => h2 e.2)]
  · rw [if_neg h, if_neg (fun e => h e.1)]

theorem spec_l1Ints_l0 (a b : List Int) (hab : a.length = b.length) (hn : a.length ≤ 4611686018427387904) : ∀ (d j k : Nat), j + d = a.length → d < k →
    spec_l1Ints.l0 k a b (j : Int) = some (decide (a.drop j = b.drop j)) := by
  intro d
  induction d with
  | zero =>
    intro j k hj hk
    obtain ⟨k, rfl⟩ := succ_of hk
    simp only [spec_l1Ints.l0]
    rw [if_neg (by omega), List.drop_eq_nil_of_le (by omega), List.drop_eq_nil_of_le (by omega)]; simp
  | succ d ih =>
    intro j k hj hk
    obtain ⟨k, rfl⟩ := succ_of hk
    have hlt : j < a.length := by omega
    simp only [spec_l1Ints.l0]
    rw [if_pos (by omega), if_pos (by omega), if_pos (by omega), rd_nat _ _ hlt, rd_nat _ _ (by omega), wrap_succ hlt hn, ih (j + 1) k (by omega) (by omega), List.drop_eq_getElem_cons hlt, List.drop_eq_getElem_cons (hab ▸ hlt : j < b.length)]
    simp only [List.cons.injEq]
    by_cases h : a[j] = b[j]
    · rw [if_pos h]; simp only [h, true_and]
    · rw [if_neg h]; simp only [h, false_and, decide_false]
theorem spec_l1Ints_eq (a b : List Int) (hn : a.length ≤ 4611686018427387904) (k : Nat) (hk : a.length < k) : spec_l1Ints.f k a b = some (decide (a = b)) := by
  unfold spec_l1Ints.f
  by_cases h : a.length = b.length
  · rw [if_pos (by omega)]
    have := spec_l1Ints_l0 a b h hn a.length 0 k (by omega) hk
    simpa using this
  · rw [if_neg (by omega)]; congr 1; symm; rw [decide_eq_false_iff_not]; intro e; exact h (by rw [e])

theorem spec_EqualLin_eq (c : Int) (a : List Int) (c' : Int) (b : List Int) (hn : a.length ≤ 4611686018427387904) (k : Nat) (hk : a.length < k) : spec_EqualLin.f k c a c' b = some (decide (c = c' ∧ a = b)) := by
  unfold spec_EqualLin.f
  rw [spec_l1Ints_eq a b hn k hk]
  by_cases h : c = c' <;> by_cases h2 : a = b <;> simp [h, h2]

theorem spec_IsValidLin_l0 (c : Int) (cs : List Int) (n : Int) (hn : cs.length ≤ 4611686018427387904) : ∀ (d j k : Nat), j + d = cs.length → d < k →
    spec_IsValidLin.l0 k n (j : Int) c cs = some ((cs.drop j).all okc && (decide (0 ≤ n ∧ n ≤ 8) && (decide ((cs.length : Int) = n) && okc c))) := by
  intro d
  induction d with
  | zero =>
    intro j k hj hk
    obtain ⟨k, rfl⟩ := succ_of hk
    simp only [spec_IsValidLin.l0]
    rw [if_neg (by omega), List.drop_eq_nil_of_le (by omega), spec_l1In_eq, spec_l3In_eq]
    simp only [Option.bind_some, List.all_nil, Bool.true_and]
    by_cases h1 : 0 ≤ n ∧ n ≤ 8 <;> by_cases h2 : (cs.length : Int) = n <;> simp [h1, h2]
  | succ d ih =>
    intro j k hj hk
    obtain ⟨k, rfl⟩ := succ_of hk
    have hlt : j < cs.length := by omega
    simp only [spec_IsValidLin.l0]
    rw [if_pos (by omega), if_pos (by omega), rd_nat _ _ hlt, spec_l3In_eq, Option.bind_some, wrap_succ hlt hn, ih (j + 1) k (by omega) (by omega), List.drop_eq_getElem_cons hlt, List.all_cons]
    cases okc cs[j] <;> simp
theorem spec_IsValidLin_eq (c : Int) (cs : List Int) (n : Int) (hn : cs.length ≤ 4611686018427387904) (k : Nat) (hk : cs.length < k) : spec_IsValidLin.f k c cs n = some (validLin c cs n) := by
  unfold spec_IsValidLin.f validLin
  have := spec_IsValidLin_l0 c cs n hn cs.length 0 k (by omega) hk
  rw [show ((0 : Nat) : Int) = 0 from rfl, List.drop_zero] at this
  rw [this]
  cases cs.all okc <;> simp

theorem spec_Fits_eq (n : Int) : spec_Fits.f n = some (fitsB n) := by unfold spec_Fits.f; rw [spec_l1In_eq]; rfl

theorem spec_EvalLin_l0 (c0 : Int) (cs vs : List Int) (hl : cs.length = vs.length) (h8 : vs.length ≤ 8) (hc : ∀ x ∈ cs, okc x = true) : ∀ (d j k : Nat) (s : Int), j + d = vs.length → d < k → -(1000000000 + 1000000000000000 * (j : Int)) ≤ s → s ≤ 1000000000 + 1000000000000000 * (j : Int) →
    spec_EvalLin.l0 k vs s (j : Int) c0 cs = some (if (vs.drop j).all fitsB = true then (s + dot (cs.drop j) (vs.drop j), true) else (0, false)) := by
  intro d
  induction d with
  | zero =>
    intro j k s hj hk h0 h1
    obtain ⟨k, rfl⟩ := succ_of hk
    simp only [spec_EvalLin.l0]
    rw [if_neg (by omega), List.drop_eq_nil_of_le (by omega : vs.length ≤ j)]; simp [dot]
  | succ d ih =>
    intro j k s hj hk h0 h1
    obtain ⟨k, rfl⟩ := succ_of hk
    have hlt : j < vs.length := by omega
    have hlc : j < cs.length := by omega
    simp only [spec_EvalLin.l0]
    rw [if_pos (by omega), if_pos (by omega), rd_nat _ _ hlt, rd_nat _ _ hlc, spec_Fits_eq, Option.bind_some, drop_cons vs j hlt, drop_cons cs j hlc, List.all_cons]
    cases h : fitsB vs[j] with
    | false => simp
    | true =>
      have hb := mul_okc_fits ((okc_iff _).1 (hc _ (List.getElem_mem hlc))) ((fitsB_iff _).1 h)
      rw [if_pos rfl, if_pos (by omega), wrap_id (n := cs[j] * vs[j]) (by omega) (by omega), wrap_id (by omega) (by omega), wrap_succ hlt (by omega), ih (j + 1) k _ (by omega) (by omega) (by omega) (by omega), Bool.true_and]
      simp only [dot]
      rw [Int.add_assoc]
theorem spec_EvalLin_eq (c : Int) (cs vs : List Int) (hn : cs.length ≤ 4611686018427387904) (k : Nat) (hk : cs.length + 10 < k) : spec_EvalLin.f k c cs vs = some (evalLin c cs vs) := by
  unfold spec_EvalLin.f evalLin
  rw [spec_IsValidLin_eq c cs _ hn k (by omega), Option.bind_some]
  cases h : validLin c cs (vs.length : Int) with
  | false => simp
  | true =>
    obtain ⟨h1, h2, h3, h4⟩ := (validLin_iff _ _ _).1 h
    have h3 := (okc_iff _).1 h3
    have := spec_EvalLin_l0 c cs vs (by omega) (by omega) h4 vs.length 0 k c (by omega) (by omega) (by omega) (by omega)
    rw [show ((0 : Nat) : Int) = 0 from rfl, List.drop_zero, List.drop_zero] at this
    rw [if_pos rfl, this]; simp

/-- The place of the first that p takes, counted from i on; -1 where there is none. -/
def firstBy {α : Type} (p : α → Bool) : List α → Int → Int
  | [], _ => -1
  | x :: xs, i => if p x = true then i else firstBy p xs (i + 1)
theorem firstBy_any {α : Type} (p : α → Bool) : ∀ (xs : List α) (i : Int), 0 ≤ i → decide (firstBy p xs i ≥ 0) = xs.any p := by
  intro xs
  induction xs with
  | nil => intro i _; simp [firstBy]
  | cons x xs ih =>
    intro i hi
    simp only [firstBy, List.any_cons]
    by_cases h : p x = true
    · simp [h]; omega
    · have := ih (i + 1) (by omega)
      simp only [Bool.eq_false_iff.mpr h, Bool.false_eq_true, if_false, Bool.false_or]; exact this

theorem slices_IndexFunc_int_int__IsValidLin_1_l0 (p : Int → Bool) (hp : ∀ c, impl_IsValidLin_1.f c = some (p c)) (xs : List Int) (hn : xs.length ≤ 4611686018427387904) : ∀ (d j k : Nat), j + d = xs.length → d < k →
    slices_IndexFunc_int_int__IsValidLin_1.l0 k xs (xs.length : Int) (j : Int) = some (firstBy p (xs.drop j) (j : Int)) := by
  intro d
  induction d with
  | zero =>
    intro j k hj hk
    obtain ⟨k, rfl⟩ := succ_of hk
    simp only [slices_IndexFunc_int_int__IsValidLin_1.l0]
    rw [if_neg (by omega), List.drop_eq_nil_of_le (by omega)]; rfl
  | succ d ih =>
    intro j k hj hk
    obtain ⟨k, rfl⟩ := succ_of hk
    have hlt : j < xs.length := by omega
    simp only [slices_IndexFunc_int_int__IsValidLin_1.l0]
    rw [if_pos (by omega), if_pos (by omega), if_pos (by omega), rd_nat _ _ hlt, hp, Option.bind_some, wrap_succ hlt hn, ih (j + 1) k (by omega) (by omega), List.drop_eq_getElem_cons hlt]
    simp only [firstBy]
    split <;> rfl
theorem slices_ContainsFunc_int_int__IsValidLin_1_eq (p : Int → Bool) (hp : ∀ c, impl_IsValidLin_1.f c = some (p c)) (xs : List Int) (hn : xs.length ≤ 4611686018427387904) (k : Nat) (hk : xs.length < k) :
    slices_ContainsFunc_int_int__IsValidLin_1.f k xs () = some (xs.any p) := by
  unfold slices_ContainsFunc_int_int__IsValidLin_1.f slices_IndexFunc_int_int__IsValidLin_1.f
  have := slices_IndexFunc_int_int__IsValidLin_1_l0 p hp xs hn xs.length 0 k (by omega) hk
  rw [show ((0 : Nat) : Int) = 0 from rfl, List.drop_zero] at this
  rw [this, Option.bind_some, firstBy_any p xs 0 (by omega)]
theorem impl_IsValidLin_eq (c : Int) (cs : List Int) (n : Int) (hn : cs.length ≤ 4611686018427387904) (k : Nat) (hk : cs.length < k) : impl_IsValidLin.f k c cs n = some (validLin c cs n) := by
  unfold impl_IsValidLin.f validLin
  rw [impl_within_eq, impl_coeffOk_eq, slices_ContainsFunc_int_int__IsValidLin_1_eq (fun c => !(okc c)) (fun c => by unfold impl_IsValidLin_1.f; rw [impl_coeffOk_eq]; rfl) cs hn k hk]
  simp only [Option.bind_some, any_not_all]
  by_cases h1 : 0 ≤ n ∧ n ≤ 8 <;> by_cases h2 : (cs.length : Int) = n <;> cases h3 : okc c <;> simp [h1, h2]

theorem impl_Fits_eq (n : Int) : impl_Fits.f n = some (fitsB n) := by unfold impl_Fits.f; rw [impl_within_eq]; rfl

theorem slices_IndexFunc_int_int__EvalLin_1_l0 (p : Int → Bool) (hp : ∀ c, impl_EvalLin_1.f c = some (p c)) (xs : List Int) (hn : xs.length ≤ 4611686018427387904) : ∀ (d j k : Nat), j + d = xs.length → d < k →
    slices_IndexFunc_int_int__EvalLin_1.l0 k xs (xs.length : Int) (j : Int) = some (firstBy p (xs.drop j) (j : Int)) := by
  intro d
  induction d with
  | zero =>
    intro j k hj hk
    obtain ⟨k, rfl⟩ := succ_of hk
    simp only [slices_IndexFunc_int_int__EvalLin_1.l0]
    rw [if_neg (by omega), List.drop_eq_nil_of_le (by omega)]; rfl
  | succ d ih =>
    intro j k hj hk
    obtain ⟨k, rfl⟩ := succ_of hk
    have hlt : j < xs.length := by omega
    simp only [slices_IndexFunc_int_int__EvalLin_1.l0]
    rw [if_pos (by omega), if_pos (by omega), if_pos (by omega), rd_nat _ _ hlt, hp, Option.bind_some, wrap_succ hlt hn, ih (j + 1) k (by omega) (by omega), List.drop_eq_getElem_cons hlt]
    simp only [firstBy]
    split <;> rfl
theorem slices_ContainsFunc_int_int__EvalLin_1_eq (p : Int → Bool) (hp : ∀ c, impl_EvalLin_1.f c = some (p c)) (xs : List Int) (hn : xs.length ≤ 4611686018427387904) (k : Nat) (hk : xs.length < k) :
    slices_ContainsFunc_int_int__EvalLin_1.f k xs () = some (xs.any p) := by
  unfold slices_ContainsFunc_int_int__EvalLin_1.f slices_IndexFunc_int_int__EvalLin_1.f
  have := slices_IndexFunc_int_int__EvalLin_1_l0 p hp xs hn xs.length 0 k (by omega) hk
  rw [show ((0 : Nat) : Int) = 0 from rfl, List.drop_zero] at this
  rw [this, Option.bind_some, firstBy_any p xs 0 (by omega)]
theorem impl_EvalLin_l0 (c0 : Int) (cs vs : List Int) (hl : cs.length = vs.length) (h8 : vs.length ≤ 8) (hc : ∀ x ∈ cs, okc x = true) (hf : ∀ v ∈ vs, fitsB v = true) : ∀ (d j k : Nat) (s : Int), j + d = vs.length → d < k → -(1000000000 + 1000000000000000 * (j : Int)) ≤ s → s ≤ 1000000000 + 1000000000000000 * (j : Int) →
    impl_EvalLin.l0 k s vs (vs.length : Int) (j : Int) c0 cs = some (s + dot (cs.drop j) (vs.drop j), true) := by
  intro d
  induction d with
  | zero =>
    intro j k s hj hk h0 h1
    obtain ⟨k, rfl⟩ := succ_of hk
    simp only [impl_EvalLin.l0]
    rw [if_neg (by omega), List.drop_eq_nil_of_le (by omega : vs.length ≤ j)]; simp [dot]
  | succ d ih =>
    intro j k s hj hk h0 h1
    obtain ⟨k, rfl⟩ := succ_of hk
    have hlt : j < vs.length := by omega
    have hlc : j < cs.length := by omega
    simp only [impl_EvalLin.l0]
    have hb := mul_okc_fits ((okc_iff _).1 (hc _ (List.getElem_mem hlc))) ((fitsB_iff _).1 (hf _ (List.getElem_mem hlt)))
    rw [if_pos (by omega), if_pos (by omega), if_pos (by omega), if_pos (by omega), rd_nat _ _ hlt, rd_nat _ _ hlc, drop_cons vs j hlt, drop_cons cs j hlc, wrap_id (n := cs[j] * vs[j]) (by omega) (by omega), wrap_id (by omega) (by omega), wrap_succ hlt (by omega), ih (j + 1) k _ (by omega) (by omega) (by omega) (by omega)]
    simp only [dot]
    rw [Int.add_assoc]
theorem impl_EvalLin_eq (c : Int) (cs vs : List Int) (hn : cs.length ≤ 4611686018427387904) (hv : vs.length ≤ 4611686018427387904) (k : Nat) (hk : cs.length + vs.length + 10 < k) : impl_EvalLin.f k c cs vs = some (evalLin c cs vs) := by
  unfold impl_EvalLin.f evalLin
  rw [impl_IsValidLin_eq c cs _ hn k (by omega), Option.bind_some, slices_ContainsFunc_int_int__EvalLin_1_eq (fun c => !(fitsB c)) (fun c => by unfold impl_EvalLin_1.f; rw [impl_Fits_eq]; rfl) vs hv k (by omega), Option.bind_some]
  obtain ⟨k, rfl⟩ := succ_of hk
  simp only [impl_EvalLin.j0]
  cases h : validLin c cs (vs.length : Int) with
  | false => simp
  | true =>
    obtain ⟨h1, h2, h3, h4⟩ := (validLin_iff _ _ _).1 h
    have h3 := (okc_iff _).1 h3
    rw [if_pos rfl]
    have ha := any_not_all fitsB vs
    cases hf : vs.all fitsB with
    | false =>
      rw [hf] at ha
      rw [if_pos (by simpa using ha), if_neg (by simp)]
    | true =>
      rw [hf] at ha
      have := impl_EvalLin_l0 c cs vs (by omega) (by omega) h4 (by simpa using hf) vs.length 0 k c (by omega) (by omega) (by omega) (by omega)
      rw [show ((0 : Nat) : Int) = 0 from rfl, List.drop_zero, List.drop_zero] at this
      rw [if_neg (by simpa using ha), if_pos ⟨rfl, rfl⟩, this]

theorem simple_l0 (b : List Int) (hb : b.length ≤ 1048576) (hx : ∀ x ∈ b, 0 ≤ x ∧ x ≤ 255) (i n : Int) (c : Int) (cs : List Int) (hv : (c, cs) = varLin i n) : ∀ (d j k : Nat) (vs : List Int), j + d = cs.length → d + b.length + 1000 < k → vs.length = j → (∀ x ∈ vs, 0 ≤ x ∧ x ≤ 8) →
    laws_FnSimpleLins.l0 k b i vs (j : Int) c cs = some true := by
  have h8 : cs.length ≤ 8 := by
    have : cs = (varLin i n).2 := by rw [← hv]
    rw [this]; unfold varLin; split
    · simp; omega
    · simp
  intro d
  induction d with
  | zero =>
    intro j k vs hj hk hvs hs
    obtain ⟨k, rfl⟩ := succ_of hk
    simp only [laws_FnSimpleLins.l0]
    obtain ⟨c2, cs2, vs2, e2, l2, m2⟩ := spec_DrawEvalLin_ex b (by omega) k (by omega) (by omega)
    rw [if_neg (by omega), impl_EvalLin_eq _ _ _ (by omega) (by omega) k (by omega), Option.bind_some, e2, Option.bind_some]
    simp only
    rw [impl_EvalLin_eq _ _ _ (by omega) (by omega) k (by omega), spec_EvalLin_eq _ _ _ (by omega) k (by omega)]
    simp only [Option.bind_some, beq_self_eq_true, if_true]
    by_cases h0 : (vs.length : Int) = 0
    · rw [if_pos h0]
    · rw [if_neg h0]
      unfold varLin at hv
      split at hv
      · rename_i hc
        simp only [Prod.mk.injEq] at hv
        obtain ⟨rfl, rfl⟩ := hv
        simp only [List.length_set, List.length_replicate] at hj h8
        have hd := dot_unit n.toNat i.toNat vs (by omega) (by omega)
        rw [Int.toNat_of_nonneg hc.2.1] at hd
        have he : evalLin 0 ((List.replicate n.toNat 0).set i.toNat 1) vs = (rd vs i, true) := by
          unfold evalLin
          rw [if_pos, hd, Int.zero_add]
          refine ⟨(validLin_iff _ _ _).2 ⟨by omega, by simp; omega, rfl, ?_⟩, ?_⟩
          · intro x hx
            rcases List.mem_or_eq_of_mem_set hx with h | rfl
            · rw [(List.mem_replicate.1 h).2]; rfl
            · rfl
          · rw [List.all_eq_true]; intro x hx; rw [fitsB_iff]; have := hs x hx; omega
        rw [he]
        simp only [if_true]
        rw [if_pos hc.2.1, if_pos (by omega)]
      · simp only [Prod.mk.injEq] at hv
        obtain ⟨rfl, rfl⟩ := hv
        simp at hj; omega
  | succ d ih =>
    intro j k vs hj hk hvs hs
    obtain ⟨k, rfl⟩ := succ_of hk
    simp only [laws_FnSimpleLins.l0]
    obtain ⟨r, er, r0, r1⟩ := laws_at0_ex b j (by omega) hx (by omega)
    rw [if_pos (by omega), er, Option.bind_some, if_pos (by omega), wrap_succ (n := cs.length) (by omega) (by omega)]
    have hm := mod_bound r 9 r0 (by omega)
    refine ih (j + 1) k _ (by omega) (by omega) (by simp; omega) ?_
    intro x hx
    rcases List.mem_append.1 hx with h | h
    · exact hs x h
    · rw [List.mem_singleton.1 h]; omega
theorem FnSimpleLins : laws_FnSimpleLins.Pure := by
  intro b hb hb2 hu
  have hx : ∀ x ∈ b, 0 ≤ x ∧ x ≤ 255 := fun x h => lit_u8 (hu x h)
  refine ⟨b.length + 2000, ?_⟩
  unfold laws_FnSimpleLins.f laws_big.f
  rw [Option.bind_some]
  split
  · rfl
  rename_i hbig
  simp only [decide_eq_true_eq] at hbig
  obtain ⟨x, n, e1⟩ := spec_DrawConstLin_ex b (by omega) (b.length + 2000) (by omega)
  obtain ⟨j, m, e2, hj, hm⟩ := spec_DrawVarLin_ex b (by omega) (b.length + 2000) (by omega)
  have hl1 : (constLin x n).2.length ≤ 8 := by
    unfold constLin; split
    · simp; omega
    · simp
  have hl2 : (varLin j m).2.length ≤ 8 := by
    unfold varLin; split
    · simp; omega
    · simp
  rw [e1]; simp only [Option.bind_some]
  rw [e2]; simp only [Option.bind_some]
  rw [impl_ConstLin_eq, impl_VarLin_eq j m (by omega), spec_ConstLin_eq, spec_VarLin_eq j m (by omega)]; simp only [Option.bind_some]
  rw [spec_EqualLin_eq _ _ _ _ (by omega) _ (by omega)]; simp only [Option.bind_some, and_self, decide_true, if_true]
  rw [spec_EqualLin_eq _ _ _ _ (by omega) _ (by omega)]; simp only [Option.bind_some, and_self, decide_true, Bool.not_true]
  rw [show b.length + 2000 = (b.length + 1999) + 1 by omega]
  simp only [laws_FnSimpleLins.j0]
  rw [if_neg (by simp)]
  exact simple_l0 b (by omega) hx j m (varLin j m).1 (varLin j m).2 rfl (varLin j m).2.length 0 (b.length + 1999) [] (by omega) (by omega) rfl (by simp)

end Go.Proofs.Ytkfllkmhbkmepaa.Pure
